/- The statements' walks, and what they stand on, joined into few texts: the last of AuditDesk. Conditions stand in each statement. -/
import Derived.Test.YteocfhdocpeokaaGreatBndG7
set_option maxHeartbeats 16000000
set_option linter.all false
namespace Go.Proofs.YteocfhdocpeokaaGreat
open Go Go.Sl
/-! ### sums -/
theorem zka {n:Int}(h: -9223372036854775808≤n∧n≤9223372036854775807):inI n=true:=by
 unfold inI inB
 simp only[Bool.and_eq_true,decide_eq_true_eq]
 exact h
def zd6 (l:List zaL):Int:=l.foldl (fun(h:Int) t=>((zcf h.toNat (zbR t):Nat):Int)) 0
theorem zip (t:zaL):∀(l:List zaL) (p:Ps),zc2 (l++[t]) p=(zc2 l p).bind fun w=>if putE w t=0 then some (putP w t)else none
 |[],p=>by
  show zc2 [t] p=_
  unfold zc2
  rfl
 |u::l,p=>by
  rw[List.cons_append]
  unfold zc2
  split
  ·exact zip t l _
  ·rfl
def zoH (np nb:Nat)(t:zaL):Prop:=(0≤t.buyer∧t.buyer<np)∧(0≤t.seller∧t.seller<np)∧t.buyer≠t.seller∧(0≤t.bond∧t.bond<nb)∧(1≤t.price∧t.price≤1000000)∧(1≤t.qty∧t.qty≤1000000)
def Bd (k m n:Int):Prop:= -(k*m)≤n∧n≤k*m
structure SumI (np nb:Nat)(s:Dk):Prop where
 ps:PsOK np nb ⟨s.cash,s.pos⟩
 hd:s.head=zd6 s.trades
 pa:zc2 s.trades (zeL np nb)=some ⟨s.cash,s.pos⟩
 bc:∀n∈s.cash,Bd s.trades.length 1000000000000 n
 bp:∀r∈s.pos,∀n∈r,Bd s.trades.length 1000000 n
 tw:∀t∈s.trades,zeK t
theorem SumI.same {np nb:Nat}{s t:Dk}(h:SumI np nb s)(e1:t.cash=s.cash)(e2:t.pos=s.pos)(e3:t.trades=s.trades)(e4:t.head=s.head):SumI np nb t:=by
 obtain⟨a,b,c,d,e,f⟩:=h
 exact⟨by rw[e1,e2];exact a,by rw[e3,e4];exact b,by rw[e1,e2,e3];exact c,by rw[e1,e3];exact d,by rw[e2,e3];exact e,by rw[e3];exact f⟩
theorem zq5 {p:Ps}{k m:Int}(h:∀n∈p.cash,Bd k m n)(h0:Bd k m 0)(who:Int):Bd k m (zb1 p who):=by
 unfold zb1
 rcases hx:at0 p.cash who with _|n
 ·exact h0
 ·exact h n (at0M hx)
theorem zrJ {p:Ps}{k m:Int}(h:∀r∈p.pos,∀n∈r,Bd k m n)(h0:Bd k m 0)(who bond:Int):Bd k m (zcv p who bond):=by
 unfold zcv
 rcases hx:at0 p.pos who with _|r
 ·exact h0
 ·rcases hy:at0 r bond with _|n
  ·simp only[Option.bind_some,hy];exact h0
  ·simp only[Option.bind_some,hy];exact h r (at0M hx) n (at0M hy)
theorem zkb {l:List (List Int)}{k m who bond n:Int}(h:∀r∈l,∀n∈r,Bd k m n)(hn:Bd k m n):∀r∈setRow l who bond n,∀n∈r,Bd k m n:=by
 intro r hr
 unfold setRow at hr
 rcases zgb hr with rfl|hr
 ·intro x hx
  rcases zgb hx with rfl|hx
  ·exact hn
  ·rcases hq:at0 l who with _|q
   ·rw[hq]at hx;cases hx
   ·rw[hq]at hx;exact h q (at0M hq) x hx
 ·exact h r hr
theorem SumI.trade {np nb:Nat}{s:Dk}{t:zaL}(h:SumI np nb s)(hk:s.trades.length≤1000000)(ht:zoH np nb t)(hw:zeK t):SumI np nb (zcY s t):=by
 obtain⟨b1,b2,hne,b3,⟨p1,p2⟩,q1,q2⟩:=ht
 have hm:1≤t.price*t.qty∧t.price*t.qty≤1000000000000:=by
  have h1:1*1≤t.price*t.qty:=Int.mul_le_mul p1 q1 (by omega) (by omega)
  have h2:t.price*t.qty≤1000000*1000000:=Int.mul_le_mul p2 q2 (by omega) (by omega)
  omega
 have hc:=zq5 (p:=⟨s.cash,s.pos⟩) h.bc (by unfold Bd;omega)
 have hp:=zrJ (p:=⟨s.cash,s.pos⟩) h.bp (by unfold Bd;omega)
 have c1:=hc t.buyer
 have c2:=hc t.seller
 have r1:=hp t.buyer t.bond
 have r2:=hp t.seller t.bond
 unfold Bd at c1 c2 r1 r2
 have hE:putE ⟨s.cash,s.pos⟩ t=0:=by
  unfold putE
  rw[(zco h.ps).2 ⟨b1,b3⟩,(zco h.ps).2 ⟨b2,b3⟩,if_neg (by simp;omega)]
  rw[zka (by omega),zka (by omega),zka (by omega),zka (by omega),zka (by omega)]
  rfl
 have hP:putP ⟨s.cash,s.pos⟩ t=⟨(s.cash.set t.buyer.toNat (zb1 ⟨s.cash,s.pos⟩ t.buyer - t.price*t.qty)).set t.seller.toNat (zb1 ⟨s.cash,s.pos⟩ t.seller+t.price*t.qty),
  setRow (setRow s.pos t.buyer t.bond (zcv ⟨s.cash,s.pos⟩ t.buyer t.bond+t.qty)) t.seller t.bond (zcv ⟨s.cash,s.pos⟩ t.seller t.bond - t.qty)⟩:=by
  unfold putP
  rw[if_pos hE]
 have hl:((s.trades++[t]).length:Int)=s.trades.length+1:=by simp
 have up:∀m n:Int,0≤m→Bd s.trades.length m n→Bd ((s.trades.length:Int)+1) m n:=fun m n hm0 hb=>by
  unfold Bd at*
  rw[Int.add_mul,Int.one_mul]
  omega
 refine⟨zgq h.ps t,?_,?_,?_,?_,fun u hu=> ?_⟩
 ·show((zcf s.head.toNat (zbR t):Nat):Int)=zd6 (s.trades++[t])
  unfold zd6
  rw[List.foldl_append,h.hd]
  rfl
 ·show zc2 (s.trades++[t]) (zeL np nb)=some ⟨(putP ⟨s.cash,s.pos⟩ t).cash,(putP ⟨s.cash,s.pos⟩ t).pos⟩
  rw[zip,h.pa,Option.bind_some,if_pos hE]
 ·show ∀n∈(putP ⟨s.cash,s.pos⟩ t).cash,Bd ((s.trades++[t]).length:Int) 1000000000000 n
  rw[hP,hl]
  intro n hn
  rcases zgb hn with rfl|hn
  ·unfold Bd;rw[Int.add_mul];omega
  ·rcases zgb hn with rfl|hn
   ·unfold Bd;rw[Int.add_mul];omega
   ·exact up _ _ (by omega) (h.bc n hn)
 ·show ∀r∈(putP ⟨s.cash,s.pos⟩ t).pos,∀n∈r,Bd ((s.trades++[t]).length:Int) 1000000 n
  rw[hP,hl]
  refine zkb (zkb (fun r hr n hn=>up _ _ (by omega) (h.bp r hr n hn)) ?_) ?_
  ·unfold Bd;rw[Int.add_mul];omega
  ·unfold Bd;rw[Int.add_mul];omega
 ·rcases lma.1 hu with hu|hu
  ·exact h.tw u hu
  ·rw[lms.1 hu];exact hw
theorem SumI.fills {np nb:Nat}{who:Int}{o:zap}{n:Nat}:∀(fs:List zbM) {s:FSt},SumI np nb s.d→s.d.trades.length+fs.length≤900000→inW s.d.now→np≤8→nb≤4→
 (∀f∈fs,(0≤f.mparty∧f.mparty<np)∧f.mparty≠who∧(1≤f.price∧f.price≤1000000)∧(1≤f.qty∧f.qty≤1000000))→(0≤who∧who<np)→n<nb→SumI np nb (fs.foldl (zbN who o n) s).d
 |[],s,h,_,_,_,_,_,_,_=>h
 |f::fs,s,h,hl,hnw,h8,h4,hf,hw,hn=>by
  rw[List.foldl_cons]
  obtain⟨f1,f2,f3,f4⟩:=hf f mcs
  rw[List.length_cons]at hl
  have h1:SumI np nb (zbN who o n s f).d:=by
   refine h.trade (by omega) ?_ (zfE (by omega) (by unfold inW;omega) (by unfold inW;omega) (by unfold inW;omega) (by unfold inW;omega) (by unfold inW;omega) (by unfold inW;omega) hnw)
   unfold zbr zoH
   split
   ·exact⟨f1,hw,f2,⟨by dsimp only;omega,by dsimp only;omega⟩,f3,f4⟩
   ·exact⟨hw,f1,fun e=>f2 e.symm,⟨by dsimp only;omega,by dsimp only;omega⟩,f3,f4⟩
  refine SumI.fills fs h1 ?_ hnw h8 h4 (fun g hg=>hf g (mcm _ hg)) hw hn
  show(s.d.trades++[_]).length+fs.length≤900000
  rw[lla,List.length_singleton];omega
theorem SumI.new {bs:List zaP}{ps:List zaG}{look beat:Int}:SumI ps.length bs.length (zcV bs ps look beat):=by
 refine⟨?_,rfl,?_,fun n hn=> ?_,fun r hr n hn=> ?_,fun t ht=>(by cases ht)⟩
 ·exact zfw _ _
 ·rfl
 ·rw[(List.mem_replicate.1 hn).2];unfold Bd;simp[zcV]
 ·rw[(List.mem_replicate.1 hr).2]at hn
  rw[(List.mem_replicate.1 hn).2];unfold Bd;simp[zcV]
/-! ### books and sums, whatever is asked -/
structure BkI (s:Dk):Prop where
 un:∀l∈s.books,uncr l
 ow:∀l∈s.books,∀o∈l,o.owner<s.parties.length
 cl:∀a∈s.asks,zcs s.parties a.client=1
 sm:SumI s.parties.length s.bonds.length s
theorem zhr {l m:List zap}(h:uncr l)(hm:∀y∈m,∃x∈l,y.side=x.side∧y.price=x.price):uncr m:=fun a ha b hb ea eb=>by
 obtain⟨x,hx,e1,e2⟩:=hm a ha
 obtain⟨y,hy,e3,e4⟩:=hm b hb
 rw[e2,e4]
 exact h x hx y hy (by rw[←e1];exact ea) (by rw[←e3];exact eb)
theorem zq6 {how:Int}{o:zap}{l:List zap}(hB:za6 l)(hu:uncr l):uncr (doV how o l).bk:=by
 by_cases h0:zbC how o l=0
 ·exact(zov hB hu h0).1
 ·rw[zgW h0];exact hu
theorem BkI.same {s t:Dk}(h:BkI s)(e1:t.books=s.books)(e2:t.parties=s.parties)(e3:t.bonds.length=s.bonds.length)(e4:t.cash=s.cash)(e5:t.pos=s.pos)(e6:t.trades=s.trades)(e7:t.head=s.head)
 (ha:∀y∈t.asks,∃u∈s.asks,y.client=u.client):BkI t:=by
 refine⟨by rw[e1];exact h.un,by rw[e1,e2];exact h.ow,fun y hy=> ?_,?_⟩
 ·obtain⟨u,hu,e⟩:=ha y hy
  rw[e2,e];exact h.cl u hu
 ·rw[e2,e3];exact h.sm.same e4 e5 e6 e7
theorem BkI.bookU {s:Dk}(h:BkI s)(n:Nat):uncr (za8 s n)∧∀o∈za8 s n,o.owner<s.parties.length:=by
 unfold za8
 rw[List.getD_eq_getElem?_getD]
 rcases hb:s.books[n]? with _|l
 ·exact⟨fun a ha=>(by cases ha),fun o ho=>(by cases ho)⟩
 ·exact⟨h.un l (mog hb),h.ow l (mog hb)⟩
theorem BkI.setB {s:Dk}(h:BkI s){n:Nat}{m:List zap}(hu:uncr m)(ho:∀o∈m,o.owner<s.parties.length):BkI {s with books:=s.books.set n m}:=by
 refine⟨fun l hl=> ?_,fun l hl=> ?_,h.cl,h.sm.same rfl rfl rfl rfl⟩
 ·rcases zbF hl with rfl|hl
  ·exact hu
  ·exact h.un l hl
 ·rcases zbF hl with rfl|hl
  ·exact ho
  ·exact h.ow l hl
theorem zd7 {l:List AskR}:∀y∈l,∃u∈l,y.client=u.client:=fun y hy=>⟨y,hy,rfl⟩
theorem zf6 {who:Int}{o:zap}{n:Nat}:∀(fs:List zbM) (s:FSt),(fs.foldl (zbN who o n) s).d.parties=s.d.parties∧(fs.foldl (zbN who o n) s).d.bonds=s.d.bonds∧(fs.foldl (zbN who o n) s).d.asks=s.d.asks∧(fs.foldl (zbN who o n) s).d.books=s.d.books
 |[],s=>⟨rfl,rfl,rfl,rfl⟩
 |f::fs,s=>by rw[List.foldl_cons];exact zf6 fs (zbN who o n s f)
theorem zq7 {how:Int}{o:zap}{l:List zap}(hB:za6 l):∀f∈(doV how o l).fills,f.mparty≠o.owner:=by
 by_cases h0:zbC how o l=0
 ·obtain⟨hw,e1,e2,_⟩:=zgV hB h0
  rw[e1]
  obtain⟨xs,hsub,hlen,hf⟩:=hw.mks
  intro f hfm
  obtain⟨i,hi⟩:=List.getElem?_of_mem hfm
  have hil:=(gsi.1 hi).1
  have hF:=(hf i f (xs[i]'(by omega)) hi (gge _)).1
  rw[hF.mparty];exact hF.own
 ·rw[zgW h0]
  intro f hf;cases hf
theorem zoI {o:zap}(h:okO o=true):0≤o.owner:=by
 simp only[okO,Bool.and_eq_true,decide_eq_true_eq]at h
 exact h.1.2
theorem BkI.meets {N:Nat}{s:Dk}(h:BkI s)(hD:DOK N s)(hN:N≤10000){who:Int}{n:Nat}{o:zap}{how:Int}(hn:n<s.bonds.length)(hw:0≤who∧who<s.parties.length)(ho:o.owner=who):BkI (zby s who n o how).d:=by
 unfold zby
 dsimp only
 split
 ·exact h
 ·have hB:=hD.bookB n
  obtain⟨hu,how2⟩:=h.bookU n
  have hk:=zf6 (who:=who) (o:=o) (n:=n) (doV how {o with seq:=s.seq+1} (za8 s n)).fills ⟨{s with seq:=s.seq+1,books:=s.books.set n (doV how {o with seq:=s.seq+1} (za8 s n)).bk},(doV how {o with seq:=s.seq+1} (za8 s n)).gones.map fun g=>outM who 21 [g.id,g.left],o.left⟩
  have hS:=SumI.fills (np:=s.parties.length) (nb:=s.bonds.length) (who:=who) (o:=o) (n:=n) (doV how {o with seq:=s.seq+1} (za8 s n)).fills (s:=⟨{s with seq:=s.seq+1,books:=s.books.set n (doV how {o with seq:=s.seq+1} (za8 s n)).bk},(doV how {o with seq:=s.seq+1} (za8 s n)).gones.map fun g=>outM who 21 [g.id,g.left],o.left⟩)
   (h.sm.same rfl rfl rfl rfl) (by
     have h1:=(zfs (how:=how) (o:={o with seq:=s.seq+1}) hB).1
     have h2:=hD.nt
     show s.trades.length+_≤900000
     omega) (by have:=hD.now;show inW s.now;unfold inW;omega) (by have:=(zbO hD.rules).2.1;omega) (by have:=(zbO hD.rules).1;omega) (fun f hf=>by
     obtain⟨x,hx,e1,e2⟩:=zoo hB f hf
     have h1:=hB.ok x hx
     have h2:=zgN h1
     have h3:=zoI h1
     have h4:=how2 x hx
     have h5:=zq7 hB f hf
     have h6:=zjL hB f hf
     exact⟨by rw[e1];exact⟨h3,h4⟩,by rw[←ho];exact h5,by rw[e2];exact h2,h6⟩) hw hn
  have hb:=h.setB (n:=n) (m:=(doV how {o with seq:=s.seq+1} (za8 s n)).bk) (zq6 hB hu) (fun y hy=>by
   rcases zkH hB hy with ⟨x,hx,_,_,he⟩|⟨_,_,he⟩
   ·rw[he];exact how2 x hx
   ·have he':y.owner=o.owner:=he
    rw[he',ho];exact hw.2)
  generalize (doV how {o with seq:=s.seq+1} (za8 s n)).fills.foldl (zbN who o n) _=R at hk hS ⊢
  obtain⟨k1,k2,k3,k4⟩:=hk
  exact⟨by show ∀l∈R.d.books,_;rw[k4];exact hb.un,by show ∀l∈R.d.books,∀o∈l,o.owner<R.d.parties.length;rw[k4,k1];exact hb.ow,by show ∀a∈R.d.asks,zcs R.d.parties a.client=1;rw[k3,k1];exact h.cl,by rw[k1,k2];exact hS⟩
theorem zi6 {rf:Bool}{s:Dk}{a:AskR}:(zaU rf s a).1.books=s.books∧(zaU rf s a).1.parties=s.parties∧(zaU rf s a).1.bonds=s.bonds∧(zaU rf s a).1.cash=s.cash∧(zaU rf s a).1.pos=s.pos∧(zaU rf s a).1.trades=s.trades∧(zaU rf s a).1.head=s.head∧∀y∈(zaU rf s a).1.asks,∃u∈s.asks,y.client=u.client:=by
 unfold zaU
 dsimp only
 split
 ·exact⟨rfl,rfl,rfl,rfl,rfl,rfl,rfl,fun y hy=>by
   obtain⟨u,hu,hs⟩:=zdP hy
   exact⟨u,hu,hs.2.1⟩⟩
 ·exact⟨rfl,rfl,rfl,rfl,rfl,rfl,rfl,fun y hy=>by
   obtain⟨u,hu,hs⟩:=zh2 hy
   exact⟨u,hu,hs.2.1⟩⟩
theorem BkI.lookEnds {rf:Bool}{s:Dk}(h:BkI s)(a:AskR):BkI (zaU rf s a).1:=by
 obtain⟨e1,e2,e3,e4,e5,e6,e7,e8⟩:=zi6 (rf:=rf) (s:=s) (a:=a)
 exact h.same e1 e2 (by rw[e3]) e4 e5 e6 e7 e8
theorem BkI.dies {s:Dk}(h:BkI s)(a:AskR):BkI (zeF s a):=h.same rfl rfl rfl rfl rfl rfl rfl (fun y hy=>by
 obtain⟨u,hu,hs⟩:=zdP hy
 exact⟨u,hu,hs.2.1⟩)
theorem BkI.hitq {s:Dk}(h:BkI s)(a:AskR)(q:zat):BkI (hitQ s a q).d:=by
 unfold hitQ
 split
 ·exact h
 ·split
  ·exact h
  ·split
   ·exact h
   ·split
    ·exact h
    ·exact h.same rfl rfl rfl rfl rfl rfl rfl (fun y hy=>by
      obtain⟨u,hu,hs⟩:=zh1 hy
      exact⟨u,hu,hs.2.1⟩)
theorem zoJ {ps:List zaG}{who kind:Int}(hk:kind=6∨kind=7∨kind=8)(h:mayV ps who kind=true):0≤who∧who<ps.length:=by
 unfold mayV at h
 rw[if_pos hk]at h
 have hr:zcs ps who≠0:=by
  intro e
  rw[e]at h
  exact absurd h (by decide)
 obtain⟨a,b,_⟩:=zcD hr
 exact⟨a,b⟩
theorem BkI.does {N:Nat}{rf:Bool}{s:Dk}(h:BkI s)(hD:DOK N s)(hN:N≤10000)(who:Int)(m:MsgR):BkI (zcL rf s who m).d:=by
 unfold zcL
 split
 ·exact h
 rename_i hc
 have hmay:mayV s.parties who m.kind=true:=by
  cases hh:mayV s.parties who m.kind
  ·exact absurd (.inr (.inr hh)) hc
  ·rfl
 have hnb:=hD.nbk
 split
 ·rename_i h6
  have hw:=zoJ (.inl h6) hmay
  unfold zcg
  dsimp only
  split<;>first|exact h|skip
  rename_i hb
  obtain⟨hn,_,_⟩:=zdn hD.nbk (n:=m.f0) (by simpa using hb)
  split<;>first|exact h|skip
  split<;>first|exact h|skip
  have hm:=h.meets hD hN (who:=who) (n:=m.f0.toNat) (o:=⟨s.order+1,0,who,m.f1,m.f2,m.f3⟩) (how:=m.f4) (by omega) hw rfl
  split
  ·exact hm.same rfl rfl rfl rfl rfl rfl rfl zd7
  ·exact hm
 split
 ·rename_i h78
  have hw:=zoJ (.inr h78) hmay
  unfold zbm
  dsimp only
  split<;>first|exact h|skip
  rename_i hfb
  obtain⟨n,l,e1,e2,e3⟩:=ziT hfb
  have hnl:=(gsi.1 e2).1
  split<;>first|exact h|skip
  rename_i o ho
  have hom:=ziU ho
  split<;>first|exact h|skip
  rename_i hown
  have hown:=Decidable.not_not.1 hown
  rw[e1]at ho hom ⊢
  simp only[Int.toNat_natCast]at ho hom ⊢
  obtain⟨hu,how2⟩:=h.bookU n
  have hdr:∀id,uncr (zbf id (za8 s n))∧∀y∈zbf id (za8 s n),y.owner<s.parties.length:=fun id=>
   ⟨zhr hu (fun y hy=>⟨y,zb5 hy,rfl,rfl⟩),fun y hy=>how2 y (zb5 hy)⟩
  have hat:za8 s n=l:=by unfold za8;rw[List.getD_eq_getElem?_getD,e2];rfl
  have hBd:DOK N {s with books:=s.books.set n (zbf o.id (za8 s n))}:=by
   rw[hat]
   exact hD.setBook e2 ((hD.bks l (mog e2)).drop _) (fun y hy=>⟨y,zb5 hy,rfl,rfl⟩)
  split
  ·split<;>first|exact h|skip
   split
   ·exact h.setB (n:=n) (m:=zb2 o.id m.f2 (za8 s n)) (zhr hu (fun y hy=>by
     obtain⟨x,hx,_,_,a,b,_⟩:=zej hy
     exact⟨x,hx,a,b⟩)) (fun y hy=>by
     obtain⟨x,hx,_,_,_,_,he⟩:=zej hy
     rw[he];exact how2 x hx)
   ·have h1:=h.setB (n:=n) (hdr o.id).1 (hdr o.id).2
    exact(h1.meets hBd hN (who:=who) (n:=n) (o:={o with price:=m.f1,left:=m.f2}) (how:=0) (by show n<s.bonds.length;omega) hw hown).same rfl rfl rfl rfl rfl rfl rfl zd7
  ·exact h.setB (n:=n) (hdr m.f0).1 (hdr m.f0).2
 split
 ·unfold zcZ
  repeat' split
  all_goals first
   |exact h
   |(dsimp only;split<;>first|exact h|exact h.same rfl rfl rfl rfl rfl rfl rfl zd7)
 split
 ·unfold zc4
  repeat' split
  all_goals first|exact h|exact h.same rfl rfl rfl rfl rfl rfl rfl zd7
 split
 ·unfold hitD
  repeat' split
  all_goals first|exact h|exact h.hitq _ _
 split
 ·unfold zfq
  repeat' split
  all_goals first|exact h|exact h.hitq _ _
 split
 ·unfold zc1
  split<;>first|exact h|skip
  rename_i a hg
  have ham:=(zbh hg).1
  split<;>first|exact h|skip
  dsimp only
  split<;>first|exact h|skip
  split
  ·have h1:BkI {s with due:=zbg s.due 2 a.id}:=h.same rfl rfl rfl rfl rfl rfl rfl zd7
   exact h1.lookEnds a
  ·split<;>first|exact h|skip
   split<;>first|exact h|skip
   rename_i h5
   obtain⟨r1,r2,r3,r4⟩:=zkL (Decidable.not_not.1 h5)
   have hcl:=h.cl a ham
   obtain⟨⟨a1,a2⟩,⟨b1,b2⟩,c,⟨d1,d2⟩,⟨c1,c2⟩,_⟩:=hD.as_ a ham
   obtain⟨w1,w2,_⟩:=zcD (ps:=s.parties) (who:=(qOf s a.hit).dealer) (by rw[r1];decide)
   have hne:a.client≠(qOf s a.hit).dealer:=fun e=>by rw[e,r1]at hcl;exact absurd hcl (by decide)
   have hqp:(qOf s a.hit).price≤1000000:=by
    unfold qOf
    rcases hq:getQ a.hit s.quotes with _|q
    ·simp
    ·exact(hD.qs q (zft hq).1).2.2.1.2
   have h1:BkI (zc8 {s with used:=s.used.set (qOf s a.hit).dealer.toNat (zdY s.used (qOf s a.hit).dealer+(qOf s a.hit).price*a.qty),asks:=endA a.id 3 s.asks} a.id):=h.same rfl rfl rfl rfl rfl rfl rfl (fun y hy=>by
    obtain⟨u,hu,hs⟩:=zdP hy
    exact⟨u,hu,hs.2.1⟩)
   have hp8:=(zbO hD.rules).2.1
   have hb4:=(zbO hD.rules).1
   have haid:=(hD.as_ a ham).1
   have hasn:=hD.ask
   refine⟨h1.un,h1.ow,h1.cl,h1.sm.trade (by have:=hD.nt;show s.trades.length≤1000000;omega) ?_ (zfE (by have:=hD.nt;show s.trades.length≤900000;omega) (by unfold inW;omega) (by unfold inW;omega) (by unfold inW;omega) (by unfold inW;omega) (by unfold inW;omega) (by unfold inW;omega) (by have:=hD.now;show inW s.now;unfold inW;omega))⟩
   unfold zbr zoH
   split
   ·exact⟨⟨w1,w2⟩,⟨c1,c2⟩,hne.symm,⟨b1,b2⟩,⟨r2,hqp⟩,d1,d2⟩
   ·exact⟨⟨c1,c2⟩,⟨w1,w2⟩,hne,⟨b1,b2⟩,⟨r2,hqp⟩,d1,d2⟩
 split
 ·unfold zbE
  repeat' split
  all_goals first|exact h|exact h.dies _
 split
 ·rename_i h9
  unfold askD
  dsimp only
  split<;>first|exact h|skip
  split<;>first|exact h|skip
  split<;>first|exact h|skip
  split<;>first|exact h|skip
  split<;>first|exact h|skip
  rename_i hr
  split<;>first|exact h|skip
  split<;>first|exact h|skip
  have hr1:zcs s.parties who=1:=by
   have hr:=Decidable.not_not.1 hr
   unfold zf9 at hr
   split at hr
   ·omega
   ·rename_i hh
    exact Decidable.not_not.1 hh
  refine⟨h.un,h.ow,fun y hy=> ?_,h.sm.same rfl rfl rfl rfl⟩
  rcases zfu hy with rfl|hy
  ·exact hr1
  ·exact h.cl y hy
 ·unfold zdJ
  repeat' split
  all_goals first|exact h|exact h.same rfl rfl (by simp) rfl rfl rfl rfl zd7
theorem BkI.do' {N:Nat}{rf:Bool}{s:Dk}(h:BkI s)(hD:DOK N s)(hN:N≤10000)(who seq:Int)(m:MsgR):BkI (doD rf s who seq m).1:=h.does hD hN who m
theorem BkI.dueOne {rf:Bool}{t:Dk×List OutR}(h:BkI t.1)(x:Due):BkI (dueD rf t x).1:=by
 unfold dueD
 split
 ·exact h.same rfl rfl rfl rfl rfl rfl rfl zd7
 ·split
  ·exact h
  ·split
   ·exact h.lookEnds _
   ·split
    ·exact h.dies _
    ·exact h
theorem BkI.dueAll {rf:Bool}:∀(xs:List Due) {t:Dk×List OutR},BkI t.1→BkI (xs.foldl (dueD rf) t).1
 |[],t,h=>h
 |x::xs,t,h=>by rw[List.foldl_cons];exact BkI.dueAll xs (h.dueOne x)
theorem BkI.tick {rf:Bool}{s:Dk}(h:BkI s):BkI (zc5 rf s).1:=by
 unfold zc5
 exact BkI.dueAll _ (h.same rfl rfl rfl rfl rfl rfl rfl zd7)
theorem BkI.gone {rf:Bool}{s:Dk}(h:BkI s)(who:Int):BkI (zeb rf s who).1:=by
 have key:∀(qs:List zat) {t:Dk},BkI t→BkI (qs.foldl (zct rf) t):=by
  intro qs
  induction qs with
  |nil=>intro t h;exact h
  |cons q qs ih=>
   intro t h
   rw[List.foldl_cons]
   refine ih ?_
   unfold zct
   split
   ·exact h
   ·exact h.same rfl rfl rfl rfl rfl rfl rfl zd7
 unfold zeb
 refine key _ ⟨fun l hl=> ?_,fun l hl o ho=> ?_,h.cl,h.sm.same rfl rfl rfl rfl⟩
 ·obtain⟨m,hm,rfl⟩:=lmm.1 hl
  exact zhr (h.un m hm) (fun y hy=>⟨y,zdm.1 y hy,rfl,rfl⟩)
 ·obtain⟨m,hm,rfl⟩:=lmm.1 hl
  exact h.ow m hm o (zdm.1 o ho)
theorem BkI.new {bs:List zaP}{ps:List zaG}{look beat:Int}:BkI (zcV bs ps look beat):=by
 refine⟨fun l hl=> ?_,fun l hl o ho=> ?_,fun a ha=>(by cases ha),SumI.new⟩
 ·rw[List.eq_of_mem_replicate hl]
  intro a ha;cases ha
 ·rw[List.eq_of_mem_replicate hl]at ho
  cases ho
/-! ### quotes by their numbers -/
theorem zq8 {l:List zat}(hup:upQ l){x y:zat}(hx:x∈l)(hy:y∈l)(he:x.id=y.id):x=y:=by
 obtain⟨i,hi⟩:=List.getElem?_of_mem hx
 obtain⟨j,hj⟩:=List.getElem?_of_mem hy
 obtain⟨hil,hie⟩:=gsi.1 hi
 obtain⟨hjl,hje⟩:=gsi.1 hj
 rcases Nat.lt_trichotomy i j with h|h|h
 ·have:=List.pairwise_iff_getElem.1 hup i j hil hjl h
  rw[hie,hje]at this;omega
 ·subst h;rw[hi]at hj;cases hj;rfl
 ·have:=List.pairwise_iff_getElem.1 hup j i hjl hil h
  rw[hie,hje]at this;omega
theorem zq9 {l:List zat}(hup:upQ l){x:zat}(hx:x∈l):getQ x.id l=some x:=by
 have hm:∀(l:List zat),upQ l→x∈l→∃y,l[bsN (cQ x.id) l]? =some y∧cQ x.id y=0:=by
  intro l
  induction l with
  |nil=>intro _ h;cases h
  |cons z l ih=>
   intro hu hm
   have hu':=hu
   unfold upQ at hu'
   rw[List.pairwise_cons]at hu'
   rcases List.mem_cons.1 hm with rfl|hm
   ·refine⟨x,?_,by simp[cQ,cmpI]⟩
    have:bsN (cQ x.id) (x::l)=0:=by unfold bsN;simp[cQ,cmpI]
    rw[this];rfl
   ·obtain⟨y,hy,hc⟩:=ih hu'.2 hm
    have hz:z.id<x.id:=hu'.1 x hm
    have hz2:cQ x.id z<0:=by
     unfold cQ cmpI
     split<;>omega
    have:bsN (cQ x.id) (z::l)=bsN (cQ x.id) l+1:=by
     unfold bsN
     rw[List.takeWhile_cons,if_pos (by simpa using hz2)];rfl
    exact⟨y,by rw[this];simpa using hy,hc⟩
 have hB:bsB (cQ x.id) l=true:=by
  obtain⟨y,hy,hc⟩:=hm l hup hx
  unfold bsB
  rw[hy];simp[hc]
 obtain⟨y,hy,hi,hg⟩:=zdk hB
 rw[hg,zq8 hup (mog hy) hx hi]
theorem zkc {id:Int}{l:List zat}{u:zat}(hu:u∈l):∃y∈zb3 id l,zeZ u y:=by
 unfold zb3
 split
 ·rename_i x hx
  unfold getQ at hx
  split at hx
  ·obtain⟨j,hj⟩:=List.getElem?_of_mem hu
   by_cases he:bsN (cQ id) l=j
   ·subst he
    rw[hx]at hj
    cases hj
    refine⟨({u with live:=false}:zat),List.mem_iff_getElem?.2 ⟨bsN (cQ id) l,?_⟩,rfl,rfl,rfl,rfl,rfl⟩
    rw[List.getElem?_set,if_pos rfl,if_pos (gsi.1 hx).1]
   ·refine⟨u,List.mem_iff_getElem?.2 ⟨j,?_⟩,rfl,rfl,rfl,rfl,rfl⟩
    rw[List.getElem?_set,if_neg he,hj]
  ·cases hx
 ·exact⟨u,hu,rfl,rfl,rfl,rfl,rfl⟩
theorem zoK {id dealer:Int}{l:List zat}{u:zat}(hu:u∈l):∃y∈zd1 id dealer l,zeZ u y:=by
 unfold zd1
 split
 ·exact zkc hu
 ·exact⟨u,hu,rfl,rfl,rfl,rfl,rfl⟩
theorem zp6 {q:zat}{l:List zat}{u:zat}(hu:u∈l):∃y∈putQ q l,zeZ u y:=by
 unfold putQ
 split
 ·exact⟨u,hu,rfl,rfl,rfl,rfl,rfl⟩
 ·have hm:offQ q u∈l.map (offQ q):=lmm.2 ⟨u,hu,rfl⟩
  have hs:zeZ u (offQ q u):=by unfold offQ zeZ;split<;>exact⟨rfl,rfl,rfl,rfl,rfl⟩
  rw[←List.take_append_drop (bsN (cQ q.id) l) (l.map (offQ q))]at hm
  refine⟨offQ q u,?_,hs⟩
  rcases lma.1 hm with hm|hm
  ·exact List.mem_append_left _ (List.mem_append_left _ hm)
  ·exact mar _ hm
theorem zlR {a:AskR}{l:List AskR}{u:AskR}(hu:u∈l):u∈addA a l:=by
 unfold addA
 split
 ·have hm:=hu
  rw[←List.take_append_drop (bsN (cA a.id) l) l]at hm
  rcases lma.1 hm with hm|hm
  ·exact List.mem_append_left _ (List.mem_append_left _ hm)
  ·exact mar _ hm
 ·exact hu
/-! ### requests and their trades -/
def zd8 (a:AskR)(t:zaL):Int:=if a.side=2 then t.buyer else t.seller
def zi7 (a:AskR)(t:zaL):Int:=if a.side=2 then t.seller else t.buyer
def zhs (a:AskR)(t:zaL):Bool:=isB a.side&&(a.state==3&&(a.bond==t.bond&&(a.qty==t.qty&&(a.client==zi7 a t&&(decide (0≤zd8 a t)&&zgJ a.dealers (zd8 a t))))))
theorem zmE {x y:AskR}{t:zaL}(h:zhs x t=true)(hs:zeY x y)(h3:y.state=3):zhs y t=true:=by
 obtain⟨e1,e2,e3,e4,e5,e6,e7⟩:=hs
 unfold zhs zd8 zi7 at*
 rw[e2,e3,e4,e5,e6,h3]
 simp only[Bool.and_eq_true]at h ⊢
 exact⟨h.1,rfl,h.2.2⟩
theorem ziq {a:AskR}{t:zaL}(h:zhs a t=true):a.state=3:=by
 unfold zhs at h
 simp only[Bool.and_eq_true,beq_iff_eq]at h
 exact h.2.1
def zmF (l m:List AskR):Prop:=(∀u∈l,∃y∈m,zeY u y∧(u.state=3→y.state=3))∧(∀y∈m,∃u∈l,zeY u y∧(y.state=3→u.state=3))
theorem zeD (x:AskR):zeY x x:=⟨rfl,rfl,rfl,rfl,rfl,rfl,rfl⟩
theorem zmF.refl (l:List AskR):zmF l l:=⟨fun u hu=>⟨u,hu,zeD u,id⟩,fun u hu=>⟨u,hu,zeD u,id⟩⟩
theorem zi8 {id:Int}{l:List AskR}{x z:AskR}(hup:upA l)(hx:getA id l=some x)(hs:zeY x z)(h3:x.state≠3)(hz:z.state≠3):zmF l (setA id z l):=by
 have hxm:=zbh hx
 refine⟨fun u hu=> ?_,fun y hy=> ?_⟩
 ·by_cases he:u.id=id
  ·obtain rfl:=zdB hup hu hxm.1 (by rw[he,hxm.2])
   exact⟨z,zgs hx,hs,fun e=>absurd e h3⟩
  ·exact⟨u,zfF hx hu he,zeD u,fun e=>e⟩
 ·rcases zdd hup hx hy with rfl|⟨hy,_⟩
  ·exact⟨x,hxm.1,hs,fun e=>absurd e hz⟩
  ·exact⟨y,hy,zeD y,fun e=>e⟩
structure OnI (s:Dk):Prop where
 qd:∀q∈s.quotes,∃a∈s.asks,a.id=q.ask∧zgJ a.dealers q.dealer=true
 lk:∀a∈s.asks,a.state=2→∃q∈s.quotes,q.id=a.hit∧q.ask=a.id
 o1:∀t∈s.trades,t.ask≠0→∃a∈s.asks,a.id=t.ask∧zhs a t=true
 o2:s.trades.Pairwise fun t u=>t.ask≠0→t.ask≠u.ask
 o3:∀a∈s.asks,a.state=3→∃t∈s.trades,t.ask=a.id
theorem OnI.turn {s t:Dk}(h:OnI s)(ha:zmF s.asks t.asks)(hq:∀y∈t.quotes,∃u∈s.quotes,zeZ u y)(hl:∀a∈t.asks,a.state=2→∃q∈t.quotes,q.id=a.hit∧q.ask=a.id)(e:t.trades=s.trades):OnI t:=by
 refine⟨fun q hq'=> ?_,hl,fun r hr h0=> ?_,by rw[e];exact h.o2,fun y hy h3=> ?_⟩
 ·obtain⟨u,hu,hs⟩:=hq q hq'
  obtain⟨a,ha1,ha2,ha3⟩:=h.qd u hu
  obtain⟨y,hy,hsa,_⟩:=ha.1 a ha1
  exact⟨y,hy,by rw[hsa.1,ha2,hs.2.1],by rw[hsa.2.2.2.2.2.1,hs.2.2.1];exact ha3⟩
 ·rw[e]at hr
  obtain⟨a,ha1,ha2,ha3⟩:=h.o1 r hr h0
  obtain⟨y,hy,hsa,h3⟩:=ha.1 a ha1
  exact⟨y,hy,by rw[hsa.1,ha2],zmE ha3 hsa (h3 (ziq ha3))⟩
 ·obtain⟨u,hu,hsa,h4⟩:=ha.2 y hy
  obtain⟨r,hr,hi⟩:=h.o3 u hu (h4 h3)
  exact⟨r,by rw[e];exact hr,by rw[hi,hsa.1]⟩
theorem OnI.quotes {s t:Dk}(h:OnI s)(ea:t.asks=s.asks)(hq:∀y∈t.quotes,∃u∈s.quotes,zeZ u y)(hq2:∀u∈s.quotes,∃y∈t.quotes,zeZ u y)(e:t.trades=s.trades):OnI t:=
 h.turn (by rw[ea];exact zmF.refl _) hq (fun a ha h2=>by
  rw[ea]at ha
  obtain⟨q,hq1,e1,e2⟩:=h.lk a ha h2
  obtain⟨y,hy,hs⟩:=hq2 q hq1
  exact⟨y,hy,by rw[hs.1,e1],by rw[hs.2.1,e2]⟩) e
theorem OnI.same {s t:Dk}(h:OnI s)(ea:t.asks=s.asks)(eq:t.quotes=s.quotes)(e:t.trades=s.trades):OnI t:=
 h.quotes ea (by rw[eq];exact fun y hy=>zfX hy) (by rw[eq];exact fun u hu=>⟨u,hu,rfl,rfl,rfl,rfl,rfl⟩) e
theorem OnI.kill {s t:Dk}(h:OnI s){id:Int}(ea:t.asks=s.asks)(eq:t.quotes=zb3 id s.quotes)(e:t.trades=s.trades):OnI t:=
 h.quotes ea (by rw[eq];exact fun y hy=>zfY hy) (by rw[eq];exact fun y hy=>zkc hy) e
theorem OnI.clear {s:Dk}(h:OnI s){id:Int}(hn:∀a∈s.asks,a.state=2→a.id≠id):OnI (zc8 s id):=
 h.turn (zmF.refl _) (fun y hy=>zfX (List.mem_filter.1 hy).1) (fun a ha h2=>by
  obtain⟨q,hq1,e1,e2⟩:=h.lk a ha h2
  refine⟨q,List.mem_filter.2 ⟨hq1,?_⟩,e1,e2⟩
  have:=hn a ha h2
  simp only[zdq,Bool.not_eq_true',beq_eq_false_iff_ne,ne_eq]
  rw[e2];exact this) rfl
theorem zoL {l:List AskR}(hup:upA l){a:AskR}(ha:a∈l){state:Int}(h:(state=4∧(a.state=1∨a.state=2))∨(state=3∧a.state=2)):endA a.id state l=setA a.id (endX state a) l:=by
 have hg:=zf0 hup ha
 unfold endA endE
 rw[hg]
 dsimp only
 rw[if_pos]
 rw[if_neg (by omega),if_neg (by omega)]
theorem OnI.dies {s:Dk}(h:OnI s)(hup:upA s.asks){a:AskR}(ha:a∈s.asks)(hst:a.state=1∨a.state=2):OnI (zeF s a):=by
 have hg:=zf0 hup ha
 have hE:=zoL hup ha (state:=4) (.inl ⟨rfl,hst⟩)
 have hX:endX 4 a={a with state:=4,until_:=0,hit:=0}:=rfl
 have hm:∀y∈setA a.id (endX 4 a) s.asks,y.state=2→y∈s.asks∧y.id≠a.id:=fun y hy h2=>by
  rcases zdd hup hg hy with rfl|hy
  ·rw[hX]at h2;exact absurd (show(4:Int)=2 from h2) (by decide)
  ·exact hy
 unfold zeF
 rw[hE]
 refine OnI.clear (h.turn (t:={s with asks:=setA a.id (endX 4 a) s.asks}) (zi8 hup hg (zjJ 4 a) (by omega) (by rw[hX];exact(by decide:(4:Int)≠3))) (fun y hy=>zfX hy) (fun y hy h2=>h.lk y (hm y hy h2).1 h2) rfl) (fun y hy h2=>(hm y hy h2).2)
theorem OnI.lookEnds {rf:Bool}{s:Dk}(h:OnI s)(hup:upA s.asks){a:AskR}(ha:a∈s.asks)(hst:a.state=2):OnI (zaU rf s a).1:=by
 unfold zaU
 dsimp only
 have h1:OnI {s with quotes:=zb3 a.hit s.quotes,due:=if rf then zbg (zbg s.due 3 a.hit) 2 a.id else s.due}:=h.kill rfl rfl rfl
 split
 ·exact h1.dies hup ha (.inr hst)
 ·have hg:=zf0 hup ha
  have hE:zd2 a.id s.asks=setA a.id {a with state:=1,hit:=0,until_:=0} s.asks:=by
   unfold zd2 zhz
   rw[hg]
   dsimp only
   have e0:(if a.state=2 then(0:Int)else 11)=0:=if_pos hst
   rw[if_pos e0]
  show OnI {s with quotes:=zb3 a.hit s.quotes,due:=_,asks:=zd2 a.id s.asks}
  rw[hE]
  exact h1.turn (zi8 hup hg ⟨rfl,rfl,rfl,rfl,rfl,rfl,rfl⟩ (by omega) (show(1:Int)≠3 by decide)) (fun y hy=>zfX hy) (fun y hy h2=>by
   rcases zdd hup hg hy with rfl|hy
   ·exact absurd (show(1:Int)=2 from h2) (by decide)
   ·exact h1.lk y hy.1 h2) rfl
theorem OnI.hitq {s:Dk}(h:OnI s)(hup:upA s.asks){a:AskR}(ha:a∈s.asks){q:zat}(hq:q∈s.quotes)(hqa:q.ask=a.id):OnI (hitQ s a q).d:=by
 unfold hitQ
 split
 ·exact h
 ·split
  ·exact h
  ·split
   ·exact h
   ·split
    ·exact h
    ·rename_i h4
     have h4:=Decidable.not_not.1 h4
     have hg:=zf0 hup ha
     have hst:a.state=1:=by
      unfold zeU at h4
      rw[hg]at h4
      dsimp only at h4
      split at h4
      ·assumption
      ·cases h4
     have hE:zdA a.id q.id (s.now+s.look) s.asks=setA a.id {a with state:=2,hit:=q.id,until_:=s.now+s.look} s.asks:=by
      unfold zdA
      rw[hg]
      dsimp only
      rw[if_pos h4]
     show OnI {s with asks:=zdA a.id q.id (s.now+s.look) s.asks,due:=_}
     rw[hE]
     exact h.turn (zi8 hup hg ⟨rfl,rfl,rfl,rfl,rfl,rfl,rfl⟩ (by omega) (show(2:Int)≠3 by decide)) (fun y hy=>zfX hy) (fun y hy h2=>by
      rcases zdd hup hg hy with rfl|hy
      ·exact⟨q,hq,rfl,hqa⟩
      ·exact h.lk y hy.1 h2) rfl
theorem OnI.trade0 {s:Dk}(h:OnI s){t:zaL}(h0:t.ask=0):OnI (zcY s t):=by
 refine⟨h.qd,h.lk,fun r hr hn=> ?_,?_,fun a ha h3=> ?_⟩
 ·rcases lma.1 hr with hr|hr
  ·exact h.o1 r hr hn
  ·rw[lms.1 hr]at hn;exact absurd h0 hn
 ·show(s.trades++[t]).Pairwise _
  rw[List.pairwise_append]
  refine⟨h.o2,List.pairwise_singleton _ _,fun a ha b hb hn=> ?_⟩
  rw[lms.1 hb,h0];exact hn
 ·obtain⟨r,hr,e⟩:=h.o3 a ha h3
  exact⟨r,List.mem_append_left _ hr,e⟩
theorem OnI.fills {who:Int}{o:zap}{n:Nat}:∀(fs:List zbM) {s:FSt},OnI s.d→OnI (fs.foldl (zbN who o n) s).d
 |[],s,h=>h
 |f::fs,s,h=>by
  rw[List.foldl_cons]
  refine OnI.fills fs (s:=zbN who o n s f) (h.trade0 ?_)
  unfold zbr
  split<;>rfl
theorem OnI.meets {s:Dk}(h:OnI s){who:Int}{n:Nat}{o:zap}{how:Int}:OnI (zby s who n o how).d:=by
 unfold zby
 dsimp only
 split
 ·exact h
 ·exact OnI.fills _ (h.same rfl rfl rfl)
theorem OnI.takes {N:Nat}{s:Dk}(h:OnI s)(hD:DOK N s){a:AskR}(ha:a∈s.asks)(hst:a.state=2){us:List Int}:
 OnI (zcY (zc8 {s with used:=us,asks:=endA a.id 3 s.asks} a.id) (zbr (zc8 {s with used:=us,asks:=endA a.id 3 s.asks} a.id) a.side a.client (qOf s a.hit).dealer a.bond (qOf s a.hit).price a.qty a.id)):=by
 have hup:=hD.upa
 have hg:=zf0 hup ha
 have hE:=zoL hup ha (state:=3) (.inr ⟨rfl,hst⟩)
 have hX:endX 3 a={a with state:=3,until_:=0}:=rfl
 obtain⟨q,hq1,hq2,hq3⟩:=h.lk a ha hst
 have hqo:qOf s a.hit=q:=by
  unfold qOf
  rw[←hq2,zq9 hD.upq hq1];rfl
 obtain⟨a',ha1,ha2,ha3⟩:=h.qd q hq1
 obtain rfl:a'=a:=zdB hup ha1 ha (by rw[ha2,hq3])
 have hqd:=(hD.qs q hq1).2.1.1
 have hok:=hD.as_ a' ha
 rw[hqo,hE]
 have hm:∀y∈setA a'.id (endX 3 a') s.asks,y=endX 3 a'∨(y∈s.asks∧y.id≠a'.id):=fun y hy=>zdd hup hg hy
 have hold:∀r∈s.trades,r.ask≠0→r.ask≠a'.id:=fun r hr hn he=>by
  obtain⟨b,hb1,hb2,hb3⟩:=h.o1 r hr hn
  obtain rfl:=zdB hup hb1 ha (by rw[hb2,he])
  have:=ziq hb3
  omega
 refine⟨fun p hp=> ?_,fun y hy h2=> ?_,fun r hr hn=> ?_,?_,fun y hy h3=> ?_⟩
 ·obtain⟨b,hb1,hb2,hb3⟩:=h.qd p (List.mem_filter.1 hp).1
  by_cases he:b.id=a'.id
  ·obtain rfl:=zdB hup hb1 ha he
   exact⟨endX 3 b,zgs hg,hb2,hb3⟩
  ·exact⟨b,zfF hg hb1 he,hb2,hb3⟩
 ·rcases hm y hy with rfl|⟨hy,hne⟩
  ·rw[hX]at h2;exact absurd (show(3:Int)=2 from h2) (by decide)
  ·obtain⟨p,hp1,hp2,hp3⟩:=h.lk y hy h2
   refine⟨p,List.mem_filter.2 ⟨hp1,?_⟩,hp2,hp3⟩
   simp only[zdq,Bool.not_eq_true',beq_eq_false_iff_ne,ne_eq]
   rw[hp3];exact hne
 ·rcases lma.1 hr with hr|hr
  ·obtain⟨b,hb1,hb2,hb3⟩:=h.o1 r hr hn
   exact⟨b,zfF hg hb1 (by rw[hb2];exact hold r hr hn),hb2,hb3⟩
  ·refine⟨endX 3 a',zgs hg,?_,?_⟩
   ·rw[lms.1 hr]
    unfold zbr
    split<;>rfl
   ·rw[lms.1 hr]
    unfold zhs zd8 zi7 zbr
    rw[hX]
    have hB:=hok.2.2.1
    by_cases hs:a'.side=2
    ·simp only[hs,if_true,Bool.and_eq_true,beq_self_eq_true,decide_eq_true_eq,true_and]
     exact⟨by decide,hqd,ha3⟩
    ·simp only[hs,if_false,Bool.and_eq_true,beq_self_eq_true,decide_eq_true_eq,true_and]
     exact⟨hB,hqd,ha3⟩
 ·show(s.trades++[_]).Pairwise _
  rw[List.pairwise_append]
  refine⟨h.o2,List.pairwise_singleton _ _,fun r hr b hb hn=> ?_⟩
  rw[lms.1 hb]
  have:(zbr (zc8 {s with used:=us,asks:=setA a'.id (endX 3 a') s.asks} a'.id) a'.side a'.client q.dealer a'.bond q.price a'.qty a'.id).ask=a'.id:=by unfold zbr;split<;>rfl
  rw[this]
  exact hold r hr hn
 ·rcases hm y hy with rfl|⟨hy,hne⟩
  ·refine⟨_,mar _ (lms.2 rfl),?_⟩
   unfold zbr
   split<;>rfl
  ·obtain⟨r,hr,e⟩:=h.o3 y hy h3
   exact⟨r,List.mem_append_left _ hr,e⟩
/-! ### whatever is asked -/
theorem zoM {s:Dk}{who id:Int}{a:AskR}(h:¬zc0 s who id≠0)(hg:getA id s.asks=some a):a.state=1:=by
 have h:=Decidable.not_not.1 h
 unfold zc0 at h
 rw[hg]at h
 dsimp only at h
 split at h
 ·omega
 ·split at h
  ·omega
  ·rename_i h1;exact Decidable.not_not.1 h1
theorem OnI.does {N:Nat}{rf:Bool}{s:Dk}(h:OnI s)(hD:DOK N s)(who:Int)(m:MsgR):OnI (zcL rf s who m).d:=by
 have hup:=hD.upa
 unfold zcL
 split
 ·exact h
 split
 ·unfold zcg
  dsimp only
  split<;>first|exact h|skip
  split<;>first|exact h|skip
  split<;>first|exact h|skip
  have hm:=h.meets (who:=who) (n:=m.f0.toNat) (o:=⟨s.order+1,0,who,m.f1,m.f2,m.f3⟩) (how:=m.f4)
  split
  ·exact hm.same rfl rfl rfl
  ·exact hm
 split
 ·unfold zbm
  dsimp only
  split<;>first|exact h|skip
  split<;>first|exact h|skip
  rename_i o ho
  split<;>first|exact h|skip
  split
  ·split<;>first|exact h|skip
   split
   ·exact h.same rfl rfl rfl
   ·have h1:OnI {s with books:=s.books.set (zcx s.books m.f0).toNat (zbf o.id (za8 s (zcx s.books m.f0).toNat))}:=h.same rfl rfl rfl
    exact(h1.meets (who:=who) (n:=(zcx s.books m.f0).toNat) (o:={o with price:=m.f1,left:=m.f2}) (how:=0)).same rfl rfl rfl
  ·exact h.same rfl rfl rfl
 split
 ·unfold zcZ
  split<;>first|exact h|skip
  rename_i a hg
  obtain⟨ha,hi⟩:=zbh hg
  split<;>first|exact h|skip
  rename_i hbit
  split<;>first|exact h|skip
  split<;>first|exact h|skip
  split<;>first|exact h|skip
  split<;>first|exact h|skip
  dsimp only
  split<;>first|exact h|skip
  refine⟨fun q hq=> ?_,fun y hy h2=> ?_,h.o1,h.o2,h.o3⟩
  ·rcases zjK hq with rfl|⟨u,hu,hs⟩
   ·exact⟨a,ha,rfl,by simpa using hbit⟩
   ·obtain⟨b,hb1,hb2,hb3⟩:=h.qd u hu
    exact⟨b,hb1,by rw[hb2,hs.2.1],by rw[hs.2.2.1];exact hb3⟩
  ·obtain⟨p,hp,e1,e2⟩:=h.lk y hy h2
   obtain⟨z,hz,hs⟩:=zp6 (q:=⟨s.quote+1,a.id,who,m.f1,s.now+m.f2,true⟩) hp
   exact⟨z,hz,by rw[hs.1,e1],by rw[hs.2.1,e2]⟩
 split
 ·unfold zc4
  split<;>first|exact h|skip
  split<;>first|exact h|skip
  split<;>first|exact h|skip
  split<;>first|exact h|skip
  have h1:OnI {s with quotes:=zd1 m.f0 who s.quotes,due:=if rf then zbg s.due 3 m.f0 else s.due}:=h.quotes rfl (fun y hy=>zh3 hy) (fun u hu=>zoK hu) rfl
  exact h1
 split
 ·unfold hitD
  split<;>first|exact h|skip
  rename_i q hq
  split<;>first|exact h|skip
  split<;>first|exact h|skip
  rename_i a hg
  obtain⟨ha,hi⟩:=zbh hg
  exact h.hitq hup ha (zft hq).1 hi.symm
 split
 ·unfold zfq
  split<;>first|exact h|skip
  split<;>first|exact h|skip
  rename_i a hg
  obtain⟨ha,hi⟩:=zbh hg
  split<;>first|exact h|skip
  rename_i q hq
  obtain⟨hq1,hq2⟩:=List.mem_filter.1 (zlI hq)
  refine h.hitq hup ha hq1 ?_
  unfold zcu at hq2
  simp only[Bool.and_eq_true,beq_iff_eq]at hq2
  exact hq2.1.1
 split
 ·unfold zc1
  split<;>first|exact h|skip
  rename_i a hg
  obtain⟨ha,hi⟩:=zbh hg
  split<;>first|exact h|skip
  rename_i hst
  have hst:=Decidable.not_not.1 hst
  dsimp only
  split<;>first|exact h|skip
  split
  ·have h1:OnI {s with due:=zbg s.due 2 a.id}:=h.same rfl rfl rfl
   exact h1.lookEnds hup ha hst
  ·split<;>first|exact h|skip
   split<;>first|exact h|skip
   exact h.takes hD ha hst
 split
 ·unfold zbE
  split<;>first|exact h|skip
  rename_i hmi
  split<;>first|exact h|skip
  rename_i a hg
  exact h.dies hup (zbh hg).1 (.inl (zoM hmi hg))
 split
 ·unfold askD
  dsimp only
  split<;>first|exact h|skip
  split<;>first|exact h|skip
  split<;>first|exact h|skip
  split<;>first|exact h|skip
  split<;>first|exact h|skip
  split<;>first|exact h|skip
  split<;>first|exact h|skip
  refine⟨fun q hq=> ?_,fun y hy h2=> ?_,fun r hr hn=> ?_,h.o2,fun y hy h3=> ?_⟩
  ·obtain⟨b,hb1,hb2,hb3⟩:=h.qd q hq
   exact⟨b,zlR hb1,hb2,hb3⟩
  ·rcases zfu hy with rfl|hy
   ·exact absurd (show(1:Int)=2 from h2) (by decide)
   ·exact h.lk y hy h2
  ·obtain⟨b,hb1,hb2,hb3⟩:=h.o1 r hr hn
   exact⟨b,zlR hb1,hb2,hb3⟩
  ·rcases zfu hy with rfl|hy
   ·exact absurd (show(1:Int)=3 from h3) (by decide)
   ·exact h.o3 y hy h3
 ·unfold zdJ
  split<;>first|exact h|skip
  split<;>first|exact h|skip
  exact h.same rfl rfl rfl
theorem OnI.do' {N:Nat}{rf:Bool}{s:Dk}(h:OnI s)(hD:DOK N s)(who seq:Int)(m:MsgR):OnI (doD rf s who seq m).1:=h.does hD who m
theorem OnI.dueOne {N:Nat}{rf:Bool}{t:Dk×List OutR}(h:OnI t.1)(hD:DOK N t.1)(x:Due):OnI (dueD rf t x).1:=by
 unfold dueD
 split
 ·exact h.kill rfl rfl rfl
 ·split
  ·exact h
  ·rename_i a hg
   have ha:=(zbh hg).1
   split
   ·rename_i hc
    exact h.lookEnds hD.upa ha hc.2
   ·split
    ·rename_i hc
     exact h.dies hD.upa ha (.inl hc.2)
    ·exact h
theorem OnI.dueAll {N:Nat}{rf:Bool}:∀(xs:List Due) {t:Dk×List OutR},OnI t.1→DOK N t.1→OnI (xs.foldl (dueD rf) t).1
 |[],t,h,_=>h
 |x::xs,t,h,hD=>by rw[List.foldl_cons];exact OnI.dueAll xs (h.dueOne hD x) (hD.dueOne x)
theorem OnI.tick {N:Nat}{rf:Bool}{s:Dk}(h:OnI s)(hD:DOK N s):OnI (zc5 rf s).1:=by
 have h':=hD.up
 have hn:=hD.now
 have hD0:DOK (N+1) ({s with now:=s.now+1,due:=s.due.drop (zb4 s.due (s.now+1))}:Dk):=hD.tick0
 have h0:OnI ({s with now:=s.now+1,due:=s.due.drop (zb4 s.due (s.now+1))}:Dk):=h.same rfl rfl rfl
 unfold zc5
 exact OnI.dueAll _ h0 hD0
theorem OnI.gone {rf:Bool}{s:Dk}(h:OnI s)(who:Int):OnI (zeb rf s who).1:=by
 have key:∀(qs:List zat) {t:Dk},OnI t→OnI (qs.foldl (zct rf) t):=by
  intro qs
  induction qs with
  |nil=>intro t h;exact h
  |cons q qs ih=>
   intro t h
   rw[List.foldl_cons]
   refine ih ?_
   unfold zct
   split
   ·exact h
   ·have h1:OnI {t with quotes:=zb3 q.id t.quotes,due:=zbg t.due 3 q.id}:=h.kill rfl rfl rfl
    exact h1
 unfold zeb
 have h0:OnI {s with books:=s.books.map (zgg who)}:=h.same rfl rfl rfl
 exact key _ h0
theorem OnI.new {bs:List zaP}{ps:List zaG}{look beat:Int}:OnI (zcV bs ps look beat):=
 ⟨fun q hq=>(by cases hq),fun a ha=>(by cases ha),fun t ht=>(by cases ht),List.Pairwise.nil,fun a ha=>(by cases ha)⟩
end Go.Proofs.YteocfhdocpeokaaGreat
namespace Go.Proofs.YteocfhdocpeokaaGreat
open Go Go.Sl
attribute [local irreducible] AW ES EP Ld RetQ
set_option maxRecDepth 100000
theorem zi9 (W:World)(a:AskR)(t:zaL)(h:zhs a t=true)(hd:0≤a.dealers∧a.dealers≤18446744073709551615)(h64:zd8 a t<64):zaw Tryz.prog W 64 [.agg a.enc.toArray,.agg t.enc.toArray] [] (.bool true):=by
 refine zaw.ofD (fun h' hs=> ?_)
 obtain⟨aid,client,bond,side,qty,dealers,ends,until_,state,hit⟩:=a
 obtain⟨tid,tbond,buyer,seller,price,tqty,task,tick⟩:=t
 unfold zhs zd8 zi7 at h
 unfold zd8 at h64
 dsimp only at h hd h64
 simp only[Bool.and_eq_true,beq_iff_eq,decide_eq_true_eq]at h
 obtain⟨h1,h2,h3,h4,h5,h6,h7⟩:=h
 subst h2 h3 h4
 rcases zeT h1 with rfl|rfl
 ·rw[if_neg (by decide)]at h5 h6 h7 h64
  subst h5
  have hbit:=zgr (x:=dealers) (i:=seller) hd.1 hd.2 ⟨h6,h64⟩
  rw[if_pos h7]at hbit
  have hmod:seller%18446744073709551616=seller:=Int.emod_eq_of_lt h6 (by omega)
  refine zaf Tryz.func64 rfl rfl Tryz.results64 Tryz.ntmps64 rfl rfl ?_
  repeat' (first|apply zgj hT;iterate 5 exact rfl|apply zah|apply zaa|apply zak|apply zam|apply zag|apply zac hT;iterate 4 exact rfl|apply zaC [] [] hmix;decide+kernel|(apply zab (hs:=((zdx W _).mono (by simp)));iterate 7 exact rfl)|apply ziC hT;(iterate 4 exact rfl);rw[hmod]|apply zdg;(iterate 5 exact rfl);omega|apply zcr;(iterate 6 exact rfl);rw[hbit]|(apply zad;(iterate 5 exact rfl);first|(apply zaq hT;exact rfl;exact rfl;exact mX;exact rfl;exact rfl))|apply zaA;(iterate 5 exact rfl);intro _|apply zan;iterate 2 exact rfl|(apply zaH;exact rfl;all_goals(intro hb;(fail_if_success (change true=true at hb));(fail_if_success (change false=false at hb));(try dsimp only at hb);(try simp only[hb]);(first|replace hb:=odt hb|replace hb:=odf hb);(try omega))))
  all_goals first
   |(exfalso;omega)
   |(apply ret1;exact rfl;exact⟨rfl,dX⟩)
   |skip
 ·rw[if_pos rfl]at h5 h6 h7 h64
  subst h5
  have hbit:=zgr (x:=dealers) (i:=buyer) hd.1 hd.2 ⟨h6,h64⟩
  rw[if_pos h7]at hbit
  have hmod:buyer%18446744073709551616=buyer:=Int.emod_eq_of_lt h6 (by omega)
  refine zaf Tryz.func64 rfl rfl Tryz.results64 Tryz.ntmps64 rfl rfl ?_
  repeat' (first|apply zgj hT;iterate 5 exact rfl|apply zah|apply zaa|apply zak|apply zag|apply zac hT;iterate 4 exact rfl|apply zaC [] [] hmix;decide+kernel|(apply zab (hs:=((zdx W _).mono (by simp)));iterate 7 exact rfl)|apply ziC hT;(iterate 4 exact rfl);rw[hmod]|apply zdg;(iterate 5 exact rfl);omega|apply zcr;(iterate 6 exact rfl);rw[hbit]|(apply zad;(iterate 5 exact rfl);first|(apply zaq hT;exact rfl;exact rfl;exact mX;exact rfl;exact rfl))|apply zaA;(iterate 5 exact rfl);intro _|apply zas;iterate 2 exact rfl|(apply zaH;exact rfl;all_goals(intro hb;(fail_if_success (change true=true at hb));(fail_if_success (change false=false at hb));(try dsimp only at hb);(try simp only[hb]);(first|replace hb:=odt hb|replace hb:=odf hb);(try omega))))
  all_goals first
   |(exfalso;omega)
   |(apply ret1;exact rfl;exact⟨rfl,dX⟩)
   |skip
theorem zp7 (W:World)(h:List zao)(g:Nat)(a:AskR)(t:zaL)(hg:zao.blk g 30 t.enc∈h)(hne:a.id≠t.ask):zaw Tryz.prog W 63 [.agg a.enc.toArray,.pointer (some ⟨g,0,none⟩)] h (.bool false):=by
 refine zaw.ofD (fun h' hs=> ?_)
 have hm:=hs _ hg
 have e1:(a.id==t.ask)=false:=beq_eq_false_iff_ne.2 hne
 refine zaf Tryz.func63 rfl rfl Tryz.results63 Tryz.ntmps63 rfl rfl ?_
 repeat' (first|apply zah|apply zaa|apply zak|apply zag|apply zac hT;iterate 4 exact rfl|apply zaK;iterate 3 exact rfl|(apply zad;(iterate 5 exact rfl);first|(apply zaq hT;exact rfl;exact rfl;(repeat(first|exact mcs|exact hm|apply mcm));exact rfl;exact rfl))|apply zaA;(iterate 5 exact rfl);intro _|(apply zaH;exact rfl;all_goals(intro hb;(fail_if_success (change true=true at hb));(fail_if_success (change false=false at hb));(try dsimp only at hb);(try simp only[hb]);(first|replace hb:=odt hb|replace hb:=odf hb);(try omega))))
 all_goals first
  |(exfalso;omega)
  |(apply ret1;exact rfl;exact⟨rfl,dX⟩)
  |skip
theorem zoN (W:World)(h:List zao)(g:Nat)(a:AskR)(t:zaL)(hg:zao.blk g 30 t.enc∈h)(he:a.id=t.ask)(hb:zhs a t=true)(hd:0≤a.dealers∧a.dealers≤18446744073709551615)(h64:zd8 a t<64):zaw Tryz.prog W 63 [.agg a.enc.toArray,.pointer (some ⟨g,0,none⟩)] h (.bool true):=by
 refine zaw.ofD (fun h' hs=> ?_)
 have hm:=hs _ hg
 have hB:=zi9 W a t hb hd h64
 have e1:(a.id==t.ask)=true:=beq_iff_eq.2 he
 refine zaf Tryz.func63 rfl rfl Tryz.results63 Tryz.ntmps63 rfl rfl ?_
 repeat' (first|apply zah|apply zaa|apply zak|apply zag|apply zac hT;iterate 4 exact rfl|(apply zab (hs:=(hB.mono (by simp)));iterate 7 exact rfl)|(apply zad;(iterate 5 exact rfl);first|(apply zaq hT;exact rfl;exact rfl;(repeat(first|exact mcs|exact hm|apply mcm));exact rfl;exact rfl)|(apply zaF hT;exact rfl;exact rfl;(repeat(first|exact mcs|exact hm|apply mcm));exact rfl))|apply zaA;(iterate 5 exact rfl);intro _|(apply zaH;exact rfl;all_goals(intro hb;(fail_if_success (change true=true at hb));(fail_if_success (change false=false at hb));(try dsimp only at hb);(try simp only[hb]);(first|replace hb:=odt hb|replace hb:=odf hb);(try omega))))
 all_goals first
  |(exfalso;omega)
  |(apply ret1;exact rfl;exact⟨rfl,dX⟩)
  |skip
theorem zs7 (W:World)(h:List zao)(g gm:Nat)(m:List (Int×Value))(a:AskR)(hg:zao.blk g 123 [.map (some gm)]∈h)(hgm:zao.map gm (mapI m)∈h)(h3:a.state=3→getI m a.id=some (.bool true)):zaw Tryz.prog W 65 [.agg a.enc.toArray,.pointer (some ⟨g,0,none⟩)] h (.bool false):=by
 refine zaw.ofD (fun h' hs=> ?_)
 have hm:=hs _ hg
 have hm2:=hs _ hgm
 by_cases hst:a.state=3
 ·have hv:=h3 hst
  have e1:(a.state==3)=true:=beq_iff_eq.2 hst
  refine zaf Tryz.func65 rfl rfl Tryz.results65 Tryz.ntmps65 rfl rfl ?_
  repeat' (first|apply zah|apply zaa|apply zak|apply zag|apply zac hT;iterate 4 exact rfl|(apply zik hT (r:=some (.bool true));(iterate 11 exact rfl);(repeat(first|exact hm2|apply mcm));exact hv)|(apply zad;(iterate 5 exact rfl);first|(apply zaq hT;exact rfl;exact rfl;(repeat(first|exact mcs|exact hm|apply mcm));exact rfl;exact rfl))|apply zaA;(iterate 5 exact rfl);intro _|(apply zaH;exact rfl;all_goals(intro hb;(fail_if_success (change true=true at hb));(fail_if_success (change false=false at hb));(try dsimp only at hb);(try simp only[hb]);(first|replace hb:=odt hb|replace hb:=odf hb);(try omega))))
  all_goals first
   |(exfalso;omega)
   |(apply ret1;exact rfl;exact⟨rfl,dX⟩)
   |skip
 ·have e1:(a.state==3)=false:=beq_eq_false_iff_ne.2 hst
  refine zaf Tryz.func65 rfl rfl Tryz.results65 Tryz.ntmps65 rfl rfl ?_
  repeat' (first|apply zah|apply zaa|apply zak|apply zag|apply zac hT;iterate 4 exact rfl|apply zaK;iterate 3 exact rfl|(apply zad;(iterate 5 exact rfl);first|(apply zaq hT;exact rfl;exact rfl;exact mX;exact rfl;exact rfl))|apply zaA;(iterate 5 exact rfl);intro _|(apply zaH;exact rfl;all_goals(intro hb;(fail_if_success (change true=true at hb));(fail_if_success (change false=false at hb));(try dsimp only at hb);(try simp only[hb]);(first|replace hb:=odt hb|replace hb:=odf hb);(try omega))))
  all_goals first
   |(exfalso;omega)
   |(apply ret1;exact rfl;exact⟨rfl,dX⟩)
   |skip
/-! ### all trades -/
def mpT (l:List zaL):List (Int×Value):=l.foldl (fun m t=>updI m t.ask (.bool true)) []
theorem zk3 :∀(l:List zaL) (m:List (Int×Value)) (k:Int),getI (l.foldl (fun m t=>updI m t.ask (.bool true)) m) k=if l.any (fun t=>t.ask==k)then some (.bool true)else getI m k
 |[],m,k=>rfl
 |t::l,m,k=>by
  rw[List.foldl_cons,zk3 l,zlO,List.any_cons]
  by_cases h:t.ask=k
  ·rw[if_pos (show k=t.ask from h.symm),show(t.ask==k)=true from beq_iff_eq.2 h,Bool.true_or]
   simp
  ·rw[if_neg (show ¬k=t.ask from fun e=>h e.symm),show(t.ask==k)=false from beq_eq_false_iff_ne.2 h,Bool.false_or]
theorem zp8 (l:List zaL)(t:zaL):mpT (l++[t])=updI (mpT l) t.ask (.bool true):=by simp[mpT,List.foldl_append]
theorem zrK {l:List zaL}{k:Int}(h:∀t∈l,t.ask≠k):getI (mpT l) k=none:=by
 unfold mpT
 rw[zk3,if_neg]
 ·rfl
 ·simp only[List.any_eq_true,beq_iff_eq,not_exists,not_and]
  exact h
theorem zra {l:List zaL}{t:zaL}(h:t∈l):getI (mpT l) t.ask=some (.bool true):=by
 unfold mpT
 rw[zk3,if_pos]
 simp only[List.any_eq_true,beq_iff_eq]
 exact⟨t,h,rfl⟩
theorem zrb {α:Type}{p:α→Bool}{l:List α}{x:α}(hx:x∈l)(hp:p x=true):decide (zaT p l≥0)=true:=by
 rcases zc3 (p:=p) l with ⟨_,hf⟩|⟨i,y,hi,_⟩
 ·exact absurd hp (by simpa using List.find?_eq_none.1 hf x hx)
 ·rw[hi];exact decide_eq_true (by omega)
theorem zrL {α:Type}{l:List α}:decide (zaT (fun _:α=>false) l≥0)=false:=by
 rcases zc3 (p:=fun _:α=>false) l with ⟨hi,_⟩|⟨i,y,_,_,hp,_⟩
 ·rw[hi];decide
 ·cases hp
structure zrc (al:List AskR)(ts:List zaL):Prop where
 up:upA al
 dl:∀a∈al,0≤a.dealers∧a.dealers≤18446744073709551615
 sm:∀t∈ts,t.buyer<64∧t.seller<64
 o1:∀t∈ts,t.ask≠0→∃a∈al,a.id=t.ask∧zhs a t=true
 o2:ts.Pairwise fun t u=>t.ask≠0→t.ask≠u.ask
 o3:∀a∈al,a.state=3→∃t∈ts,t.ask=a.id
theorem zir (W:World)(h:List zao)(A1:Option Addr)(c1:Nat)(as':List AskR)(A2:Option Addr)(c2:Nat)(ts:List zaL)(hr1:zaz W h A1 as'.length 10 (as'.flatMap AskR.enc))(hr2:zaz W h A2 ts.length 8 (ts.flatMap zaL.enc))(hb1:as'.length≤1000000)(hb2:ts.length≤1000000)(hI:zrc as' ts):
 zaw Tryz.prog W 21 [.slice A1 as'.length c1,.slice A2 ts.length c2] h (.bool true):=by
 refine zaw.ofD (fun h' hs=> ?_)
 have hr1:=hr1.mono hs
 have hr2:=hr2.mono hs
 refine zaf Tryz.func21 rfl rfl Tryz.results21 Tryz.ntmps21 rfl rfl ?_
 refine zaI hr2 rfl (fun hA=> ?_)
 repeat' (first|apply zah|apply zaa|apply zaj|apply zag|apply zac hT;iterate 4 exact rfl|apply zij;(iterate 4 exact rfl);intro gm|(apply zay hT;(iterate 5 exact rfl);first|(fail_if_success (have q:=g5));intro g5)|(apply zar hT;(iterate 6 exact rfl);exact sX;(iterate 3 exact rfl);exact nle rfl))
 refine za1 (α:=Nat) (E:=fun k=>[(0,.slice A1 as'.length c1),(5,.pointer (some ⟨g5,0,none⟩)),(9,.slice A2 ts.length c2),(10,.int .i64 ts.length),(11,.int .i64 k)])
  (H:=fun k=>.blk g5 123 [.map (some gm)]::.map gm (mapI (mpT (ts.take k)))::h') (μ:=fun k=>ts.length - k)
  (S:=fun k=>k≤ts.length) 0 (Nat.zero_le _) ⟨rfl,rfl,rfl,rfl,rfl,trivial⟩ (by show za7 _ (.blk g5 123 [.map (some gm)]::.map gm []::h');exact dX) ?_
 intro k hk
 by_cases hlt:k<ts.length
 ·obtain⟨x,hx⟩:∃x,ts[k]? =some x:=⟨ts[k]'hlt,gge hlt⟩
  have hx2:ts[(k:Int).toNat]? =some x:=by simpa using hx
  have hxm:=mog hx
  have hA':=hA (by omega)
  have hd1:decide ((k:Int)<(ts.length:Int))=true:=by simp;omega
  have hst:mpT (ts.take (k+1))=updI (mpT (ts.take k)) x.ask (.bool true):=by
   rw[List.take_add_one,hx]
   exact zp8 _ _
  have hno:x.ask≠0→getI (mpT (ts.take k)) x.ask=none:=fun h0=>zrK (fun t ht he=>by
   obtain⟨j,hj⟩:=List.getElem?_of_mem ht
   have hjk:j<k:=by
    have:=(gsi.1 hj).1
    rw[llt]at this;omega
   rw[List.getElem?_take_of_lt hjk]at hj
   obtain⟨hjl,hje⟩:=gsi.1 hj
   obtain⟨hkl,hke⟩:=gsi.1 hx
   have:=List.pairwise_iff_getElem.1 hI.o2 j k hjl hkl hjk
   rw[hje,hke]at this
   exact this (by rw[he];exact h0) he)
  have hcf:x.ask≠0→∀h2 g,(∀c∈h',c∈h2)→zao.blk g 30 x.enc∈h2→zaw Tryz.prog W 62 [.slice A1 as'.length c1,.func (.func 63) #[] #[.pointer (some ⟨g,0,none⟩)]] h2 (.bool true):=fun h0 h2 g hk2 hg=>by
   obtain⟨b,hb,hbi,hbt⟩:=hI.o1 x hxm h0
   have hsm:=hI.sm x hxm
   refine(zc7 W h2 A1 as'.length c1 as' rfl (hr1.mono hk2) 63 [.pointer (some ⟨g,0,none⟩)] (fun a=>a.id==x.ask) (fun a ha=> ?_) (by omega)).cast (by rw[zrb (p:=fun a=>a.id==x.ask) hb (beq_iff_eq.2 hbi)])
   by_cases he:a.id=x.ask
   ·obtain rfl:=zdB hI.up ha hb (by rw[he,hbi])
    rw[show(a.id==x.ask)=true from beq_iff_eq.2 he]
    exact zoN W h2 g a x hg he hbt (hI.dl a ha) (by unfold zd8;split<;>omega)
   ·rw[show(a.id==x.ask)=false from beq_eq_false_iff_ne.2 he]
    exact zp7 W h2 g a x hg he
  generalize mpT (ts.take k)=m at*
  by_cases h0:x.ask=0
  ·have e0:(x.ask==0)=true:=beq_iff_eq.2 h0
   rw[h0]at hst
   repeat' (first|apply zah|apply zaa|apply zam|apply zaN|apply zaj|apply zag|apply zac hT;iterate 4 exact rfl|(apply zaM hT;(iterate 4 exact rfl);(iterate 2 (first|omega)))|apply zaJ hT;(iterate 8 exact rfl);(iterate 2 omega);exact hA'|(apply zad;(iterate 5 exact rfl);first|exact zaO hT rfl rfl (hr2.mono kX) zaL.enc_len rfl hx2 rfl)|(apply zay hT;(iterate 5 exact rfl);first|(fail_if_success (have q:=g7));intro g7)|(apply zgf hT;(iterate 10 exact rfl);exact sX)|(apply zar hT;(iterate 6 exact rfl);exact sX;(iterate 3 exact rfl);exact nle rfl)|(apply zad;(iterate 5 exact rfl);first|(apply zaq hT;exact rfl;exact rfl;exact mX;exact rfl;exact rfl))|(apply zal;exact rfl;all_goals(intro hb;(try dsimp only at hb);(try simp only[hb]);(first|replace hb:=odt hb|replace hb:=odf hb);(try omega))))
   all_goals first
    |(exfalso;omega)
    |exact zaD (k+1) (by(try dsimp only);omega) (by(try dsimp only);omega) ⟨rfl,rfl,rfl,rfl,rfl,trivial⟩ (by(try dsimp only);rw[hst];exact dX)
    |skip
  ·have e0:(x.ask==0)=false:=beq_eq_false_iff_ne.2 h0
   have hno:=hno h0
   have hcf:=hcf h0
   repeat' (first|apply zah|apply zaa|apply zam|apply zaj|apply zag|apply zac hT;iterate 4 exact rfl|(apply zaM hT;(iterate 4 exact rfl);(iterate 2 (first|omega)))|apply zaJ hT;(iterate 8 exact rfl);(iterate 2 omega);exact hA'|(apply zad;(iterate 5 exact rfl);first|exact zaO hT rfl rfl (hr2.mono kX) zaL.enc_len rfl hx2 rfl)|(apply zay hT;(iterate 5 exact rfl);first|(fail_if_success (have q:=g7));intro g7)|(apply zik hT (r:=none);(iterate 11 exact rfl);exact mX;exact hno)|(apply zab (hs:=(hcf _ g7 kX mX));iterate 7 exact rfl)|(apply zgf hT;(iterate 10 exact rfl);exact sX)|(apply zar hT;(iterate 6 exact rfl);exact sX;(iterate 3 exact rfl);exact nle rfl)|(apply zad;(iterate 5 exact rfl);first|(apply zaq hT;exact rfl;exact rfl;exact mX;exact rfl;exact rfl))|(apply zan;iterate 2 exact rfl)|(apply zal;exact rfl;all_goals(intro hb;(try dsimp only at hb);(try simp only[hb]);(first|replace hb:=odt hb|replace hb:=odf hb);(try omega))))
   all_goals first
    |(exfalso;omega)
    |exact zaD (k+1) (by(try dsimp only);omega) (by(try dsimp only);omega) ⟨rfl,rfl,rfl,rfl,rfl,trivial⟩ (by(try dsimp only);rw[hst];exact dX)
    |skip
 ·obtain rfl:k=ts.length:=by omega
  have hd1:decide ((ts.length:Int)<(ts.length:Int))=false:=by simp
  rw[List.take_length]
  have hm3:∀a∈as',a.state=3→getI (mpT ts) a.id=some (.bool true):=fun a ha h3=>by
   obtain⟨t,ht,he⟩:=hI.o3 a ha h3
   rw[←he];exact zra ht
  generalize mpT ts=m at*
  have hcf:=fun h2 (hk2:∀c∈h',c∈h2) (hg:zao.blk g5 123 [.map (some gm)]∈h2) (hgm:zao.map gm (mapI m)∈h2)=>(zc7 W h2 A1 as'.length c1 as' rfl (hr1.mono hk2) 65 [.pointer (some ⟨g5,0,none⟩)] (fun _=>false) (fun a ha=>zs7 W h2 g5 gm m a hg hgm (hm3 a ha)) (by omega)).cast (u:=.bool false) (by rw[zrL])
  repeat' (first|apply zah|apply zaa|apply zak|apply zaN|apply zag|apply zac hT;iterate 4 exact rfl|(apply zab (hs:=(hcf _ kX mX mX));iterate 7 exact rfl)|(apply zal;exact rfl;all_goals(intro hb;(try dsimp only at hb);(try simp only[hb]);(first|replace hb:=odt hb|replace hb:=odf hb);(try omega))))
  all_goals first
   |(exfalso;omega)
   |(apply ret1;exact rfl;exact⟨rfl,dX⟩)
   |skip
def zdR (l:List zaL):List Int:=(List.range l.length).map fun k=>zd6 (l.take (k+1))
theorem zmG (l:List zaL):(zdR l).length=l.length:=by simp[zdR]
theorem zmH (l:List zaL)(t:zaL):zd6 (l++[t])=((zcf (zd6 l).toNat (zbR t):Nat):Int):=by
 unfold zd6
 rw[List.foldl_append];rfl
theorem zk4 {l:List zaL}{k:Nat}{t:zaL}(ht:l[k]? =some t):zdR (l.take (k+1))=zdR (l.take k)++[zd6 (l.take (k+1))]:=by
 have hk:=(gsi.1 ht).1
 have e1:(l.take (k+1)).length=k+1:=by rw[llt];omega
 have e2:(l.take k).length=k:=by rw[llt];omega
 unfold zdR
 rw[e1,e2,List.range_succ,List.map_append,List.map_singleton]
 congr 1
 ·refine List.map_congr_left (fun j hj=> ?_)
  have:=List.mem_range.1 hj
  rw[List.take_take,List.take_take]
  congr 2
  omega
 ·rw[List.take_take,Nat.min_self]
theorem zp9 (l:List zaL):0≤zd6 l∧(zd6 l).toNat<2^64:=by
 have key:∀(l:List zaL) (x:Int),0≤x→x.toNat<2^64→0≤l.foldl (fun(h:Int) t=>((zcf h.toNat (zbR t):Nat):Int)) x∧(l.foldl (fun(h:Int) t=>((zcf h.toNat (zbR t):Nat):Int)) x).toNat<2^64:=by
  intro l
  induction l with
  |nil=>intro x h1 h2;exact⟨h1,h2⟩
  |cons t l ih=>
   intro x h1 h2
   rw[List.foldl_cons]
   exact ih _ (Int.natCast_nonneg _) (by rw[Int.toNat_natCast];exact zg5 h2)
 exact key l 0 (Int.le_refl _) (by decide)
theorem zmI (W:World)(h:List zao)(A:Option Addr)(c:Nat)(l:List zaL)(hr:zaz W h A l.length 8 (l.flatMap zaL.enc))(hb:l.length≤1000000)(hwt:∀t∈l,zeK t):
 zax Tryz.prog W 58 [.slice A l.length c] h (fun v h'=>∃A' c',v=.slice A' l.length c'∧h'=.own A' l.length c' 73 1 ((zdR l).map (Value.int .u64))::h∧OwnF A' l.length c' 1 ((zdR l).map (Value.int .u64))):=by
 refine zax.dropF ?_
 refine zaf Tryz.func58 rfl rfl Tryz.results58 Tryz.ntmps58 rfl rfl ?_
 refine zaI hr rfl (fun hA=> ?_)
 refine zbI (fun w hw=>⟨_,hw.own_nil 73 1,?_⟩)
 repeat' (first|apply zah|apply zaa|apply zaj|apply zag|apply zac hT;iterate 4 exact rfl)
 refine za1 (α:=Nat×Sp) (E:=fun z=>[(3,.slice z.2.A z.1 z.2.c),(4,.int .u64 (zd6 (l.take z.1))),(7,.slice A l.length c),(8,.int .i64 l.length),(9,.int .i64 z.1)])
  (H:=fun z=>.own z.2.A z.1 z.2.c 73 1 ((zdR (l.take z.1)).map (Value.int .u64))::h) (μ:=fun z=>l.length - z.1)
  (S:=fun z=>z.1≤l.length) (0,⟨none,0⟩) (Nat.zero_le _) ⟨rfl,rfl,rfl,rfl,rfl,trivial⟩ (by show za7 _ (.own none 0 0 73 1 []::h);exact dX) ?_
 rintro⟨k,o⟩ hk
 dsimp only at hk ⊢
 by_cases hlt:k<l.length
 ·obtain⟨t,ht⟩:∃t,l[k]? =some t:=⟨l[k]'hlt,gge hlt⟩
  have ht2:l[(k:Int).toNat]? =some t:=by simpa using ht
  have hA':=hA (by omega)
  have htw:=hwt t (mog ht)
  have hin:=zp9 (l.take k)
  have hst:=zk4 ht
  have hsn:zd6 (l.take (k+1))=((zcf (zd6 (l.take k)).toNat (zbR t):Nat):Int):=by rw[List.take_add_one,ht];exact zmH _ _
  have hhl:(zdR (l.take k)).length=k:=by rw[zmG,llt];omega
  have hd1:decide ((k:Int)<(l.length:Int))=true:=by simp;omega
  have hB:=fun h'=>zh6 W h' t htw
  have hC:=fun h' A' c' hr=>zjQ W h' A' c' (zd6 (l.take k)).toNat (zbR t) hin.2 (zlA _) hr (Nat.le_trans (zh5 htw) (by omega))
  rw[Int.toNat_of_nonneg hin.1]at hC
  generalize zdR (l.take k)=hs at*
  generalize zd6 (l.take k)=hd at*
  generalize zcf hd.toNat (zbR t)=nx at*
  repeat' (first|apply zah|apply zaa|apply zam|apply zaj|apply zag|apply zac hT;iterate 4 exact rfl|(apply zaM hT;(iterate 4 exact rfl);(iterate 2 (first|omega)))|apply zaJ hT;(iterate 8 exact rfl);(iterate 2 omega);exact hA'|(apply zad;(iterate 5 exact rfl);first|exact zaO hT rfl rfl (hr.mono kX) zaL.enc_len rfl ht2 rfl|(apply zaF hT;exact rfl;exact rfl;exact mX;exact rfl))|(apply zay hT;(iterate 5 exact rfl);first|(fail_if_success (have q:=g6));intro g6)|(apply zar hT;(iterate 6 exact rfl);exact sX;(iterate 3 exact rfl);exact nle rfl)|(apply zau (hs:=(hB _));(iterate 7 exact rfl);rintro _ _ ⟨A1,c1,rfl,rfl⟩)|(apply zab (hs:=(hC _ A1 c1 (zaz.own mem0 (by simp) (fun v hv=>by obtain⟨y,_,rfl⟩:=lmm.1 hv;rfl))));iterate 7 exact rfl)|(apply zaB (cs:=[.int .u64 (nx:Int)]) hT;(iterate 12 exact rfl);intro g19)|(apply zbb hT;(iterate 10 exact rfl);exact sX;exact zaz.own mem0 rfl (List.all_eq_true.1 rfl);omega;(show(_:Nat)*8≤_;omega);intro A' c')|(apply zal;exact rfl;all_goals(intro hb;(try dsimp only at hb);(try simp only[hb]);(first|replace hb:=odt hb|replace hb:=odf hb);(try omega))))
  all_goals first
   |(exfalso;omega)
   |exact zaD (k+1,⟨A',c'⟩) (by dsimp only;omega) (by dsimp only;omega) ⟨rfl,by dsimp only;rw[hsn];rfl,rfl,rfl,rfl,trivial⟩ (by dsimp only;rw[hst,List.map_append,List.map_singleton,hsn];exact dX)
   |skip
 ·obtain rfl:k=l.length:=by omega
  have hd1:decide ((l.length:Int)<(l.length:Int))=false:=by simp
  rw[List.take_length]
  repeat' (first|apply zah|apply zaa|apply zak|apply zaN|apply zag|apply zac hT;iterate 4 exact rfl|(apply zal;exact rfl;all_goals(intro hb;(try dsimp only at hb);(try simp only[hb]);(first|replace hb:=odt hb|replace hb:=odf hb);(try omega))))
  all_goals first
   |(exfalso;omega)
   |(apply ret1;exact rfl;exact⟨_,dX,fun w hw=>⟨o.A,o.c,rfl,rfl,hw.ownF mem0⟩⟩)
   |skip
theorem zmJ {l:List zaL}(h:0<l.length):(zdR l)[((l.length:Int) - 1).toNat]? =some (zd6 l):=by
 have e:((l.length:Int) - 1).toNat=l.length - 1:=by omega
 rw[e]
 unfold zdR
 rw[List.getElem?_map,List.getElem?_range (by omega)]
 simp only[Option.map_some]
 rw[show l.length - 1+1=l.length by omega,List.take_length]
theorem zk5 (W:World)(h:List zao)(AB:Option Addr)(cB:Nat)(bs:List zaP)(AP:Option Addr)(cP:Nat)(ps:List zaG)(look beat:Int)(hrB:zaz W h AB bs.length 7 (bs.flatMap zaP.enc))(hrP:zaz W h AP ps.length 3 (ps.flatMap zaG.enc))(hR:isR bs ps look beat=true)
 (x:DAd) (s:Dk) (bks:List BAd) (rows:List PRow) (hps:PsOK ps.length bs.length (psOf s.cash rows)) (hsum:zn4 ps.length bs.length s.trades (psOf s.cash rows)=true) (hhd:s.head=zd6 s.trades) (htw:∀t∈s.trades,zeK t) (hnt:s.trades.length≤1000000)
 (hon:zrc s.asks s.trades) (hna:s.asks.length≤1000000) (hen:zj5 s.asks s.now look=true) (hew:∀a∈s.asks,inW a.ends∧inW (a.ends+look)) (hbk:∀b∈bks,za6 b.l∧zp2 b.l) (hlb:bks.length=bs.length) (hls:s.books.length=bs.length)
 (hd:∀c∈zae x s bks rows [],c∈h):zaw Tryz.prog W 20 [zdi AB bs.length cB AP ps.length cP look beat,ptrV x.d] h (.bool true):=by
 refine zaw.ofD (fun h' hs=> ?_)
 have hd':∀c∈zae x s bks rows [],c∈h':=fun c hc=>hs c (hd c hc)
 have hrB':=hrB.mono hs
 have hrP':=hrP.mono hs
 obtain⟨⟨b1,b2⟩,⟨p1,p2⟩,lk1,lk2⟩:=zkM hR
 have hFI:=(zkq W h' AB cB bs AP cP ps look beat hrB' hrP' (by omega) (by omega)).cast (u:=.bool true) (by rw[hR])
 have md:zao.blk x.d 112 (zbD x s)∈h':=hd' _ (by unfold zae;exact mX)
 have mb:zao.blk x.b 149 [x.trades.sl s.trades.length,.int .u64 s.head]∈h':=hd' _ (by unfold zae;exact mX)
 have mt:x.trades.own s.trades.length 30 8 (s.trades.flatMap zaL.enc)∈h':=hd' _ (by unfold zae;exact mX)
 have ma:zao.blk x.a 144 [x.asks.sl s.asks.length]∈h':=hd' _ (by unfold zae;exact mX)
 have mas:x.asks.own s.asks.length 87 10 (s.asks.flatMap AskR.enc)∈h':=hd' _ (by unfold zae;exact mX)
 have mbk:x.books.own s.books.length 113 1 (bks.map BAd.ptr)∈h':=hd' _ (by unfold zae;exact mX)
 have mps:∀c∈zbo x.p x.cash.A x.cash.c x.pos.A x.pos.c s.cash rows [],c∈h':=fun c hc=>by
  refine hd' c ?_
  unfold zbo at hc
  rw[List.append_nil]at hc
  rcases List.mem_cons.1 hc with rfl|hc
  ·unfold zae;exact mX
  rcases List.mem_cons.1 hc with rfl|hc
  ·unfold zae;exact mX
  rcases List.mem_cons.1 hc with rfl|hc
  ·unfold zae;exact mX
  unfold zae
  iterate 18 refine mcm _ ?_
  exact mar _ (List.mem_append_left _ hc)
 have mck:∀b∈bks,∀c∈BAd.ck b,c∈h':=fun b hb c hc=>by
  refine hd' c ?_
  unfold zae
  iterate 18 refine mcm _ ?_
  exact List.mem_append_left _ (List.mem_flatMap.2 ⟨b,hb,hc⟩)
 have hTr:=fun k (hk:∀c∈h',c∈k)=>ze1 W k x s (hk _ md) (hk _ mb) (hk _ mt) hnt
 have hAs:=fun k (hk:∀c∈h',c∈k)=>zg8 W k x s (hk _ md) (hk _ ma) (hk _ mas) hna
 have hHd:=fun k (hk:∀c∈h',c∈k)=>(zjN W x s _).mono (h':=k) (zbp (hk _ md) (hk _ mb))
 have hPo:=fun k (hk:∀c∈h',c∈k)=>(zlx W x s).mono (h':=k) (zdr (hk _ md))
 have hNo:=fun k (hk:∀c∈h',c∈k)=>(zlw W x s).mono (h':=k) (zdr (hk _ md))
 have hpq:∀t∈s.trades,inW t.price∧inW t.qty:=fun t ht=>⟨htw t ht _ (by simp),htw t ht _ (by simp)⟩
 have hSu:=fun k (hk:∀c∈h',c∈k) A c hr=>(zin W k ps.length bs.length ⟨by omega,by omega⟩ A c s.trades hr hnt hpq x.p x.cash.A x.cash.c x.pos.A x.pos.c s.cash rows hps (fun c hc=>hk c (mps c hc))).cast (u:=.bool true) (by rw[hsum])
 have hEn:=fun k A c hr=>(ze7 W k A c s.asks s.now look hr hna (by unfold inW;omega) hew).cast (u:=.bool true) (by rw[hen])
 have hBo:=fun i b hi k (hk:∀c∈h',c∈k)=>(zjO W x s bks i b (by omega) hi (by omega)).mono (h':=k) (zbp (hk _ md) (hk _ mbk))
 have hUn:=fun b (hb:b∈bks) k (hk:∀c∈h',c∈k)=>(zeo W b.p b.s.A b.s.c b.l (hbk b hb).1).mono (h':=k) (fun c hc=>hk _ (mck b hb c hc))
 have hOn:=fun k A c A2 c2 hr1 hr2=>zir W k A c s.asks A2 c2 s.trades hr1 hr2 hna hnt hon
 have hHe:=fun k A c hr=>zmI W k A c s.trades hr hnt htw
 rw[hhd]at hHd
 have hlast:=fun h=>zmJ (l:=s.trades) h
 have h00:s.trades.length=0→zd6 s.trades=0:=fun h=>by
  have:s.trades=[]:=List.eq_nil_of_length_eq_zero h
  rw[this];rfl
 clear hd hd' md mb mt ma mas mbk mps mck hps
 refine zaf Tryz.func20 rfl rfl Tryz.results20 Tryz.ntmps20 rfl rfl ?_
 refine zaI hrB' rfl (fun hA=> ?_)
 repeat' (first|apply zah|apply zaa|apply zam|apply zaj|apply zag|apply zac hT;iterate 4 exact rfl|apply zaA;(iterate 5 exact rfl);intro g2|(apply zab (hs:=(hFI.mono kX));iterate 7 exact rfl)|(apply zad;(iterate 5 exact rfl);first|(apply zaq hT;exact rfl;exact rfl;exact mX;exact rfl;exact rfl)|(apply zaF hT;exact rfl;exact rfl;exact mX;exact rfl))|apply zan;iterate 2 exact rfl)
 all_goals try omega
 refine za1 (α:=Nat) (E:=fun k=>[(1,ptrV x.d),(2,.pointer (some ⟨g2,0,none⟩)),(18,.int .i64 bs.length),(19,.int .i64 k)]) (H:=fun _=>.blk g2 53 [.slice AB bs.length cB,.slice AP ps.length cP,.int .i64 look,.int .i64 beat]::h') (μ:=fun k=>bs.length - k)
  (S:=fun k=>k≤bs.length) 0 (Nat.zero_le _) ⟨rfl,rfl,rfl,rfl,trivial⟩ dX ?_
 intro k hk
 by_cases hlt:k<bs.length
 ·obtain⟨b,hbb⟩:∃b,bks[k]? =some b:=⟨bks[k]'(by omega),gge (by omega)⟩
  have hbm:=mog hbb
  have hU:=fun k hk=>(hUn b hbm k hk).cast (u:=.bool true) (by rw[←zmC (hbk b hbm).1,decide_eq_true (hbk b hbm).2])
  have hd1:decide ((k:Int)<(bs.length:Int))=true:=by simp;omega
  repeat' (first|apply zah|apply zaa|apply zam|apply zaj|apply zag|apply zac hT;iterate 4 exact rfl|(apply zaM hT;(iterate 4 exact rfl);(iterate 2 (first|omega)))|(apply zab (hs:=(hBo k b hbb _ kX));iterate 7 exact rfl)|(apply zab (hs:=(hU _ kX));iterate 7 exact rfl)|apply zan;iterate 2 exact rfl|(apply zal;exact rfl;all_goals(intro hb;(try dsimp only at hb);(try simp only[hb]);(first|replace hb:=odt hb|replace hb:=odf hb);(try omega))))
  all_goals first
   |(exfalso;omega)
   |exact zaD (k+1) (by(try dsimp only);omega) (by(try dsimp only);omega) ⟨rfl,rfl,rfl,rfl,trivial⟩ dX
   |skip
 ·obtain rfl:k=bs.length:=by omega
  have hd1:decide ((bs.length:Int)<(bs.length:Int))=false:=by simp
  generalize zd6 s.trades=hdv at*
  generalize zdR s.trades=hsv at*
  by_cases hz:s.trades.length=0
  ·have h00:=h00 hz
   subst h00
   repeat' (first|apply zgj hT;iterate 5 exact rfl|apply zah|apply zaa|apply zak|apply zam|apply zaN|apply zag|apply zac hT;iterate 4 exact rfl|(apply zbZ [59,60,10,21,61,39] [22] (.step 0 <| .step 1 <| .step 2 <| .step 3 <| .step 4 <| .step 5 <| .step 6 <| .step 7 <| .step 8 <| .step 9 <| .step 10 <| .step 11 <| .step 12 <| .step 13 <| .step 14 <| .step 15 <| .step 16 <| .step 17 <| .step 19 <| .step 18 <| .step 20 <| .step 21 <| .step 22 <| .step 23 <| .step 25 <| .step 27 <| .step 28 <| .step 24 <| .step 26 <| .step 29 <| .step 30 <| .step 31 <| .nil) hmix;decide+kernel)|apply zcJ|apply zb7;exact rfl|(apply zau (hs:=(hTr _ kX));(iterate 7 exact rfl);rintro _ _ ⟨A6,c6,rfl,rfl⟩)|(apply zau (hs:=(hHe _ A6 c6 (zaz.enc zaL.enc_len zaL.enc_one mX rfl)));(iterate 7 exact rfl);rintro _ _ ⟨A8,c8,rfl,rfl,v8⟩)|(apply zab (hs:=(hHd _ kX));iterate 7 exact rfl)|(apply zab (hs:=(hPo _ kX));iterate 7 exact rfl)|(apply zab (hs:=(hSu _ kX A6 c6 (zaz.enc zaL.enc_len zaL.enc_one mX rfl)));iterate 7 exact rfl)|(apply zcz (hs:=(hAs _ kX));(iterate 7 exact rfl);first|(fail_if_success (have q:=A7));rintro _ _ ⟨A7,c7,rfl,rfl⟩;refine⟨[_],rfl,?_⟩|rintro _ _ ⟨A9,c9,rfl,rfl⟩;refine⟨[_],rfl,?_⟩)|(apply zab;(iterate 7 exact rfl);exact(hOn _ A7 c7 A6 c6 (zaz.enc AskR.enc_len AskR.enc_one mX rfl) (zaz.enc zaL.enc_len zaL.enc_one mX rfl)))|(apply zab (hs:=(hNo _ kX));iterate 7 exact rfl)|(apply zab;(iterate 7 exact rfl);exact(hEn _ A9 c9 (zaz.enc AskR.enc_len AskR.enc_one mX rfl)))|(apply zad;(iterate 5 exact rfl);first|(apply zaq hT;exact rfl;exact rfl;exact mX;exact rfl;exact rfl))|(apply zal;exact rfl;all_goals(intro hb;(try dsimp only at hb);(try simp only[hb]);(first|replace hb:=odt hb|replace hb:=odf hb);(try omega))))
   all_goals first
    |(exfalso;omega)
    |(apply ret1;exact rfl;exact⟨rfl,dX⟩)
    |skip
  ·have hlast:=hlast (by omega)
   repeat' (first|apply zgj hT;iterate 5 exact rfl|apply zah|apply zaa|apply zak|apply zaN|apply zag|apply zac hT;iterate 4 exact rfl|(apply zaM hT;(iterate 4 exact rfl);(iterate 2 (first|omega)))|(apply zbZ [59,60,10,21,61,39] [22] (.step 0 <| .step 1 <| .step 2 <| .step 3 <| .step 4 <| .step 5 <| .step 6 <| .step 7 <| .step 8 <| .step 9 <| .step 10 <| .step 11 <| .step 12 <| .step 13 <| .step 14 <| .step 15 <| .step 16 <| .step 17 <| .step 19 <| .step 18 <| .step 20 <| .step 21 <| .step 22 <| .step 23 <| .step 25 <| .step 27 <| .step 28 <| .step 24 <| .step 26 <| .step 29 <| .step 30 <| .step 31 <| .nil) hmix;decide+kernel)|apply zcJ|apply zb7;exact rfl|(apply zau (hs:=(hTr _ kX));(iterate 7 exact rfl);rintro _ _ ⟨A6,c6,rfl,rfl⟩)|(apply zau (hs:=(hHe _ A6 c6 (zaz.enc zaL.enc_len zaL.enc_one mX rfl)));(iterate 7 exact rfl);rintro _ _ ⟨A8,c8,rfl,rfl,v8⟩)|(apply zaJ hT;(iterate 8 exact rfl);(iterate 2 omega);exact v8.some_ (by omega))|(apply zad;(iterate 5 exact rfl);exact zbe hT rfl rfl (v8.reads mX) rfl (zeG (kd:=.u64) hlast))|(apply zab (hs:=(hHd _ kX));iterate 7 exact rfl)|(apply zab (hs:=(hPo _ kX));iterate 7 exact rfl)|(apply zab (hs:=(hSu _ kX A6 c6 (zaz.enc zaL.enc_len zaL.enc_one mX rfl)));iterate 7 exact rfl)|(apply zcz (hs:=(hAs _ kX));(iterate 7 exact rfl);first|(fail_if_success (have q:=A7));rintro _ _ ⟨A7,c7,rfl,rfl⟩;refine⟨[_],rfl,?_⟩|rintro _ _ ⟨A9,c9,rfl,rfl⟩;refine⟨[_],rfl,?_⟩)|(apply zab;(iterate 7 exact rfl);exact(hOn _ A7 c7 A6 c6 (zaz.enc AskR.enc_len AskR.enc_one mX rfl) (zaz.enc zaL.enc_len zaL.enc_one mX rfl)))|(apply zab (hs:=(hNo _ kX));iterate 7 exact rfl)|(apply zab;(iterate 7 exact rfl);exact(hEn _ A9 c9 (zaz.enc AskR.enc_len AskR.enc_one mX rfl)))|(apply zad;(iterate 5 exact rfl);first|(apply zaq hT;exact rfl;exact rfl;exact mX;exact rfl;exact rfl))|(apply zal;exact rfl;all_goals(intro hb;(try dsimp only at hb);(try simp only[hb]);(first|replace hb:=odt hb|replace hb:=odf hb);(try omega))))
   all_goals first
    |(exfalso;omega)
    |(apply ret1;exact rfl;exact⟨rfl,dX⟩)
    |skip
def runD (s:Dk)(l:List zcy):Dk:=l.foldl (fun s a=>(actD s a).1) s
theorem zoO {s:Dk}{l:List zcy}{k:Nat}{a:zcy}(h:l[k]? =some a):runD s (l.take (k+1))=(actD (runD s (l.take k)) a).1:=by
 unfold runD
 rw[List.take_add_one,h,List.foldl_append];rfl
theorem zk6 :∀(l:List zcy) {N:Nat} {s:Dk},DOK N s→OwnI s→DOK (N+40*l.length) (runD s l)∧OwnI (runD s l)
 |[],N,s,hD,hO=>⟨hD,hO⟩
 |a::l,N,s,hD,hO=>by
  obtain⟨h1,h2⟩:=zhq hD hO a
  have:=zk6 l h1 h2
  rw[List.length_cons,show N+40*(l.length+1)=N+40+40*l.length by omega]
  exact this
theorem zoP {w:Int}(hw:w=0∨w=1∨w=2∨w=3):DOK 0 (wayD w)∧OwnI (wayD w):=⟨DOK.new (wayR hw),OwnI.new⟩
theorem zlS {s:Dk}(hB:BkI s):∀k,BkI (zbL k s).1
 |0=>hB
 |k+1=>(zlS hB k).tick
theorem zrM {N:Nat}{s:Dk}(hD:DOK N s)(hN:N≤10000)(hB:BkI s)(a:zcy):BkI (actD s a).1:=by
 unfold actD
 split
 ·exact hB.do' hD hN a.who a.n a.msg
 ·split
  ·exact hB.tick
  ·split
   ·exact hB.gone a.who
   ·exact zlS hB _
theorem zoQ :∀(l:List zcy) {N:Nat} {s:Dk},DOK N s→OwnI s→N+40*l.length≤10000→BkI s→BkI (runD s l)
 |[],N,s,_,_,_,hB=>hB
 |a::l,N,s,hD,hO,hN,hB=>by
  rw[List.length_cons]at hN
  exact zoQ l (zhq hD hO a).1 (zhq hD hO a).2 (by omega) (zrM hD (by omega) hB a)
theorem zlT {N:Nat}{s:Dk}(hD:DOK N s)(hO:OwnI s)(hB:OnI s):∀k,OnI (zbL k s).1
 |0=>hB
 |k+1=>(zlT hD hO hB k).tick (zeC hD hO k).1
theorem zrN {N:Nat}{s:Dk}(hD:DOK N s)(hO:OwnI s)(hB:OnI s)(a:zcy):OnI (actD s a).1:=by
 unfold actD
 split
 ·exact hB.do' hD a.who a.n a.msg
 ·split
  ·exact hB.tick hD
  ·split
   ·exact hB.gone a.who
   ·exact zlT hD hO hB _
theorem zoR :∀(l:List zcy) {N:Nat} {s:Dk},DOK N s→OwnI s→OnI s→OnI (runD s l)
 |[],N,s,_,_,hB=>hB
 |a::l,N,s,hD,hO,hB=>zoR l (zhq hD hO a).1 (zhq hD hO a).2 (zrN hD hO hB a)
theorem zkd {N:Nat}{s:Dk}(hD:DOK N s)(hO:OwnI s)(hE:EndI s []):∀k,EndI (zbL k s).1 []
 |0=>hE
 |k+1=>(zkd hD hO hE k).tick (zeC hD hO k).1
theorem zrd {N:Nat}{s:Dk}(hD:DOK N s)(hO:OwnI s)(hE:EndI s [])(a:zcy):EndI (actD s a).1 []:=by
 unfold actD
 split
 ·exact hE.do' hD a.who a.n a.msg
 ·split
  ·exact hE.tick hD
  ·split
   ·exact hE.gone hD a.who
   ·exact zkd hD hO hE _
theorem zlU :∀(l:List zcy) {N:Nat} {s:Dk},DOK N s→OwnI s→EndI s []→EndI (runD s l) []
 |[],N,s,_,_,hE=>hE
 |a::l,N,s,hD,hO,hE=>zlU l (zhq hD hO a).1 (zhq hD hO a).2 (zrd hD hO hE a)
theorem zoS {s:Dk}{who:Int}{m:MsgR}:(zcL false s who m).d.look=s.look:=by
 have hH:∀a q,(hitQ s a q).d.look=s.look:=fun a q=>by
  unfold hitQ
  repeat' split
  all_goals rfl
 unfold zcL
 split
 ·rfl
 split
 ·exact zif.2.2.2.1
 split
 ·exact zgc.2.2.2.1
 split
 ·unfold zcZ
  split
  ·rfl
  repeat' split
  all_goals first
   |rfl
   |(dsimp only;split<;>rfl)
 split
 ·unfold zc4
  repeat' split
  all_goals rfl
 split
 ·unfold hitD
  repeat' split
  all_goals first|rfl|exact hH _ _
 split
 ·unfold zfq
  repeat' split
  all_goals first|rfl|exact hH _ _
 split
 ·unfold zc1
  split
  ·rfl
  split
  ·rfl
  dsimp only
  split
  ·rfl
  split
  ·unfold zaU
   dsimp only
   split<;>rfl
  ·split
   ·rfl
   split<;>rfl
 split
 ·unfold zbE
  repeat' split
  all_goals rfl
 split
 ·unfold askD
  dsimp only
  repeat' split
  all_goals rfl
 ·unfold zdJ
  repeat' split
  all_goals rfl
theorem zht :∀(xs:List Due) (s:Dk×List OutR),(xs.foldl (dueD false) s).1.look=s.1.look
 |[],s=>rfl
 |x::xs,s=>by
  rw[List.foldl_cons,zht xs]
  unfold dueD
  split
  ·rfl
  ·split
   ·rfl
   ·split
    ·dsimp only
     unfold zaU
     dsimp only
     split<;>rfl
    ·split<;>rfl
theorem zke {s:Dk}:(zc5 false s).1.look=s.look:=by
 unfold zc5
 rw[zht]
theorem zis :∀(qs:List zat) (s:Dk),(qs.foldl (zct false) s).look=s.look
 |[],s=>rfl
 |q::qs,s=>by
  rw[List.foldl_cons,zis qs]
  unfold zct
  split<;>rfl
theorem zoT {s:Dk}{who:Int}:(zeb false s who).1.look=s.look:=by
 unfold zeb
 rw[zis]
theorem zit {s:Dk}:∀k,(zbL k s).1.look=s.look
 |0=>rfl
 |k+1=>zke.trans (zit k)
theorem zqa {s:Dk}{a:zcy}:(actD s a).1.look=s.look:=by
 unfold actD
 split
 ·exact zoS
 ·split
  ·exact zke
  ·split
   ·exact zoT
   ·exact zit _
theorem zkf :∀(l:List zcy) (s:Dk),(runD s l).look=s.look
 |[],s=>rfl
 |a::l,s=>(zkf l (actD s a).1).trans zqa
def PB (s t:Dk):Prop:=t.parties=s.parties∧t.bonds.length=s.bonds.length
theorem PB.refl (s:Dk):PB s s:=⟨rfl,rfl⟩
theorem PB.trans {a b c:Dk}(h1:PB a b)(h2:PB b c):PB a c:=⟨h2.1.trans h1.1,h2.2.trans h1.2⟩
theorem zlV {s:Dk}{who:Int}{n:Nat}{o:zap}{how:Int}:PB s (zby s who n o how).d:=by
 unfold zby
 dsimp only
 split
 ·exact PB.refl s
 ·have hk:=zf6 (who:=who) (o:=o) (n:=n) (doV how {o with seq:=s.seq+1} (za8 s n)).fills ⟨{s with seq:=s.seq+1,books:=s.books.set n (doV how {o with seq:=s.seq+1} (za8 s n)).bk},(doV how {o with seq:=s.seq+1} (za8 s n)).gones.map fun g=>outM who 21 [g.id,g.left],o.left⟩
  exact⟨hk.1,congrArg List.length hk.2.1⟩
theorem zqb {s:Dk}{who:Int}{m:MsgR}:PB s (zcg s who m).d:=by
 unfold zcg
 dsimp only
 split<;>first|exact PB.refl s|skip
 split<;>first|exact PB.refl s|skip
 split<;>first|exact PB.refl s|skip
 have hm:=zlV (s:=s) (who:=who) (n:=m.f0.toNat) (o:=⟨s.order+1,0,who,m.f1,m.f2,m.f3⟩) (how:=m.f4)
 split
 ·exact hm
 ·exact hm
theorem zmK {s:Dk}{who kind id price qty:Int}:PB s (zbm s who kind id price qty).d:=by
 unfold zbm
 dsimp only
 split<;>first|exact PB.refl s|skip
 split<;>first|exact PB.refl s|skip
 rename_i o ho
 split<;>first|exact PB.refl s|skip
 split
 ·split<;>first|exact PB.refl s|skip
  split
  ·exact PB.refl s
  ·exact zlV (s:={s with books:=s.books.set (zcx s.books id).toNat (zbf o.id (za8 s (zcx s.books id).toNat))}) (who:=who) (n:=(zcx s.books id).toNat) (o:={o with price:=price,left:=qty}) (how:=0)
 ·exact PB.refl s
theorem zre {s:Dk}{n is:Int}:PB s (zdJ s n is).d:=by
 unfold zdJ
 split<;>first|exact PB.refl s|skip
 split<;>first|exact PB.refl s|skip
 exact⟨rfl,by simp⟩
theorem zrf {s:Dk}{who:Int}{m:MsgR}:PB s (zcL false s who m).d:=by
 have hH:∀a q,PB s (hitQ s a q).d:=fun a q=>by
  unfold hitQ
  repeat' split
  all_goals exact PB.refl _
 unfold zcL
 split
 ·exact PB.refl _
 split
 ·exact zqb
 split
 ·exact zmK
 split
 ·unfold zcZ
  split
  ·exact PB.refl _
  repeat' split
  all_goals first
   |exact PB.refl _
   |(dsimp only;split<;>exact PB.refl _)
 split
 ·unfold zc4
  repeat' split
  all_goals exact PB.refl _
 split
 ·unfold hitD
  repeat' split
  all_goals first|exact PB.refl _|exact hH _ _
 split
 ·unfold zfq
  repeat' split
  all_goals first|exact PB.refl _|exact hH _ _
 split
 ·unfold zc1
  split
  ·exact PB.refl _
  split
  ·exact PB.refl _
  dsimp only
  split
  ·exact PB.refl _
  split
  ·unfold zaU
   dsimp only
   split<;>exact PB.refl _
  ·split
   ·exact PB.refl _
   split<;>exact PB.refl _
 split
 ·unfold zbE
  repeat' split
  all_goals exact PB.refl _
 split
 ·unfold askD
  dsimp only
  repeat' split
  all_goals exact PB.refl _
 ·exact zre
theorem zkg :∀(xs:List Due) (s:Dk×List OutR),PB s.1 (xs.foldl (dueD false) s).1
 |[],s=>PB.refl _
 |x::xs,s=>by
  rw[List.foldl_cons]
  refine PB.trans ?_ (zkg xs _)
  unfold dueD
  split
  ·exact PB.refl _
  ·split
   ·exact PB.refl _
   ·split
    ·dsimp only
     unfold zaU
     dsimp only
     split<;>exact PB.refl _
    ·split<;>exact PB.refl _
theorem zoU {s:Dk}:PB s (zc5 false s).1:=by
 unfold zc5
 exact zkg _ _
theorem zlW :∀(qs:List zat) (s:Dk),PB s (qs.foldl (zct false) s)
 |[],s=>PB.refl _
 |q::qs,s=>by
  rw[List.foldl_cons]
  refine PB.trans ?_ (zlW qs _)
  unfold zct
  split<;>exact PB.refl _
theorem zrg {s:Dk}{who:Int}:PB s (zeb false s who).1:=by
 unfold zeb
 exact zlW _ _
theorem zlX {s:Dk}:∀k,PB s (zbL k s).1
 |0=>PB.refl _
 |k+1=>(zlX k).trans zoU
theorem zrO {s:Dk}{a:zcy}:PB s (actD s a).1:=by
 unfold actD
 split
 ·exact zrf
 ·split
  ·exact zoU
  ·split
   ·exact zrg
   ·exact zlX _
theorem zoV :∀(l:List zcy) (s:Dk),PB s (runD s l)
 |[],s=>PB.refl _
 |a::l,s=>zrO.trans (zoV l (actD s a).1)
theorem zkh {np nb:Nat}:∀{l:List zaL} {p w:Ps},PsOK np nb p→zc2 l p=some w→∀t∈l,t.buyer<np∧t.seller<np
 |[],p,w,_,_,t,ht=>by cases ht
 |u::l,p,w,hp,h,t,ht=>by
  unfold zc2 at h
  split at h
  ·rename_i h0
   obtain⟨b1,b2,_⟩:=zh9 h0
   rcases List.mem_cons.1 ht with rfl|ht
   ·exact⟨((zco hp).1 b1).1.2,((zco hp).1 b2).1.2⟩
   ·exact zkh (zgq hp u) h t ht
  ·cases h
structure Aud (w:Int)(s:Dk):Prop where
 dk:∃N:Nat,N≤9000∧DOK N s
 bk:BkI s
 on:OnI s
 en:EndI s []
 lk:s.look=wayL w
 pb:PB (wayD w) s
theorem Aud.once {w:Int}{s:Dk}(hw4:w=0∨w=1∨w=2∨w=3)(h:Aud w s):zrc s.asks s.trades∧s.asks.length≤1000000∧s.trades.length≤1000000:=by
 obtain⟨N,hN,hD⟩:=h.dk
 have hin:=zkh (zfw s.parties.length s.bonds.length) h.bk.sm.pa
 have h8:=(zbO hD.rules).2.1
 have hna:=hD.na
 have hnt:=hD.nt
 exact⟨⟨hD.upa,fun a ha=>(hD.as_ a ha).2.2.2.2.2.1,fun t ht=>by have:=hin t ht;omega,h.on.o1,h.on.o2,h.on.o3⟩,by omega,by omega⟩
theorem Aud.desk (W:World)(h:List zao){w:Int}{s:Dk}(hw4:w=0∨w=1∨w=2∨w=3)(hA:Aud w s)(A1 A2:Option Addr)(c1 c2:Nat)(m1:zao.own A1 (wayB w).length c1 95 7 ((wayB w).flatMap zaP.enc)∈h)(m2:zao.own A2 (wayP w).length c2 97 3 ((wayP w).flatMap zaG.enc)∈h)
 (x:DAd)(bks:List BAd)(rows:List PRow)(hf:zaY s bks rows)(hd:∀c∈zae x s bks rows [],c∈h):
 zaw Tryz.prog W 20 [zdi A1 (wayB w).length c1 A2 (wayP w).length c2 (wayL w) (zi5 w),ptrV x.d] h (.bool true):=by
 obtain⟨hon,hna,hnt⟩:=hA.once hw4
 obtain⟨N,hN,hD⟩:=hA.dk
 have e1:s.parties.length=(wayP w).length:=congrArg List.length hA.pb.1
 have e2:s.bonds.length=(wayB w).length:=hA.pb.2
 have hS:=hA.bk.sm
 rw[e1,e2]at hS
 have hps:psOf s.cash rows=⟨s.cash,s.pos⟩:=by unfold psOf;rw[hf.2]
 have hlk:1≤wayL w∧wayL w≤3:=by unfold wayL;split<;>omega
 have hnb:=hD.nbk
 have hlb:bks.length=s.books.length:=by rw[←hf.1,llm]
 have hnw:=hD.now
 refine zk5 W h A1 c1 (wayB w) A2 c2 (wayP w) (wayL w) (zi5 w) (zaz.enc zaP.enc_len zaP.enc_one m1 rfl) (zaz.enc zaG.enc_len zaG.enc_one m2 rfl) (wayR hw4) x s bks rows (by rw[hps];exact hS.ps) ?_ hS.hd hS.tw hnt hon hna ?_ (fun a ha=> ?_) (fun b hb=> ?_) (by omega) (by omega) hd
 ·rw[hps]
  unfold zn4
  rw[hS.pa]
  exact zj8 _ _ _
 ·unfold zj5
  rw[List.all_eq_true]
  intro a ha
  have hsaid:=hA.en.said ha
  rw[hA.lk]at hsaid
  by_cases hc:a.ends≤s.now - wayL w
  ·have:=hsaid hc (by omega)
   unfold zhn
   rcases this with e|e<;>simp[e]
  ·unfold zhn
   simp
   omega
 ·obtain⟨_,_,_,_,_,_,⟨g1,g2⟩⟩:=hD.as_ a ha
  unfold inW
  omega
 ·have hm:b.l∈s.books:=by rw[←hf.1];exact lmm.2 ⟨b,hb,rfl⟩
  exact⟨hD.bks _ hm,hA.bk.un _ hm⟩
theorem Aud.run {w:Int}(hw4:w=0∨w=1∨w=2∨w=3)(l:List zcy)(hl:l.length≤120):Aud w (runD (wayD w) l):=by
 obtain⟨hD,hO⟩:=zoP hw4
 exact⟨⟨0+40*l.length,by omega,(zk6 l hD hO).1⟩,zoQ l hD hO (by omega) BkI.new,zoR l hD hO OnI.new,zlU l hD hO EndI.new,zkf l _,zoV l _⟩
theorem zoW (W:World)(way:Int)(A0:Option Addr)(c0:Nat)(ls:List zcy)(hr0:zaz W [] A0 ls.length 10 (ls.flatMap zcy.enc))(hok:∀a∈ls,a.ok):
 zax Tryz.prog W 5 [.int .i64 way,.slice A0 ls.length c0] [] (fun v _=>v=.bool true):=by
 refine zax.dropTo ?_
 obtain⟨w,hw,hw4⟩:=and3 way
 obtain⟨hD,hO⟩:=zoP hw4
 by_cases hl:ls.length>120
 ·skip
  refine zaf Tryz.func5 rfl rfl Tryz.results5 Tryz.ntmps5 rfl rfl ?_
  repeat' (first|apply zah|apply zaa|apply zak|apply zag|apply zac hT;iterate 4 exact rfl|(apply zal;exact rfl;all_goals(intro hb;(try dsimp only at hb);(try simp only[hb]);(first|replace hb:=odt hb|replace hb:=odf hb);(try omega))))
  all_goals try omega
  all_goals(apply ret1;exact rfl;exact⟨_,zmZ,rfl⟩)
 ·skip
  refine zaf Tryz.func5 rfl rfl Tryz.results5 Tryz.ntmps5 rfl rfl ?_
  repeat' (first|apply zah|apply zaa|apply zam|apply zaj|apply zag|apply zac hT;iterate 4 exact rfl|apply zau;(iterate 7 exact rfl);exact(zq4 W _ way w hw hw4);rintro _ _ ⟨A1,c1,A2,c2,rfl,rfl⟩|(apply zay hT;(iterate 5 exact rfl);first|(fail_if_success (have q:=g5));intro g5)|(apply zar hT;(iterate 6 exact rfl);exact sX;(iterate 3 exact rfl);exact nle rfl)|(apply zau;(iterate 7 exact rfl);exact(zoG W _ w hw4 A1 A2 c1 c2 mX mX);rintro _ _ ⟨x,b0,q0,rfl,rfl,f0⟩)|(apply zad;(iterate 5 exact rfl);first|(apply zaF hT;exact rfl;exact rfl;exact mX;exact rfl))|(apply zal;exact rfl;all_goals(intro hb;(try dsimp only at hb);(try simp only[hb]);(first|replace hb:=odt hb|replace hb:=odf hb);(try omega))))
  all_goals try omega
  all_goals
   refine zaI (hr0.mono (by simp)) rfl (fun hAi=> ?_)
   refine za1 (α:=Nat×DAd×List BAd×List PRow) (E:=fun z=>[(1,.slice A0 ls.length c0),(5,.pointer (some ⟨g5,0,none⟩)),(6,ptrV x.d),(7,.int .i64 z.1)])
    (H:=fun z=>.blk g5 53 [.slice A1 (wayB w).length c1,.slice A2 (wayP w).length c2,.int .i64 (wayL w),.int .i64 (zi5 w)]::.own A1 (wayB w).length c1 95 7 ((wayB w).flatMap zaP.enc)::.own A2 (wayP w).length c2 97 3 ((wayP w).flatMap zaG.enc)::zae (z.2.1.at x.d) (runD (wayD w) (ls.take z.1)) z.2.2.1 z.2.2.2 []) (μ:=fun z=>ls.length - z.1)
    (S:=fun z=>z.1≤ls.length∧zaY (runD (wayD w) (ls.take z.1)) z.2.2.1 z.2.2.2) (0,x,b0,q0) ⟨Nat.zero_le _,f0⟩ ⟨rfl,rfl,rfl,rfl,trivial⟩ ?_ ?_
   ·show za7 _ (.blk g5 53 [.slice A1 (wayB w).length c1,.slice A2 (wayP w).length c2,.int .i64 (wayL w),.int .i64 (zi5 w)]::.own A1 (wayB w).length c1 95 7 ((wayB w).flatMap zaP.enc)::.own A2 (wayP w).length c2 97 3 ((wayP w).flatMap zaG.enc)::zae x (wayD w) b0 q0 [])
    unfold zae
    (repeat(first|(apply zaQ;· exact sX)|(apply zlJ;· (repeat(first|exact zly)))))
    exact zmZ
   ·rintro⟨k,y,b1,q1⟩ ⟨hk,hf⟩
    dsimp only at hk hf ⊢
    obtain⟨hDk,hOk⟩:=zk6 (ls.take k) hD hO
    rw[llt]at hDk
    by_cases hlt:k<ls.length
    ·obtain⟨a,ha⟩:∃a,ls[k]? =some a:=⟨ls[k]'hlt,gge hlt⟩
     have ha2:ls[(k:Int).toNat]? =some a:=by simpa using ha
     have hd1:decide ((k:Int)<(ls.length:Int))=true:=by simp;omega
     have hst:=zoO (s:=wayD w) ha
     have hAc:=fun G=>zs6 W G (y.at x.d) (runD (wayD w) (ls.take k)) b1 q1 _ hDk hOk (by omega) hf a (hok a (mog ha))
     generalize runD (wayD w) (ls.take k)=s1 at*
     generalize hs2:runD (wayD w) (ls.take (k+1))=s2 at*
     generalize actD s1 a=r at*
     have hA:=hAi (by omega)
     unfold zae
     repeat' (first|apply zah|apply zaa|apply zam|apply zaj|apply zag|apply zac hT;iterate 4 exact rfl|(apply zaM hT;(iterate 4 exact rfl);(iterate 2 (first|omega)))|apply zaJ hT;(iterate 8 exact rfl);(iterate 2 omega);exact hA|(apply zad;(iterate 5 exact rfl);exact zaO hT rfl rfl (hr0.mono (by simp)) zcy.enc_len rfl ha2 rfl)|(apply zau;(iterate 7 exact rfl);exact(zax.perm (hAc _) (by(try unfold zae);exact pX));rintro _ _ ⟨y2,b2,q2,A5,c5,rfl,rfl,hf2,ho2⟩)|(apply zal;exact rfl;all_goals(intro hb;(try dsimp only at hb);(try simp only[hb]);(first|replace hb:=odt hb|replace hb:=odf hb);(try omega))))
     all_goals try omega
     all_goals first
      |exact zaD (k+1,y2,b2,q2) (by(try dsimp only);omega) ⟨by(try dsimp only);omega,by dsimp only;rw[hs2,hst];exact hf2⟩ ⟨rfl,rfl,rfl,rfl,trivial⟩ (by dsimp only;rw[hs2,hst];(try unfold zae);exact dA)
      |skip
    ·obtain rfl:k=ls.length:=by omega
     have hd1:decide ((ls.length:Int)<(ls.length:Int))=false:=by simp
     rw[List.take_length]at hf ⊢
     have hA:=Aud.run hw4 ls (by omega)
     generalize runD (wayD w) ls=s at*
     obtain⟨hon,hna,hnt⟩:=hA.once hw4
     have hDe:=fun h m1 m2 hd=>Aud.desk W h hw4 hA A1 A2 c1 c2 m1 m2 (y.at x.d) b1 q1 hf hd
     have hAs:=fun h m0 m1 m2=>zg8 W h (y.at x.d) s m0 m1 m2 hna
     have hTr:=fun h m0 m1 m2=>ze1 W h (y.at x.d) s m0 m1 m2 hnt
     have hOn:=fun h A c A2 c2 hr1 hr2=>zir W h A c s.asks A2 c2 s.trades hr1 hr2 hna hnt hon
     repeat' (first|apply zah|apply zaa|apply zak|apply zaN|apply zag|apply zac hT;iterate 4 exact rfl|(apply zab;(iterate 7 exact rfl);exact(hDe _ mX mX (by intro c hc;(repeat(first|exact hc|apply mcm)))))|(apply zau;(iterate 7 exact rfl);exact(hAs _ (by unfold zae;exact mX) (by unfold zae;exact mX) (by unfold zae;exact mX));rintro _ _ ⟨A7,c7,rfl,rfl⟩)|(apply zau;(iterate 7 exact rfl);exact(hTr _ (by unfold zae;exact mX) (by unfold zae;exact mX) (by unfold zae;exact mX));rintro _ _ ⟨A8,c8,rfl,rfl⟩)|(apply zab;(iterate 7 exact rfl);exact(hOn _ A7 c7 A8 c8 (zaz.enc AskR.enc_len AskR.enc_one mX rfl) (zaz.enc zaL.enc_len zaL.enc_one mX rfl)))|(apply zab (hs:=((zq3 W).mono (by simp)));iterate 7 exact rfl)|(apply zad;(iterate 5 exact rfl);first|(apply zaF hT;exact rfl;exact rfl;exact mX;exact rfl))|(apply zal;exact rfl;all_goals(intro hb;(try dsimp only at hb);(try simp only[hb]);(first|replace hb:=odt hb|replace hb:=odf hb);(try omega))))
     all_goals try omega
     all_goals first
      |(apply ret1;exact rfl;exact⟨_,zmZ,rfl⟩)
      |skip
end Go.Proofs.YteocfhdocpeokaaGreat
namespace Go.Proofs.YteocfhdocpeokaaGreat
namespace auditDesk
open Go Go.Sl Go.ChangeShapes Go.WideShapes Go.ChangeAt Go.RowKit
theorem own :ownKnob Tryz.prog.godebug=none:=by kernel_rfl
theorem zrh :laidOutB Tryz.prog=true:=by kernel_rfl
set_option maxRecDepth 100000 in
theorem zrP (os:Os)(started:os.Started)(H:Type)(enc:TypeId×Value→H):
 ReturnsInHanded {} Tryz.checked os 5 .any (Rows.auditDeskSpec.pre6 enc Tryz.prog Tryz.f5 Rows.auditDeskRow.domain false) (Rows.auditDeskSpec.post enc Tryz.prog Tryz.f5 false true false false):=by
 refine returnsInHanded_of_change (C:= Tryz.checked) own started (by kernel_rfl) Tryz.func5
  (ChangeSpec.witness6 (enc:=enc) (C:= Tryz.checked) false ⟨#[],#[.int .i64 0,.slice none 0 0],[]⟩ 8 (by kernel_rfl) (by kernel_rfl) (by kernel_rfl) (by kernel_rfl)) ?_
 intro W base args ds gs before hval0 hW hcnd _
 have hval:∀(j:Nat) t v,Tryz.f5.params[j]? =some t→args[j]? =some v→Value.okWide Tryz.prog W .any base t v:=hval0
 have hW':=hW
 obtain⟨p,q,hA0,hV,rfl,hfz,hnd⟩:=hW
 have hA:DataW.TrodAll enc Tryz.prog W 0 (fun _=>true) true Tryz.f5.params.toList args.toList ds p:=hA0
 obtain⟨rfl,rfl⟩:=trodVars_none hV
 simp only[List.append_nil]at hW'
 have hA1:=hA
 rw[Tryz.params5]at hA1 hval
 obtain⟨v0,vs0,d0,ds0,p0,q0,hargs,rfl,rfl,h0,r0⟩:=trodAll_cons hA1
 obtain⟨v1,vs1,d1,ds1,p1,q1,rfl,rfl,rfl,h1,r1⟩:=trodAll_cons r0
 obtain⟨rfl,rfl,rfl⟩:=trodAll_nil r1
 obtain rfl:args= #[v0,v1]:=by cases args;simp_all
 obtain⟨a0,rfl,_,_,w0⟩:=open_int Tryz.underlying3 (hval 0 3 v0 rfl rfl) h0
 obtain⟨A1,c1,l1,rfl,hc1,ok1,hr1⟩:=zm2 (W:=W) 8 Tryz.underlying49 (by kernel_rfl) (by kernel_rfl) zp5 (hval 1 49 v1 rfl rfl) h1
 refine(zax.row (zoW W a0 A1 c1 l1 hr1 ok1) (fun _ _ h=>h)).mono fun e W' ⟨he,hb⟩=> ?_
 subst he
 exact⟨_,rfl,zoZ hW' hA zrh (by kernel_rfl) rfl rfl Tryz.underlying4 rfl rfl rfl hb⟩
theorem zs8 : Tryz.prog.funcNamed Rows.auditDeskRow.func=some 5 :=by kernel_rfl
set_option maxRecDepth 100000 in
theorem zrQ :joinedFacts Tryz.prog 5 Tryz.f5 Rows.auditDeskSpec Rows.auditDeskRow=true:=by
 unfold joinedFacts
 simp only[Bool.and_eq_true]
 repeat' apply And.intro
 all_goals decide+kernel
theorem inst : Tryz.f5.isInstance Tryz.prog Rows.auditDeskRow.origin Rows.auditDeskRow.targs:=odt (by kernel_rfl)
theorem over :Rows.auditDeskRow.holds Tryz.pinned (OpenSpec.ofChange Rows.auditDeskSpec):=
 OpenClaim.holds_of_wide 5 Tryz.f5 rfl rfl rfl rfl rfl rfl rfl ⟨rfl,rfl,rfl,rfl,rfl⟩ rfl rfl rfl rfl rfl zs8 Tryz.func5 zrQ
  inst (by unfold Func.isWrapper;first|(rw[if_pos (by decide+kernel)];kernel_rfl)|(rw[if_neg (by decide+kernel)];exact⟨rfl,rfl⟩))
  (fun os started H enc _=>zrP os started H enc)
end auditDesk
theorem auditDesk_holds :Rows.AuditDeskSaid:=auditDesk.over
#print axioms auditDesk_holds
end Go.Proofs.YteocfhdocpeokaaGreat
