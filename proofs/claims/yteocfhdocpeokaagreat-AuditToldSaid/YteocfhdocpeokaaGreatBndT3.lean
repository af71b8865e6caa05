/- The statements' walks, and what they stand on, joined into few texts: part 3. Conditions stand in each statement. -/
import Derived.Test.YteocfhdocpeokaaGreatBndT2
set_option maxHeartbeats 16000000
set_option linter.all false
set_option linter.unusedSimpArgs false
set_option linter.unusedVariables false
namespace Go.Proofs.YteocfhdocpeokaaGreat
open Go Go.Sl
/-- no two orders could trade -/
def uncr (l:List zav):Prop:=∀a∈l,∀b∈l,a.side=1→b.side=2→a.price<b.price
def sumG (g:List zel):Int:=(g.map zel.left).sum
theorem zko (a b:List zel):sumG (a++b)=sumG a+sumG b:=by simp only[sumG,List.map_append];exact zdy _ _
theorem zcw (x:zav)(l:List zav):sumL (x::l)=x.left+sumL l:=by simp[sumL]
theorem zkp {l:List zav}{i:Nat}{x y:zav}(h:l[i]? =some x):sumL (l.set i y)=sumL l - x.left+y.left:=by
 induction l generalizing i with
 |nil=>simp at h
 |cons z l ih=>
  cases i with
  |zero=>simp only[List.getElem?_cons_zero,Option.some.injEq]at h;subst h;rw[List.set_cons_zero,zcw,zcw];omega
  |succ i=>rw[List.set_cons_succ,zcw,zcw,ih (by simpa using h)];omega
theorem zhj {l:List zav}(hB:zaT l){x:zav}(hx:x∈l):sumL (zbR x.id l)=sumL l - x.left:=by
 have:=zi2 (zfS hB.id hx)
 rw[zcw]at this;omega
theorem zkq {l:List zav}(hB:zaT l){x:zav}(hx:x∈l){left:Int}(h1:1≤left)(h2:left≤x.left):sumL (zct x.id left l)=sumL l - x.left+left:=by
 have hg:=zkf hB.id hx
 rcases zdx (p:=hasO x.id) l with ⟨hi,hf⟩|⟨i,y,hi,hy,hp,hf⟩
 ·have:getO x.id l=none:=hf
  rw[hg]at this;cases this
 ·have hyx:y=x:=by have:getO x.id l=some y:=hf;rw[hg]at this;exact(Option.some.inj this).symm
  subst hyx
  have hE:zdJ y.id left l=0:=by simp[zdJ,hg];omega
  have hL:zct y.id left l=l.set i {y with left:=left}:=by simp[zct,hg,hE,hi]
  rw[hL,zkp hy]
/-- what is gone from the book was filled, or is told as gone -/
theorem zlu {how:Int}{o:zav}{l:List zav}(hB:zaT l)(hs:isB o.side=true)(ho:0≤o.left):∀k,k≤(zaN how o l).length→
 sumL (runX o l ((zaN how o l).take k)).bk=sumL l - sumQ (runX o l ((zaN how o l).take k)).fills - sumG (runX o l ((zaN how o l).take k)).gones∧∀g∈(runX o l ((zaN how o l).take k)).gones,1≤g.left:=by
 intro k
 induction k with
 |zero=>intro _;exact⟨by show sumL l=sumL l - 0 - 0;omega,fun g hg=>(by cases hg)⟩
 |succ k ih=>
  intro hk
  obtain⟨x,hx⟩:∃x,(zaN how o l)[k]? =some x:=⟨(zaN how o l)[k]'(by omega),gge (by omega)⟩
  obtain⟨ih1,ih2⟩:=ih (by omega)
  have hrm:=zfT (how:=how) hs hB k (by omega)
  have hBk:zaT (runX o l ((zaN how o l).take k)).bk:=zfR hB
  have hfc:=(zcE (o:=o) (l:=l) (ms:=zaN how o l) (fun y hy=>(hB.left y (zbS hy).1).1) ho k (by omega)).1
  have hxl:=(hB.left x (zbS (mog hx)).1)
  rw[zeo hx]
  have hmem:(runX o l ((zaN how o l).take k)).left≠0→x∈(runX o l ((zaN how o l).take k)).bk:=fun h0=>by
   have:x∈zaN how o (runX o l ((zaN how o l).take k)).bk:=by
    rw[hrm h0]
    obtain⟨hkl,hke⟩:=gsi.1 hx
    rw[←hke,←List.getElem_cons_drop hkl];exact List.mem_cons_self
   exact(zbS this).1
  generalize runX o l ((zaN how o l).take k)=s at ih1 ih2 hmem hBk hfc ⊢
  unfold zck
  split
  ·exact⟨ih1,ih2⟩
  ·rename_i h0
   have hxm:=hmem h0
   split
   ·refine⟨?_,fun g hg=> ?_⟩
    ·dsimp only
     rw[zhj hBk hxm,zko,ih1];simp[sumG];omega
    ·dsimp only at hg
     rcases lma.1 hg with hg|hg
     ·exact ih2 g hg
     ·rw[lms.1 hg];exact hxl.1
   ·refine⟨?_,ih2⟩
    dsimp only
    rw[zhg]
    have e:sumQ [⟨x.id,o.id,x.owner,o.owner,x.price,min s.left x.left,x.left - min s.left x.left⟩]=min s.left x.left:=by simp[sumQ]
    rw[e]
    split
    ·rename_i hm
     rw[zhj hBk hxm,ih1,hm];omega
    ·rename_i hm
     rw[zkq hBk hxm (by omega) (by omega),ih1];omega
/-- all that the statement asks of one order -/
theorem zjj {how:Int}{o:zav}{l:List zav}(hB:zaT l)(hu:uncr l)(h0:zb4 how o l=0):
 uncr (doV how o l).bk∧sumL (doV how o l).bk=sumL l - sumQ (doV how o l).fills - sumG (doV how o l).gones+(if zhe how then(doV how o l).left else 0)∧
 sumQ (doV how o l).fills=o.left - (doV how o l).left∧0≤(doV how o l).left∧(∀g∈(doV how o l).gones,1≤g.left)∧
 (∀f∈(doV how o l).fills,1≤f.qty∧f.mparty≠o.owner∧f.taker=o.id)∧sumQ (doV how o l).fills+sumG (doV how o l).gones≤sumL l:=by
 have hnb:=zcF h0
 have hol:=zdi hnb
 have hsd:=zjb hnb
 have hw:=(zep hB h0).1
 obtain⟨hs1,hs2⟩:=zlu (how:=how) hB hsd (by omega) (zaN how o l).length (Nat.le_refl _)
 rw[List.take_length]at hs1 hs2
 have hfc:=(zcE (o:=o) (l:=l) (ms:=zaN how o l) (fun y hy=>(hB.left y (zbS hy).1).1) (by omega) (zaN how o l).length (Nat.le_refl _))
 rw[List.take_length]at hfc
 have hBs:zaT (runX o l (zaN how o l)).bk:=zfR hB
 have hrm:=zfT (how:=how) hsd hB (zaN how o l).length (Nat.le_refl _)
 rw[List.take_length,List.drop_length]at hrm
 have hus:uncr (runX o l (zaN how o l)).bk:=fun a ha b hb ea eb=>by
  obtain⟨a',ha',_,_,a3,a4,_⟩:=hw.sub a ha
  obtain⟨b',hb',_,_,b3,b4,_⟩:=hw.sub b hb
  rw[a4,b4];exact hu a' ha' b' hb' (by rw[←a3];exact ea) (by rw[←b3];exact eb)
 have hd:doV how o l=⟨(runX o l (zaN how o l)).fills,(runX o l (zaN how o l)).gones,(runX o l (zaN how o l)).left,0,zhC how o (runX o l (zaN how o l))⟩:=by unfold doV;rw[if_pos h0]
 have hfl:∀f∈(runX o l (zaN how o l)).fills,1≤f.qty∧f.mparty≠o.owner∧f.taker=o.id:=fun f hf=>by
  obtain⟨xs,h1,h2,h3⟩:=hw.mks
  obtain⟨i,hi⟩:=List.getElem?_of_mem hf
  have hlt:=(gsi.1 hi).1
  have k:=(h3 i f (xs[i]'(by omega)) hi (gge (by omega))).1
  exact⟨k.qty,by rw[k.mparty];exact k.own,k.taker⟩
 have hpos:0≤sumL (runX o l (zaN how o l)).bk:=(zlm hBs.left).1
 have hsub:=hw.sub
 have hlen:=hw.len
 have hsum:=hw.sum
 rw[hd]
 dsimp only
 generalize runX o l (zaN how o l)=s at*
 refine⟨?_,?_,hsum,hfc.1,hs2,hfl,by omega⟩
 ·unfold zhC
  split
  ·rename_i hst
   have hm:zaN how o s.bk=[]:=hrm (by omega)
   rw[zfX hsd hBs]at hm
   have hno:∀y∈s.bk,y.side=zb2 o.side→zdF how o y=false:=fun y hy hys=>by
    have hmem:y∈zbo (zb2 o.side) s.bk:=(zbC _ _).mem_iff.2 (List.mem_filter.2 ⟨hy,by simp[za7,hys]⟩)
    cases h:zdF how o y
    ·rfl
    ·have:=List.mem_filter.2 ⟨hmem,h⟩
     rw[hm]at this;cases this
   have hh4:how≠4:=by intro e;rw[e]at hst;exact absurd hst.1 (by decide)
   have hlim:∀y∈s.bk,y.side=zb2 o.side→zbn o.side y.price o.price=true:=fun y hy hys=>by
    have:=hno y hy hys
    unfold zdF at this
    rw[show(how==4)=false by simpa using hh4,hsd]at this
    simpa using this
   intro a ha b hb ea eb
   have hmem:∀z∈addO {o with left:=s.left} s.bk,z∈s.bk∨z={o with left:=s.left}:=fun z hz=>by
    unfold addO at hz
    split at hz
    ·rcases lma.1 hz with h|h
     ·exact .inl h
     ·exact .inr (lms.1 h)
    ·exact .inl hz
   rcases hmem a ha with ha|ha<;>rcases hmem b hb with hb|hb
   ·exact hus a ha b hb ea eb
   ·have hos:o.side=2:=by rw[hb]at eb;exact eb
    have:=hlim a ha (by rw[hos];exact ea)
    rw[hos]at this
    rw[hb];simp[zbn]at this;exact this
   ·have hos:o.side=1:=by rw[ha]at ea;exact ea
    have:=hlim b hb (by rw[hos];exact eb)
    rw[hos]at this
    rw[ha];simp[zbn]at this;exact this
   ·rw[ha]at ea;rw[hb]at eb;simp only at ea eb;omega
  ·exact hus
 ·unfold zhC
  cases hst:zhe how
  ·simp;omega
  ·have hh4:how≠4:=by intro e;rw[e]at hst;exact absurd hst (by decide)
   by_cases hl0:s.left>0
   ·rw[if_pos ⟨rfl,hl0⟩,if_pos rfl]
    have hok:okO {o with left:=s.left}=true:=by
     have:okO o=true:=by
      unfold newB at hnb
      simp only[Bool.and_eq_true]at hnb
      have h:=hnb.2.2.2.1
      unfold asX at h
      rw[if_neg hh4]at h;exact h
     simp only[okO,Bool.and_eq_true,decide_eq_true_eq]at this ⊢
     obtain⟨⟨⟨⟨⟨⟨⟨a1,a2⟩,a3⟩,a4⟩,a5⟩,a6⟩,a7⟩,a8⟩:=this
     exact⟨⟨⟨⟨⟨⟨⟨a1,a2⟩,a3⟩,a4⟩,by omega⟩,by omega⟩,a7⟩,a8⟩
    have hcl:za0 (zdE {o with left:=s.left}) s.bk<0:=by
     rw[zbt]
     intro y hy
     obtain⟨x,hx,e1,e2,_⟩:=hsub y hy
     have hcl0:za0 (zdE o) l<0:=by
      unfold newB at hnb
      simp only[Bool.and_eq_true,decide_eq_true_eq]at hnb
      exact hnb.2.2.2.2
     have:=zbt.1 hcl0 x hx
     unfold zdE at this ⊢
     rw[e1,e2];exact this
    have hln:¬s.bk.length≥64:=by
     intro hge
     have:l.length≥64:=by omega
     unfold zb4 at h0
     rw[if_neg (by rw[hnb];decide),if_pos ⟨hst,this⟩]at h0
     omega
    have hadd:addO {o with left:=s.left} s.bk=s.bk++[{o with left:=s.left}]:=by
     unfold addO
     have:zj8 {o with left:=s.left} s.bk=0:=by
      unfold zj8
      rw[if_neg (by rw[hok];simp;omega),if_neg hln]
     rw[if_pos this]
    rw[hadd,zej,hs1];simp[sumL]
   ·rw[if_neg (fun h=>hl0 h.2),if_pos rfl];omega
end Go.Proofs.YteocfhdocpeokaaGreat
set_option linter.unusedSimpArgs false
set_option linter.unusedVariables false
namespace Go.Proofs.YteocfhdocpeokaaGreat
open Go Go.Sl
def zbT :List zaB→Ps→Option Ps
 |[],p=>some p
 |t::l,p=>if putE p t=0 then zbT l (putP p t)else none
def zcR (np nb:Nat):Ps:=⟨List.replicate np 0,List.replicate np (List.replicate nb 0)⟩
def zc0 (nb:Nat)(w p:Ps)(i:Nat):Bool:=zbh w i==zbh p i&&(List.range nb).all fun(k:Nat)=>zbv w i k==zbv p i k
def eqPs (np nb:Nat)(w p:Ps):Bool:=(List.range np).all (zc0 nb w p)
def zlv (np nb:Nat)(l:List zaB)(p:Ps):Bool:=match zbT l (zcR np nb)with
 |none=>false
 |some w=>eqPs np nb w p
/-- who has what, of so many parties and bonds, in numbers that an int64 holds -/
structure PsOK (np nb:Nat)(p:Ps):Prop where
 nc:p.cash.length=np
 np:p.pos.length=np
 row:∀r∈p.pos,r.length=nb
 wc:∀n∈p.cash,inW n
 wr:∀r∈p.pos,∀n∈r,inW n
theorem zeA (np nb:Nat):PsOK np nb (zcR np nb):=by
 refine⟨by simp[zcR],by simp[zcR],fun r hr=> ?_,fun n hn=> ?_,fun r hr n hn=> ?_⟩
 ·rw[(List.mem_replicate.1 hr).2];simp
 ·rw[(List.mem_replicate.1 hn).2];unfold inW;omega
 ·rw[(List.mem_replicate.1 hr).2]at hn
  rw[(List.mem_replicate.1 hn).2];unfold inW;omega
theorem zdG {α:Type}{l:List α}{i:Nat}{x y:α}(h:y∈l.set i x):y=x∨y∈l:=(List.mem_or_eq_of_mem_set h).symm
theorem at0M {α:Type}{l:List α}{i:Int}{x:α}(h:at0 l i=some x):x∈l:=by
 unfold at0 at h
 split at h
 ·cases h
 ·exact mog h
theorem zkS {α:Type}{l:List α}{i:Int}{x:α}(h:at0 l i=some x):0≤i∧i<l.length:=by
 unfold at0 at h
 split at h
 ·cases h
 ·have:=(gsi.1 h).1
  omega
theorem zjk {α:Type}{l:List α}{i:Int}(h0:0≤i)(h1:i<l.length):at0 l i=some (l[i.toNat]'(by omega)):=by
 unfold at0
 rw[if_neg (by omega)]
 exact gge _
theorem zbF {np nb:Nat}{p:Ps}(h:PsOK np nb p){who bond:Int}:zbU p who bond=true↔(0≤who∧who<np)∧0≤bond∧bond<nb:=by
 unfold zbU
 simp only[Bool.and_eq_true,decide_eq_true_eq]
 have h1:=h.nc
 have h2:=h.np
 constructor
 ·rintro⟨a,b,c,d⟩
  rw[zjk a (by omega)]at d
  have:=h.row _ (List.getElem_mem (l:=p.pos) (n:=who.toNat) (by omega))
  simp only[Option.getD_some]at d
  omega
 ·rintro⟨⟨a,b⟩,c,d⟩
  refine⟨a,by omega,c,?_⟩
  rw[zjk a (by omega)]
  have:=h.row _ (List.getElem_mem (l:=p.pos) (n:=who.toNat) (by omega))
  simp only[Option.getD_some]
  omega
theorem ze1 {l:List (List Int)}{who bond n:Int}{b:Nat}(h:∀r∈l,r.length=b∧∀n∈r,inW n)(hw:0≤who∧who<l.length)(hn:inW n):∀r∈setRow l who bond n,r.length=b∧∀n∈r,inW n:=by
 intro r hr
 unfold setRow at hr
 rcases zdG hr with rfl|hr
 ·have hx:=zjk hw.1 hw.2
  obtain⟨h1,h2⟩:=h _ (at0M hx)
  rw[hx]
  refine⟨by simpa using h1,fun m hm=> ?_⟩
  rcases zdG hm with rfl|hm
  ·exact hn
  ·exact h2 m hm
 ·exact h r hr
theorem zhO {p:Ps}{t:zaB}(h:putE p t=0):zbU p t.buyer t.bond=true∧zbU p t.seller t.bond=true∧t.buyer≠t.seller∧1≤t.price∧1≤t.qty∧inI (t.price*t.qty)=true∧inI (zbv p t.buyer t.bond+t.qty)=true∧inI (zbv p t.seller t.bond - t.qty)=true∧inI (zbh p t.buyer - t.price*t.qty)=true∧inI (zbh p t.seller+t.price*t.qty)=true:=by
 unfold putE at h
 split at h
 ·cases h
 ·rename_i h1
  split at h
  ·rename_i h2
   simp only[Bool.and_eq_true]at h2
   simp only[not_or,Bool.not_eq_false]at h1
   exact⟨h1.1,h1.2.1,h1.2.2.1,by omega,by omega,h2.1.1.1.1,h2.1.1.1.2,h2.1.1.2,h2.1.2,h2.2⟩
  ·cases h
theorem zhk {np nb:Nat}{p:Ps}(h:PsOK np nb p)(t:zaB):PsOK np nb (putP p t):=by
 unfold putP
 split
 ·rename_i h0
  obtain⟨b1,b2,_,_,_,_,a2,a3,a4,a5⟩:=zhO h0
  have b1:=(zbF h).1 b1
  have b2:=(zbF h).1 b2
  have hn:=h.np
  have hrow:∀r∈setRow (setRow p.pos t.buyer t.bond (zbv p t.buyer t.bond+t.qty)) t.seller t.bond (zbv p t.seller t.bond - t.qty),r.length=nb∧∀n∈r,inW n:=by
   refine ze1 (ze1 (fun r hr=>⟨h.row r hr,h.wr r hr⟩) (by omega) (zdI a2)) ?_ (zdI a3)
   unfold setRow
   simp only[List.length_set]
   omega
  refine⟨by simp[h.nc],by unfold setRow;simp[h.np],fun r hr=>(hrow r hr).1,fun n hn=> ?_,fun r hr=>(hrow r hr).2⟩
  rcases zdG hn with rfl|hn
  ·exact zdI a5
  ·rcases zdG hn with rfl|hn
   ·exact zdI a4
   ·exact h.wc n hn
 ·exact h
theorem zgH {l:List zaB}{k:Nat}{t:zaB}(ht:l[k]? =some t)(p:Ps):zbT (l.drop k) p=if putE p t=0 then zbT (l.drop (k+1)) (putP p t)else none:=by
 obtain⟨hk,rfl⟩:=gsi.1 ht
 rw[List.drop_eq_getElem_cons hk]
 rfl
end Go.Proofs.YteocfhdocpeokaaGreat
set_option linter.unusedSimpArgs false
set_option linter.unusedVariables false
namespace Go.Proofs.YteocfhdocpeokaaGreat
open Go Go.Sl
attribute [local irreducible] AW ES EP Ld RetQ
set_option maxRecDepth 100000
theorem zjl (W:World)(h:List zah):zaL Tryz.prog W 52 [] h (fun v h'=>∃p,v=.pointer (some ⟨p,0,none⟩)∧h'=.blk p 152 [.slice none 0 0]::.own none 0 0 168 6 []::h):=by
 refine zaL.conv (ziS W h) ?_
 rintro v h' ⟨p,rfl,rfl⟩ w hw
 exact⟨_,(hw.own_nil 168 6).perm sel1,p,rfl,rfl⟩
/-- a new desk that has so many books yet -/
def zjm (bs:List za1)(ps:List zaJ)(look beat:Int)(k:Nat):Dk:={zbH bs ps look beat with books:=List.replicate k []}
theorem zjn {bs:List za1}{ps:List zaJ}{look beat:Int}(h:isR bs ps look beat=true):(1≤bs.length∧bs.length≤4)∧(1≤ps.length∧ps.length≤8)∧(1≤look∧look≤1000):=by
 unfold isR at h
 simp only[Bool.and_eq_true]at h
 have h1:=zcV h.1.1
 have h2:=zcV h.1.2
 have h3:=zcV h.2.1.2
 omega
theorem zkr (W:World)(h:List zah)(AB:Option Addr)(cB:Nat)(bs:List za1)(AP:Option Addr)(cP:Nat)(ps:List zaJ)(look beat:Int)(hrB:zaD W h AB bs.length 7 (bs.flatMap za1.enc))(hrP:zaD W h AP ps.length 3 (ps.flatMap zaJ.enc))(hb:bs.length≤1000000)(hp:ps.length≤1000000):
 zaL Tryz.prog W 18 [zee AB bs.length cB AP ps.length cP look beat] h
  (fun v h'=>(isR bs ps look beat=false∧v=.pointer none∧h'=h)∨(isR bs ps look beat=true∧∃x bks rows,v=ptrV x.d∧h'=za3 x (zbH bs ps look beat) bks rows h∧zff (zbH bs ps look beat) bks rows)):=by
 refine zaL.dropTo ?_
 have hF:=fun k (hk:∀c∈h,c∈k)=>zj5 W k AB cB bs AP cP ps look beat (hrB.mono hk) (hrP.mono hk) hb hp
 have hcb:=fun k (hk:∀c∈h,c∈k)=>zhy W k AB bs.length cB (bs.flatMap za1.enc) (hrB.mono hk) (by omega)
 have hcl:=fun k (hk:∀c∈h,c∈k)=>zed W k AP ps.length cP (ps.flatMap zaJ.enc) (hrP.mono hk) (by omega)
 refine zaA Tryz.func18 rfl rfl Tryz.results18 Tryz.ntmps18 rfl rfl ?_
 cases hR:isR bs ps look beat
 ·have hF0:=fun k hk=>(hF k hk).mono (R':=fun v h'=>v=.pointer none∧h'=k) (fun v h' hh=>by
   rcases hh with ⟨_,a,b⟩|⟨a,_⟩
   ·exact⟨a,b⟩
   ·rw[hR]at a;cases a)
  repeat' (first
   |apply zaz|apply zaa|apply zay|apply zal|apply zam|apply zae|apply zaw
   |(apply zai hT;(iterate 4 exact rfl))|(apply zaj;(iterate 3 exact rfl))|(apply zad;(iterate 2 exact rfl))
   |(apply zax hT;(iterate 4 exact rfl);(iterate 2 (first|omega|(dsimp only;omega))))
   |(apply zar [] [] hmix;decide+kernel)
   |(apply zaV (hs:=(hF0 _ (by(intro c hc;(repeat(first|exact hc|apply List.mem_cons_of_mem|apply List.mem_append_right))))));(iterate 7 exact rfl);rintro _ _ ⟨rfl,rfl⟩)
   |(apply zab;(iterate 5 exact rfl);first|(apply zas hT;exact rfl;exact rfl;(repeat(first|exact List.mem_cons_self|apply List.mem_cons_of_mem|apply List.mem_append_right));exact rfl;exact rfl)|(apply zaq hT;exact rfl;exact rfl;(repeat(first|exact List.mem_cons_self|apply List.mem_cons_of_mem|apply List.mem_append_right));exact rfl))
   |(apply zau;(iterate 5 exact rfl);intro _)|(apply zac hT;(iterate 5 exact rfl);intro _)
   |(apply zaf;(iterate 2 exact rfl))|(apply zag;(iterate 2 exact rfl))
   |(apply zak;exact rfl;all_goals intro hb;all_goals(fail_if_success (change true=true at hb));all_goals(fail_if_success (change false=false at hb));all_goals(try dsimp only at hb);all_goals(try simp only[hb]);all_goals(first|replace hb:=of_decide_eq_true hb|replace hb:=of_decide_eq_false hb|replace hb:=zao hb|replace hb:=zap hb|replace hb:=eq_of_beq hb|replace hb:=ne_of_beq_false hb|skip);all_goals(try(exfalso;omega)))
   |(apply zan;exact rfl;all_goals intro hb;all_goals(try dsimp only at hb);all_goals(try simp only[hb]);all_goals(first|replace hb:=of_decide_eq_true hb|replace hb:=of_decide_eq_false hb|replace hb:=zao hb|replace hb:=zap hb|replace hb:=eq_of_beq hb|replace hb:=ne_of_beq_false hb|skip);all_goals(try(exfalso;omega))))
  all_goals(apply ret1;exact rfl;exact⟨h,dX,.inl ⟨rfl,rfl,rfl⟩⟩)
 ·obtain⟨⟨b1,b2⟩,⟨p1,p2⟩,_⟩:=zjn hR
  have hF1:=fun k hk=>(hF k hk).mono (R':=fun v h'=>∃p A c U u,v=.pointer (some ⟨p,0,none⟩)∧h'=zef p A c U u ps (List.replicate ps.length 0) k) (fun v h' hh=>by
   rcases hh with ⟨a,_⟩|⟨_,a⟩
   ·rw[hR]at a;cases a
   ·exact a)
  have hps:zdd ps.length bs.length=true:=by unfold zdd;simp;omega
  have hP1:=fun k=>(ziQ W k ps.length bs.length).mono (R':=fun v h'=>∃p AC cC AR cR rs,v=.pointer (some ⟨p,0,none⟩)∧h'=zaZ p AC cC AR cR (List.replicate ps.length 0) rs k∧rs.map PRow.l=List.replicate ps.length (List.replicate bs.length 0)) (fun v h' hh=>by
   rcases hh with ⟨a,_⟩|⟨_,a⟩
   ·rw[hps]at a;cases a
   ·exact a)
  repeat' (first
   |apply zaz|apply zaa|apply zay|apply zal|apply zam|apply zae|apply zaw
   |(apply zai hT;(iterate 4 exact rfl))|(apply zaj;(iterate 3 exact rfl))|(apply zad;(iterate 2 exact rfl))
   |(apply zax hT;(iterate 4 exact rfl);(iterate 2 (first|omega|(dsimp only;omega))))
   |(apply zbj [] [48,49,50,6,51] (.step 0 <| .step 1 <| .step 5 <| .step 6 <| .step 7 <| .step 8 <| .step 9 <| .step 10 <| .step 2 <| .step 3 <| .step 4 <| .step 11 <| .step 12 <| .step 13 <| .step 14 <| .step 15 <| .nil) hmix;decide+kernel)|apply zbX|apply zbY|(apply zbx;exact rfl)
   |(apply zbj [] [] (.step 0 <| .step 1 <| .step 3 <| .alt (.step 2 <| .step 4 <| .step 6 <| .step 5 <| .step 7 <| .step 8 <| .step 9 <| .nil) ((.step 4 <| .step 2 <| .step 6 <| .step 5 <| .step 7 <| .step 8 <| .step 9 <| .nil))) hmix;decide+kernel)|apply zbX|apply zbY|(apply zbx;exact rfl)
   |(apply zaV (hs:=(hF1 _ (by(intro c hc;(repeat(first|exact hc|apply List.mem_cons_of_mem|apply List.mem_append_right))))));(iterate 7 exact rfl);rintro _ _ ⟨pf,Af,cf,Uf,uf,rfl,rfl⟩)
   |(apply zaV (hs:=(hcb _ (by(intro c hc;(repeat(first|exact hc|apply List.mem_cons_of_mem|apply List.mem_append_right))))));(iterate 7 exact rfl);rintro _ _ ⟨A1,c1,rfl,rfl⟩)
   |(apply zaV (hs:=(hcl _ (by(intro c hc;(repeat(first|exact hc|apply List.mem_cons_of_mem|apply List.mem_append_right))))));(iterate 7 exact rfl);rintro _ _ ⟨A2,c2,rfl,rfl⟩)
   |(apply zbW (hs:=(zhz W _));(iterate 7 exact rfl);(rintro _ _ ⟨pq,rfl,rfl⟩;refine⟨[_],rfl,?_⟩))
   |(apply zbW (hs:=(zj6 W _));(iterate 7 exact rfl);(rintro _ _ ⟨pa,rfl,rfl⟩;refine⟨[_],rfl,?_⟩))
   |(apply zbW (hs:=(zj7 W _));(iterate 7 exact rfl);(rintro _ _ ⟨pu,rfl,rfl⟩;refine⟨[_],rfl,?_⟩))
   |(apply zbW (hs:=(ziR W _));(iterate 7 exact rfl);(rintro _ _ ⟨pb,rfl,rfl⟩;refine⟨[_],rfl,?_⟩))
   |(apply zbW (hs:=(hP1 _));(iterate 7 exact rfl);(rintro _ _ ⟨pp,AC,cC,AR,cR,rows,rfl,rfl,hrows⟩;refine⟨_::_::_::rows.map PRow.ck,rfl,?_⟩))
   |(apply zaP hT;(iterate 6 exact rfl);exact sX;(iterate 3 exact rfl);exact Nat.le_of_ble_eq_true rfl)
   |(apply zaQ hT (cs:=[.slice A1 bs.length c1,.slice A2 ps.length c2,.int .i64 look,.int .i64 beat,.int .i64 0,.slice none 0 0,ptrV pf,ptrV pq,ptrV pa,ptrV pu,ptrV pp,ptrV pb,.int .i64 0,.int .i64 0,.int .i64 0,.int .i64 0]);(iterate 4 exact rfl))
   |(apply zau;(iterate 5 exact rfl);intro gd)
   |(apply zab;(iterate 5 exact rfl);first|(apply zas hT;exact rfl;exact rfl;(repeat(first|exact List.mem_cons_self|apply List.mem_cons_of_mem|apply List.mem_append_right));exact rfl;exact rfl)|(apply zaq hT;exact rfl;exact rfl;(repeat(first|exact List.mem_cons_self|apply List.mem_cons_of_mem|apply List.mem_append_right));exact rfl))
   |(apply zau;(iterate 5 exact rfl);intro _)|(apply zac hT;(iterate 5 exact rfl);intro _)
   |(apply zaf;(iterate 2 exact rfl))|(apply zag;(iterate 2 exact rfl))
   |(apply zak;exact rfl;all_goals intro hb;all_goals(fail_if_success (change true=true at hb));all_goals(fail_if_success (change false=false at hb));all_goals(try dsimp only at hb);all_goals(try simp only[hb]);all_goals(first|replace hb:=of_decide_eq_true hb|replace hb:=of_decide_eq_false hb|replace hb:=zao hb|replace hb:=zap hb|replace hb:=eq_of_beq hb|replace hb:=ne_of_beq_false hb|skip);all_goals(try(exfalso;omega)))
   |(apply zan;exact rfl;all_goals intro hb;all_goals(try dsimp only at hb);all_goals(try simp only[hb]);all_goals(first|replace hb:=of_decide_eq_true hb|replace hb:=of_decide_eq_false hb|replace hb:=zao hb|replace hb:=zap hb|replace hb:=eq_of_beq hb|replace hb:=ne_of_beq_false hb|skip);all_goals(try(exfalso;omega))))
  all_goals try(exfalso;omega)
  all_goals
   refine zbG (fun w hw=>⟨_,((((hw.own_nil 113 1).own_nil 174 6).own_nil 87 10).own_nil 160 3).own_nil 30 8,?_⟩)
   refine zaX (α:=Nat×Sp×List BAd) (E:=fun x=>[(4,ptrV gd),(34,.int .i64 bs.length),(35,.int .i64 x.1)])
    (H:=fun x=>za3 ⟨gd,pf,pq,pa,pu,pp,pb,⟨A1,c1⟩,⟨A2,c2⟩,x.2.1,⟨Af,cf⟩,⟨Uf,uf⟩,⟨none,0⟩,⟨none,0⟩,⟨none,0⟩,⟨AC,cC⟩,⟨AR,cR⟩,⟨none,0⟩⟩ (zjm bs ps look beat x.1) x.2.2 rows h) (μ:=fun x=>bs.length - x.1)
    (S:=fun x=>x.1≤bs.length∧x.2.2.map BAd.l=List.replicate x.1 []) (0,⟨none,0⟩,[]) ⟨Nat.zero_le _,rfl⟩ ⟨rfl,rfl,rfl,trivial⟩ ?_ ?_
   ·simp only[za3,zcs,zjm,zbH,Sp.sl,Sp.own,zef,zaZ,List.length_replicate,List.map_replicate,List.length_nil,List.flatMap_nil,List.map_nil,List.replicate_zero,List.nil_append]
    exact dX
   ·rintro⟨k,sp,bks⟩ ⟨hk,hbk⟩
    dsimp only at hk hbk ⊢
    have hlen:bks.length=k:=by have:=congrArg List.length hbk;simpa using this
    by_cases hlt:k<bs.length
    ·have hd1:decide ((k:Int)<(bs.length:Int))=true:=by simp;omega
     simp only[za3,zcs,zjm,zbH,Sp.sl,Sp.own,List.length_replicate,List.map_replicate,List.length_nil,List.flatMap_nil,List.map_nil]
     repeat' (first
      |apply zaz|apply zaa|apply zay|apply zal|apply zam|apply zae|apply zaw
      |(apply zai hT;(iterate 4 exact rfl))|(apply zaj;(iterate 3 exact rfl))|(apply zad;(iterate 2 exact rfl))
      |(apply zax hT;(iterate 4 exact rfl);(iterate 2 (first|omega|(dsimp only;omega))))
      |(apply zbj [] [] (.step 0 <| .step 1 <| .step 2 <| .step 3 <| .alt (.step 4 <| .step 5 <| .step 6 <| .step 7 <| .step 8 <| .step 9 <| .step 10 <| .nil) ((.step 5 <| .step 4 <| .step 6 <| .step 7 <| .step 8 <| .step 9 <| .step 10 <| .nil))) hmix;decide+kernel)|apply zbX|apply zbY|(apply zbx;exact rfl)
      |(apply zaV (hs:=(zjl W _));(iterate 7 exact rfl);rintro _ _ ⟨pk,rfl,rfl⟩)
      |(apply zaI hT;(iterate 12 exact rfl);intro g43)
      |(apply za2 hT;(iterate 10 exact rfl);exact sX;exact zaD.own mem0 rfl (List.all_eq_true.1 rfl);omega;(show(_:Nat)*8≤_;omega);intro A' c')
      |(apply zaP hT;(iterate 6 exact rfl);exact sX;(iterate 3 exact rfl);exact Nat.le_of_ble_eq_true rfl)
      |(apply zab;(iterate 5 exact rfl);first|(apply zas hT;exact rfl;exact rfl;(repeat(first|exact List.mem_cons_self|apply List.mem_cons_of_mem|apply List.mem_append_right));exact rfl;exact rfl)|(apply zaq hT;exact rfl;exact rfl;(repeat(first|exact List.mem_cons_self|apply List.mem_cons_of_mem|apply List.mem_append_right));exact rfl))
      |(apply zau;(iterate 5 exact rfl);intro _)|(apply zac hT;(iterate 5 exact rfl);intro _)
      |(apply zaf;(iterate 2 exact rfl))|(apply zag;(iterate 2 exact rfl))
      |(apply zak;exact rfl;all_goals intro hb;all_goals(fail_if_success (change true=true at hb));all_goals(fail_if_success (change false=false at hb));all_goals(try dsimp only at hb);all_goals(try simp only[hb]);all_goals(first|replace hb:=of_decide_eq_true hb|replace hb:=of_decide_eq_false hb|replace hb:=zao hb|replace hb:=zap hb|replace hb:=eq_of_beq hb|replace hb:=ne_of_beq_false hb|skip);all_goals(try(exfalso;omega)))
      |(apply zan;exact rfl;all_goals intro hb;all_goals(try dsimp only at hb);all_goals(try simp only[hb]);all_goals(first|replace hb:=of_decide_eq_true hb|replace hb:=of_decide_eq_false hb|replace hb:=zao hb|replace hb:=zap hb|replace hb:=eq_of_beq hb|replace hb:=ne_of_beq_false hb|skip);all_goals(try(exfalso;omega))))
     all_goals try(exfalso;omega)
     all_goals
      refine zaM (k+1,⟨A',c'⟩,bks++[⟨pk,⟨none,0⟩,[]⟩]) (by dsimp only;omega) ⟨by dsimp only;omega,by dsimp only;rw[List.map_append,hbk,List.replicate_succ'];rfl⟩ ⟨rfl,rfl,rfl,trivial⟩ ?_
      dsimp only
      rw[List.map_append,List.flatMap_append,List.append_assoc]
      simp only[List.flatMap_cons,List.flatMap_nil,BAd.ck,Sp.sl,Sp.own,List.cons_append,List.nil_append,List.append_nil,List.length_nil]
      iterate 18 (apply zbr;· exact sX)
      refine zip ?_
      apply zbr;· exact sX
      refine zip ?_
      apply zbr;· exact sX
      exact dX
    ·obtain rfl:k=bs.length:=by omega
     have hd1:decide ((bs.length:Int)<(bs.length:Int))=false:=by simp
     repeat' (first
      |apply zaz|apply zaa|apply zay|apply zal|apply zam|apply zae|apply zaw
      |(apply zai hT;(iterate 4 exact rfl))|(apply zaj;(iterate 3 exact rfl))|(apply zad;(iterate 2 exact rfl))
      |(apply zax hT;(iterate 4 exact rfl);(iterate 2 (first|omega|(dsimp only;omega))))
      |(apply zar [] [] hmix;decide+kernel)
      |(apply zab;(iterate 5 exact rfl);first|(apply zas hT;exact rfl;exact rfl;(repeat(first|exact List.mem_cons_self|apply List.mem_cons_of_mem|apply List.mem_append_right));exact rfl;exact rfl)|(apply zaq hT;exact rfl;exact rfl;(repeat(first|exact List.mem_cons_self|apply List.mem_cons_of_mem|apply List.mem_append_right));exact rfl))
      |(apply zau;(iterate 5 exact rfl);intro _)|(apply zac hT;(iterate 5 exact rfl);intro _)
      |(apply zaf;(iterate 2 exact rfl))|(apply zag;(iterate 2 exact rfl))
      |(apply zak;exact rfl;all_goals intro hb;all_goals(fail_if_success (change true=true at hb));all_goals(fail_if_success (change false=false at hb));all_goals(try dsimp only at hb);all_goals(try simp only[hb]);all_goals(first|replace hb:=of_decide_eq_true hb|replace hb:=of_decide_eq_false hb|replace hb:=zao hb|replace hb:=zap hb|replace hb:=eq_of_beq hb|replace hb:=ne_of_beq_false hb|skip);all_goals(try(exfalso;omega)))
      |(apply zan;exact rfl;all_goals intro hb;all_goals(try dsimp only at hb);all_goals(try simp only[hb]);all_goals(first|replace hb:=of_decide_eq_true hb|replace hb:=of_decide_eq_false hb|replace hb:=zao hb|replace hb:=zap hb|replace hb:=eq_of_beq hb|replace hb:=ne_of_beq_false hb|skip);all_goals(try(exfalso;omega))))
     all_goals first
      |(exfalso;omega)
      |(apply ret1;exact rfl;exact⟨_,zbJ,.inr ⟨by trivial,⟨gd,pf,pq,pa,pu,pp,pb,⟨A1,c1⟩,⟨A2,c2⟩,sp,⟨Af,cf⟩,⟨Uf,uf⟩,⟨none,0⟩,⟨none,0⟩,⟨none,0⟩,⟨AC,cC⟩,⟨AR,cR⟩,⟨none,0⟩⟩,bks,rows,rfl,rfl,hbk,hrows⟩⟩)
      |skip
end Go.Proofs.YteocfhdocpeokaaGreat
set_option linter.unusedSimpArgs false
set_option linter.unusedVariables false
namespace Go.Proofs.YteocfhdocpeokaaGreat
open Go Go.Sl
attribute [local irreducible] AW ES Ld RetQ
set_option maxRecDepth 100000
theorem zgI (W:World)(h:List zah)(A:Option Addr)(n c:Nat)(cs:List Value)(hr:zaD W h A n 8 cs)(hb:n*64≤140737488355328):
 zaL Tryz.prog W 103 [.slice A n c] h (fun v h'=>∃A' c',v=.slice A' n c'∧h'=.own A' n c' 30 8 cs::h):=by
 refine zaL.drop ?_
 refine zaA Tryz.func103 rfl rfl Tryz.results103 Tryz.ntmps103 rfl rfl ?_
 refine zaO hr rfl (fun hA=> ?_)
 cases A with
 |none=>
  have hn:n=0:=by
   rcases Nat.eq_zero_or_pos n with h|h
   ·exact h
   ·have:=hA h;simp at this
  subst hn
  have hcs:cs=[]:=List.eq_nil_of_length_eq_zero (by simpa using hr.len)
  subst hcs
  refine zbG (fun w hw=>⟨_,hw.own_nil 30 8,?_⟩)
  repeat' (first
   |apply zaz|apply zaa|apply zay|apply zal|apply zam|apply zae|apply zaw
   |(apply zai hT;(iterate 4 exact rfl))|(apply zaj;(iterate 3 exact rfl))|(apply zad;(iterate 2 exact rfl))
   |(apply zax hT;(iterate 4 exact rfl);(iterate 2 (first|omega|(dsimp only;omega))))
   |(apply zar [] [] hmix;decide+kernel)
   |(apply zab;(iterate 5 exact rfl);first|(apply zas hT;exact rfl;exact rfl;(repeat(first|exact List.mem_cons_self|apply List.mem_cons_of_mem));exact rfl;exact rfl)|(apply zaq hT;exact rfl;exact rfl;(repeat(first|exact List.mem_cons_self|apply List.mem_cons_of_mem));exact rfl))
   |(apply zau;(iterate 5 exact rfl);intro _)|(apply zac hT;(iterate 5 exact rfl);intro _)
   |(apply zaf;(iterate 2 exact rfl))|(apply zag;(iterate 2 exact rfl))
   |(apply zak;exact rfl;all_goals intro hb;all_goals(fail_if_success (change true=true at hb));all_goals(fail_if_success (change false=false at hb));all_goals(try dsimp only at hb);all_goals(try simp only[hb]);all_goals(first|replace hb:=of_decide_eq_true hb|replace hb:=of_decide_eq_false hb|replace hb:=zao hb|replace hb:=zap hb|replace hb:=eq_of_beq hb|replace hb:=ne_of_beq_false hb|skip);all_goals(try(exfalso;omega)))
   |(apply zan;exact rfl;all_goals intro hb;all_goals(try dsimp only at hb);all_goals(try simp only[hb]);all_goals(first|replace hb:=of_decide_eq_true hb|replace hb:=of_decide_eq_false hb|replace hb:=zao hb|replace hb:=zap hb|replace hb:=eq_of_beq hb|replace hb:=ne_of_beq_false hb|skip);all_goals(try(exfalso;omega))))
  apply ret1;exact rfl
  exact⟨[],_,plr _,none,0,rfl,rfl⟩
 |some ad=>
  repeat' (first
   |apply zaz|apply zaa|apply zay|apply zal|apply zam|apply zae|apply zaw
   |(apply zai hT;(iterate 4 exact rfl))|(apply zaj;(iterate 3 exact rfl))|(apply zad;(iterate 2 exact rfl))
   |(apply zax hT;(iterate 4 exact rfl);(iterate 2 (first|omega|(dsimp only;omega))))
   |(apply zar [] [] hmix;decide+kernel)
   |(apply zaI hT;(iterate 12 exact rfl);intro g1)
   |(apply za2 hT;(iterate 10 exact rfl);exact sel0;exact hr.cons;omega;(show(0+n)*64≤_;omega);intro A' c')
   |(apply zab;(iterate 5 exact rfl);first|(apply zas hT;exact rfl;exact rfl;(repeat(first|exact List.mem_cons_self|apply List.mem_cons_of_mem));exact rfl;exact rfl)|(apply zaq hT;exact rfl;exact rfl;(repeat(first|exact List.mem_cons_self|apply List.mem_cons_of_mem));exact rfl))
   |(apply zau;(iterate 5 exact rfl);intro _)|(apply zac hT;(iterate 5 exact rfl);intro _)
   |(apply zaf;(iterate 2 exact rfl))|(apply zag;(iterate 2 exact rfl))
   |(apply zak;exact rfl;all_goals intro hb;all_goals(fail_if_success (change true=true at hb));all_goals(fail_if_success (change false=false at hb));all_goals(try dsimp only at hb);all_goals(try simp only[hb]);all_goals(first|replace hb:=of_decide_eq_true hb|replace hb:=of_decide_eq_false hb|replace hb:=zao hb|replace hb:=zap hb|replace hb:=eq_of_beq hb|replace hb:=ne_of_beq_false hb|skip);all_goals(try(exfalso;omega)))
   |(apply zan;exact rfl;all_goals intro hb;all_goals(try dsimp only at hb);all_goals(try simp only[hb]);all_goals(first|replace hb:=of_decide_eq_true hb|replace hb:=of_decide_eq_false hb|replace hb:=zao hb|replace hb:=zap hb|replace hb:=eq_of_beq hb|replace hb:=ne_of_beq_false hb|skip);all_goals(try(exfalso;omega))))
  apply ret1;exact rfl
  refine⟨[],_,plr _,A',c',by rw[Nat.zero_add],?_⟩
  show zah.own A' (0+n) c' 30 8 ([]++cs)::h=_
  simp
end Go.Proofs.YteocfhdocpeokaaGreat
set_option linter.unusedSimpArgs false
set_option linter.unusedVariables false
namespace Go.Proofs.YteocfhdocpeokaaGreat
open Go Go.Sl
attribute [local irreducible] AW ES Ld RetQ
set_option maxRecDepth 100000
theorem zfo (W:World)(h:List zah)(A:Option Addr)(n c:Nat)(l:List AskR)(hn:l.length=n)(hr:zaD W h A n 10 (l.flatMap AskR.enc))(fn:FuncId)(cap:List Value)(p:AskR→Bool)
 (hf:∀x∈l,zaF Tryz.prog W fn ([.agg x.enc.toArray]++cap) h (.bool (p x)))(hb:n≤4611686018427387903):
 zaF Tryz.prog W 100 [.slice A n c,.func (.func fn) #[] cap.toArray] h (.int .i64 (za0 p l)):=by
 refine zaF.of (fun h' hs=> ?_)
 have hr':=hr.mono hs
 refine zaA Tryz.func100 rfl rfl Tryz.results100 Tryz.ntmps100 rfl rfl ?_
 refine zaO hr' rfl (fun hA=> ?_)
 repeat' (first
  |apply zaz|apply zaa|apply zay|apply zal|apply zam|apply zae|apply zaw
  |(apply zai hT;(iterate 4 exact rfl))|(apply zaj;(iterate 3 exact rfl))|(apply zad;(iterate 2 exact rfl))
  |(apply zax hT;(iterate 4 exact rfl);(iterate 2 (first|omega|(dsimp only;omega))))
  |(apply zar [] [] hmix;decide+kernel)
  |(apply zab;(iterate 5 exact rfl);first|(apply zas hT;exact rfl;exact rfl;(repeat(first|exact List.mem_cons_self|apply List.mem_cons_of_mem|apply List.mem_append_right));exact rfl;exact rfl)|(apply zaq hT;exact rfl;exact rfl;(repeat(first|exact List.mem_cons_self|apply List.mem_cons_of_mem|apply List.mem_append_right));exact rfl))
  |(apply zau;(iterate 5 exact rfl);intro _)|(apply zac hT;(iterate 5 exact rfl);intro _)
  |(apply zaf;(iterate 2 exact rfl))|(apply zag;(iterate 2 exact rfl))
  |(apply zak;exact rfl;all_goals intro hb;all_goals(fail_if_success (change true=true at hb));all_goals(fail_if_success (change false=false at hb));all_goals(try dsimp only at hb);all_goals(try simp only[hb]);all_goals(first|replace hb:=of_decide_eq_true hb|replace hb:=of_decide_eq_false hb|replace hb:=zao hb|replace hb:=zap hb|replace hb:=eq_of_beq hb|replace hb:=ne_of_beq_false hb|skip);all_goals(try(exfalso;omega)))
  |(apply zan;exact rfl;all_goals intro hb;all_goals(try dsimp only at hb);all_goals(try simp only[hb]);all_goals(first|replace hb:=of_decide_eq_true hb|replace hb:=of_decide_eq_false hb|replace hb:=zao hb|replace hb:=zap hb|replace hb:=eq_of_beq hb|replace hb:=ne_of_beq_false hb|skip);all_goals(try(exfalso;omega))))
 refine zds (α:=Nat) (E:=fun k=>[(0,.slice A n c),(1,.func (.func fn) #[] cap.toArray),(7,.int .i64 n),(8,.int .i64 k)]) (H:=fun _=>h') (μ:=fun k=>n - k)
  (S:=fun k=>k≤n∧∀(j:Nat) y,j<k→l[j]? =some y→p y=false) 0 (J:=[]) ⟨Nat.zero_le _,fun j y hj=>by omega⟩ ⟨rfl,rfl,rfl,rfl,trivial⟩ (plr _) ?_
 rintro k ⟨hk1,hk2⟩
 by_cases hlt:k<n
 ·obtain⟨x,hx⟩:∃x,l[k]? =some x:=⟨l[k]'(by omega),gge (by omega)⟩
  have hx2:l[(k:Int).toNat]? =some x:=by simpa using hx
  have hfx:=(hf x (mog hx)).mono hs
  have hA':=hA (by omega)
  repeat' (first
   |apply zaz|apply zaa|apply zay|apply zal|apply zam|apply zae|apply zaw
   |(apply zai hT;(iterate 4 exact rfl))|(apply zaj;(iterate 3 exact rfl))|(apply zad;(iterate 2 exact rfl))
   |(apply zax hT;(iterate 4 exact rfl);(iterate 2 (first|omega|(dsimp only;omega))))
   |(apply zar [] [] hmix;decide+kernel)
   |(apply zaU hT;(iterate 8 exact rfl);(iterate 2 omega);exact hA')
   |(apply zab;(iterate 5 exact rfl);exact zaY hT rfl rfl hr' AskR.enc_len rfl hx2 rfl)
   |(apply zaC (hs:=hfx);(iterate 7 exact rfl))
   |(apply zab;(iterate 5 exact rfl);first|(apply zas hT;exact rfl;exact rfl;(repeat(first|exact List.mem_cons_self|apply List.mem_cons_of_mem|apply List.mem_append_right));exact rfl;exact rfl)|(apply zaq hT;exact rfl;exact rfl;(repeat(first|exact List.mem_cons_self|apply List.mem_cons_of_mem|apply List.mem_append_right));exact rfl))
   |(apply zau;(iterate 5 exact rfl);intro _)|(apply zac hT;(iterate 5 exact rfl);intro _)
   |(apply zaf;(iterate 2 exact rfl))|(apply zag;(iterate 2 exact rfl))
   |(apply zak;exact rfl;all_goals intro hb;all_goals(fail_if_success (change true=true at hb));all_goals(fail_if_success (change false=false at hb));all_goals(try dsimp only at hb);all_goals(try simp only[hb]);all_goals(first|replace hb:=of_decide_eq_true hb|replace hb:=of_decide_eq_false hb|replace hb:=zao hb|replace hb:=zap hb|replace hb:=eq_of_beq hb|replace hb:=ne_of_beq_false hb|skip);all_goals(try(exfalso;omega)))
   |(apply zan;exact rfl;all_goals intro hb;all_goals(try dsimp only at hb);all_goals(try simp only[hb]);all_goals(first|replace hb:=of_decide_eq_true hb|replace hb:=of_decide_eq_false hb|replace hb:=zao hb|replace hb:=zap hb|replace hb:=eq_of_beq hb|replace hb:=ne_of_beq_false hb|skip);all_goals(try(exfalso;omega))))
  ·exact zfa (J:=[]) rfl (by rw[zc9 hx hb hk2]) (plr _)
  ·have hpx:=hb
   refine⟨k+1,[],by dsimp only;omega,⟨by omega,fun j y hj hy=> ?_⟩,⟨rfl,rfl,rfl,rfl,trivial⟩,plr _⟩
   by_cases hjk:j<k
   ·exact hk2 j y hjk hy
   ·obtain rfl:j=k:=by omega
    rw[hx]at hy;cases hy;exact hpx
 ·repeat' (first
   |apply zaz|apply zaa|apply zay|apply zal|apply zam|apply zae|apply zaw
   |(apply zai hT;(iterate 4 exact rfl))|(apply zaj;(iterate 3 exact rfl))|(apply zad;(iterate 2 exact rfl))
   |(apply zax hT;(iterate 4 exact rfl);(iterate 2 (first|omega|(dsimp only;omega))))
   |(apply zar [] [] hmix;decide+kernel)
   |(apply zab;(iterate 5 exact rfl);first|(apply zas hT;exact rfl;exact rfl;(repeat(first|exact List.mem_cons_self|apply List.mem_cons_of_mem|apply List.mem_append_right));exact rfl;exact rfl)|(apply zaq hT;exact rfl;exact rfl;(repeat(first|exact List.mem_cons_self|apply List.mem_cons_of_mem|apply List.mem_append_right));exact rfl))
   |(apply zau;(iterate 5 exact rfl);intro _)|(apply zac hT;(iterate 5 exact rfl);intro _)
   |(apply zaf;(iterate 2 exact rfl))|(apply zag;(iterate 2 exact rfl))
   |(apply zak;exact rfl;all_goals intro hb;all_goals(fail_if_success (change true=true at hb));all_goals(fail_if_success (change false=false at hb));all_goals(try dsimp only at hb);all_goals(try simp only[hb]);all_goals(first|replace hb:=of_decide_eq_true hb|replace hb:=of_decide_eq_false hb|replace hb:=zao hb|replace hb:=zap hb|replace hb:=eq_of_beq hb|replace hb:=ne_of_beq_false hb|skip);all_goals(try(exfalso;omega)))
   |(apply zan;exact rfl;all_goals intro hb;all_goals(try dsimp only at hb);all_goals(try simp only[hb]);all_goals(first|replace hb:=of_decide_eq_true hb|replace hb:=of_decide_eq_false hb|replace hb:=zao hb|replace hb:=zap hb|replace hb:=eq_of_beq hb|replace hb:=ne_of_beq_false hb|skip);all_goals(try(exfalso;omega))))
  exact zfa (J:=[]) rfl (by rw[zbA (fun(j:Nat) y hj=>hk2 j y (by have:=(gsi.1 hj).1;omega) hj)]) (plr _)
theorem zdM (W:World)(h:List zah)(A:Option Addr)(n c:Nat)(l:List AskR)(hn:l.length=n)(hr:zaD W h A n 10 (l.flatMap AskR.enc))(fn:FuncId)(cap:List Value)(p:AskR→Bool)
 (hf:∀x∈l,zaF Tryz.prog W fn ([.agg x.enc.toArray]++cap) h (.bool (p x)))(hb:n≤4611686018427387903):
 zaF Tryz.prog W 62 [.slice A n c,.func (.func fn) #[] cap.toArray] h (.bool (decide (za0 p l≥0))):=by
 refine zaF.of (fun h' hs=> ?_)
 refine zaA Tryz.func62 rfl rfl Tryz.results62 Tryz.ntmps62 rfl rfl ?_
 repeat' (first
  |apply zaz|apply zaa|apply zay|apply zal|apply zam|apply zae|apply zaw
  |(apply zai hT;(iterate 4 exact rfl))|(apply zaj;(iterate 3 exact rfl))|(apply zad;(iterate 2 exact rfl))
  |(apply zax hT;(iterate 4 exact rfl);(iterate 2 (first|omega|(dsimp only;omega))))
  |(apply zar [] [] hmix;decide+kernel)
  |(apply zaC (hs:=((zfo W h A n c l hn hr fn cap p hf hb).mono hs));(iterate 7 exact rfl))
  |(apply zab;(iterate 5 exact rfl);first|(apply zas hT;exact rfl;exact rfl;(repeat(first|exact List.mem_cons_self|apply List.mem_cons_of_mem|apply List.mem_append_right));exact rfl;exact rfl)|(apply zaq hT;exact rfl;exact rfl;(repeat(first|exact List.mem_cons_self|apply List.mem_cons_of_mem|apply List.mem_append_right));exact rfl))
  |(apply zau;(iterate 5 exact rfl);intro _)|(apply zac hT;(iterate 5 exact rfl);intro _)
  |(apply zaf;(iterate 2 exact rfl))|(apply zag;(iterate 2 exact rfl))
  |(apply zak;exact rfl;all_goals intro hb;all_goals(fail_if_success (change true=true at hb));all_goals(fail_if_success (change false=false at hb));all_goals(try dsimp only at hb);all_goals(try simp only[hb]);all_goals(first|replace hb:=of_decide_eq_true hb|replace hb:=of_decide_eq_false hb|replace hb:=zao hb|replace hb:=zap hb|replace hb:=eq_of_beq hb|replace hb:=ne_of_beq_false hb|skip);all_goals(try(exfalso;omega)))
  |(apply zan;exact rfl;all_goals intro hb;all_goals(try dsimp only at hb);all_goals(try simp only[hb]);all_goals(first|replace hb:=of_decide_eq_true hb|replace hb:=of_decide_eq_false hb|replace hb:=zao hb|replace hb:=zap hb|replace hb:=eq_of_beq hb|replace hb:=ne_of_beq_false hb|skip);all_goals(try(exfalso;omega))))
 exact zfa (J:=[]) rfl rfl (plr _)
end Go.Proofs.YteocfhdocpeokaaGreat
set_option linter.unusedSimpArgs false
set_option linter.unusedVariables false
namespace Go.Proofs.YteocfhdocpeokaaGreat
open Go Go.Sl
attribute [local irreducible] AW ES EP Ld RetQ
set_option maxRecDepth 100000
theorem zks (W:World)(x:DAd)(s:Dk):zaF Tryz.prog W 61 [ptrV x.d] [.blk x.d 112 (zcs x s)] (.int .i64 s.now):=by
 refine zaF.ofD (fun h' hs=> ?_)
 have m0:=hs _ mem0
 refine zaA Tryz.func61 rfl rfl Tryz.results61 Tryz.ntmps61 rfl rfl ?_
 repeat' (first
  |apply zaz|apply zaa|apply zay|apply zal|apply zam|apply zae|apply zaw
  |(apply zai hT;(iterate 4 exact rfl))|(apply zaj;(iterate 3 exact rfl))|(apply zad;(iterate 2 exact rfl))
  |(apply zax hT;(iterate 4 exact rfl);(iterate 2 (first|omega|(dsimp only;omega))))
  |(apply zar [] [] hmix;decide+kernel)
  |(apply zab;(iterate 5 exact rfl);first|(apply zas hT;exact rfl;exact rfl;(repeat(first|exact List.mem_cons_self|exact m0|apply List.mem_cons_of_mem|apply List.mem_append_right));exact rfl;exact rfl)|(apply zaq hT;exact rfl;exact rfl;(repeat(first|exact List.mem_cons_self|exact m0|apply List.mem_cons_of_mem|apply List.mem_append_right));exact rfl))
  |(apply zau;(iterate 5 exact rfl);intro _)|(apply zac hT;(iterate 5 exact rfl);intro _)
  |(apply zaf;(iterate 2 exact rfl))|(apply zag;(iterate 2 exact rfl))
  |(apply zak;exact rfl;all_goals intro hb;all_goals(fail_if_success (change true=true at hb));all_goals(fail_if_success (change false=false at hb));all_goals(try dsimp only at hb);all_goals(try simp only[hb]);all_goals(first|replace hb:=of_decide_eq_true hb|replace hb:=of_decide_eq_false hb|replace hb:=zao hb|replace hb:=zap hb|replace hb:=eq_of_beq hb|replace hb:=ne_of_beq_false hb|skip);all_goals(try(exfalso;omega)))
  |(apply zan;exact rfl;all_goals intro hb;all_goals(try dsimp only at hb);all_goals(try simp only[hb]);all_goals(first|replace hb:=of_decide_eq_true hb|replace hb:=of_decide_eq_false hb|replace hb:=zao hb|replace hb:=zap hb|replace hb:=eq_of_beq hb|replace hb:=ne_of_beq_false hb|skip);all_goals(try(exfalso;omega))))
 all_goals first
  |(apply ret1;exact rfl;exact⟨rfl,dX⟩)
  |skip
theorem zkt (W:World)(x:DAd)(s:Dk):zaF Tryz.prog W 60 [ptrV x.d] [.blk x.d 112 (zcs x s)] (ptrV x.p):=by
 refine zaF.ofD (fun h' hs=> ?_)
 have m0:=hs _ mem0
 refine zaA Tryz.func60 rfl rfl Tryz.results60 Tryz.ntmps60 rfl rfl ?_
 repeat' (first
  |apply zaz|apply zaa|apply zay|apply zal|apply zam|apply zae|apply zaw
  |(apply zai hT;(iterate 4 exact rfl))|(apply zaj;(iterate 3 exact rfl))|(apply zad;(iterate 2 exact rfl))
  |(apply zax hT;(iterate 4 exact rfl);(iterate 2 (first|omega|(dsimp only;omega))))
  |(apply zar [] [] hmix;decide+kernel)
  |(apply zab;(iterate 5 exact rfl);first|(apply zas hT;exact rfl;exact rfl;(repeat(first|exact List.mem_cons_self|exact m0|apply List.mem_cons_of_mem|apply List.mem_append_right));exact rfl;exact rfl)|(apply zaq hT;exact rfl;exact rfl;(repeat(first|exact List.mem_cons_self|exact m0|apply List.mem_cons_of_mem|apply List.mem_append_right));exact rfl))
  |(apply zau;(iterate 5 exact rfl);intro _)|(apply zac hT;(iterate 5 exact rfl);intro _)
  |(apply zaf;(iterate 2 exact rfl))|(apply zag;(iterate 2 exact rfl))
  |(apply zak;exact rfl;all_goals intro hb;all_goals(fail_if_success (change true=true at hb));all_goals(fail_if_success (change false=false at hb));all_goals(try dsimp only at hb);all_goals(try simp only[hb]);all_goals(first|replace hb:=of_decide_eq_true hb|replace hb:=of_decide_eq_false hb|replace hb:=zao hb|replace hb:=zap hb|replace hb:=eq_of_beq hb|replace hb:=ne_of_beq_false hb|skip);all_goals(try(exfalso;omega)))
  |(apply zan;exact rfl;all_goals intro hb;all_goals(try dsimp only at hb);all_goals(try simp only[hb]);all_goals(first|replace hb:=of_decide_eq_true hb|replace hb:=of_decide_eq_false hb|replace hb:=zao hb|replace hb:=zap hb|replace hb:=eq_of_beq hb|replace hb:=ne_of_beq_false hb|skip);all_goals(try(exfalso;omega))))
 all_goals first
  |(apply ret1;exact rfl;exact⟨rfl,dX⟩)
  |skip
theorem zjo (W:World)(p:Nat)(sl:Value)(head:Int):zaF Tryz.prog W 99 [ptrV p] [.blk p 149 [sl,.int .u64 head]] (.int .u64 head):=by
 refine zaF.ofD (fun h' hs=> ?_)
 have m0:=hs _ mem0
 refine zaA Tryz.func99 rfl rfl Tryz.results99 Tryz.ntmps99 rfl rfl ?_
 repeat' (first
  |apply zaz|apply zaa|apply zay|apply zal|apply zam|apply zae|apply zaw
  |(apply zai hT;(iterate 4 exact rfl))|(apply zaj;(iterate 3 exact rfl))|(apply zad;(iterate 2 exact rfl))
  |(apply zax hT;(iterate 4 exact rfl);(iterate 2 (first|omega|(dsimp only;omega))))
  |(apply zar [] [] hmix;decide+kernel)
  |(apply zab;(iterate 5 exact rfl);first|(apply zas hT;exact rfl;exact rfl;(repeat(first|exact List.mem_cons_self|exact m0|apply List.mem_cons_of_mem|apply List.mem_append_right));exact rfl;exact rfl)|(apply zaq hT;exact rfl;exact rfl;(repeat(first|exact List.mem_cons_self|exact m0|apply List.mem_cons_of_mem|apply List.mem_append_right));exact rfl))
  |(apply zau;(iterate 5 exact rfl);intro _)|(apply zac hT;(iterate 5 exact rfl);intro _)
  |(apply zaf;(iterate 2 exact rfl))|(apply zag;(iterate 2 exact rfl))
  |(apply zak;exact rfl;all_goals intro hb;all_goals(fail_if_success (change true=true at hb));all_goals(fail_if_success (change false=false at hb));all_goals(try dsimp only at hb);all_goals(try simp only[hb]);all_goals(first|replace hb:=of_decide_eq_true hb|replace hb:=of_decide_eq_false hb|replace hb:=zao hb|replace hb:=zap hb|replace hb:=eq_of_beq hb|replace hb:=ne_of_beq_false hb|skip);all_goals(try(exfalso;omega)))
  |(apply zan;exact rfl;all_goals intro hb;all_goals(try dsimp only at hb);all_goals(try simp only[hb]);all_goals(first|replace hb:=of_decide_eq_true hb|replace hb:=of_decide_eq_false hb|replace hb:=zao hb|replace hb:=zap hb|replace hb:=eq_of_beq hb|replace hb:=ne_of_beq_false hb|skip);all_goals(try(exfalso;omega))))
 all_goals first
  |(apply ret1;exact rfl;exact⟨rfl,dX⟩)
  |skip
theorem zjp (W:World)(x:DAd)(s:Dk)(sl:Value):zaF Tryz.prog W 59 [ptrV x.d] [.blk x.d 112 (zcs x s),.blk x.b 149 [sl,.int .u64 s.head]] (.int .u64 s.head):=by
 refine zaF.ofD (fun h' hs=> ?_)
 have m0:=hs _ mem0
 have m1:=hs _ mem1
 refine zaA Tryz.func59 rfl rfl Tryz.results59 Tryz.ntmps59 rfl rfl ?_
 repeat' (first
  |apply zaz|apply zaa|apply zay|apply zal|apply zam|apply zae|apply zaw
  |(apply zai hT;(iterate 4 exact rfl))|(apply zaj;(iterate 3 exact rfl))|(apply zad;(iterate 2 exact rfl))
  |(apply zax hT;(iterate 4 exact rfl);(iterate 2 (first|omega|(dsimp only;omega))))
  |(apply zar [] [] hmix;decide+kernel)
  |(apply zaC (hs:=((zjo W x.b sl s.head).mono (by intro c hc;rw[lms.1 hc];exact m1)));(iterate 7 exact rfl))
  |(apply zab;(iterate 5 exact rfl);first|(apply zas hT;exact rfl;exact rfl;(repeat(first|exact List.mem_cons_self|exact m0|apply List.mem_cons_of_mem|apply List.mem_append_right));exact rfl;exact rfl)|(apply zaq hT;exact rfl;exact rfl;(repeat(first|exact List.mem_cons_self|exact m0|apply List.mem_cons_of_mem|apply List.mem_append_right));exact rfl))
  |(apply zau;(iterate 5 exact rfl);intro _)|(apply zac hT;(iterate 5 exact rfl);intro _)
  |(apply zaf;(iterate 2 exact rfl))|(apply zag;(iterate 2 exact rfl))
  |(apply zak;exact rfl;all_goals intro hb;all_goals(fail_if_success (change true=true at hb));all_goals(fail_if_success (change false=false at hb));all_goals(try dsimp only at hb);all_goals(try simp only[hb]);all_goals(first|replace hb:=of_decide_eq_true hb|replace hb:=of_decide_eq_false hb|replace hb:=zao hb|replace hb:=zap hb|replace hb:=eq_of_beq hb|replace hb:=ne_of_beq_false hb|skip);all_goals(try(exfalso;omega)))
  |(apply zan;exact rfl;all_goals intro hb;all_goals(try dsimp only at hb);all_goals(try simp only[hb]);all_goals(first|replace hb:=of_decide_eq_true hb|replace hb:=of_decide_eq_false hb|replace hb:=zao hb|replace hb:=zap hb|replace hb:=eq_of_beq hb|replace hb:=ne_of_beq_false hb|skip);all_goals(try(exfalso;omega))))
 all_goals first
  |(apply ret1;exact rfl;exact⟨rfl,dX⟩)
  |skip
theorem zgJ (W:World)(x:DAd)(s:Dk)(n:Int):zaF Tryz.prog W 96 [ptrV x.d,.int .i64 n] [.blk x.d 112 (zcs x s)] (.bool (decide (n≥0)&&decide (n<s.books.length))):=by
 refine zaF.ofD (fun h' hs=> ?_)
 have m0:=hs _ mem0
 refine zaA Tryz.func96 rfl rfl Tryz.results96 Tryz.ntmps96 rfl rfl ?_
 repeat' (first
  |apply zaz|apply zaa|apply zay|apply zal|apply zam|apply zae|apply zaw
  |(apply zai hT;(iterate 4 exact rfl))|(apply zaj;(iterate 3 exact rfl))|(apply zad;(iterate 2 exact rfl))
  |(apply zax hT;(iterate 4 exact rfl);(iterate 2 (first|omega|(dsimp only;omega))))
  |(apply zar [] [] hmix;decide+kernel)
  |(apply zab;(iterate 5 exact rfl);first|(apply zas hT;exact rfl;exact rfl;(repeat(first|exact List.mem_cons_self|exact m0|apply List.mem_cons_of_mem|apply List.mem_append_right));exact rfl;exact rfl)|(apply zaq hT;exact rfl;exact rfl;(repeat(first|exact List.mem_cons_self|exact m0|apply List.mem_cons_of_mem|apply List.mem_append_right));exact rfl))
  |(apply zau;(iterate 5 exact rfl);intro _)|(apply zac hT;(iterate 5 exact rfl);intro _)
  |(apply zaf;(iterate 2 exact rfl))|(apply zag;(iterate 2 exact rfl))
  |(apply zak;exact rfl;all_goals intro hb;all_goals(fail_if_success (change true=true at hb));all_goals(fail_if_success (change false=false at hb));all_goals(try dsimp only at hb);all_goals(try simp only[hb]);all_goals(first|replace hb:=of_decide_eq_true hb|replace hb:=of_decide_eq_false hb|replace hb:=zao hb|replace hb:=zap hb|replace hb:=eq_of_beq hb|replace hb:=ne_of_beq_false hb|skip);all_goals(try(exfalso;omega)))
  |(apply zan;exact rfl;all_goals intro hb;all_goals(try dsimp only at hb);all_goals(try simp only[hb]);all_goals(first|replace hb:=of_decide_eq_true hb|replace hb:=of_decide_eq_false hb|replace hb:=zao hb|replace hb:=zap hb|replace hb:=eq_of_beq hb|replace hb:=ne_of_beq_false hb|skip);all_goals(try(exfalso;omega))))
 all_goals first
  |(apply ret1;exact rfl;exact⟨by(first|(simp_all;done)|(simp;omega)),dX⟩)
  |skip
theorem zjq (W:World)(x:DAd)(s:Dk)(bks:List BAd)(i:Nat)(b:BAd)(hl:bks.length=s.books.length)(hi:bks[i]? =some b)(h4:bks.length≤1000000):
 zaF Tryz.prog W 57 [ptrV x.d,.int .i64 i] [.blk x.d 112 (zcs x s),x.books.own s.books.length 113 1 (bks.map BAd.ptr)] (ptrV b.p):=by
 refine zaF.ofD (fun h' hs=> ?_)
 have m0:=hs _ mem0
 have m1:=hs _ mem1
 have hil:=(gsi.1 hi).1
 have hB:=(zgJ W x s i).cast (u:=.bool true) (by simp;omega)
 have hrd:zaD W h' x.books.A s.books.length 1 (bks.map BAd.ptr):=zaD.own m1 (by simp[hl]) (fun v hv=>by
  obtain⟨y,_,rfl⟩:=lmm.1 hv
  rfl)
 have hix:(bks.map BAd.ptr)[(i:Int).toNat*1]? =some (ptrV b.p):=by simp[hi];rfl
 refine zaA Tryz.func57 rfl rfl Tryz.results57 Tryz.ntmps57 rfl rfl ?_
 refine zaO hrd rfl (fun hA=> ?_)
 have hA':=hA (by omega)
 repeat' (first
  |apply zaz|apply zaa|apply zay|apply zal|apply zam|apply zae|apply zaw
  |(apply zai hT;(iterate 4 exact rfl))|(apply zaj;(iterate 3 exact rfl))|(apply zad;(iterate 2 exact rfl))
  |(apply zax hT;(iterate 4 exact rfl);(iterate 2 (first|omega|(dsimp only;omega))))
  |(apply zar [] [] hmix;decide+kernel)
  |(apply zaC (hs:=(hB.mono (by intro c hc;rw[lms.1 hc];exact m0)));(iterate 7 exact rfl))
  |(apply zaU hT;(iterate 8 exact rfl);(iterate 2 omega);exact hA')
  |(apply zab;(iterate 5 exact rfl);exact zbd hT rfl rfl hrd rfl hix)
  |(apply zab;(iterate 5 exact rfl);first|(apply zas hT;exact rfl;exact rfl;(repeat(first|exact List.mem_cons_self|exact m0|apply List.mem_cons_of_mem|apply List.mem_append_right));exact rfl;exact rfl)|(apply zaq hT;exact rfl;exact rfl;(repeat(first|exact List.mem_cons_self|exact m0|apply List.mem_cons_of_mem|apply List.mem_append_right));exact rfl))
  |(apply zau;(iterate 5 exact rfl);intro _)|(apply zac hT;(iterate 5 exact rfl);intro _)
  |(apply zaf;(iterate 2 exact rfl))|(apply zag;(iterate 2 exact rfl))
  |(apply zak;exact rfl;all_goals intro hb;all_goals(fail_if_success (change true=true at hb));all_goals(fail_if_success (change false=false at hb));all_goals(try dsimp only at hb);all_goals(try simp only[hb]);all_goals(first|replace hb:=of_decide_eq_true hb|replace hb:=of_decide_eq_false hb|replace hb:=zao hb|replace hb:=zap hb|replace hb:=eq_of_beq hb|replace hb:=ne_of_beq_false hb|skip);all_goals(try(exfalso;omega)))
  |(apply zan;exact rfl;all_goals intro hb;all_goals(try dsimp only at hb);all_goals(try simp only[hb]);all_goals(first|replace hb:=of_decide_eq_true hb|replace hb:=of_decide_eq_false hb|replace hb:=zao hb|replace hb:=zap hb|replace hb:=eq_of_beq hb|replace hb:=ne_of_beq_false hb|skip);all_goals(try(exfalso;omega))))
 all_goals first
  |(apply ret1;exact rfl;exact⟨rfl,dX⟩)
  |skip
theorem zjr (W:World)(h:List zah)(p:Nat)(A:Option Addr)(c:Nat)(l:List zaB)(hv:Value)(m0:zah.blk p 149 [.slice A l.length c,hv]∈h)(m1:zah.own A l.length c 30 8 (l.flatMap zaB.enc)∈h)(hb:l.length≤1000000):
 zaL Tryz.prog W 67 [ptrV p] h (fun v h'=>∃A' c',v=.slice A' l.length c'∧h'=.own A' l.length c' 30 8 (l.flatMap zaB.enc)::h):=by
 have hrd:zaD W h A l.length 8 (l.flatMap zaB.enc):=zaD.own m1 (zcz zaB.enc_len _) (fun v hv=>by
  obtain⟨y,_,hy⟩:=List.mem_flatMap.1 hv
  exact zaB.enc_one y v hy)
 refine zaL.dropTo ?_
 refine zaA Tryz.func67 rfl rfl Tryz.results67 Tryz.ntmps67 rfl rfl ?_
 repeat' (first
  |apply zaz|apply zaa|apply zay|apply zal|apply zam|apply zae|apply zaw
  |(apply zai hT;(iterate 4 exact rfl))|(apply zaj;(iterate 3 exact rfl))|(apply zad;(iterate 2 exact rfl))
  |(apply zax hT;(iterate 4 exact rfl);(iterate 2 (first|omega|(dsimp only;omega))))
  |(apply zar [] [] hmix;decide+kernel)
  |(apply zaV (hs:=(zgI W _ A l.length c (l.flatMap zaB.enc) hrd (by omega)));(iterate 7 exact rfl);rintro _ _ ⟨A1,c1,rfl,rfl⟩)
  |(apply zab;(iterate 5 exact rfl);first|(apply zas hT;exact rfl;exact rfl;(repeat(first|exact List.mem_cons_self|exact m0|apply List.mem_cons_of_mem|apply List.mem_append_right));exact rfl;exact rfl)|(apply zaq hT;exact rfl;exact rfl;(repeat(first|exact List.mem_cons_self|exact m0|apply List.mem_cons_of_mem|apply List.mem_append_right));exact rfl))
  |(apply zau;(iterate 5 exact rfl);intro _)|(apply zac hT;(iterate 5 exact rfl);intro _)
  |(apply zaf;(iterate 2 exact rfl))|(apply zag;(iterate 2 exact rfl))
  |(apply zak;exact rfl;all_goals intro hb;all_goals(fail_if_success (change true=true at hb));all_goals(fail_if_success (change false=false at hb));all_goals(try dsimp only at hb);all_goals(try simp only[hb]);all_goals(first|replace hb:=of_decide_eq_true hb|replace hb:=of_decide_eq_false hb|replace hb:=zao hb|replace hb:=zap hb|replace hb:=eq_of_beq hb|replace hb:=ne_of_beq_false hb|skip);all_goals(try(exfalso;omega)))
  |(apply zan;exact rfl;all_goals intro hb;all_goals(try dsimp only at hb);all_goals(try simp only[hb]);all_goals(first|replace hb:=of_decide_eq_true hb|replace hb:=of_decide_eq_false hb|replace hb:=zao hb|replace hb:=zap hb|replace hb:=eq_of_beq hb|replace hb:=ne_of_beq_false hb|skip);all_goals(try(exfalso;omega))))
 all_goals first
  |(apply ret1;exact rfl;exact⟨_,zbJ,A1,c1,rfl,rfl⟩)
  |skip
theorem zgK (W:World)(h:List zah)(x:DAd)(s:Dk)(m0:zah.blk x.d 112 (zcs x s)∈h)(m1:zah.blk x.b 149 [x.trades.sl s.trades.length,.int .u64 s.head]∈h)(m2:x.trades.own s.trades.length 30 8 (s.trades.flatMap zaB.enc)∈h)(hb:s.trades.length≤1000000):
 zaL Tryz.prog W 23 [ptrV x.d] h (fun v h'=>∃A' c',v=.slice A' s.trades.length c'∧h'=.own A' s.trades.length c' 30 8 (s.trades.flatMap zaB.enc)::h):=by
 refine zaL.dropTo ?_
 have hL:=zjr W h x.b x.trades.A x.trades.c s.trades (.int .u64 s.head) m1 m2 hb
 refine zaA Tryz.func23 rfl rfl Tryz.results23 Tryz.ntmps23 rfl rfl ?_
 repeat' (first
  |apply zaz|apply zaa|apply zay|apply zal|apply zam|apply zae|apply zaw
  |(apply zai hT;(iterate 4 exact rfl))|(apply zaj;(iterate 3 exact rfl))|(apply zad;(iterate 2 exact rfl))
  |(apply zax hT;(iterate 4 exact rfl);(iterate 2 (first|omega|(dsimp only;omega))))
  |(apply zar [] [] hmix;decide+kernel)
  |(apply zaV (hs:=hL);(iterate 7 exact rfl);rintro _ _ ⟨A1,c1,rfl,rfl⟩)
  |(apply zab;(iterate 5 exact rfl);first|(apply zas hT;exact rfl;exact rfl;(repeat(first|exact List.mem_cons_self|exact m0|apply List.mem_cons_of_mem|apply List.mem_append_right));exact rfl;exact rfl)|(apply zaq hT;exact rfl;exact rfl;(repeat(first|exact List.mem_cons_self|exact m0|apply List.mem_cons_of_mem|apply List.mem_append_right));exact rfl))
  |(apply zau;(iterate 5 exact rfl);intro _)|(apply zac hT;(iterate 5 exact rfl);intro _)
  |(apply zaf;(iterate 2 exact rfl))|(apply zag;(iterate 2 exact rfl))
  |(apply zak;exact rfl;all_goals intro hb;all_goals(fail_if_success (change true=true at hb));all_goals(fail_if_success (change false=false at hb));all_goals(try dsimp only at hb);all_goals(try simp only[hb]);all_goals(first|replace hb:=of_decide_eq_true hb|replace hb:=of_decide_eq_false hb|replace hb:=zao hb|replace hb:=zap hb|replace hb:=eq_of_beq hb|replace hb:=ne_of_beq_false hb|skip);all_goals(try(exfalso;omega)))
  |(apply zan;exact rfl;all_goals intro hb;all_goals(try dsimp only at hb);all_goals(try simp only[hb]);all_goals(first|replace hb:=of_decide_eq_true hb|replace hb:=of_decide_eq_false hb|replace hb:=zao hb|replace hb:=zap hb|replace hb:=eq_of_beq hb|replace hb:=ne_of_beq_false hb|skip);all_goals(try(exfalso;omega))))
 all_goals first
  |(apply ret1;exact rfl;exact⟨_,zbJ,A1,c1,rfl,rfl⟩)
  |skip
theorem zku (W:World)(h:List zah)(p:Nat)(A:Option Addr)(c:Nat)(l:List AskR)(m0:zah.blk p 144 [.slice A l.length c]∈h)(m1:zah.own A l.length c 87 10 (l.flatMap AskR.enc)∈h)(hb:l.length≤1000000):
 zaL Tryz.prog W 66 [ptrV p] h (fun v h'=>∃A' c',v=.slice A' l.length c'∧h'=.own A' l.length c' 87 10 (l.flatMap AskR.enc)::h):=by
 have hrd:zaD W h A l.length 10 (l.flatMap AskR.enc):=zaD.own m1 (zcz AskR.enc_len _) (fun v hv=>by
  obtain⟨y,_,hy⟩:=List.mem_flatMap.1 hv
  exact AskR.enc_one y v hy)
 refine zaL.dropTo ?_
 refine zaA Tryz.func66 rfl rfl Tryz.results66 Tryz.ntmps66 rfl rfl ?_
 repeat' (first
  |apply zaz|apply zaa|apply zay|apply zal|apply zam|apply zae|apply zaw
  |(apply zai hT;(iterate 4 exact rfl))|(apply zaj;(iterate 3 exact rfl))|(apply zad;(iterate 2 exact rfl))
  |(apply zax hT;(iterate 4 exact rfl);(iterate 2 (first|omega|(dsimp only;omega))))
  |(apply zar [] [] hmix;decide+kernel)
  |(apply zaV (hs:=(zi8 W _ A l.length c (l.flatMap AskR.enc) hrd (by omega)));(iterate 7 exact rfl);rintro _ _ ⟨A1,c1,rfl,rfl⟩)
  |(apply zab;(iterate 5 exact rfl);first|(apply zas hT;exact rfl;exact rfl;(repeat(first|exact List.mem_cons_self|exact m0|apply List.mem_cons_of_mem|apply List.mem_append_right));exact rfl;exact rfl)|(apply zaq hT;exact rfl;exact rfl;(repeat(first|exact List.mem_cons_self|exact m0|apply List.mem_cons_of_mem|apply List.mem_append_right));exact rfl))
  |(apply zau;(iterate 5 exact rfl);intro _)|(apply zac hT;(iterate 5 exact rfl);intro _)
  |(apply zaf;(iterate 2 exact rfl))|(apply zag;(iterate 2 exact rfl))
  |(apply zak;exact rfl;all_goals intro hb;all_goals(fail_if_success (change true=true at hb));all_goals(fail_if_success (change false=false at hb));all_goals(try dsimp only at hb);all_goals(try simp only[hb]);all_goals(first|replace hb:=of_decide_eq_true hb|replace hb:=of_decide_eq_false hb|replace hb:=zao hb|replace hb:=zap hb|replace hb:=eq_of_beq hb|replace hb:=ne_of_beq_false hb|skip);all_goals(try(exfalso;omega)))
  |(apply zan;exact rfl;all_goals intro hb;all_goals(try dsimp only at hb);all_goals(try simp only[hb]);all_goals(first|replace hb:=of_decide_eq_true hb|replace hb:=of_decide_eq_false hb|replace hb:=zao hb|replace hb:=zap hb|replace hb:=eq_of_beq hb|replace hb:=ne_of_beq_false hb|skip);all_goals(try(exfalso;omega))))
 all_goals first
  |(apply ret1;exact rfl;exact⟨_,zbJ,A1,c1,rfl,rfl⟩)
  |skip
theorem zjs (W:World)(h:List zah)(x:DAd)(s:Dk)(m0:zah.blk x.d 112 (zcs x s)∈h)(m1:zah.blk x.a 144 [x.asks.sl s.asks.length]∈h)(m2:x.asks.own s.asks.length 87 10 (s.asks.flatMap AskR.enc)∈h)(hb:s.asks.length≤1000000):
 zaL Tryz.prog W 22 [ptrV x.d] h (fun v h'=>∃A' c',v=.slice A' s.asks.length c'∧h'=.own A' s.asks.length c' 87 10 (s.asks.flatMap AskR.enc)::h):=by
 refine zaL.dropTo ?_
 have hL:=zku W h x.a x.asks.A x.asks.c s.asks m1 m2 hb
 refine zaA Tryz.func22 rfl rfl Tryz.results22 Tryz.ntmps22 rfl rfl ?_
 repeat' (first
  |apply zaz|apply zaa|apply zay|apply zal|apply zam|apply zae|apply zaw
  |(apply zai hT;(iterate 4 exact rfl))|(apply zaj;(iterate 3 exact rfl))|(apply zad;(iterate 2 exact rfl))
  |(apply zax hT;(iterate 4 exact rfl);(iterate 2 (first|omega|(dsimp only;omega))))
  |(apply zar [] [] hmix;decide+kernel)
  |(apply zaV (hs:=hL);(iterate 7 exact rfl);rintro _ _ ⟨A1,c1,rfl,rfl⟩)
  |(apply zab;(iterate 5 exact rfl);first|(apply zas hT;exact rfl;exact rfl;(repeat(first|exact List.mem_cons_self|exact m0|apply List.mem_cons_of_mem|apply List.mem_append_right));exact rfl;exact rfl)|(apply zaq hT;exact rfl;exact rfl;(repeat(first|exact List.mem_cons_self|exact m0|apply List.mem_cons_of_mem|apply List.mem_append_right));exact rfl))
  |(apply zau;(iterate 5 exact rfl);intro _)|(apply zac hT;(iterate 5 exact rfl);intro _)
  |(apply zaf;(iterate 2 exact rfl))|(apply zag;(iterate 2 exact rfl))
  |(apply zak;exact rfl;all_goals intro hb;all_goals(fail_if_success (change true=true at hb));all_goals(fail_if_success (change false=false at hb));all_goals(try dsimp only at hb);all_goals(try simp only[hb]);all_goals(first|replace hb:=of_decide_eq_true hb|replace hb:=of_decide_eq_false hb|replace hb:=zao hb|replace hb:=zap hb|replace hb:=eq_of_beq hb|replace hb:=ne_of_beq_false hb|skip);all_goals(try(exfalso;omega)))
  |(apply zan;exact rfl;all_goals intro hb;all_goals(try dsimp only at hb);all_goals(try simp only[hb]);all_goals(first|replace hb:=of_decide_eq_true hb|replace hb:=of_decide_eq_false hb|replace hb:=zao hb|replace hb:=zap hb|replace hb:=eq_of_beq hb|replace hb:=ne_of_beq_false hb|skip);all_goals(try(exfalso;omega))))
 all_goals first
  |(apply ret1;exact rfl;exact⟨_,zbJ,A1,c1,rfl,rfl⟩)
  |skip
end Go.Proofs.YteocfhdocpeokaaGreat
set_option linter.unusedSimpArgs false
set_option linter.unusedVariables false
namespace Go.Proofs.YteocfhdocpeokaaGreat
open Go Go.Sl
attribute [local irreducible] AW ES EP Ld RetQ
set_option maxRecDepth 100000
theorem zgL {a b:Nat}(ha:a<2^64)(hb:b<2^64):bitI .xor .u64 (a:Int) (b:Int)=((a ^^^ b:Nat):Int):=by
 show IntKind.u64.wrap ((BitVec.ofInt 64 (a:Int) ^^^ BitVec.ofInt 64 (b:Int)).toNat:Int)=_
 rw[BitVec.toNat_xor,BitVec.ofInt_natCast,BitVec.ofInt_natCast,BitVec.toNat_ofNat,BitVec.toNat_ofNat,Nat.mod_eq_of_lt ha,Nat.mod_eq_of_lt hb]
 have:=Nat.xor_lt_two_pow ha hb
 exact IntWalk.u64_in _ ⟨by omega,by omega⟩
def byV (b:Nat):Value:=.int .u8 (b:Int)
theorem zl5 {l:List Nat}{i:Nat}{n:Nat}(h:l[i]? =some n):(l.map byV)[i*1]? =some (.int .u8 (n:Int)):=by simp[h];rfl
theorem zlw (x b:Nat):mixN x b=(x ^^^ b)*1099511628211%18446744073709551616:=rfl
theorem zjt {α β:Type}{f:β→α→β}{l:List α}{k:Nat}{b:α}(h:l[k]? =some b)(x:β):(l.take (k+1)).foldl f x=f ((l.take k).foldl f x) b:=by
 rw[List.take_add_one,h,List.foldl_append];rfl
theorem zkv {bs:List Nat}{k b:Nat}(h:bs[k]? =some b)(x:Nat):(bs.take (k+1)).foldl mixN x=mixN ((bs.take k).foldl mixN x) b:=zjt h x
end Go.Proofs.YteocfhdocpeokaaGreat
set_option linter.unusedSimpArgs false
set_option linter.unusedVariables false
namespace Go.Proofs.YteocfhdocpeokaaGreat
open Go Go.Sl
attribute [local irreducible] AW ES EP Ld RetQ
set_option maxRecDepth 100000
theorem zfp {z:Nat}(h:¬z<128):oneN z=(z%128+128)::oneN (z / 128):=by
 rw[oneN];rw[dif_neg h]
theorem zcI {z:Nat}(h:z<128):oneN z=[z]:=by
 rw[oneN];rw[dif_pos h]
theorem zlx :∀(z:Nat),∀b∈oneN z,b<256:=fun z=>by
 induction z using Nat.strongRecOn with
 |_ z ih=>
  intro b hb
  by_cases h:z<128
  ·rw[zcI h]at hb
   rw[lms.1 hb];omega
  ·rw[zfp h]at hb
   rcases List.mem_cons.1 hb with rfl|hb
   ·omega
   ·exact ih (z / 128) (by omega) b hb
theorem zdT :∀(k z:Nat),z<128^(k+1)→(oneN z).length≤k+1
 |0,z,h=>by rw[zcI (by simpa using h)];simp
 |k+1,z,h=>by
  by_cases hz:z<128
  ·rw[zcI hz];simp
  ·rw[zfp hz]
   have:=zdT k (z / 128) (by
    rw[Nat.div_lt_iff_lt_mul (by decide)]
    rw[Nat.pow_succ]at h
    exact h)
   simp;omega
theorem zkw (l:List Int):∀b∈zcr l,b<256:=fun b hb=>by
 obtain⟨n,_,hn⟩:=List.mem_flatMap.1 hb
 exact zlx _ b hn
theorem zgM {n:Int}(hn:inW n):zigN n<2^64:=by
 unfold inW at hn
 unfold zigN
 split<;>omega
theorem zeB {l:List Int}(h:∀n∈l,inW n):(zcr l).length≤10*l.length:=by
 induction l with
 |nil=>simp[zcr]
 |cons n l ih=>
  have h1:=zdT 9 (zigN n) (Nat.lt_of_lt_of_le (zgM (h n List.mem_cons_self)) (by decide))
  have h2:=ih (fun m hm=>h m (List.mem_cons_of_mem _ hm))
  have e:zcr (n::l)=oneN (zigN n)++zcr l:=rfl
  rw[e,lla,List.length_cons]
  omega
theorem zhP {l:List Int}{k:Nat}{n:Int}(h:l[k]? =some n):zcr (l.take (k+1))=zcr (l.take k)++oneN (zigN n):=by
 rw[List.take_add_one,h]
 unfold zcr
 rw[List.flatMap_append]
 simp
end Go.Proofs.YteocfhdocpeokaaGreat
set_option linter.unusedSimpArgs false
set_option linter.unusedVariables false
namespace Go.Proofs.YteocfhdocpeokaaGreat
open Go Go.Sl
attribute [local irreducible] AW ES EP Ld RetQ
set_option maxRecDepth 100000
def zdH (t:zaB):Prop:=∀n∈[t.id,t.bond,t.buyer,t.seller,t.price,t.qty,t.ask,t.tick],inW n
theorem znm {z a b c d e f g i:Value}(ha:a.cells= #[a])(hb:b.cells= #[b])(hc:c.cells= #[c])(hd:d.cells= #[d])(he:e.cells= #[e])(hf:f.cells= #[f])(hg:g.cells= #[g])(hi:i.cells= #[i]):
 zd4 (fun i=>some (i*1,1)) (repZ [z] 8) [(0,a),(1,b),(2,c),(3,d),(4,e),(5,f),(6,g),(7,i)]=some [a,b,c,d,e,f,g,i]:=by
 simp[zd4,lay,repZ,ha,hb,hc,hd,he,hf,hg,hi]
theorem zhQ {t:zaB}(ht:zdH t):(zbu t).length≤80:=zeB ht
end Go.Proofs.YteocfhdocpeokaaGreat
set_option linter.unusedSimpArgs false
set_option linter.unusedVariables false
namespace Go.Proofs.YteocfhdocpeokaaGreat
open Go Go.Sl
attribute [local irreducible] AW ES EP Ld RetQ
set_option maxRecDepth 100000
def okI (n:Int):Value:=.tuple #[.int .i64 (if inI n then n else 0),.bool (inI n)]
theorem zhl (W:World)(a b:Int)(ha:inW a)(hb:inW b):zaF Tryz.prog W 27 [.int .i64 a,.int .i64 b] [] (okI (a+b)):=by
 unfold inW at*
 refine zaF.ofD (fun h' hs=> ?_)
 unfold okI
 cases hI:inI (a+b)
 ·have hr:=zli hI
  refine zaA Tryz.func27 rfl rfl Tryz.results27 Tryz.ntmps27 rfl rfl ?_
  repeat' (first
   |apply zaz|apply zaa|apply zay|apply zal|apply zam|apply zae|apply zaw
   |(apply zai hT;(iterate 4 exact rfl))|(apply zaj;(iterate 3 exact rfl))|(apply zad;(iterate 2 exact rfl))
   |(apply zax hT;(iterate 4 exact rfl);(iterate 2 (first|omega|(dsimp only;omega))))
   |(apply zar [] [] hmix;decide+kernel)
   |(apply zab;(iterate 5 exact rfl);first|(apply zas hT;exact rfl;exact rfl;(repeat(first|exact List.mem_cons_self|apply List.mem_cons_of_mem|apply List.mem_append_right));exact rfl;exact rfl)|(apply zaq hT;exact rfl;exact rfl;(repeat(first|exact List.mem_cons_self|apply List.mem_cons_of_mem|apply List.mem_append_right));exact rfl))
   |(apply zau;(iterate 5 exact rfl);intro _)|(apply zac hT;(iterate 5 exact rfl);intro _)
   |(apply zaf;(iterate 2 exact rfl))|(apply zag;(iterate 2 exact rfl))
   |(apply zak;exact rfl;all_goals intro hb;all_goals(fail_if_success (change true=true at hb));all_goals(fail_if_success (change false=false at hb));all_goals(try dsimp only at hb);all_goals(try simp only[hb]);all_goals(first|replace hb:=of_decide_eq_true hb|replace hb:=of_decide_eq_false hb|replace hb:=zao hb|replace hb:=zap hb|replace hb:=eq_of_beq hb|replace hb:=ne_of_beq_false hb|skip);all_goals(try(exfalso;omega)))
   |(apply zan;exact rfl;all_goals intro hb;all_goals(try dsimp only at hb);all_goals(try simp only[hb]);all_goals(first|replace hb:=of_decide_eq_true hb|replace hb:=of_decide_eq_false hb|replace hb:=zao hb|replace hb:=zap hb|replace hb:=eq_of_beq hb|replace hb:=ne_of_beq_false hb|skip);all_goals(try(exfalso;omega))))
  all_goals first
   |(exfalso;omega)
   |(apply ret2;exact rfl;exact rfl;exact⟨rfl,dX⟩)
   |skip
 ·have hr:=zdI hI
  refine zaA Tryz.func27 rfl rfl Tryz.results27 Tryz.ntmps27 rfl rfl ?_
  repeat' (first
   |apply zaz|apply zaa|apply zay|apply zal|apply zam|apply zae|apply zaw
   |(apply zai hT;(iterate 4 exact rfl))|(apply zaj;(iterate 3 exact rfl))|(apply zad;(iterate 2 exact rfl))
   |(apply zax hT;(iterate 4 exact rfl);(iterate 2 (first|omega|(dsimp only;omega))))
   |(apply zar [] [] hmix;decide+kernel)
   |(apply zab;(iterate 5 exact rfl);first|(apply zas hT;exact rfl;exact rfl;(repeat(first|exact List.mem_cons_self|apply List.mem_cons_of_mem|apply List.mem_append_right));exact rfl;exact rfl)|(apply zaq hT;exact rfl;exact rfl;(repeat(first|exact List.mem_cons_self|apply List.mem_cons_of_mem|apply List.mem_append_right));exact rfl))
   |(apply zau;(iterate 5 exact rfl);intro _)|(apply zac hT;(iterate 5 exact rfl);intro _)
   |(apply zaf;(iterate 2 exact rfl))|(apply zag;(iterate 2 exact rfl))
   |(apply zak;exact rfl;all_goals intro hb;all_goals(fail_if_success (change true=true at hb));all_goals(fail_if_success (change false=false at hb));all_goals(try dsimp only at hb);all_goals(try simp only[hb]);all_goals(first|replace hb:=of_decide_eq_true hb|replace hb:=of_decide_eq_false hb|replace hb:=zao hb|replace hb:=zap hb|replace hb:=eq_of_beq hb|replace hb:=ne_of_beq_false hb|skip);all_goals(try(exfalso;omega)))
   |(apply zan;exact rfl;all_goals intro hb;all_goals(try dsimp only at hb);all_goals(try simp only[hb]);all_goals(first|replace hb:=of_decide_eq_true hb|replace hb:=of_decide_eq_false hb|replace hb:=zao hb|replace hb:=zap hb|replace hb:=eq_of_beq hb|replace hb:=ne_of_beq_false hb|skip);all_goals(try(exfalso;omega))))
  all_goals first
   |(exfalso;omega)
   |(apply ret2;exact rfl;exact rfl;exact⟨rfl,dX⟩)
   |skip
theorem zhm (W:World)(a b:Int)(ha:inW a)(hb:inW b):zaF Tryz.prog W 28 [.int .i64 a,.int .i64 b] [] (okI (a - b)):=by
 unfold inW at*
 refine zaF.ofD (fun h' hs=> ?_)
 unfold okI
 cases hI:inI (a - b)
 ·have hr:=zli hI
  refine zaA Tryz.func28 rfl rfl Tryz.results28 Tryz.ntmps28 rfl rfl ?_
  repeat' (first
   |apply zaz|apply zaa|apply zay|apply zal|apply zam|apply zae|apply zaw
   |(apply zai hT;(iterate 4 exact rfl))|(apply zaj;(iterate 3 exact rfl))|(apply zad;(iterate 2 exact rfl))
   |(apply zax hT;(iterate 4 exact rfl);(iterate 2 (first|omega|(dsimp only;omega))))
   |(apply zar [] [] hmix;decide+kernel)
   |(apply zab;(iterate 5 exact rfl);first|(apply zas hT;exact rfl;exact rfl;(repeat(first|exact List.mem_cons_self|apply List.mem_cons_of_mem|apply List.mem_append_right));exact rfl;exact rfl)|(apply zaq hT;exact rfl;exact rfl;(repeat(first|exact List.mem_cons_self|apply List.mem_cons_of_mem|apply List.mem_append_right));exact rfl))
   |(apply zau;(iterate 5 exact rfl);intro _)|(apply zac hT;(iterate 5 exact rfl);intro _)
   |(apply zaf;(iterate 2 exact rfl))|(apply zag;(iterate 2 exact rfl))
   |(apply zak;exact rfl;all_goals intro hb;all_goals(fail_if_success (change true=true at hb));all_goals(fail_if_success (change false=false at hb));all_goals(try dsimp only at hb);all_goals(try simp only[hb]);all_goals(first|replace hb:=of_decide_eq_true hb|replace hb:=of_decide_eq_false hb|replace hb:=zao hb|replace hb:=zap hb|replace hb:=eq_of_beq hb|replace hb:=ne_of_beq_false hb|skip);all_goals(try(exfalso;omega)))
   |(apply zan;exact rfl;all_goals intro hb;all_goals(try dsimp only at hb);all_goals(try simp only[hb]);all_goals(first|replace hb:=of_decide_eq_true hb|replace hb:=of_decide_eq_false hb|replace hb:=zao hb|replace hb:=zap hb|replace hb:=eq_of_beq hb|replace hb:=ne_of_beq_false hb|skip);all_goals(try(exfalso;omega))))
  all_goals first
   |(exfalso;omega)
   |(apply ret2;exact rfl;exact rfl;exact⟨rfl,dX⟩)
   |skip
 ·have hr:=zdI hI
  refine zaA Tryz.func28 rfl rfl Tryz.results28 Tryz.ntmps28 rfl rfl ?_
  repeat' (first
   |apply zaz|apply zaa|apply zay|apply zal|apply zam|apply zae|apply zaw
   |(apply zai hT;(iterate 4 exact rfl))|(apply zaj;(iterate 3 exact rfl))|(apply zad;(iterate 2 exact rfl))
   |(apply zax hT;(iterate 4 exact rfl);(iterate 2 (first|omega|(dsimp only;omega))))
   |(apply zar [] [] hmix;decide+kernel)
   |(apply zab;(iterate 5 exact rfl);first|(apply zas hT;exact rfl;exact rfl;(repeat(first|exact List.mem_cons_self|apply List.mem_cons_of_mem|apply List.mem_append_right));exact rfl;exact rfl)|(apply zaq hT;exact rfl;exact rfl;(repeat(first|exact List.mem_cons_self|apply List.mem_cons_of_mem|apply List.mem_append_right));exact rfl))
   |(apply zau;(iterate 5 exact rfl);intro _)|(apply zac hT;(iterate 5 exact rfl);intro _)
   |(apply zaf;(iterate 2 exact rfl))|(apply zag;(iterate 2 exact rfl))
   |(apply zak;exact rfl;all_goals intro hb;all_goals(fail_if_success (change true=true at hb));all_goals(fail_if_success (change false=false at hb));all_goals(try dsimp only at hb);all_goals(try simp only[hb]);all_goals(first|replace hb:=of_decide_eq_true hb|replace hb:=of_decide_eq_false hb|replace hb:=zao hb|replace hb:=zap hb|replace hb:=eq_of_beq hb|replace hb:=ne_of_beq_false hb|skip);all_goals(try(exfalso;omega)))
   |(apply zan;exact rfl;all_goals intro hb;all_goals(try dsimp only at hb);all_goals(try simp only[hb]);all_goals(first|replace hb:=of_decide_eq_true hb|replace hb:=of_decide_eq_false hb|replace hb:=zao hb|replace hb:=zap hb|replace hb:=eq_of_beq hb|replace hb:=ne_of_beq_false hb|skip);all_goals(try(exfalso;omega))))
  all_goals first
   |(exfalso;omega)
   |(apply ret2;exact rfl;exact rfl;exact⟨rfl,dX⟩)
   |skip
theorem zhR (W:World)(n:Nat)(hn:n<340282366920938463463374607431768211456):zaF Tryz.prog W 26 [.agg (zll n).toArray] [] (okI n):=by
 refine zaF.ofD (fun h' hs=> ?_)
 unfold okI
 cases hI:inI (n:Int)
 ·have hr:=zli hI
  refine zaA Tryz.func26 rfl rfl Tryz.results26 Tryz.ntmps26 rfl rfl ?_
  repeat' (first
   |apply zaz|apply zaa|apply zay|apply zal|apply zam|apply zae|apply zaw
   |(apply zai hT;(iterate 4 exact rfl))|(apply zaj;(iterate 3 exact rfl))|(apply zad;(iterate 2 exact rfl))
   |(apply zax hT;(iterate 4 exact rfl);(iterate 2 (first|omega|(dsimp only;omega))))
   |(apply zar [] [] hmix;decide+kernel)
   |(apply zab;(iterate 5 exact rfl);first|(apply zas hT;exact rfl;exact rfl;(repeat(first|exact List.mem_cons_self|apply List.mem_cons_of_mem|apply List.mem_append_right));exact rfl;exact rfl)|(apply zaq hT;exact rfl;exact rfl;(repeat(first|exact List.mem_cons_self|apply List.mem_cons_of_mem|apply List.mem_append_right));exact rfl))
   |(apply zau;(iterate 5 exact rfl);intro _)|(apply zac hT;(iterate 5 exact rfl);intro _)
   |(apply zaf;(iterate 2 exact rfl))|(apply zag;(iterate 2 exact rfl))
   |(apply zak;exact rfl;all_goals intro hb;all_goals(fail_if_success (change true=true at hb));all_goals(fail_if_success (change false=false at hb));all_goals(try dsimp only at hb);all_goals(try simp only[hb]);all_goals(first|replace hb:=of_decide_eq_true hb|replace hb:=of_decide_eq_false hb|replace hb:=zao hb|replace hb:=zap hb|replace hb:=eq_of_beq hb|replace hb:=ne_of_beq_false hb|skip);all_goals(try(exfalso;omega)))
   |(apply zan;exact rfl;all_goals intro hb;all_goals(try dsimp only at hb);all_goals(try simp only[hb]);all_goals(first|replace hb:=of_decide_eq_true hb|replace hb:=of_decide_eq_false hb|replace hb:=zao hb|replace hb:=zap hb|replace hb:=eq_of_beq hb|replace hb:=ne_of_beq_false hb|skip);all_goals(try(exfalso;omega))))
  all_goals first
   |(exfalso;omega)
   |(apply ret2;exact rfl;exact rfl;exact⟨rfl,dX⟩)
   |skip
 ·have hr:=zdI hI
  refine zaA Tryz.func26 rfl rfl Tryz.results26 Tryz.ntmps26 rfl rfl ?_
  repeat' (first
   |apply zaz|apply zaa|apply zay|apply zal|apply zam|apply zae|apply zaw
   |(apply zai hT;(iterate 4 exact rfl))|(apply zaj;(iterate 3 exact rfl))|(apply zad;(iterate 2 exact rfl))
   |(apply zax hT;(iterate 4 exact rfl);(iterate 2 (first|omega|(dsimp only;omega))))
   |(apply zar [] [] hmix;decide+kernel)
   |(apply zab;(iterate 5 exact rfl);first|(apply zas hT;exact rfl;exact rfl;(repeat(first|exact List.mem_cons_self|apply List.mem_cons_of_mem|apply List.mem_append_right));exact rfl;exact rfl)|(apply zaq hT;exact rfl;exact rfl;(repeat(first|exact List.mem_cons_self|apply List.mem_cons_of_mem|apply List.mem_append_right));exact rfl))
   |(apply zau;(iterate 5 exact rfl);intro _)|(apply zac hT;(iterate 5 exact rfl);intro _)
   |(apply zaf;(iterate 2 exact rfl))|(apply zag;(iterate 2 exact rfl))
   |(apply zak;exact rfl;all_goals intro hb;all_goals(fail_if_success (change true=true at hb));all_goals(fail_if_success (change false=false at hb));all_goals(try dsimp only at hb);all_goals(try simp only[hb]);all_goals(first|replace hb:=of_decide_eq_true hb|replace hb:=of_decide_eq_false hb|replace hb:=zao hb|replace hb:=zap hb|replace hb:=eq_of_beq hb|replace hb:=ne_of_beq_false hb|skip);all_goals(try(exfalso;omega)))
   |(apply zan;exact rfl;all_goals intro hb;all_goals(try dsimp only at hb);all_goals(try simp only[hb]);all_goals(first|replace hb:=of_decide_eq_true hb|replace hb:=of_decide_eq_false hb|replace hb:=zao hb|replace hb:=zap hb|replace hb:=eq_of_beq hb|replace hb:=ne_of_beq_false hb|skip);all_goals(try(exfalso;omega))))
  all_goals first
   |(exfalso;omega)
   |(apply ret2;exact rfl;exact rfl;exact⟨by simp[Nat.mod_eq_of_lt (show n<18446744073709551616 by omega)],dX⟩)
   |skip
end Go.Proofs.YteocfhdocpeokaaGreat
set_option linter.unusedSimpArgs false
set_option linter.unusedVariables false
namespace Go.Proofs.YteocfhdocpeokaaGreat
open Go Go.Sl
attribute [local irreducible] AW ES EP Ld RetQ
set_option maxRecDepth 100000
theorem zdU {x y:zah}{h:List zah}(hx:x∈h)(hy:y∈h):∀c∈[x,y],c∈h:=fun c hc=>by
 rcases List.mem_cons.1 hc with rfl|hc
 ·exact hx
 ·rw[lms.1 hc];exact hy
def zcx (cash:List Int)(rs:List PRow)(who bond:Int):Bool:=decide (0≤who)&&(decide (who<cash.length)&&(decide (0≤bond)&&decide (bond<((rs[who.toNat]?).map fun r=>r.l.length).getD 0)))
theorem zhn (W:World)(p:Nat)(AC:Option Addr)(cC:Nat)(AR:Option Addr)(cR:Nat)(cash:List Int)(rs:List PRow)(hl:rs.length=cash.length)(who bond:Int):
 zaF Tryz.prog W 24 [.pointer (some ⟨p,0,none⟩),.int .i64 who,.int .i64 bond] [.blk p 69 [.slice AR rs.length cR,.slice AC cash.length cC],.own AR rs.length cR 66 1 (rs.map PRow.hd)] (.bool (zcx cash rs who bond)):=by
 refine zaF.ofD (fun h' hs=> ?_)
 have m0:=hs _ mem0
 have m1:=hs _ mem1
 have hrd:zaD W h' AR rs.length 1 (rs.map PRow.hd):=zaD.own m1 (by simp) (fun v hv=>by
  obtain⟨y,_,rfl⟩:=lmm.1 hv
  rfl)
 refine zaA Tryz.func24 rfl rfl Tryz.results24 Tryz.ntmps24 rfl rfl ?_
 refine zaO hrd rfl (fun hA=> ?_)
 by_cases hw:0≤who∧who<cash.length
 ·obtain⟨r,hr⟩:∃r,rs[who.toNat]? =some r:=⟨rs[who.toNat]'(by omega),gge (by omega)⟩
  have hA':=hA (by omega)
  have hix:(rs.map PRow.hd)[who.toNat*1]? =some (.slice r.A r.l.length r.c):=by simp[hr];rfl
  have hv:zcx cash rs who bond=(decide (0≤bond)&&decide (bond<r.l.length)):=by
   unfold zcx
   rw[hr,decide_eq_true hw.1,decide_eq_true hw.2];rfl
  rw[hv]
  repeat' (first
   |apply zaz|apply zaa|apply zay|apply zal|apply zam|apply zae|apply zaw
   |(apply zai hT;(iterate 4 exact rfl))|(apply zaj;(iterate 3 exact rfl))|(apply zad;(iterate 2 exact rfl))
   |(apply zax hT;(iterate 4 exact rfl);(iterate 2 (first|omega|(dsimp only;omega))))
   |(apply zar [] [] hmix;decide+kernel)
   |(apply zaU hT;(iterate 8 exact rfl);(iterate 2 omega);exact hA')
   |(apply zab;(iterate 5 exact rfl);exact zbd hT rfl rfl hrd rfl hix)
   |(apply zab;(iterate 5 exact rfl);first|(apply zas hT;exact rfl;exact rfl;(repeat(first|exact List.mem_cons_self|exact m0|apply List.mem_cons_of_mem|apply List.mem_append_right));exact rfl;exact rfl)|(apply zaq hT;exact rfl;exact rfl;(repeat(first|exact List.mem_cons_self|exact m0|apply List.mem_cons_of_mem|apply List.mem_append_right));exact rfl))
   |(apply zau;(iterate 5 exact rfl);intro _)|(apply zac hT;(iterate 5 exact rfl);intro _)
   |(apply zaf;(iterate 2 exact rfl))|(apply zag;(iterate 2 exact rfl))
   |(apply zak;exact rfl;all_goals intro hb;all_goals(fail_if_success (change true=true at hb));all_goals(fail_if_success (change false=false at hb));all_goals(try dsimp only at hb);all_goals(try simp only[hb]);all_goals(first|replace hb:=of_decide_eq_true hb|replace hb:=of_decide_eq_false hb|replace hb:=zao hb|replace hb:=zap hb|replace hb:=eq_of_beq hb|replace hb:=ne_of_beq_false hb|skip);all_goals(try(exfalso;omega)))
   |(apply zan;exact rfl;all_goals intro hb;all_goals(try dsimp only at hb);all_goals(try simp only[hb]);all_goals(first|replace hb:=of_decide_eq_true hb|replace hb:=of_decide_eq_false hb|replace hb:=zao hb|replace hb:=zap hb|replace hb:=eq_of_beq hb|replace hb:=ne_of_beq_false hb|skip);all_goals(try(exfalso;omega))))
  all_goals first
   |(exfalso;omega)
   |(apply ret1;exact rfl;exact⟨by(first|(simp_all;done)|(simp;omega)),dX⟩)
   |skip
 ·have hv:zcx cash rs who bond=false:=by
   unfold zcx
   by_cases h1:0≤who
   ·rw[decide_eq_false (show ¬who<cash.length by omega)];simp
   ·rw[decide_eq_false h1];simp
  rw[hv]
  repeat' (first
   |apply zaz|apply zaa|apply zay|apply zal|apply zam|apply zae|apply zaw
   |(apply zai hT;(iterate 4 exact rfl))|(apply zaj;(iterate 3 exact rfl))|(apply zad;(iterate 2 exact rfl))
   |(apply zax hT;(iterate 4 exact rfl);(iterate 2 (first|omega|(dsimp only;omega))))
   |(apply zar [] [] hmix;decide+kernel)
   |(apply zab;(iterate 5 exact rfl);first|(apply zas hT;exact rfl;exact rfl;(repeat(first|exact List.mem_cons_self|exact m0|apply List.mem_cons_of_mem|apply List.mem_append_right));exact rfl;exact rfl)|(apply zaq hT;exact rfl;exact rfl;(repeat(first|exact List.mem_cons_self|exact m0|apply List.mem_cons_of_mem|apply List.mem_append_right));exact rfl))
   |(apply zau;(iterate 5 exact rfl);intro _)|(apply zac hT;(iterate 5 exact rfl);intro _)
   |(apply zaf;(iterate 2 exact rfl))|(apply zag;(iterate 2 exact rfl))
   |(apply zak;exact rfl;all_goals intro hb;all_goals(fail_if_success (change true=true at hb));all_goals(fail_if_success (change false=false at hb));all_goals(try dsimp only at hb);all_goals(try simp only[hb]);all_goals(first|replace hb:=of_decide_eq_true hb|replace hb:=of_decide_eq_false hb|replace hb:=zao hb|replace hb:=zap hb|replace hb:=eq_of_beq hb|replace hb:=ne_of_beq_false hb|skip);all_goals(try(exfalso;omega)))
   |(apply zan;exact rfl;all_goals intro hb;all_goals(try dsimp only at hb);all_goals(try simp only[hb]);all_goals(first|replace hb:=of_decide_eq_true hb|replace hb:=of_decide_eq_false hb|replace hb:=zao hb|replace hb:=zap hb|replace hb:=eq_of_beq hb|replace hb:=ne_of_beq_false hb|skip);all_goals(try(exfalso;omega))))
  all_goals first
   |(exfalso;omega)
   |(apply ret1;exact rfl;exact⟨rfl,dX⟩)
   |skip
def zgN (cash:List Int)(who:Int):Int:=if who<0 then 0 else(cash[who.toNat]?).getD 0
theorem zkx (W:World)(p:Nat)(AC:Option Addr)(cC:Nat)(AR:Option Addr)(cR:Nat)(cash:List Int)(rs:List PRow)(hl:rs.length=cash.length)(h0:∀r∈rs,0<r.l.length)(who:Int):
 zaF Tryz.prog W 34 [.pointer (some ⟨p,0,none⟩),.int .i64 who] [.blk p 69 [.slice AR rs.length cR,.slice AC cash.length cC],.own AR rs.length cR 66 1 (rs.map PRow.hd),.own AC cash.length cC 2 1 (cash.map (Value.int .i64))] (.int .i64 (zgN cash who)):=by
 refine zaF.ofD (fun h' hs=> ?_)
 have m0:=hs _ mem0
 have m1:=hs _ mem1
 have m2:=hs _ mem2
 have hI:=(zhn W p AC cC AR cR cash rs hl who 0).mono (h':=h') (zdU m0 m1)
 have hrd:zaD W h' AC cash.length 1 (cash.map (Value.int .i64)):=zaD.own m2 (by simp) (fun v hv=>by
  obtain⟨y,_,rfl⟩:=lmm.1 hv
  rfl)
 refine zaA Tryz.func34 rfl rfl Tryz.results34 Tryz.ntmps34 rfl rfl ?_
 refine zaO hrd rfl (fun hA=> ?_)
 by_cases hw:0≤who∧who<cash.length
 ·obtain⟨r,hr⟩:∃r,rs[who.toNat]? =some r:=⟨rs[who.toNat]'(by omega),gge (by omega)⟩
  obtain⟨n,hn⟩:∃n,cash[who.toNat]? =some n:=⟨cash[who.toNat]'(by omega),gge (by omega)⟩
  have hA':=hA (by omega)
  have hix:(cash.map (Value.int .i64))[who.toNat*1]? =some (.int .i64 n):=by simp[hn]
  have hrl:=h0 r (mog hr)
  have hv:zcx cash rs who 0=true:=by
   unfold zcx
   rw[hr,decide_eq_true hw.1,decide_eq_true hw.2];simp;omega
  have hc:zgN cash who=n:=by unfold zgN;rw[if_neg (by omega),hn];rfl
  rw[hv]at hI
  rw[hc]
  repeat' (first
   |apply zaz|apply zaa|apply zay|apply zal|apply zam|apply zae|apply zaw
   |(apply zai hT;(iterate 4 exact rfl))|(apply zaj;(iterate 3 exact rfl))|(apply zad;(iterate 2 exact rfl))
   |(apply zax hT;(iterate 4 exact rfl);(iterate 2 (first|omega|(dsimp only;omega))))
   |(apply zar [] [] hmix;decide+kernel)
   |(apply zaC (hs:=(hI.mono (by(intro c hc;(repeat(first|exact hc|apply List.mem_cons_of_mem|apply List.mem_append_right))))));(iterate 7 exact rfl))
   |(apply zaU hT;(iterate 8 exact rfl);(iterate 2 omega);exact hA')
   |(apply zab;(iterate 5 exact rfl);exact zbd hT rfl rfl hrd rfl hix)
   |(apply zab;(iterate 5 exact rfl);first|(apply zas hT;exact rfl;exact rfl;(repeat(first|exact List.mem_cons_self|exact m0|apply List.mem_cons_of_mem|apply List.mem_append_right));exact rfl;exact rfl)|(apply zaq hT;exact rfl;exact rfl;(repeat(first|exact List.mem_cons_self|exact m0|apply List.mem_cons_of_mem|apply List.mem_append_right));exact rfl))
   |(apply zau;(iterate 5 exact rfl);intro _)|(apply zac hT;(iterate 5 exact rfl);intro _)
   |(apply zaf;(iterate 2 exact rfl))|(apply zag;(iterate 2 exact rfl))
   |(apply zak;exact rfl;all_goals intro hb;all_goals(fail_if_success (change true=true at hb));all_goals(fail_if_success (change false=false at hb));all_goals(try dsimp only at hb);all_goals(try simp only[hb]);all_goals(first|replace hb:=of_decide_eq_true hb|replace hb:=of_decide_eq_false hb|replace hb:=zao hb|replace hb:=zap hb|replace hb:=eq_of_beq hb|replace hb:=ne_of_beq_false hb|skip);all_goals(try(exfalso;omega)))
   |(apply zan;exact rfl;all_goals intro hb;all_goals(try dsimp only at hb);all_goals(try simp only[hb]);all_goals(first|replace hb:=of_decide_eq_true hb|replace hb:=of_decide_eq_false hb|replace hb:=zao hb|replace hb:=zap hb|replace hb:=eq_of_beq hb|replace hb:=ne_of_beq_false hb|skip);all_goals(try(exfalso;omega))))
  all_goals first
   |(exfalso;omega)
   |(apply ret1;exact rfl;exact⟨rfl,dX⟩)
   |skip
 ·have hv:zcx cash rs who 0=false:=by
   unfold zcx
   by_cases h1:0≤who
   ·rw[decide_eq_false (show ¬who<cash.length by omega)];simp
   ·rw[decide_eq_false h1];simp
  have hc:zgN cash who=0:=by
   unfold zgN
   split
   ·rfl
   ·rw[List.getElem?_eq_none (by omega)];rfl
  rw[hv]at hI
  rw[hc]
  repeat' (first
   |apply zaz|apply zaa|apply zay|apply zal|apply zam|apply zae|apply zaw
   |(apply zai hT;(iterate 4 exact rfl))|(apply zaj;(iterate 3 exact rfl))|(apply zad;(iterate 2 exact rfl))
   |(apply zax hT;(iterate 4 exact rfl);(iterate 2 (first|omega|(dsimp only;omega))))
   |(apply zar [] [] hmix;decide+kernel)
   |(apply zaC (hs:=(hI.mono (by(intro c hc;(repeat(first|exact hc|apply List.mem_cons_of_mem|apply List.mem_append_right))))));(iterate 7 exact rfl))
   |(apply zab;(iterate 5 exact rfl);first|(apply zas hT;exact rfl;exact rfl;(repeat(first|exact List.mem_cons_self|exact m0|apply List.mem_cons_of_mem|apply List.mem_append_right));exact rfl;exact rfl)|(apply zaq hT;exact rfl;exact rfl;(repeat(first|exact List.mem_cons_self|exact m0|apply List.mem_cons_of_mem|apply List.mem_append_right));exact rfl))
   |(apply zau;(iterate 5 exact rfl);intro _)|(apply zac hT;(iterate 5 exact rfl);intro _)
   |(apply zaf;(iterate 2 exact rfl))|(apply zag;(iterate 2 exact rfl))
   |(apply zak;exact rfl;all_goals intro hb;all_goals(fail_if_success (change true=true at hb));all_goals(fail_if_success (change false=false at hb));all_goals(try dsimp only at hb);all_goals(try simp only[hb]);all_goals(first|replace hb:=of_decide_eq_true hb|replace hb:=of_decide_eq_false hb|replace hb:=zao hb|replace hb:=zap hb|replace hb:=eq_of_beq hb|replace hb:=ne_of_beq_false hb|skip);all_goals(try(exfalso;omega)))
   |(apply zan;exact rfl;all_goals intro hb;all_goals(try dsimp only at hb);all_goals(try simp only[hb]);all_goals(first|replace hb:=of_decide_eq_true hb|replace hb:=of_decide_eq_false hb|replace hb:=zao hb|replace hb:=zap hb|replace hb:=eq_of_beq hb|replace hb:=ne_of_beq_false hb|skip);all_goals(try(exfalso;omega))))
  all_goals first
   |(exfalso;omega)
   |(apply ret1;exact rfl;exact⟨rfl,dX⟩)
   |skip
end Go.Proofs.YteocfhdocpeokaaGreat
set_option linter.unusedSimpArgs false
set_option linter.unusedVariables false
namespace Go.Proofs.YteocfhdocpeokaaGreat
open Go Go.Sl
attribute [local irreducible] AW ES EP Ld RetQ
set_option maxRecDepth 100000
def psOf (cash:List Int)(rs:List PRow):Ps:=⟨cash,rs.map PRow.l⟩
theorem zeC {cash:List Int}{rs:List PRow}(who bond:Int):zcx cash rs who bond=zbU (psOf cash rs) who bond:=by
 unfold zcx zbU psOf at0
 by_cases h:0≤who
 ·rw[if_neg (by omega)]
  simp only[List.getElem?_map]
  rcases rs[who.toNat]? with _|r<;>simp
 ·rw[decide_eq_false h];simp
theorem zky {cash:List Int}{rs:List PRow}(who:Int):zgN cash who=zbh (psOf cash rs) who:=by
 unfold zgN zbh psOf at0
 dsimp only
 split<;>rfl
theorem zcJ {W:World}{h:List zah}{AR:Option Addr}{cR:Nat}{t:TypeId}{rs:List PRow}(hm:zah.own AR rs.length cR t 1 (rs.map PRow.hd)∈h):zaD W h AR rs.length 1 (rs.map PRow.hd):=zaD.own hm (by simp) (fun v hv=>by
 obtain⟨y,_,rfl⟩:=lmm.1 hv
 rfl)
theorem zgO {rs:List PRow}{i:Nat}{a:PRow}(h:rs[i]? =some a):(rs.map PRow.hd)[i*1]? =some (.slice a.A a.l.length a.c):=by simp[h];rfl
theorem zl6 {rs:List PRow}{a:PRow}(h:a∈rs){F:List zah}:zah.own a.A a.l.length a.c 2 1 (a.l.map (Value.int .i64))∈rs.map PRow.ck++F:=List.mem_append_left _ (lmm.2 ⟨a,h,rfl⟩)
structure znn (rs:List PRow)(nb:Nat)(i:Int)(a:PRow):Prop where
 at_:rs[i.toNat]? =some a
 len:a.l.length=nb
 wr:∀n∈a.l,inW n
theorem zju {np nb:Nat}{cash:List Int}{rs:List PRow}(h:PsOK np nb (psOf cash rs)){i:Int}(h0:0≤i)(h1:i<np):∃a,znn rs nb i a:=by
 have hl:rs.length=np:=by have:=h.np;simpa [psOf]using this
 have ha:rs[i.toNat]? =some (rs[i.toNat]'(by omega)):=gge (by omega)
 have hm:(rs[i.toNat]'(by omega)).l∈(psOf cash rs).pos:=lmm.2 ⟨_,List.getElem_mem (by omega),rfl⟩
 exact⟨_,ha,h.row _ hm,h.wr _ hm⟩
theorem zdl {cash:List Int}{rs:List PRow}{i bond:Int}{a:PRow}(h0:0≤i)(ha:rs[i.toNat]? =some a)(hb:0≤bond){n:Int}(hn:a.l[bond.toNat]? =some n):zbv (psOf cash rs) i bond=n:=by
 unfold zbv psOf at0
 rw[if_neg (by omega)]
 simp only[List.getElem?_map,ha,Option.map_some,Option.bind_some]
 rw[if_neg (by omega),hn];rfl
theorem zdm {cash:List Int}{rs:List PRow}{i n:Int}(h0:0≤i)(hn:cash[i.toNat]? =some n):zbh (psOf cash rs) i=n:=by
 unfold zbh psOf at0
 rw[if_neg (by omega)]
 dsimp only
 rw[hn];rfl
theorem zgc (W:World)(p:Nat)(AC:Option Addr)(cC:Nat)(AR:Option Addr)(cR:Nat)(cash:List Int)(rs:List PRow)(np nb:Nat)(hP:PsOK np nb (psOf cash rs))(who bond:Int):
 zaF Tryz.prog W 35 [.pointer (some ⟨p,0,none⟩),.int .i64 who,.int .i64 bond] (zaZ p AC cC AR cR cash rs []) (.int .i64 (zbv (psOf cash rs) who bond)):=by
 refine zaF.ofD (fun h' hs=> ?_)
 have m0:=hs _ mem0
 have m1:=hs _ mem2
 have hck:=fun(a:PRow) (ha:a∈rs)=>hs _ (List.mem_cons_of_mem _ (List.mem_cons_of_mem _ (List.mem_cons_of_mem _ (zl6 ha))))
 have hlc:rs.length=cash.length:=by have a1:=hP.nc;have a2:=hP.np;simp[psOf]at a1 a2;omega
 have hI:=(zhn W p AC cC AR cR cash rs hlc who bond).mono (h':=h') (zdU m0 m1)
 rw[zeC]at hI
 have hrd:=zcJ (W:=W) m1
 refine zaA Tryz.func35 rfl rfl Tryz.results35 Tryz.ntmps35 rfl rfl ?_
 refine zaO hrd rfl (fun hA=> ?_)
 cases hv:zbU (psOf cash rs) who bond
 ·rw[hv]at hI
  have hz:zbv (psOf cash rs) who bond=0:=by
   unfold zbv
   rcases hx:at0 (psOf cash rs).pos who with _|r
   ·rfl
   ·rw[Option.bind_some]
    rcases hy:at0 r bond with _|n
    ·rfl
    ·exfalso
     have h1:=zkS hx
     have h2:=zkS hy
     have h3:=hP.row _ (at0M hx)
     have h4:=hP.np
     have:zbU (psOf cash rs) who bond=true:=(zbF hP).2 ⟨by omega,by omega⟩
     rw[hv]at this;cases this
  rw[hz]
  repeat' (first
   |apply zaz|apply zaa|apply zay|apply zal|apply zam|apply zae|apply zaw
   |(apply zai hT;(iterate 4 exact rfl))|(apply zaj;(iterate 3 exact rfl))|(apply zad;(iterate 2 exact rfl))
   |(apply zax hT;(iterate 4 exact rfl);(iterate 2 (first|omega|(dsimp only;omega))))
   |(apply zar [] [] hmix;decide+kernel)
   |(apply zaC (hs:=(hI.mono (by(intro c hc;(repeat(first|exact hc|apply List.mem_cons_of_mem|apply List.mem_append_right))))));(iterate 7 exact rfl))
   |(apply zab;(iterate 5 exact rfl);first|(apply zas hT;exact rfl;exact rfl;(repeat(first|exact List.mem_cons_self|exact m0|apply List.mem_cons_of_mem|apply List.mem_append_right));exact rfl;exact rfl)|(apply zaq hT;exact rfl;exact rfl;(repeat(first|exact List.mem_cons_self|exact m0|apply List.mem_cons_of_mem|apply List.mem_append_right));exact rfl))
   |(apply zau;(iterate 5 exact rfl);intro _)|(apply zac hT;(iterate 5 exact rfl);intro _)
   |(apply zaf;(iterate 2 exact rfl))|(apply zag;(iterate 2 exact rfl))
   |(apply zak;exact rfl;all_goals intro hb;all_goals(fail_if_success (change true=true at hb));all_goals(fail_if_success (change false=false at hb));all_goals(try dsimp only at hb);all_goals(try simp only[hb]);all_goals(first|replace hb:=of_decide_eq_true hb|replace hb:=of_decide_eq_false hb|replace hb:=zao hb|replace hb:=zap hb|replace hb:=eq_of_beq hb|replace hb:=ne_of_beq_false hb|skip);all_goals(try(exfalso;omega)))
   |(apply zan;exact rfl;all_goals intro hb;all_goals(try dsimp only at hb);all_goals(try simp only[hb]);all_goals(first|replace hb:=of_decide_eq_true hb|replace hb:=of_decide_eq_false hb|replace hb:=zao hb|replace hb:=zap hb|replace hb:=eq_of_beq hb|replace hb:=ne_of_beq_false hb|skip);all_goals(try(exfalso;omega))))
  all_goals first
   |(exfalso;omega)
   |(apply ret1;exact rfl;exact⟨rfl,dX⟩)
   |skip
 ·obtain⟨⟨w1,w2⟩,b1,b2⟩:=(zbF hP).1 hv
  rw[hv]at hI
  obtain⟨a,ha⟩:=zju hP w1 w2
  have hal:=ha.len
  obtain⟨n,hn⟩:∃n,a.l[bond.toNat]? =some n:=⟨a.l[bond.toNat]'(by omega),gge (by omega)⟩
  rw[zdl w1 ha.at_ b1 hn]
  have hnp:=hP.np
  simp only[psOf,llm]at hnp
  have hA':=hA (by omega)
  have hrda:zaD W h' a.A a.l.length 1 (a.l.map (Value.int .i64)):=zaD.ints (hck a (mog ha.at_)) rfl
  refine zaO hrda rfl (fun hB=> ?_)
  have hB':=hB (by omega)
  have hix:=zgO ha.at_
  have hiy:=zgt (kd:=.i64) hn
  repeat' (first
   |apply zaz|apply zaa|apply zay|apply zal|apply zam|apply zae|apply zaw
   |(apply zai hT;(iterate 4 exact rfl))|(apply zaj;(iterate 3 exact rfl))|(apply zad;(iterate 2 exact rfl))
   |(apply zax hT;(iterate 4 exact rfl);(iterate 2 (first|omega|(dsimp only;omega))))
   |(apply zar [] [] hmix;decide+kernel)
   |(apply zaC (hs:=(hI.mono (by(intro c hc;(repeat(first|exact hc|apply List.mem_cons_of_mem|apply List.mem_append_right))))));(iterate 7 exact rfl))
   |(apply zaU hT;(iterate 8 exact rfl);(iterate 2 omega);first|exact hA'|exact hB')
   |(apply zab;(iterate 5 exact rfl);first|exact zbd hT rfl rfl hrd rfl hix|exact zbd hT rfl rfl hrda rfl hiy)
   |(apply zab;(iterate 5 exact rfl);first|(apply zas hT;exact rfl;exact rfl;(repeat(first|exact List.mem_cons_self|exact m0|apply List.mem_cons_of_mem|apply List.mem_append_right));exact rfl;exact rfl)|(apply zaq hT;exact rfl;exact rfl;(repeat(first|exact List.mem_cons_self|exact m0|apply List.mem_cons_of_mem|apply List.mem_append_right));exact rfl))
   |(apply zau;(iterate 5 exact rfl);intro _)|(apply zac hT;(iterate 5 exact rfl);intro _)
   |(apply zaf;(iterate 2 exact rfl))|(apply zag;(iterate 2 exact rfl))
   |(apply zak;exact rfl;all_goals intro hb;all_goals(fail_if_success (change true=true at hb));all_goals(fail_if_success (change false=false at hb));all_goals(try dsimp only at hb);all_goals(try simp only[hb]);all_goals(first|replace hb:=of_decide_eq_true hb|replace hb:=of_decide_eq_false hb|replace hb:=zao hb|replace hb:=zap hb|replace hb:=eq_of_beq hb|replace hb:=ne_of_beq_false hb|skip);all_goals(try(exfalso;omega)))
   |(apply zan;exact rfl;all_goals intro hb;all_goals(try dsimp only at hb);all_goals(try simp only[hb]);all_goals(first|replace hb:=of_decide_eq_true hb|replace hb:=of_decide_eq_false hb|replace hb:=zao hb|replace hb:=zap hb|replace hb:=eq_of_beq hb|replace hb:=ne_of_beq_false hb|skip);all_goals(try(exfalso;omega))))
  all_goals first
   |(exfalso;omega)
   |(apply ret1;exact rfl;exact⟨rfl,dX⟩)
   |skip
theorem zhS (W:World)(F:List zah)(p:Nat)(AC:Option Addr)(cC:Nat)(AR:Option Addr)(cR:Nat)(cash:List Int)(rs:List PRow)(np nb:Nat)(hP:PsOK np nb (psOf cash rs))(t:zaB)
 (hbad:zbU (psOf cash rs) t.buyer t.bond=false∨zbU (psOf cash rs) t.seller t.bond=false∨t.buyer=t.seller∨t.price<1∨t.qty<1):
 zaL Tryz.prog W 8 [.pointer (some ⟨p,0,none⟩),.agg t.enc.toArray] (zaZ p AC cC AR cR cash rs F) (fun v h'=>v=.int .i64 1∧h'=zaZ p AC cC AR cR cash rs F):=by
 refine zaL.dropTo ?_
 have hnc:=hP.nc
 have hnp:=hP.np
 simp only[psOf,llm]at hnc hnp
 have hlc:rs.length=cash.length:=by omega
 have hI:=fun who bond h' m0 m1=>(zhn W p AC cC AR cR cash rs hlc who bond).mono (h':=h') (zdU m0 m1)
 simp only[zeC]at hI
 unfold zaZ
 have h1:=hI t.buyer t.bond
 have h2:=hI t.seller t.bond
 generalize zbU (psOf cash rs) t.buyer t.bond=b1 at*
 generalize zbU (psOf cash rs) t.seller t.bond=b2 at*
 generalize rs.map PRow.ck++F=G
 refine zaA Tryz.func8 rfl rfl Tryz.results8 Tryz.ntmps8 rfl rfl ?_
 repeat' (first
  |apply zaz|apply zaa|apply zay|apply zal|apply zam|apply zae|apply zaw
  |(apply zai hT;(iterate 4 exact rfl))|(apply zaj;(iterate 3 exact rfl))|(apply zad;(iterate 2 exact rfl))
  |(apply zax hT;(iterate 4 exact rfl);(iterate 2 (first|omega|(dsimp only;omega))))
  |(apply zar [] [] hmix;decide+kernel)
  |(apply zau;(iterate 5 exact rfl);intro g3)
  |(apply zaC (hs:=(h1 _ (by(repeat(first|exact List.mem_cons_self|apply List.mem_cons_of_mem|apply List.mem_append_right))) (by(repeat(first|exact List.mem_cons_self|apply List.mem_cons_of_mem|apply List.mem_append_right)))));(iterate 7 exact rfl))
  |(apply zaC (hs:=(h2 _ (by(repeat(first|exact List.mem_cons_self|apply List.mem_cons_of_mem|apply List.mem_append_right))) (by(repeat(first|exact List.mem_cons_self|apply List.mem_cons_of_mem|apply List.mem_append_right)))));(iterate 7 exact rfl))
  |(apply zab;(iterate 5 exact rfl);first|(apply zas hT;exact rfl;exact rfl;(repeat(first|exact List.mem_cons_self|apply List.mem_cons_of_mem|apply List.mem_append_right));exact rfl;exact rfl)|(apply zaq hT;exact rfl;exact rfl;(repeat(first|exact List.mem_cons_self|apply List.mem_cons_of_mem|apply List.mem_append_right));exact rfl))
  |(apply zau;(iterate 5 exact rfl);intro _)|(apply zac hT;(iterate 5 exact rfl);intro _)
  |(apply zaf;(iterate 2 exact rfl))|(apply zag;(iterate 2 exact rfl))
  |(apply zak;exact rfl;all_goals intro hb;all_goals(fail_if_success (change true=true at hb));all_goals(fail_if_success (change false=false at hb));all_goals(try dsimp only at hb);all_goals(try simp only[hb]);all_goals(first|replace hb:=of_decide_eq_true hb|replace hb:=of_decide_eq_false hb|replace hb:=zao hb|replace hb:=zap hb|replace hb:=eq_of_beq hb|replace hb:=ne_of_beq_false hb|skip);all_goals(try(exfalso;omega)))
  |(apply zan;exact rfl;all_goals intro hb;all_goals(try dsimp only at hb);all_goals(try simp only[hb]);all_goals(first|replace hb:=of_decide_eq_true hb|replace hb:=of_decide_eq_false hb|replace hb:=zao hb|replace hb:=zap hb|replace hb:=eq_of_beq hb|replace hb:=ne_of_beq_false hb|skip);all_goals(try(exfalso;omega))))
 all_goals first
  |(exfalso;omega)
  |(exfalso;simp_all;done)
  |(apply ret1;exact rfl;exact⟨_,by(show zaW _ (_::_::_::G));exact dX,rfl,rfl⟩)
  |skip
theorem zgd (x:Int):∃y f,okI x=.tuple #[.int .i64 y,.bool f]∧inW y∧inI x=f∧(f=true→y=x):=by
 refine⟨if inI x then x else 0,inI x,rfl,?_,rfl,fun h=>by rw[if_pos h]⟩
 split
 ·rename_i h;exact zdI h
 ·unfold inW;omega
theorem zfq {l:List Int}{i:Nat}{n:Int}{k:IntKind}(h:i<l.length):lay (l.map (Value.int k)) (i*1) (Value.cells (.int k n)).toList=(l.set i n).map (Value.int k):=by
 show lay _ _ [.int k n]=_
 rw[zdQ (by simpa using h),List.map_set]
theorem zge {l:List (List Int)}{who bond n:Int}{r:List Int}(h:at0 l who=some r):setRow l who bond n=l.set who.toNat (r.set bond.toNat n):=by
 unfold setRow
 rw[h];rfl
theorem zjv (W:World)(F:List zah)(p:Nat)(AC:Option Addr)(cC:Nat)(AR:Option Addr)(cR:Nat)(cash:List Int)(rs:List PRow)(np nb:Nat)(hP:PsOK np nb (psOf cash rs))(t:zaB)(hpr:inW t.price)(hqt:inW t.qty)
 (hbad:¬(zbU (psOf cash rs) t.buyer t.bond=false∨zbU (psOf cash rs) t.seller t.bond=false∨t.buyer=t.seller∨t.price<1∨t.qty<1)):
 zaL Tryz.prog W 8 [.pointer (some ⟨p,0,none⟩),.agg t.enc.toArray] (zaZ p AC cC AR cR cash rs F) (fun v h'=>v=.int .i64 (putE (psOf cash rs) t)∧∃cash' rs',psOf cash' rs'=putP (psOf cash rs) t∧h'=zaZ p AC cC AR cR cash' rs' F):=by
 refine zaL.dropTo ?_
 have hnc:=hP.nc
 have hnp:=hP.np
 simp only[psOf,llm]at hnc hnp
 have hlc:rs.length=cash.length:=by omega
 have hI:=fun who bond h' m0 m1=>(zhn W p AC cC AR cR cash rs hlc who bond).mono (h':=h') (zdU m0 m1)
 simp only[zeC]at hI
 have h1:=hI t.buyer t.bond
 have h2:=hI t.seller t.bond
 have hbad':=hbad
 simp only[not_or,Bool.not_eq_false]at hbad'
 obtain⟨hb1,hb2,hne,hp1,hq1⟩:=hbad'
 rw[hb1]at h1
 rw[hb2]at h2
 obtain⟨⟨x1,x2⟩,x3,x4⟩:=(zbF hP).1 hb1
 obtain⟨⟨y1,y2⟩,_,_⟩:=(zbF hP).1 hb2
 obtain⟨a,ha⟩:=zju hP x1 x2
 obtain⟨b,hb⟩:=zju hP y1 y2
 have hal:=ha.len
 have hbl:=hb.len
 obtain⟨nB,hnB⟩:∃n,a.l[t.bond.toNat]? =some n:=⟨a.l[t.bond.toNat]'(by omega),gge (by omega)⟩
 obtain⟨nS,hnS⟩:∃n,b.l[t.bond.toNat]? =some n:=⟨b.l[t.bond.toNat]'(by omega),gge (by omega)⟩
 obtain⟨cB,hcB⟩:∃n,cash[t.buyer.toNat]? =some n:=⟨cash[t.buyer.toNat]'(by omega),gge (by omega)⟩
 obtain⟨cS,hcS⟩:∃n,cash[t.seller.toNat]? =some n:=⟨cash[t.seller.toNat]'(by omega),gge (by omega)⟩
 have wnB:=ha.wr _ (mog hnB)
 have wnS:=hb.wr _ (mog hnS)
 have wcB:=hP.wc _ (mog hcB)
 have wcS:=hP.wc _ (mog hcS)
 obtain⟨X,hX⟩:=Int.eq_ofNat_of_zero_le (show 0≤t.price by omega)
 obtain⟨Q,hQ⟩:=Int.eq_ofNat_of_zero_le (show 0≤t.qty by omega)
 unfold inW at hpr hqt
 have hTm:=zi3 W X Q (by omega) (by omega)
 rw[←hX,←hQ]at hTm
 have hXQ:X*Q<340282366920938463463374607431768211456:=by
  have:X*Q≤9223372036854775807*9223372036854775807:=Nat.mul_le_mul (by omega) (by omega)
  omega
 have hNr:=zhR W (X*Q) hXQ
 have hcost:t.price*t.qty=((X*Q:Nat):Int):=by rw[hX,hQ];simp
 obtain⟨v1,f1,e1,w1,g1,k1⟩:=zgd ((X*Q:Nat):Int)
 rw[e1]at hNr
 have hA2:=zhl W nB t.qty wnB (by unfold inW;omega)
 obtain⟨v2,f2,e2,w2,g2,k2⟩:=zgd (nB+t.qty)
 rw[e2]at hA2
 have hA3:=zhm W nS t.qty wnS (by unfold inW;omega)
 obtain⟨v3,f3,e3,w3,g3',k3⟩:=zgd (nS - t.qty)
 rw[e3]at hA3
 have hA4:=zhm W cB v1 wcB w1
 obtain⟨v4,f4,e4,w4,g4',k4⟩:=zgd (cB - v1)
 rw[e4]at hA4
 have hA5:=zhl W cS v1 wcS w1
 obtain⟨v5,f5,e5,w5,g5',k5⟩:=zgd (cS+v1)
 rw[e5]at hA5
 have hE:putE (psOf cash rs) t=if f1&&f2&&f3&&f4&&f5 then 0 else 15:=by
  unfold putE
  rw[if_neg hbad,zdl x1 ha.at_ x3 hnB,zdl y1 hb.at_ x3 hnS,zdm x1 hcB,zdm y1 hcS,hcost,g1,g2,g3']
  cases f1
  ·simp
  ·rw[←k1 rfl,g4',g5']
 have hEok:(f1&&f2&&f3&&f4&&f5)=true→(putP (psOf cash rs) t)=⟨(cash.set t.buyer.toNat v4).set t.seller.toNat v5,setRow (setRow (rs.map PRow.l) t.buyer t.bond v2) t.seller t.bond v3⟩:=fun hf=>by
  rw[hf,if_pos rfl]at hE
  simp only[Bool.and_eq_true]at hf
  obtain⟨⟨⟨⟨z1,z2⟩,z3⟩,z4⟩,z5⟩:=hf
  unfold putP
  rw[if_pos hE,zdl x1 ha.at_ x3 hnB,zdl y1 hb.at_ x3 hnS,zdm x1 hcB,zdm y1 hcS,hcost,k2 z2,k3 z3,k4 z4,k5 z5,k1 z1]
  rfl
 rw[hE]
 obtain⟨R,hR⟩:=zeg (l:=rs) (i:=t.buyer.toNat) (j:=t.seller.toNat) (by omega) (by omega) (by omega)
 have hR0:=hR a b
 rw[zcD ha.at_,zcD hb.at_]at hR0
 have hpull:(zaZ p AC cC AR cR cash rs F).Perm (.blk p 69 [.slice AR rs.length cR,.slice AC cash.length cC]::.own AC cash.length cC 2 1 (cash.map (Value.int .i64))::.own AR rs.length cR 66 1 (rs.map PRow.hd)
  ::.own a.A a.l.length a.c 2 1 (a.l.map (Value.int .i64))::.own b.A b.l.length b.c 2 1 (b.l.map (Value.int .i64))::(R.map PRow.ck++F)):=by
  unfold zaZ
  refine((List.Perm.append_right F (hR0.map PRow.ck)).cons _ |>.cons _ |>.cons _)
 have hixa:=zgO ha.at_
 have hixb:=zgO hb.at_
 have hiB:=zgt (kd:=.i64) hnB
 have hiS:=zgt (kd:=.i64) hnS
 have hjB:=zgt (kd:=.i64) hcB
 have hjS:=zgt (kd:=.i64) hcS
 generalize hG:R.map PRow.ck++F=G at hpull
 have hEno:(f1&&f2&&f3&&f4&&f5)=false→putP (psOf cash rs) t=psOf cash rs:=fun hf=>by
  rw[hf]at hE
  unfold putP
  rw[if_neg (by rw[hE];decide)]
 have hdrop:∀k,zaW k (.blk p 69 [.slice AR rs.length cR,.slice AC cash.length cC]::.own AC cash.length cC 2 1 (cash.map (Value.int .i64))::.own AR rs.length cR 66 1 (rs.map PRow.hd)
  ::.own a.A a.l.length a.c 2 1 (a.l.map (Value.int .i64))::.own b.A b.l.length b.c 2 1 (b.l.map (Value.int .i64))::G)→zaW k (zaZ p AC cC AR cR cash rs F):=fun k hk=>zbZ hk (zgo hpull.symm)
 have hfin:∀k,zaW k (.blk p 69 [.slice AR rs.length cR,.slice AC cash.length cC]::.own AC cash.length cC 2 1 (lay (lay (cash.map (Value.int .i64)) (t.buyer.toNat*1) (Value.cells (.int .i64 v4)).toList) (t.seller.toNat*1) (Value.cells (.int .i64 v5)).toList)::.own AR rs.length cR 66 1 (rs.map PRow.hd)
  ::.own a.A a.l.length a.c 2 1 (lay (a.l.map (Value.int .i64)) (t.bond.toNat*1) (Value.cells (.int .i64 v2)).toList)::.own b.A b.l.length b.c 2 1 (lay (b.l.map (Value.int .i64)) (t.bond.toNat*1) (Value.cells (.int .i64 v3)).toList)::G)
  →zaW k (zaZ p AC cC AR cR ((cash.set t.buyer.toNat v4).set t.seller.toNat v5) ((rs.set t.buyer.toNat ⟨a.A,a.c,a.l.set t.bond.toNat v2⟩).set t.seller.toNat ⟨b.A,b.c,b.l.set t.bond.toNat v3⟩) F):=fun k hk=>by
  refine zbZ hk (zgo ?_)
  rw[zfq (by omega),zfq (by simp only[List.length_set];omega),zfq (by omega),zfq (by omega)]
  unfold zaZ
  have e4:((rs.set t.buyer.toNat ⟨a.A,a.c,a.l.set t.bond.toNat v2⟩).set t.seller.toNat ⟨b.A,b.c,b.l.set t.bond.toNat v3⟩).map PRow.hd=rs.map PRow.hd:=by
   rw[List.map_set,List.map_set]
   have f1:PRow.hd ⟨a.A,a.c,a.l.set t.bond.toNat v2⟩=PRow.hd a:=by unfold PRow.hd;simp only[List.length_set]
   have f2:PRow.hd ⟨b.A,b.c,b.l.set t.bond.toNat v3⟩=PRow.hd b:=by unfold PRow.hd;simp only[List.length_set]
   rw[f1,f2,zcD (l:=rs.map PRow.hd) (i:=t.buyer.toNat) (a:=PRow.hd a) (by rw[List.getElem?_map,ha.at_];rfl),zcD (l:=rs.map PRow.hd) (i:=t.seller.toNat) (a:=PRow.hd b) (by rw[List.getElem?_map,hb.at_];rfl)]
  rw[e4]
  simp only[List.length_set]
  refine List.Perm.cons _ (List.Perm.cons _ (List.Perm.cons _ ?_))
  have e5:=((hR ⟨a.A,a.c,a.l.set t.bond.toNat v2⟩ ⟨b.A,b.c,b.l.set t.bond.toNat v3⟩).map PRow.ck).append_right F
  have f3:PRow.ck ⟨a.A,a.c,a.l.set t.bond.toNat v2⟩=.own a.A a.l.length a.c 2 1 ((a.l.set t.bond.toNat v2).map (Value.int .i64)):=by unfold PRow.ck;simp only[List.length_set]
  have f4:PRow.ck ⟨b.A,b.c,b.l.set t.bond.toNat v3⟩=.own b.A b.l.length b.c 2 1 ((b.l.set t.bond.toNat v3).map (Value.int .i64)):=by unfold PRow.ck;simp only[List.length_set]
  rw[List.map_cons,List.map_cons,f3,f4]at e5
  rw[←hG]
  exact e5.symm
 have hpsok:(f1&&f2&&f3&&f4&&f5)=true→psOf ((cash.set t.buyer.toNat v4).set t.seller.toNat v5) ((rs.set t.buyer.toNat ⟨a.A,a.c,a.l.set t.bond.toNat v2⟩).set t.seller.toNat ⟨b.A,b.c,b.l.set t.bond.toNat v3⟩)=putP (psOf cash rs) t:=fun hf=>by
  rw[hEok hf]
  unfold psOf
  congr 1
  rw[List.map_set,List.map_set]
  have q1:at0 (rs.map PRow.l) t.buyer=some a.l:=by unfold at0;rw[if_neg (by omega),List.getElem?_map,ha.at_];rfl
  rw[zge q1]
  have q2:at0 ((rs.map PRow.l).set t.buyer.toNat (a.l.set t.bond.toNat v2)) t.seller=some b.l:=by
   unfold at0
   rw[if_neg (by omega),List.getElem?_set_ne (by omega),List.getElem?_map,hb.at_];rfl
  rw[zge q2]
 generalize putP (psOf cash rs) t=PP at*
 refine zaA Tryz.func8 rfl rfl Tryz.results8 Tryz.ntmps8 rfl rfl ?_
 refine zil hpull ?_
 refine zaO (zcJ (W:=W) mem2) rfl (fun hAR=> ?_)
 have hAR':=hAR (by omega)
 refine zaO (zaD.ints (W:=W) mem1 rfl) rfl (fun hAC=> ?_)
 have hAC':=hAC (by omega)
 refine zaO (zaD.ints (W:=W) mem3 rfl) rfl (fun hAa=> ?_)
 have hAa':=hAa (by omega)
 refine zaO (zaD.ints (W:=W) mem4 rfl) rfl (fun hAb=> ?_)
 have hAb':=hAb (by omega)
 repeat' (first
  |apply zaz|apply zaa|apply zay|apply zal|apply zam|apply zae|apply zaw
  |(apply zai hT;(iterate 4 exact rfl))|(apply zaj;(iterate 3 exact rfl))|(apply zad;(iterate 2 exact rfl))
  |(apply zax hT;(iterate 4 exact rfl);(iterate 2 (first|omega|(dsimp only;omega))))
  |(apply zar [27,28] [] hmix;decide+kernel)
  |(apply zbj [] [] (.step 0 <| .step 1 <| .step 2 <| .step 3 <| .step 4 <| .step 5 <| .step 6 <| .step 7 <| .step 8 <| .step 9 <| .step 10 <| .step 11 <| .step 12 <| .step 13 <| .step 14 <| .step 15 <| .step 16 <| .step 17 <| .step 18 <| .step 20 <| .step 21 <| .step 22 <| .alt (.step 19 <| .step 23 <| .step 24 <| .step 25 <| .nil) ((.step 23 <| .step 19 <| .step 24 <| .step 25 <| .nil))) hmix;decide+kernel)|apply zbX|apply zbY|(apply zbx;exact rfl)
  |(apply zbj [] [] (.step 0 <| .step 1 <| .step 2 <| .step 3 <| .step 4 <| .step 5 <| .step 6 <| .step 7 <| .step 8 <| .step 9 <| .step 10 <| .step 12 <| .step 13 <| .step 14 <| .alt (.step 11 <| .step 15 <| .step 16 <| .step 17 <| .nil) ((.step 15 <| .step 11 <| .step 16 <| .step 17 <| .nil))) hmix;decide+kernel)|apply zbX|apply zbY|(apply zbx;exact rfl)
  |(apply zau;(iterate 5 exact rfl);intro g3)
  |(apply zaC (hs:=(h1 _ (by(repeat(first|exact List.mem_cons_self|apply List.mem_cons_of_mem|apply List.mem_append_right))) (by(repeat(first|exact List.mem_cons_self|apply List.mem_cons_of_mem|apply List.mem_append_right)))));(iterate 7 exact rfl))
  |(apply zaC (hs:=(h2 _ (by(repeat(first|exact List.mem_cons_self|apply List.mem_cons_of_mem|apply List.mem_append_right))) (by(repeat(first|exact List.mem_cons_self|apply List.mem_cons_of_mem|apply List.mem_append_right)))));(iterate 7 exact rfl))
  |(apply zaC (hs:=(hTm.mono (by simp)));(iterate 7 exact rfl))
  |(apply zaC (hs:=(hNr.mono (by simp)));(iterate 7 exact rfl))
  |(apply zaC (hs:=(hA2.mono (by simp)));(iterate 7 exact rfl))
  |(apply zaC (hs:=(hA3.mono (by simp)));(iterate 7 exact rfl))
  |(apply zaC (hs:=(hA4.mono (by simp)));(iterate 7 exact rfl))
  |(apply zaC (hs:=(hA5.mono (by simp)));(iterate 7 exact rfl))
  |(apply zaP hT;(iterate 6 exact rfl);exact sX;(iterate 3 exact rfl);exact Nat.le_of_ble_eq_true rfl)
  |(apply zaU hT;(iterate 8 exact rfl);(iterate 2 omega);first|exact hAR'|exact hAC'|exact hAa'|exact hAb')
  |(apply zab;(iterate 5 exact rfl);first|exact zbd hT rfl rfl (zcJ (by(repeat(first|exact List.mem_cons_self|apply List.mem_cons_of_mem|apply List.mem_append_right)))) rfl hixa|exact zbd hT rfl rfl (zcJ (by(repeat(first|exact List.mem_cons_self|apply List.mem_cons_of_mem|apply List.mem_append_right)))) rfl hixb|exact zbd hT rfl rfl (zaD.ints (by(repeat(first|exact List.mem_cons_self|apply List.mem_cons_of_mem|apply List.mem_append_right))) rfl) rfl hiB|exact zbd hT rfl rfl (zaD.ints (by(repeat(first|exact List.mem_cons_self|apply List.mem_cons_of_mem|apply List.mem_append_right))) rfl) rfl hiS|exact zbd hT rfl rfl (zaD.ints (by(repeat(first|exact List.mem_cons_self|apply List.mem_cons_of_mem|apply List.mem_append_right))) rfl) rfl hjB|exact zbd hT rfl rfl (zaD.ints (by(repeat(first|exact List.mem_cons_self|apply List.mem_cons_of_mem|apply List.mem_append_right))) rfl) rfl hjS)
  |(apply za8 (A:=a.A) hT;(iterate 6 exact rfl);exact sX;exact rfl;exact rfl;exact rfl;(show t.bond.toNat*1+1≤a.l.length*1;omega);omega)
  |(apply za8 (A:=b.A) hT;(iterate 6 exact rfl);exact sX;exact rfl;exact rfl;exact rfl;(show t.bond.toNat*1+1≤b.l.length*1;omega);omega)
  |(apply za8 (A:=AC) hT;(iterate 6 exact rfl);exact sX;exact rfl;exact rfl;exact rfl;(show t.buyer.toNat*1+1≤cash.length*1;omega);omega)
  |(apply za8 (A:=AC) hT;(iterate 6 exact rfl);exact sX;exact rfl;exact rfl;exact rfl;(show t.seller.toNat*1+1≤cash.length*1;omega);omega)
  |(apply zab;(iterate 5 exact rfl);first|(apply zas hT;exact rfl;exact rfl;(repeat(first|exact List.mem_cons_self|apply List.mem_cons_of_mem|apply List.mem_append_right));exact rfl;exact rfl)|(apply zaq hT;exact rfl;exact rfl;(repeat(first|exact List.mem_cons_self|apply List.mem_cons_of_mem|apply List.mem_append_right));exact rfl))
  |(apply zau;(iterate 5 exact rfl);intro _)|(apply zac hT;(iterate 5 exact rfl);intro _)
  |(apply zaf;(iterate 2 exact rfl))|(apply zag;(iterate 2 exact rfl))
  |(apply zak;exact rfl;all_goals intro hb;all_goals(fail_if_success (change true=true at hb));all_goals(fail_if_success (change false=false at hb));all_goals(try dsimp only at hb);all_goals(try simp only[hb]);all_goals(first|replace hb:=of_decide_eq_true hb|replace hb:=of_decide_eq_false hb|replace hb:=zao hb|replace hb:=zap hb|replace hb:=eq_of_beq hb|replace hb:=ne_of_beq_false hb|skip);all_goals(try(exfalso;omega)))
  |(apply zan;exact rfl;all_goals intro hb;all_goals(try dsimp only at hb);all_goals(try simp only[hb]);all_goals(first|replace hb:=of_decide_eq_true hb|replace hb:=of_decide_eq_false hb|replace hb:=zao hb|replace hb:=zap hb|replace hb:=eq_of_beq hb|replace hb:=ne_of_beq_false hb|skip);all_goals(try(exfalso;omega))))
 all_goals first
  |(exfalso;omega)
  |((have flag0:(f1&&f2&&f3&&f4&&f5)=false:=by(clear hdrop hfin hpsok hEok hEno hE hI h1 h2 hpull;simp only[Bool.not_eq_true',Bool.not_eq_false']at *;simp[*]));apply ret1;exact rfl;exact⟨_,hdrop _ dX,by rw[flag0];rfl,cash,rs,(hEno flag0).symm,rfl⟩)
  |((have flag1:(f1&&f2&&f3&&f4&&f5)=true:=by(clear hdrop hfin hpsok hEok hEno hE hI h1 h2 hpull;simp only[Bool.not_eq_true',Bool.not_eq_false']at *;simp[*]));apply ret1;exact rfl;exact⟨_,hfin _ dX,by rw[flag1];rfl,_,_,hpsok flag1,rfl⟩)
  |skip
end Go.Proofs.YteocfhdocpeokaaGreat
set_option linter.unusedSimpArgs false
set_option linter.unusedVariables false
namespace Go.Proofs.YteocfhdocpeokaaGreat
open Go Go.Sl
attribute [local irreducible] AW ES EP Ld RetQ
set_option maxRecDepth 100000
def DAd.at (y:DAd)(d:Nat):DAd:={y with d:=d}
end Go.Proofs.YteocfhdocpeokaaGreat
set_option linter.unusedSimpArgs false
set_option linter.unusedVariables false
namespace Go.Proofs.YteocfhdocpeokaaGreat
open Go Go.Sl
attribute [local irreducible] AW ES EP Ld RetQ
set_option maxRecDepth 100000
def hasI (id:Int)(q:zaH):Bool:=q.id==id
def uqQ (r:List zaH):Prop:=r.Pairwise fun a b=>a.id≠b.id
def zjw (x:zaH):zaH:={x with live:=false}
def zc1 (id:Int)(l:List zaH):List zaH:=l.map fun x=>if hasI id x then zjw x else x
theorem zhT {id:Int}{l:List zaH}(h:l.find? (hasI id)=none):zc1 id l=l:=by
 unfold zc1
 rw[List.find?_eq_none]at h
 conv=>rhs;rw[←List.map_id l]
 exact List.map_congr_left (fun x hx=>by rw[if_neg (h x hx)];rfl)
theorem zhU {id:Int}{l:List zaH}{i:Nat}{x:zaH}(hu:uqQ l)(hx:l[i]? =some x)(hp:hasI id x=true):zc1 id l=l.set i (zjw x):=by
 obtain⟨hlt,hxe⟩:=gsi.1 hx
 apply List.ext_getElem?
 intro j
 unfold zc1
 rw[List.getElem?_map]
 by_cases hij:i=j
 ·subst hij
  rw[hx,List.getElem?_set_self hlt];simp[hp]
 ·rw[List.getElem?_set_ne hij]
  cases hy:l[j]? with
  |none=>rfl
  |some y=>
   simp only[Option.map_some]
   obtain⟨hjl,hye⟩:=gsi.1 hy
   have hne:y.id≠x.id:=by
    rcases Nat.lt_or_gt_of_ne hij with h|h
    ·have:=List.pairwise_iff_getElem.1 hu i j hlt hjl h
     rw[hxe,hye]at this;exact fun e=>this e.symm
    ·have:=List.pairwise_iff_getElem.1 hu j i hjl hlt h
     rw[hxe,hye]at this;exact this
   have:hasI id y=false:=by
    simp only[hasI,beq_iff_eq]at hp ⊢
    simp;omega
   rw[this];rfl
end Go.Proofs.YteocfhdocpeokaaGreat
set_option linter.unusedSimpArgs false
set_option linter.unusedVariables false
namespace Go.Proofs.YteocfhdocpeokaaGreat
open Go Go.Sl
theorem TabQ.uq {l:List zaH}(h:upQ l):uqQ l:=h.imp (fun{a b} hab=>by omega)
theorem zjx {l r:List zaH}(hp:r.Perm l)(h:uqQ l):uqQ r:=(hp.pairwise_iff (fun{a b} hab e=>hab e.symm)).2 h
/-- found by number: the same one in any order -/
theorem zjy {l r:List zaH}(hp:r.Perm l)(hu:uqQ l)(id:Int):r.find? (hasI id)=l.find? (hasI id):=by
 have key:∀{l r:List zaH},r.Perm l→uqQ l→∀x,l.find? (hasI id)=some x→r.find? (hasI id)=some x:=by
  intro l r hp hu x hx
  have hxl:=List.mem_of_find?_eq_some hx
  have hxp:=List.find?_some hx
  cases hr:r.find? (hasI id)with
  |none=>
   rw[List.find?_eq_none]at hr
   exact absurd hxp (hr x (hp.mem_iff.2 hxl))
  |some y=>
   have hyr:=List.mem_of_find?_eq_some hr
   have hyp:=List.find?_some hr
   have hyl:=hp.mem_iff.1 hyr
   by_cases hxy:x=y
   ·rw[hxy]
   ·exfalso
    have:∀a∈l,∀b∈l,a≠b→a.id≠b.id:=by
     intro a ha b hb hab
     obtain⟨i,hi⟩:=List.getElem?_of_mem ha
     obtain⟨j,hj⟩:=List.getElem?_of_mem hb
     obtain⟨hil,hie⟩:=gsi.1 hi
     obtain⟨hjl,hje⟩:=gsi.1 hj
     rcases Nat.lt_trichotomy i j with h|h|h
     ·have:=List.pairwise_iff_getElem.1 hu i j hil hjl h
      rw[hie,hje]at this;exact this
     ·subst h;rw[hie]at hje;exact absurd hje hab
     ·have:=List.pairwise_iff_getElem.1 hu j i hjl hil h
      rw[hie,hje]at this;exact fun e=>this e.symm
    have h2:=this x hxl y hyl hxy
    simp only[hasI,beq_iff_eq]at hxp hyp
    omega
 cases hl:l.find? (hasI id)with
 |some x=>exact key hp hu x hl
 |none=>
  cases hr:r.find? (hasI id)with
  |none=>rfl
  |some y=>
   have:=key hp.symm (zjx hp hu) y hr
   rw[hl]at this;cases this
theorem zeD {l:List zaH}(hup:upQ l)(id:Int):getQ id l=l.find? (hasI id):=by
 cases hB:bsB (cQ id) l
 ·rw[zem hB]
  symm
  rw[List.find?_eq_none]
  intro x hx
  have:=zf1 hup hB x hx
  simp[hasI,this]
 ·obtain⟨x,hx,hid,hg⟩:=zdh hB
  rw[hg]
  symm
  rw[List.find?_eq_some_iff_getElem]
  obtain⟨hlt,hxe⟩:=gsi.1 hx
  refine⟨by simp[hasI,hid],_,hlt,hxe,fun j hj=> ?_⟩
  have:=List.pairwise_iff_getElem.1 hup j (bsN (cQ id) l) (by omega) hlt hj
  rw[hxe]at this
  simp[hasI];omega
/-- the program's killing, told as the document's -/
theorem zjz {l:List zaH}(hup:upQ l)(id:Int):zbV id l=zc1 id l:=by
 unfold zbV
 rw[zeD hup]
 cases hf:l.find? (hasI id)with
 |none=>rw[zhT hf]
 |some x=>
  dsimp only
  have hg:getQ id l=some x:=by rw[zeD hup,hf]
  cases hB:bsB (cQ id) l
  ·rw[zem hB]at hg;cases hg
  ·obtain⟨y,hy,hid,hgy⟩:=zdh hB
   rw[hg]at hgy;cases hgy
   have hp:hasI id x=true:=by simp[hasI,hid]
   rw[zhU (TabQ.uq hup) hy hp];rfl
theorem zhV {l r:List zaH}(hp:r.Perm l)(id:Int):(zc1 id r).Perm (zc1 id l):=hp.map _
theorem zjA {id:Int}{l:List zaH}:(zc1 id l).map zaH.id=l.map zaH.id:=by
 unfold zc1
 rw[List.map_map]
 exact List.map_congr_left (fun x _=>by simp only[Function.comp];split<;>rfl)
theorem zly {l m:List zaH}(h:upQ l)(he:m.map zaH.id=l.map zaH.id):upQ m:=by
 unfold upQ at*
 rw[←List.pairwise_map (f:=zaH.id) (R:=(·<·))]at h ⊢
 rw[he];exact h
theorem zjB {id:Int}{l:List zaH}(h:TabQ l):TabQ (zc1 id l):=by
 refine⟨zly h.up zjA,?_⟩
 unfold oneQ zc1
 rw[List.pairwise_map]
 refine h.one.imp (fun{a b} hab ha hb=> ?_)
 have e1:∀x:zaH,(if hasI id x then zjw x else x).live=true→x.live=true∧(if hasI id x then zjw x else x)=x:=by
  intro x hx
  split at hx
  ·cases hx
  ·rename_i hn;exact⟨hx,by rw[if_neg hn]⟩
 rw[(e1 a ha).2,(e1 b hb).2]
 exact hab (e1 a ha).1 (e1 b hb).1
/-- what the two tables have to do with each other -/
structure zb8 (l r:List zaH):Prop where
 tab:TabQ l
 perm:r.Perm l
 pos:∀x∈l,1≤x.id
theorem zb8.uq {l r:List zaH}(h:zb8 l r):uqQ r:=zjx h.perm (TabQ.uq h.tab.up)
theorem zb8.kill {l r:List zaH}(h:zb8 l r)(id:Int):zb8 (zbV id l) (zc1 id r):=by
 rw[zjz h.tab.up]
 refine⟨zjB h.tab,zhV h.perm id,fun x hx=> ?_⟩
 obtain⟨y,hy,rfl⟩:=lmm.1 hx
 have:=h.pos y hy
 split<;>simp_all [zjw]
theorem zb8.find {l r:List zaH}(h:zb8 l r)(id:Int):r.find? (hasI id)=getQ id l:=by
 rw[zjy h.perm (TabQ.uq h.tab.up),zeD h.tab.up]
/-! ### put -/
def badR (q:zaH)(r:List zaH):Bool:=(r.find? (hasI q.id)).isSome||decide (q.id<1)||decide (q.ask<1)||decide (q.price<1)||decide (q.dealer<0)|| !q.live
def zl7 (q:zaH)(r:List zaH):List zaH:=if badR q r then r else zc1 (oldQ q r) r++[q]
theorem zb8.bad {l r:List zaH}(h:zb8 l r)(q:zaH):badR q r=badQ q l:=by
 unfold badR badQ
 rw[h.find]
 congr 5
 cases hB:bsB (cQ q.id) l
 ·rw[zem hB];rfl
 ·obtain⟨x,_,_,hg⟩:=zdh hB
  rw[hg];rfl
/-- of one ask and one dealer one is live at most: so the last one that is met is the one -/
theorem zgP {q:zaH}:∀{r:List zaH},r.Pairwise (fun a b=>¬(metQ q a=true∧metQ q b=true))→∀o:Int,(r.foldl (fun o x=>if metQ q x then x.id else o) o=o∧∀x∈r,metQ q x=false)∨(∃x∈r,metQ q x=true∧r.foldl (fun o x=>if metQ q x then x.id else o) o=x.id∧∀y∈r,metQ q y=true→y=x)
 |[],_,o=>.inl ⟨rfl,fun x hx=>by cases hx⟩
 |a::r,h,o=>by
  rw[List.pairwise_cons]at h
  rw[List.foldl_cons]
  cases ha:metQ q a
  ·simp only[Bool.false_eq_true,if_false]
   rcases zgP h.2 o with ⟨h1,h2⟩|⟨x,hx,hm,h1,h2⟩
   ·exact .inl ⟨h1,fun x hx=>by
     rcases List.mem_cons.1 hx with rfl|hx
     ·exact ha
     ·exact h2 x hx⟩
   ·exact .inr ⟨x,List.mem_cons_of_mem _ hx,hm,h1,fun y hy hym=>by
     rcases List.mem_cons.1 hy with rfl|hy
     ·rw[ha]at hym;cases hym
     ·exact h2 y hy hym⟩
  ·simp only[if_true]
   have hno:∀x∈r,metQ q x=false:=fun x hx=>by
    cases hx2:metQ q x
    ·rfl
    ·exact absurd ⟨ha,hx2⟩ (h.1 x hx)
   rcases zgP h.2 a.id with ⟨h1,h2⟩|⟨x,hx,hm,h1,h2⟩
   ·exact .inr ⟨a,List.mem_cons_self,ha,h1,fun y hy hym=>by
     rcases List.mem_cons.1 hy with rfl|hy
     ·rfl
     ·rw[hno y hy]at hym;cases hym⟩
   ·rw[hno x hx]at hm;cases hm
theorem zkz {q:zaH}{l:List zaH}(h:oneQ l):l.Pairwise (fun a b=>¬(metQ q a=true∧metQ q b=true)):=by
 refine h.imp (fun{a b} hab hm=> ?_)
 simp only[metQ,Bool.and_eq_true,beq_iff_eq]at hm
 obtain⟨⟨⟨a1,a2⟩,a3⟩,⟨b1,b2⟩,b3⟩:=hm
 exact hab a3 b3 ⟨a1.trans b1.symm,a2.trans b2.symm⟩
theorem zkA {q:zaH}{l r:List zaH}(hp:r.Perm l)(h:oneQ l):r.Pairwise (fun a b=>¬(metQ q a=true∧metQ q b=true)):=
 (hp.pairwise_iff (fun{a b} hab hm=>hab ⟨hm.2,hm.1⟩)).2 (zkz h)
theorem zb8.off {l r:List zaH}(h:zb8 l r)(q:zaH):zc1 (oldQ q r) r=r.map (offQ q):=by
 unfold zc1
 refine List.map_congr_left (fun x hx=> ?_)
 unfold oldQ
 have hpos:=fun y (hy:y∈r)=>h.pos y (h.perm.mem_iff.1 hy)
 rcases zgP (zkA (q:=q) h.perm h.tab.one) 0 with ⟨h1,h2⟩|⟨y,hy,hm,h1,h2⟩
 ·rw[h1]
  have:=hpos x hx
  rw[if_neg (by simp[hasI];omega),offQ,h2 x hx];rfl
 ·rw[h1]
  by_cases hxy:x=y
  ·subst hxy
   rw[if_pos (by simp[hasI]),offQ,hm];rfl
  ·have hne:x.id≠y.id:=by
    obtain⟨i,hi⟩:=List.getElem?_of_mem hx
    obtain⟨j,hj⟩:=List.getElem?_of_mem hy
    obtain⟨hil,hie⟩:=gsi.1 hi
    obtain⟨hjl,hje⟩:=gsi.1 hj
    rcases Nat.lt_trichotomy i j with h'|h'|h'
    ·have:=List.pairwise_iff_getElem.1 h.uq i j hil hjl h'
     rw[hie,hje]at this;exact this
    ·subst h';rw[hie]at hje;exact absurd hje hxy
    ·have:=List.pairwise_iff_getElem.1 h.uq j i hjl hil h'
     rw[hie,hje]at this;exact fun e=>this e.symm
   rw[if_neg (by simp[hasI];exact hne),offQ]
   have:metQ q x=false:=by
    cases hmx:metQ q x
    ·rfl
    ·exact absurd (h2 x hx hmx) hxy
   rw[this];rfl
theorem zb8.put {l r:List zaH}(h:zb8 l r)(q:zaH):zb8 (putQ q l) (zl7 q r):=by
 refine⟨zkg h.tab,?_,?_⟩
 ·unfold putQ zl7
  rw[h.bad]
  split
  ·exact h.perm
  ·rw[h.off]
   have h1:=zdP (l.map (offQ q)) q (bsN (cQ q.id) l)
   have h2:(r.map (offQ q)++[q]).Perm (q::r.map (offQ q)):=List.perm_append_comm
   exact h2.trans ((List.Perm.cons q (h.perm.map _)).trans h1.symm)
 ·unfold putQ
  split
  ·exact h.pos
  ·rename_i hb
   have hbad:badQ q l=false:=by simpa using hb
   simp only[badQ,Bool.or_eq_false_iff,decide_eq_false_iff_not]at hbad
   intro x hx
   have hx2:=(zdP (l.map (offQ q)) q (bsN (cQ q.id) l)).mem_iff.1 hx
   rcases List.mem_cons.1 hx2 with rfl|hx2
   ·omega
   ·obtain⟨y,hy,rfl⟩:=lmm.1 hx2
    rw[zer];exact h.pos y hy
/-! ### by number -/
theorem zb8.clear {l r:List zaH}(h:zb8 l r)(p:zaH→Bool):zb8 (l.filter p) (r.filter p):=
 ⟨⟨h.tab.up.sublist List.filter_sublist,h.tab.one.sublist List.filter_sublist⟩,h.perm.filter p,fun x hx=>h.pos x (List.mem_filter.1 hx).1⟩
theorem zb8.nil :zb8 [] []:=⟨⟨List.Pairwise.nil,List.Pairwise.nil⟩,plr _,fun x hx=>by cases hx⟩
end Go.Proofs.YteocfhdocpeokaaGreat
set_option linter.unusedSimpArgs false
set_option linter.unusedVariables false
namespace Go.Proofs.YteocfhdocpeokaaGreat
open Go Go.Sl
attribute [local irreducible] AW ES EP Ld RetQ
set_option maxRecDepth 100000
section
variable {P : Program} {W : World} {T : Tab} {N : Nat} {env : Env} {h : List zah} {kf : KF} {ops : Array Oper} {K : Env → List zah → Prop} {rest : List Oper}
end
structure zkB where
 kind:Int
 quote:zaH
def zkB.enc (a:zkB):List Value:=.int .i64 a.kind::a.quote.enc
theorem zkB.enc_len (a:zkB):a.enc.length=7:=rfl
theorem zb8.len {l r:List zaH}(h:zb8 l r):r.length=l.length:=h.perm.length_eq
end Go.Proofs.YteocfhdocpeokaaGreat
set_option linter.unusedSimpArgs false
set_option linter.unusedVariables false
namespace Go.Proofs.YteocfhdocpeokaaGreat
open Go Go.Sl
attribute [local irreducible] AW ES EP Ld RetQ
set_option maxRecDepth 100000
theorem zlz (W:World)(F:List zah)(p:Nat)(AC:Option Addr)(cC:Nat)(AR:Option Addr)(cR:Nat)(cash:List Int)(rs:List PRow)(np nb:Nat)(hP:PsOK np nb (psOf cash rs))(t:zaB)(hpr:inW t.price)(hqt:inW t.qty):
 zaL Tryz.prog W 8 [.pointer (some ⟨p,0,none⟩),.agg t.enc.toArray] (zaZ p AC cC AR cR cash rs F) (fun v h'=>v=.int .i64 (putE (psOf cash rs) t)∧∃cash' rs',psOf cash' rs'=putP (psOf cash rs) t∧h'=zaZ p AC cC AR cR cash' rs' F):=by
 by_cases hbad:zbU (psOf cash rs) t.buyer t.bond=false∨zbU (psOf cash rs) t.seller t.bond=false∨t.buyer=t.seller∨t.price<1∨t.qty<1
 ·refine(zhS W F p AC cC AR cR cash rs np nb hP t hbad).mono ?_
  rintro v h' ⟨rfl,rfl⟩
  have he:putE (psOf cash rs) t=1:=by unfold putE;rw[if_pos hbad]
  exact⟨by rw[he],cash,rs,by unfold putP;rw[if_neg (by rw[he];decide)],rfl⟩
 ·exact zjv W F p AC cC AR cR cash rs np nb hP t hpr hqt hbad
end Go.Proofs.YteocfhdocpeokaaGreat
set_option linter.unusedSimpArgs false
set_option linter.unusedVariables false
namespace Go.Proofs.YteocfhdocpeokaaGreat
open Go Go.Sl
attribute [local irreducible] AW ES EP Ld RetQ
set_option maxRecDepth 100000
theorem zjC {d:Dk}{s who other bond price qty ask:Int}(h1:d.trades.length≤900000)(h2:inW who)(h3:inW other)(h4:inW bond)(h5:inW price)(h6:inW qty)(h7:inW ask)(h8:inW d.now):zdH (zcX d s who other bond price qty ask):=by
 have h0:inW ((d.trades.length:Int)+1):=by unfold inW;omega
 unfold zdH zcX
 split<;>(intro n hn;simp only[List.mem_cons,List.not_mem_nil,or_false]at hn;rcases hn with rfl|rfl|rfl|rfl|rfl|rfl|rfl|rfl<;>assumption)
end Go.Proofs.YteocfhdocpeokaaGreat
set_option linter.unusedSimpArgs false
set_option linter.unusedVariables false
namespace Go.Proofs.YteocfhdocpeokaaGreat
open Go Go.Sl
/-! ### sums -/
theorem zgf {n:Int}(h: -9223372036854775808≤n∧n≤9223372036854775807):inI n=true:=by
 unfold inI inB
 simp only[Bool.and_eq_true,decide_eq_true_eq]
 exact h
def zc2 (l:List zaB):Int:=l.foldl (fun(h:Int) t=>((zb1 h.toNat (zbu t):Nat):Int)) 0
theorem ze2 (t:zaB):∀(l:List zaB) (p:Ps),zbT (l++[t]) p=(zbT l p).bind fun w=>if putE w t=0 then some (putP w t)else none
 |[],p=>by
  show zbT [t] p=_
  unfold zbT
  rfl
 |u::l,p=>by
  rw[List.cons_append]
  unfold zbT
  split
  ·exact ze2 t l _
  ·rfl
/-- a trade that parties may have made -/
def zkT (np nb:Nat)(t:zaB):Prop:=(0≤t.buyer∧t.buyer<np)∧(0≤t.seller∧t.seller<np)∧t.buyer≠t.seller∧(0≤t.bond∧t.bond<nb)∧(1≤t.price∧t.price≤1000000)∧(1≤t.qty∧t.qty≤1000000)
def Bd (k m n:Int):Prop:= -(k*m)≤n∧n≤k*m
structure SumI (np nb:Nat)(s:Dk):Prop where
 ps:PsOK np nb ⟨s.cash,s.pos⟩
 hd:s.head=zc2 s.trades
 pa:zbT s.trades (zcR np nb)=some ⟨s.cash,s.pos⟩
 bc:∀n∈s.cash,Bd s.trades.length 1000000000000 n
 bp:∀r∈s.pos,∀n∈r,Bd s.trades.length 1000000 n
 tw:∀t∈s.trades,zdH t
theorem SumI.same {np nb:Nat}{s t:Dk}(h:SumI np nb s)(e1:t.cash=s.cash)(e2:t.pos=s.pos)(e3:t.trades=s.trades)(e4:t.head=s.head):SumI np nb t:=by
 obtain⟨a,b,c,d,e,f⟩:=h
 exact⟨by rw[e1,e2];exact a,by rw[e3,e4];exact b,by rw[e1,e2,e3];exact c,by rw[e1,e3];exact d,by rw[e2,e3];exact e,by rw[e3];exact f⟩
theorem zlA {p:Ps}{k m:Int}(h:∀n∈p.cash,Bd k m n)(h0:Bd k m 0)(who:Int):Bd k m (zbh p who):=by
 unfold zbh
 rcases hx:at0 p.cash who with _|n
 ·exact h0
 ·exact h n (at0M hx)
theorem zl8 {p:Ps}{k m:Int}(h:∀r∈p.pos,∀n∈r,Bd k m n)(h0:Bd k m 0)(who bond:Int):Bd k m (zbv p who bond):=by
 unfold zbv
 rcases hx:at0 p.pos who with _|r
 ·exact h0
 ·rcases hy:at0 r bond with _|n
  ·simp only[Option.bind_some,hy];exact h0
  ·simp only[Option.bind_some,hy];exact h r (at0M hx) n (at0M hy)
theorem zgg {l:List (List Int)}{k m who bond n:Int}(h:∀r∈l,∀n∈r,Bd k m n)(hn:Bd k m n):∀r∈setRow l who bond n,∀n∈r,Bd k m n:=by
 intro r hr
 unfold setRow at hr
 rcases zdG hr with rfl|hr
 ·intro x hx
  rcases zdG hx with rfl|hx
  ·exact hn
  ·rcases hq:at0 l who with _|q
   ·rw[hq]at hx;cases hx
   ·rw[hq]at hx;exact h q (at0M hq) x hx
 ·exact h r hr
theorem SumI.trade {np nb:Nat}{s:Dk}{t:zaB}(h:SumI np nb s)(hk:s.trades.length≤1000000)(ht:zkT np nb t)(hw:zdH t):SumI np nb (zfV s t):=by
 obtain⟨b1,b2,hne,b3,⟨p1,p2⟩,q1,q2⟩:=ht
 have hm:1≤t.price*t.qty∧t.price*t.qty≤1000000000000:=by
  have h1:1*1≤t.price*t.qty:=Int.mul_le_mul p1 q1 (by omega) (by omega)
  have h2:t.price*t.qty≤1000000*1000000:=Int.mul_le_mul p2 q2 (by omega) (by omega)
  omega
 have hc:=zlA (p:=⟨s.cash,s.pos⟩) h.bc (by unfold Bd;omega)
 have hp:=zl8 (p:=⟨s.cash,s.pos⟩) h.bp (by unfold Bd;omega)
 have c1:=hc t.buyer
 have c2:=hc t.seller
 have r1:=hp t.buyer t.bond
 have r2:=hp t.seller t.bond
 unfold Bd at c1 c2 r1 r2
 have hE:putE ⟨s.cash,s.pos⟩ t=0:=by
  unfold putE
  rw[(zbF h.ps).2 ⟨b1,b3⟩,(zbF h.ps).2 ⟨b2,b3⟩,if_neg (by simp;omega)]
  rw[zgf (by omega),zgf (by omega),zgf (by omega),zgf (by omega),zgf (by omega)]
  rfl
 have hP:putP ⟨s.cash,s.pos⟩ t=⟨(s.cash.set t.buyer.toNat (zbh ⟨s.cash,s.pos⟩ t.buyer - t.price*t.qty)).set t.seller.toNat (zbh ⟨s.cash,s.pos⟩ t.seller+t.price*t.qty),
  setRow (setRow s.pos t.buyer t.bond (zbv ⟨s.cash,s.pos⟩ t.buyer t.bond+t.qty)) t.seller t.bond (zbv ⟨s.cash,s.pos⟩ t.seller t.bond - t.qty)⟩:=by
  unfold putP
  rw[if_pos hE]
 have hl:((s.trades++[t]).length:Int)=s.trades.length+1:=by simp
 have up:∀m n:Int,0≤m→Bd s.trades.length m n→Bd ((s.trades.length:Int)+1) m n:=fun m n hm0 hb=>by
  unfold Bd at*
  rw[Int.add_mul,Int.one_mul]
  omega
 refine⟨zhk h.ps t,?_,?_,?_,?_,fun u hu=> ?_⟩
 ·show((zb1 s.head.toNat (zbu t):Nat):Int)=zc2 (s.trades++[t])
  unfold zc2
  rw[List.foldl_append,h.hd]
  rfl
 ·show zbT (s.trades++[t]) (zcR np nb)=some ⟨(putP ⟨s.cash,s.pos⟩ t).cash,(putP ⟨s.cash,s.pos⟩ t).pos⟩
  rw[ze2,h.pa,Option.bind_some,if_pos hE]
 ·show ∀n∈(putP ⟨s.cash,s.pos⟩ t).cash,Bd ((s.trades++[t]).length:Int) 1000000000000 n
  rw[hP,hl]
  intro n hn
  rcases zdG hn with rfl|hn
  ·unfold Bd;rw[Int.add_mul];omega
  ·rcases zdG hn with rfl|hn
   ·unfold Bd;rw[Int.add_mul];omega
   ·exact up _ _ (by omega) (h.bc n hn)
 ·show ∀r∈(putP ⟨s.cash,s.pos⟩ t).pos,∀n∈r,Bd ((s.trades++[t]).length:Int) 1000000 n
  rw[hP,hl]
  refine zgg (zgg (fun r hr n hn=>up _ _ (by omega) (h.bp r hr n hn)) ?_) ?_
  ·unfold Bd;rw[Int.add_mul];omega
  ·unfold Bd;rw[Int.add_mul];omega
 ·rcases lma.1 hu with hu|hu
  ·exact h.tw u hu
  ·rw[lms.1 hu];exact hw
theorem SumI.fills {np nb:Nat}{who:Int}{o:zav}{n:Nat}:∀(fs:List zb7) {s:FSt},SumI np nb s.d→s.d.trades.length+fs.length≤900000→inW s.d.now→np≤8→nb≤4→
 (∀f∈fs,(0≤f.mparty∧f.mparty<np)∧f.mparty≠who∧(1≤f.price∧f.price≤1000000)∧(1≤f.qty∧f.qty≤1000000))→(0≤who∧who<np)→n<nb→SumI np nb (fs.foldl (zcl who o n) s).d
 |[],s,h,_,_,_,_,_,_,_=>h
 |f::fs,s,h,hl,hnw,h8,h4,hf,hw,hn=>by
  rw[List.foldl_cons]
  obtain⟨f1,f2,f3,f4⟩:=hf f List.mem_cons_self
  rw[List.length_cons]at hl
  have h1:SumI np nb (zcl who o n s f).d:=by
   refine h.trade (by omega) ?_ (zjC (by omega) (by unfold inW;omega) (by unfold inW;omega) (by unfold inW;omega) (by unfold inW;omega) (by unfold inW;omega) (by unfold inW;omega) hnw)
   unfold zcX zkT
   split
   ·exact⟨f1,hw,f2,⟨by dsimp only;omega,by dsimp only;omega⟩,f3,f4⟩
   ·exact⟨hw,f1,fun e=>f2 e.symm,⟨by dsimp only;omega,by dsimp only;omega⟩,f3,f4⟩
  refine SumI.fills fs h1 ?_ hnw h8 h4 (fun g hg=>hf g (List.mem_cons_of_mem _ hg)) hw hn
  show(s.d.trades++[_]).length+fs.length≤900000
  rw[lla,List.length_singleton];omega
theorem SumI.new {bs:List za1}{ps:List zaJ}{look beat:Int}:SumI ps.length bs.length (zbH bs ps look beat):=by
 refine⟨?_,rfl,?_,fun n hn=> ?_,fun r hr n hn=> ?_,fun t ht=>(by cases ht)⟩
 ·exact zeA _ _
 ·rfl
 ·rw[(List.mem_replicate.1 hn).2];unfold Bd;simp[zbH]
 ·rw[(List.mem_replicate.1 hr).2]at hn
  rw[(List.mem_replicate.1 hn).2];unfold Bd;simp[zbH]
/-! ### books and sums, whatever is asked -/
structure BkI (s:Dk):Prop where
 un:∀l∈s.books,uncr l
 ow:∀l∈s.books,∀o∈l,o.owner<s.parties.length
 cl:∀a∈s.asks,zlV s.parties a.client=1
 sm:SumI s.parties.length s.bonds.length s
theorem zjD {l m:List zav}(h:uncr l)(hm:∀y∈m,∃x∈l,y.side=x.side∧y.price=x.price):uncr m:=fun a ha b hb ea eb=>by
 obtain⟨x,hx,e1,e2⟩:=hm a ha
 obtain⟨y,hy,e3,e4⟩:=hm b hb
 rw[e2,e4]
 exact h x hx y hy (by rw[←e1];exact ea) (by rw[←e3];exact eb)
theorem zlB {how:Int}{o:zav}{l:List zav}(hB:zaT l)(hu:uncr l):uncr (doV how o l).bk:=by
 by_cases h0:zb4 how o l=0
 ·exact(zjj hB hu h0).1
 ·rw[zeq h0];exact hu
/-- nothing of books, trades, sums turns; the requests keep their clients -/
theorem BkI.same {s t:Dk}(h:BkI s)(e1:t.books=s.books)(e2:t.parties=s.parties)(e3:t.bonds.length=s.bonds.length)(e4:t.cash=s.cash)(e5:t.pos=s.pos)(e6:t.trades=s.trades)(e7:t.head=s.head)
 (ha:∀y∈t.asks,∃u∈s.asks,y.client=u.client):BkI t:=by
 refine⟨by rw[e1];exact h.un,by rw[e1,e2];exact h.ow,fun y hy=> ?_,?_⟩
 ·obtain⟨u,hu,e⟩:=ha y hy
  rw[e2,e];exact h.cl u hu
 ·rw[e2,e3];exact h.sm.same e4 e5 e6 e7
theorem BkI.bookU {s:Dk}(h:BkI s)(n:Nat):uncr (zbe s n)∧∀o∈zbe s n,o.owner<s.parties.length:=by
 unfold zbe
 rw[List.getD_eq_getElem?_getD]
 rcases hb:s.books[n]? with _|l
 ·exact⟨fun a ha=>(by cases ha),fun o ho=>(by cases ho)⟩
 ·exact⟨h.un l (mog hb),h.ow l (mog hb)⟩
theorem BkI.setB {s:Dk}(h:BkI s){n:Nat}{m:List zav}(hu:uncr m)(ho:∀o∈m,o.owner<s.parties.length):BkI {s with books:=s.books.set n m}:=by
 refine⟨fun l hl=> ?_,fun l hl=> ?_,h.cl,h.sm.same rfl rfl rfl rfl⟩
 ·rcases za6 hl with rfl|hl
  ·exact hu
  ·exact h.un l hl
 ·rcases za6 hl with rfl|hl
  ·exact ho
  ·exact h.ow l hl
theorem zgQ {l:List AskR}:∀y∈l,∃u∈l,y.client=u.client:=fun y hy=>⟨y,hy,rfl⟩
theorem ze3 {who:Int}{o:zav}{n:Nat}:∀(fs:List zb7) (s:FSt),(fs.foldl (zcl who o n) s).d.parties=s.d.parties∧(fs.foldl (zcl who o n) s).d.bonds=s.d.bonds∧(fs.foldl (zcl who o n) s).d.asks=s.d.asks∧(fs.foldl (zcl who o n) s).d.books=s.d.books
 |[],s=>⟨rfl,rfl,rfl,rfl⟩
 |f::fs,s=>by rw[List.foldl_cons];exact ze3 fs (zcl who o n s f)
theorem zlC {how:Int}{o:zav}{l:List zav}(hB:zaT l):∀f∈(doV how o l).fills,f.mparty≠o.owner:=by
 by_cases h0:zb4 how o l=0
 ·obtain⟨hw,e1,e2,_⟩:=zep hB h0
  rw[e1]
  obtain⟨xs,hsub,hlen,hf⟩:=hw.mks
  intro f hfm
  obtain⟨i,hi⟩:=List.getElem?_of_mem hfm
  have hil:=(gsi.1 hi).1
  have hF:=(hf i f (xs[i]'(by omega)) hi (gge _)).1
  rw[hF.mparty];exact hF.own
 ·rw[zeq h0]
  intro f hf;cases hf
theorem zjE {o:zav}(h:okO o=true):0≤o.owner:=by
 simp only[okO,Bool.and_eq_true,decide_eq_true_eq]at h
 exact h.1.2
theorem BkI.meets {N:Nat}{s:Dk}(h:BkI s)(hD:DOK N s)(hN:N≤10000){who:Int}{n:Nat}{o:zav}{how:Int}(hn:n<s.bonds.length)(hw:0≤who∧who<s.parties.length)(ho:o.owner=who):BkI (zb5 s who n o how).d:=by
 unfold zb5
 dsimp only
 split
 ·exact h
 ·have hB:=hD.bookB n
  obtain⟨hu,how2⟩:=h.bookU n
  have hk:=ze3 (who:=who) (o:=o) (n:=n) (doV how {o with seq:=s.seq+1} (zbe s n)).fills ⟨{s with seq:=s.seq+1,books:=s.books.set n (doV how {o with seq:=s.seq+1} (zbe s n)).bk},(doV how {o with seq:=s.seq+1} (zbe s n)).gones.map fun g=>outM who 21 [g.id,g.left],o.left⟩
  have hS:=SumI.fills (np:=s.parties.length) (nb:=s.bonds.length) (who:=who) (o:=o) (n:=n) (doV how {o with seq:=s.seq+1} (zbe s n)).fills (s:=⟨{s with seq:=s.seq+1,books:=s.books.set n (doV how {o with seq:=s.seq+1} (zbe s n)).bk},(doV how {o with seq:=s.seq+1} (zbe s n)).gones.map fun g=>outM who 21 [g.id,g.left],o.left⟩)
   (h.sm.same rfl rfl rfl rfl) (by
     have h1:=(zf0 (how:=how) (o:={o with seq:=s.seq+1}) hB).1
     have h2:=hD.nt
     show s.trades.length+_≤900000
     omega) (by have:=hD.now;show inW s.now;unfold inW;omega) (by have:=(zga hD.rules).2.1;omega) (by have:=(zga hD.rules).1;omega) (fun f hf=>by
     obtain⟨x,hx,e1,e2⟩:=zlt hB f hf
     have h1:=hB.ok x hx
     have h2:=zek h1
     have h3:=zjE h1
     have h4:=how2 x hx
     have h5:=zlC hB f hf
     have h6:=zji hB f hf
     exact⟨by rw[e1];exact⟨h3,h4⟩,by rw[←ho];exact h5,by rw[e2];exact h2,h6⟩) hw hn
  have hb:=h.setB (n:=n) (m:=(doV how {o with seq:=s.seq+1} (zbe s n)).bk) (zlB hB hu) (fun y hy=>by
   rcases zgD hB hy with ⟨x,hx,_,_,he⟩|⟨_,_,he⟩
   ·rw[he];exact how2 x hx
   ·have he':y.owner=o.owner:=he
    rw[he',ho];exact hw.2)
  generalize (doV how {o with seq:=s.seq+1} (zbe s n)).fills.foldl (zcl who o n) _=R at hk hS ⊢
  obtain⟨k1,k2,k3,k4⟩:=hk
  exact⟨by show ∀l∈R.d.books,_;rw[k4];exact hb.un,by show ∀l∈R.d.books,∀o∈l,o.owner<R.d.parties.length;rw[k4,k1];exact hb.ow,by show ∀a∈R.d.asks,zlV R.d.parties a.client=1;rw[k3,k1];exact h.cl,by rw[k1,k2];exact hS⟩
theorem zfr {rf:Bool}{s:Dk}{a:AskR}:(zaS rf s a).1.books=s.books∧(zaS rf s a).1.parties=s.parties∧(zaS rf s a).1.bonds=s.bonds∧(zaS rf s a).1.cash=s.cash∧(zaS rf s a).1.pos=s.pos∧(zaS rf s a).1.trades=s.trades∧(zaS rf s a).1.head=s.head∧∀y∈(zaS rf s a).1.asks,∃u∈s.asks,y.client=u.client:=by
 unfold zaS
 dsimp only
 split
 ·exact⟨rfl,rfl,rfl,rfl,rfl,rfl,rfl,fun y hy=>by
   obtain⟨u,hu,hs⟩:=zeu hy
   exact⟨u,hu,hs.2.1⟩⟩
 ·exact⟨rfl,rfl,rfl,rfl,rfl,rfl,rfl,fun y hy=>by
   obtain⟨u,hu,hs⟩:=zeY hy
   exact⟨u,hu,hs.2.1⟩⟩
theorem BkI.lookEnds {rf:Bool}{s:Dk}(h:BkI s)(a:AskR):BkI (zaS rf s a).1:=by
 obtain⟨e1,e2,e3,e4,e5,e6,e7,e8⟩:=zfr (rf:=rf) (s:=s) (a:=a)
 exact h.same e1 e2 (by rw[e3]) e4 e5 e6 e7 e8
theorem BkI.dies {s:Dk}(h:BkI s)(a:AskR):BkI (zfi s a):=h.same rfl rfl rfl rfl rfl rfl rfl (fun y hy=>by
 obtain⟨u,hu,hs⟩:=zeu hy
 exact⟨u,hu,hs.2.1⟩)
theorem BkI.dueOne {rf:Bool}{t:Dk×List OutR}(h:BkI t.1)(x:Due):BkI (dueD rf t x).1:=by
 unfold dueD
 split
 ·exact h.same rfl rfl rfl rfl rfl rfl rfl zgQ
 ·split
  ·exact h
  ·split
   ·exact h.lookEnds _
   ·split
    ·exact h.dies _
    ·exact h
theorem BkI.dueAll {rf:Bool}:∀(xs:List Due) {t:Dk×List OutR},BkI t.1→BkI (xs.foldl (dueD rf) t).1
 |[],t,h=>h
 |x::xs,t,h=>by rw[List.foldl_cons];exact BkI.dueAll xs (h.dueOne x)
theorem BkI.tick {rf:Bool}{s:Dk}(h:BkI s):BkI (zfj rf s).1:=by
 unfold zfj
 exact BkI.dueAll _ (h.same rfl rfl rfl rfl rfl rfl rfl zgQ)
theorem BkI.gone {rf:Bool}{s:Dk}(h:BkI s)(who:Int):BkI (zeJ rf s who).1:=by
 have key:∀(qs:List zaH) {t:Dk},BkI t→BkI (qs.foldl (zdL rf) t):=by
  intro qs
  induction qs with
  |nil=>intro t h;exact h
  |cons q qs ih=>
   intro t h
   rw[List.foldl_cons]
   refine ih ?_
   unfold zdL
   split
   ·exact h
   ·exact h.same rfl rfl rfl rfl rfl rfl rfl zgQ
 unfold zeJ
 refine key _ ⟨fun l hl=> ?_,fun l hl o ho=> ?_,h.cl,h.sm.same rfl rfl rfl rfl⟩
 ·obtain⟨m,hm,rfl⟩:=lmm.1 hl
  exact zjD (h.un m hm) (fun y hy=>⟨y,zcv.1 y hy,rfl,rfl⟩)
 ·obtain⟨m,hm,rfl⟩:=lmm.1 hl
  exact h.ow m hm o (zcv.1 o ho)
theorem BkI.new {bs:List za1}{ps:List zaJ}{look beat:Int}:BkI (zbH bs ps look beat):=by
 refine⟨fun l hl=> ?_,fun l hl o ho=> ?_,fun a ha=>(by cases ha),SumI.new⟩
 ·rw[List.eq_of_mem_replicate hl]
  intro a ha;cases ha
 ·rw[List.eq_of_mem_replicate hl]at ho
  cases ho
end Go.Proofs.YteocfhdocpeokaaGreat
set_option linter.unusedSimpArgs false
set_option linter.unusedVariables false
namespace Go.Proofs.YteocfhdocpeokaaGreat
open Go Go.Sl
attribute [local irreducible] AW ES EP Ld RetQ
set_option maxRecDepth 100000
theorem DOK.tick0 {N:Nat}{s:Dk}(h:DOK N s):DOK (N+1) ({s with now:=s.now+1,due:=s.due.drop (zdK s.due (s.now+1))}:Dk):=by
 have h':=h.up
 have hn:=h.now
 exact⟨h'.rules,h'.nbk,h'.bks,h'.bid,h'.order,h'.seq,⟨by show 0≤s.now+1;omega,by show s.now+1≤((N+1:Nat):Int);omega⟩,h'.quote,h'.ask,h'.nus,h'.us,h'.upq,h'.nq,
  fun q hq=>(h'.qs q hq).mono (Int.le_refl _) rfl (by show s.now≤s.now+1;omega),h'.upa,h'.na,fun a ha=>(h'.as_ a ha).mono (Int.le_refl _) rfl rfl (by show s.now≤s.now+1;omega),
  h'.row.sub (List.drop_sublist _ _),Nat.le_trans (List.drop_sublist _ _).length_le h'.nd,h'.ncash,h'.cash,h'.npos,h'.pos,h'.nt,h'.head⟩
end Go.Proofs.YteocfhdocpeokaaGreat
set_option linter.unusedSimpArgs false
set_option linter.unusedVariables false
namespace Go.Proofs.YteocfhdocpeokaaGreat
open Go Go.Sl
/-! ### quotes by their numbers -/
theorem zjF {id:Int}{l:List zaH}{u:zaH}(hu:u∈l):∃y∈zbV id l,zf4 u y:=by
 unfold zbV
 split
 ·rename_i x hx
  unfold getQ at hx
  split at hx
  ·obtain⟨j,hj⟩:=List.getElem?_of_mem hu
   by_cases he:bsN (cQ id) l=j
   ·subst he
    rw[hx]at hj
    cases hj
    refine⟨({u with live:=false}:zaH),List.mem_iff_getElem?.2 ⟨bsN (cQ id) l,?_⟩,rfl,rfl,rfl,rfl,rfl⟩
    rw[List.getElem?_set,if_pos rfl,if_pos (gsi.1 hx).1]
   ·refine⟨u,List.mem_iff_getElem?.2 ⟨j,?_⟩,rfl,rfl,rfl,rfl,rfl⟩
    rw[List.getElem?_set,if_neg he,hj]
  ·cases hx
 ·exact⟨u,hu,rfl,rfl,rfl,rfl,rfl⟩
/-! ### requests and their trades -/
def zgR (a:AskR)(t:zaB):Int:=if a.side=2 then t.buyer else t.seller
def zjG (a:AskR)(t:zaB):Int:=if a.side=2 then t.seller else t.buyer
def zhW (a:AskR)(t:zaB):Bool:=isB a.side&&(a.state==3&&(a.bond==t.bond&&(a.qty==t.qty&&(a.client==zjG a t&&(decide (0≤zgR a t)&&zlW a.dealers (zgR a t))))))
theorem zhX {x y:AskR}{t:zaB}(h:zhW x t=true)(hs:zdk x y)(h3:y.state=3):zhW y t=true:=by
 obtain⟨e1,e2,e3,e4,e5,e6,e7⟩:=hs
 unfold zhW zgR zjG at*
 rw[e2,e3,e4,e5,e6,h3]
 simp only[Bool.and_eq_true]at h ⊢
 exact⟨h.1,rfl,h.2.2⟩
theorem zhY {a:AskR}{t:zaB}(h:zhW a t=true):a.state=3:=by
 unfold zhW at h
 simp only[Bool.and_eq_true,beq_iff_eq]at h
 exact h.2.1
/-- the same requests: what never changes of them, and which are done -/
def zhZ (l m:List AskR):Prop:=(∀u∈l,∃y∈m,zdk u y∧(u.state=3→y.state=3))∧(∀y∈m,∃u∈l,zdk u y∧(y.state=3→u.state=3))
theorem zcK (x:AskR):zdk x x:=⟨rfl,rfl,rfl,rfl,rfl,rfl,rfl⟩
theorem zhZ.refl (l:List AskR):zhZ l l:=⟨fun u hu=>⟨u,hu,zcK u,id⟩,fun u hu=>⟨u,hu,zcK u,id⟩⟩
theorem zho {id:Int}{l:List AskR}{x z:AskR}(hup:upA l)(hx:getA id l=some x)(hs:zdk x z)(h3:x.state≠3)(hz:z.state≠3):zhZ l (setA id z l):=by
 have hxm:=zbp hx
 refine⟨fun u hu=> ?_,fun y hy=> ?_⟩
 ·by_cases he:u.id=id
  ·obtain rfl:=zey hup hu hxm.1 (by rw[he,hxm.2])
   exact⟨z,zhi hx,hs,fun e=>absurd e h3⟩
  ·exact⟨u,zgb hx hu he,zcK u,fun e=>e⟩
 ·rcases zci hup hx hy with rfl|⟨hy,_⟩
  ·exact⟨x,hxm.1,hs,fun e=>absurd e hz⟩
  ·exact⟨y,hy,zcK y,fun e=>e⟩
structure OnI (s:Dk):Prop where
 qd:∀q∈s.quotes,∃a∈s.asks,a.id=q.ask∧zlW a.dealers q.dealer=true
 lk:∀a∈s.asks,a.state=2→∃q∈s.quotes,q.id=a.hit∧q.ask=a.id
 o1:∀t∈s.trades,t.ask≠0→∃a∈s.asks,a.id=t.ask∧zhW a t=true
 o2:s.trades.Pairwise fun t u=>t.ask≠0→t.ask≠u.ask
 o3:∀a∈s.asks,a.state=3→∃t∈s.trades,t.ask=a.id
theorem OnI.turn {s t:Dk}(h:OnI s)(ha:zhZ s.asks t.asks)(hq:∀y∈t.quotes,∃u∈s.quotes,zf4 u y)(hl:∀a∈t.asks,a.state=2→∃q∈t.quotes,q.id=a.hit∧q.ask=a.id)(e:t.trades=s.trades):OnI t:=by
 refine⟨fun q hq'=> ?_,hl,fun r hr h0=> ?_,by rw[e];exact h.o2,fun y hy h3=> ?_⟩
 ·obtain⟨u,hu,hs⟩:=hq q hq'
  obtain⟨a,ha1,ha2,ha3⟩:=h.qd u hu
  obtain⟨y,hy,hsa,_⟩:=ha.1 a ha1
  exact⟨y,hy,by rw[hsa.1,ha2,hs.2.1],by rw[hsa.2.2.2.2.2.1,hs.2.2.1];exact ha3⟩
 ·rw[e]at hr
  obtain⟨a,ha1,ha2,ha3⟩:=h.o1 r hr h0
  obtain⟨y,hy,hsa,h3⟩:=ha.1 a ha1
  exact⟨y,hy,by rw[hsa.1,ha2],zhX ha3 hsa (h3 (zhY ha3))⟩
 ·obtain⟨u,hu,hsa,h4⟩:=ha.2 y hy
  obtain⟨r,hr,hi⟩:=h.o3 u hu (h4 h3)
  exact⟨r,by rw[e];exact hr,by rw[hi,hsa.1]⟩
/-- quotes turn, and none goes -/
theorem OnI.quotes {s t:Dk}(h:OnI s)(ea:t.asks=s.asks)(hq:∀y∈t.quotes,∃u∈s.quotes,zf4 u y)(hq2:∀u∈s.quotes,∃y∈t.quotes,zf4 u y)(e:t.trades=s.trades):OnI t:=
 h.turn (by rw[ea];exact zhZ.refl _) hq (fun a ha h2=>by
  rw[ea]at ha
  obtain⟨q,hq1,e1,e2⟩:=h.lk a ha h2
  obtain⟨y,hy,hs⟩:=hq2 q hq1
  exact⟨y,hy,by rw[hs.1,e1],by rw[hs.2.1,e2]⟩) e
theorem OnI.same {s t:Dk}(h:OnI s)(ea:t.asks=s.asks)(eq:t.quotes=s.quotes)(e:t.trades=s.trades):OnI t:=
 h.quotes ea (by rw[eq];exact fun y hy=>zf5 hy) (by rw[eq];exact fun u hu=>⟨u,hu,rfl,rfl,rfl,rfl,rfl⟩) e
theorem OnI.kill {s t:Dk}(h:OnI s){id:Int}(ea:t.asks=s.asks)(eq:t.quotes=zbV id s.quotes)(e:t.trades=s.trades):OnI t:=
 h.quotes ea (by rw[eq];exact fun y hy=>zeZ hy) (by rw[eq];exact fun y hy=>zjF hy) e
theorem OnI.clear {s:Dk}(h:OnI s){id:Int}(hn:∀a∈s.asks,a.state=2→a.id≠id):OnI (zi9 s id):=
 h.turn (zhZ.refl _) (fun y hy=>zf5 (List.mem_filter.1 hy).1) (fun a ha h2=>by
  obtain⟨q,hq1,e1,e2⟩:=h.lk a ha h2
  refine⟨q,List.mem_filter.2 ⟨hq1,?_⟩,e1,e2⟩
  have:=hn a ha h2
  simp only[zi7,Bool.not_eq_true',beq_eq_false_iff_ne,ne_eq]
  rw[e2];exact this) rfl
theorem zlD {l:List AskR}(hup:upA l){a:AskR}(ha:a∈l){state:Int}(h:(state=4∧(a.state=1∨a.state=2))∨(state=3∧a.state=2)):endA a.id state l=setA a.id (endX state a) l:=by
 have hg:=zfn hup ha
 unfold endA endE
 rw[hg]
 dsimp only
 rw[if_pos]
 rw[if_neg (by omega),if_neg (by omega)]
theorem OnI.dies {s:Dk}(h:OnI s)(hup:upA s.asks){a:AskR}(ha:a∈s.asks)(hst:a.state=1∨a.state=2):OnI (zfi s a):=by
 have hg:=zfn hup ha
 have hE:=zlD hup ha (state:=4) (.inl ⟨rfl,hst⟩)
 have hX:endX 4 a={a with state:=4,until_:=0,hit:=0}:=rfl
 have hm:∀y∈setA a.id (endX 4 a) s.asks,y.state=2→y∈s.asks∧y.id≠a.id:=fun y hy h2=>by
  rcases zci hup hg hy with rfl|hy
  ·rw[hX]at h2;exact absurd (show(4:Int)=2 from h2) (by decide)
  ·exact hy
 unfold zfi
 rw[hE]
 refine OnI.clear (h.turn (t:={s with asks:=setA a.id (endX 4 a) s.asks}) (zho hup hg (zf3 4 a) (by omega) (by rw[hX];exact(by decide:(4:Int)≠3))) (fun y hy=>zf5 hy) (fun y hy h2=>h.lk y (hm y hy h2).1 h2) rfl) (fun y hy h2=>(hm y hy h2).2)
theorem OnI.lookEnds {rf:Bool}{s:Dk}(h:OnI s)(hup:upA s.asks){a:AskR}(ha:a∈s.asks)(hst:a.state=2):OnI (zaS rf s a).1:=by
 unfold zaS
 dsimp only
 have h1:OnI {s with quotes:=zbV a.hit s.quotes,due:=if rf then zbb (zbb s.due 3 a.hit) 2 a.id else s.due}:=h.kill rfl rfl rfl
 split
 ·exact h1.dies hup ha (.inr hst)
 ·have hg:=zfn hup ha
  have hE:zen a.id s.asks=setA a.id {a with state:=1,hit:=0,until_:=0} s.asks:=by
   unfold zen zkb
   rw[hg]
   dsimp only
   have e0:(if a.state=2 then(0:Int)else 11)=0:=if_pos hst
   rw[if_pos e0]
  show OnI {s with quotes:=zbV a.hit s.quotes,due:=_,asks:=zen a.id s.asks}
  rw[hE]
  exact h1.turn (zho hup hg ⟨rfl,rfl,rfl,rfl,rfl,rfl,rfl⟩ (by omega) (show(1:Int)≠3 by decide)) (fun y hy=>zf5 hy) (fun y hy h2=>by
   rcases zci hup hg hy with rfl|hy
   ·exact absurd (show(1:Int)=2 from h2) (by decide)
   ·exact h1.lk y hy.1 h2) rfl
/-- a trade of no request -/
theorem OnI.trade0 {s:Dk}(h:OnI s){t:zaB}(h0:t.ask=0):OnI (zfV s t):=by
 refine⟨h.qd,h.lk,fun r hr hn=> ?_,?_,fun a ha h3=> ?_⟩
 ·rcases lma.1 hr with hr|hr
  ·exact h.o1 r hr hn
  ·rw[lms.1 hr]at hn;exact absurd h0 hn
 ·show(s.trades++[t]).Pairwise _
  rw[List.pairwise_append]
  refine⟨h.o2,List.pairwise_singleton _ _,fun a ha b hb hn=> ?_⟩
  rw[lms.1 hb,h0];exact hn
 ·obtain⟨r,hr,e⟩:=h.o3 a ha h3
  exact⟨r,List.mem_append_left _ hr,e⟩
theorem OnI.fills {who:Int}{o:zav}{n:Nat}:∀(fs:List zb7) {s:FSt},OnI s.d→OnI (fs.foldl (zcl who o n) s).d
 |[],s,h=>h
 |f::fs,s,h=>by
  rw[List.foldl_cons]
  refine OnI.fills fs (s:=zcl who o n s f) (h.trade0 ?_)
  unfold zcX
  split<;>rfl
theorem OnI.meets {s:Dk}(h:OnI s){who:Int}{n:Nat}{o:zav}{how:Int}:OnI (zb5 s who n o how).d:=by
 unfold zb5
 dsimp only
 split
 ·exact h
 ·exact OnI.fills _ (h.same rfl rfl rfl)
/-! ### whatever is asked -/
theorem OnI.dueOne {N:Nat}{rf:Bool}{t:Dk×List OutR}(h:OnI t.1)(hD:DOK N t.1)(x:Due):OnI (dueD rf t x).1:=by
 unfold dueD
 split
 ·exact h.kill rfl rfl rfl
 ·split
  ·exact h
  ·rename_i a hg
   have ha:=(zbp hg).1
   split
   ·rename_i hc
    exact h.lookEnds hD.upa ha hc.2
   ·split
    ·rename_i hc
     exact h.dies hD.upa ha (.inl hc.2)
    ·exact h
theorem OnI.dueAll {N:Nat}{rf:Bool}:∀(xs:List Due) {t:Dk×List OutR},OnI t.1→DOK N t.1→OnI (xs.foldl (dueD rf) t).1
 |[],t,h,_=>h
 |x::xs,t,h,hD=>by rw[List.foldl_cons];exact OnI.dueAll xs (h.dueOne hD x) (hD.dueOne x)
theorem OnI.tick {N:Nat}{rf:Bool}{s:Dk}(h:OnI s)(hD:DOK N s):OnI (zfj rf s).1:=by
 have h':=hD.up
 have hn:=hD.now
 have hD0:DOK (N+1) ({s with now:=s.now+1,due:=s.due.drop (zdK s.due (s.now+1))}:Dk):=hD.tick0
 have h0:OnI ({s with now:=s.now+1,due:=s.due.drop (zdK s.due (s.now+1))}:Dk):=h.same rfl rfl rfl
 unfold zfj
 exact OnI.dueAll _ h0 hD0
theorem OnI.gone {rf:Bool}{s:Dk}(h:OnI s)(who:Int):OnI (zeJ rf s who).1:=by
 have key:∀(qs:List zaH) {t:Dk},OnI t→OnI (qs.foldl (zdL rf) t):=by
  intro qs
  induction qs with
  |nil=>intro t h;exact h
  |cons q qs ih=>
   intro t h
   rw[List.foldl_cons]
   refine ih ?_
   unfold zdL
   split
   ·exact h
   ·have h1:OnI {t with quotes:=zbV q.id t.quotes,due:=zbb t.due 3 q.id}:=h.kill rfl rfl rfl
    exact h1
 unfold zeJ
 have h0:OnI {s with books:=s.books.map (zhG who)}:=h.same rfl rfl rfl
 exact key _ h0
theorem OnI.new {bs:List za1}{ps:List zaJ}{look beat:Int}:OnI (zbH bs ps look beat):=
 ⟨fun q hq=>(by cases hq),fun a ha=>(by cases ha),fun t ht=>(by cases ht),List.Pairwise.nil,fun a ha=>(by cases ha)⟩
end Go.Proofs.YteocfhdocpeokaaGreat
set_option linter.unusedSimpArgs false
set_option linter.unusedVariables false
namespace Go.Sl
open Go Go.RowKit Go.MapKept
section
variable {P : Program} {W : World} {T : Tab} {N : Nat} {env : Env} {h h' : List zah} {kf : KF} {ops : Array Oper} {K : Env → List zah → Prop} {o : Oper} {rest : List Oper}
theorem zh0 {b:Bool}{d:Tmp}{ty pos af g}{t:TypeId}(hg:zbi ops env g=some b)(hb:b=true)(hd:Nat.blt d N=true)(hk:(kf.kd ⟨some d,.makeMap t none,ty,pos,af,g⟩).wr=true)
 (hK:∀g',ES P W N kf ops rest ((d,(.map (some g')))::env) (.map g' []::h) K):ES P W N kf ops (⟨some d,.makeMap t none,ty,pos,af,g⟩::rest) env h K:=fun a ha=>by
 subst hb
 refine zbs (it:=za9 kf ops ⟨some d,.makeMap t none,ty,pos,af,g⟩) (zbc ha hg) (zhr hk) (fun w hw=> ?_)
 have e:(execOp a.eval ⟨some d,.makeMap t none,ty,pos,af,g⟩).run P w=.ok (.value (.map (some w.heap.size))) (w.alloc (.map #[] 0)):=rfl
 unfold Oper.wp
 show Oper.upon P _ a _ _ ((execOp a.eval ⟨some d,.makeMap t none,ty,pos,af,g⟩).run P w)
 rw[e]
 refine⟨.map w.heap.size []::h,?_,hK w.heap.size _ (ha.put (d:=some d) hd)⟩
 exact hw.add (World.grownBy_alloc w _ none) ⟨hw.below.size,#[],0,heap_alloc_new w _,rfl⟩ (fun g hg=>by simp[zah.keys]at hg;omega)
end
end Go.Sl
set_option linter.unusedSimpArgs false
set_option linter.unusedVariables false
namespace Go.Proofs.YteocfhdocpeokaaGreat
open Go Go.Sl
/-! ### frames of one Seq are one -/
def oneF (a b:zcP):Prop:=b.seq≠0→b.seq=a.seq→b=a
instance (a b:zcP):Decidable (oneF a b):=by unfold oneF;infer_instance
end Go.Proofs.YteocfhdocpeokaaGreat
set_option linter.unusedSimpArgs false
set_option linter.unusedVariables false
namespace Go.Proofs.YteocfhdocpeokaaGreat
open Go Go.Sl
attribute [local irreducible] AW ES EP Ld RetQ
set_option maxRecDepth 100000
theorem zkC (W:World)(a b:Int)(ha:inW a)(hb:inW b)(h:inW (a+b)):zaF Tryz.prog W 27 [.int .i64 a,.int .i64 b] [] (.tuple #[.int .i64 (a+b),.bool true]):=by
 unfold inW at*
 refine zaF.ofD (fun h' hs=> ?_)
 refine zaA Tryz.func27 rfl rfl Tryz.results27 Tryz.ntmps27 rfl rfl ?_
 repeat' (first
  |apply zaz|apply zaa|apply zay|apply zal|apply zam|apply zae|apply zaw
  |(apply zai hT;(iterate 4 exact rfl))|(apply zaj;(iterate 3 exact rfl))|(apply zad;(iterate 2 exact rfl))
  |(apply zax hT;(iterate 4 exact rfl);(iterate 2 (first|omega|(dsimp only;omega))))
  |(apply zar [] [] hmix;decide+kernel)
  |(apply zab;(iterate 5 exact rfl);first|(apply zas hT;exact rfl;exact rfl;(repeat(first|exact List.mem_cons_self|apply List.mem_cons_of_mem|apply List.mem_append_right));exact rfl;exact rfl)|(apply zaq hT;exact rfl;exact rfl;(repeat(first|exact List.mem_cons_self|apply List.mem_cons_of_mem|apply List.mem_append_right));exact rfl))
  |(apply zau;(iterate 5 exact rfl);intro _)|(apply zac hT;(iterate 5 exact rfl);intro _)
  |(apply zaf;(iterate 2 exact rfl))|(apply zag;(iterate 2 exact rfl))
  |(apply zak;exact rfl;all_goals intro hb;all_goals(fail_if_success (change true=true at hb));all_goals(fail_if_success (change false=false at hb));all_goals(try dsimp only at hb);all_goals(try simp only[hb]);all_goals(first|replace hb:=of_decide_eq_true hb|replace hb:=of_decide_eq_false hb|replace hb:=zao hb|replace hb:=zap hb|replace hb:=eq_of_beq hb|replace hb:=ne_of_beq_false hb|skip);all_goals(try(exfalso;omega)))
  |(apply zan;exact rfl;all_goals intro hb;all_goals(try dsimp only at hb);all_goals(try simp only[hb]);all_goals(first|replace hb:=of_decide_eq_true hb|replace hb:=of_decide_eq_false hb|replace hb:=zao hb|replace hb:=zap hb|replace hb:=eq_of_beq hb|replace hb:=ne_of_beq_false hb|skip);all_goals(try(exfalso;omega))))
 all_goals first
  |(exfalso;omega)
  |(apply ret2;exact rfl;exact rfl;exact⟨rfl,dX⟩)
  |skip
theorem ze4 (W:World)(a b tick:Int)(ha:inW a)(hb:inW b)(h:inW (a+b)):zaF Tryz.prog W 71 [.int .i64 a,.int .i64 b,.int .i64 tick] [] (.bool (decide (a+b≤tick))):=by
 refine zaF.ofD (fun h' hs=> ?_)
 refine zaA Tryz.func71 rfl rfl Tryz.results71 Tryz.ntmps71 rfl rfl ?_
 repeat' (first
  |apply zaz|apply zaa|apply zay|apply zal|apply zam|apply zae|apply zaw
  |(apply zai hT;(iterate 4 exact rfl))|(apply zaj;(iterate 3 exact rfl))|(apply zad;(iterate 2 exact rfl))
  |(apply zax hT;(iterate 4 exact rfl);(iterate 2 (first|omega|(dsimp only;omega))))
  |(apply zar [] [] hmix;decide+kernel)
  |(apply zaC (hs:=((zkC W a b ha hb h).mono (by simp)));(iterate 7 exact rfl))
  |(apply zab;(iterate 5 exact rfl);first|(apply zas hT;exact rfl;exact rfl;(repeat(first|exact List.mem_cons_self|apply List.mem_cons_of_mem|apply List.mem_append_right));exact rfl;exact rfl)|(apply zaq hT;exact rfl;exact rfl;(repeat(first|exact List.mem_cons_self|apply List.mem_cons_of_mem|apply List.mem_append_right));exact rfl))
  |(apply zau;(iterate 5 exact rfl);intro _)|(apply zac hT;(iterate 5 exact rfl);intro _)
  |(apply zaf;(iterate 2 exact rfl))|(apply zag;(iterate 2 exact rfl))
  |(apply zak;exact rfl;all_goals intro hb;all_goals(fail_if_success (change true=true at hb));all_goals(fail_if_success (change false=false at hb));all_goals(try dsimp only at hb);all_goals(try simp only[hb]);all_goals(first|replace hb:=of_decide_eq_true hb|replace hb:=of_decide_eq_false hb|replace hb:=zao hb|replace hb:=zap hb|replace hb:=eq_of_beq hb|replace hb:=ne_of_beq_false hb|skip);all_goals(try(exfalso;omega)))
  |(apply zan;exact rfl;all_goals intro hb;all_goals(try dsimp only at hb);all_goals(try simp only[hb]);all_goals(first|replace hb:=of_decide_eq_true hb|replace hb:=of_decide_eq_false hb|replace hb:=zao hb|replace hb:=zap hb|replace hb:=eq_of_beq hb|replace hb:=ne_of_beq_false hb|skip);all_goals(try(exfalso;omega))))
 all_goals first
  |(exfalso;omega)
  |(apply ret1;exact rfl;exact⟨rfl,dX⟩)
  |skip
def zgh (tick look:Int)(a:AskR):Bool:= !(a.state != 3&&a.state != 4&&decide (a.ends+look≤tick))
def zjH (l:List AskR)(tick look:Int):Bool:=l.all (zgh tick look)
theorem zlE {α:Type}{q:α→Bool}{l:List α}{x:α}(hx:x∈l)(h:q x=false):l.all q=false:=by
 rw[List.all_eq_false]
 exact⟨x,hx,by rw[h];decide⟩
theorem zkD {α:Type}{q:α→Bool}{l:List α}(h:∀(j:Nat) y,j<l.length→l[j]? =some y→q y=true):l.all q=true:=by
 rw[List.all_eq_true]
 intro x hx
 obtain⟨i,hi⟩:=List.getElem?_of_mem hx
 exact h i x (gsi.1 hi).1 hi
theorem zeE (W:World)(h:List zah)(A:Option Addr)(c:Nat)(l:List AskR)(tick look:Int)(hr:zaD W h A l.length 10 (l.flatMap AskR.enc))(hb:l.length≤1000000)(hlk:inW look)(hok:∀a∈l,inW a.ends∧inW (a.ends+look)):
 zaF Tryz.prog W 39 [.slice A l.length c,.int .i64 tick,.int .i64 look] h (.bool (zjH l tick look)):=by
 refine zaF.ofD (fun h' hs=> ?_)
 have hrd:=hr.mono hs
 refine zaA Tryz.func39 rfl rfl Tryz.results39 Tryz.ntmps39 rfl rfl ?_
 refine zaO hrd rfl (fun hA=> ?_)
 repeat' (first
  |apply zaz|apply zaa|apply zay|apply zal|apply zam|apply zae|apply zaw
  |(apply zai hT;(iterate 4 exact rfl))|(apply zaj;(iterate 3 exact rfl))|(apply zad;(iterate 2 exact rfl))
  |(apply zax hT;(iterate 4 exact rfl);(iterate 2 (first|omega|(dsimp only;omega))))
  |(apply zar [] [] hmix;decide+kernel)
  |(apply zab;(iterate 5 exact rfl);first|(apply zas hT;exact rfl;exact rfl;(repeat(first|exact List.mem_cons_self|apply List.mem_cons_of_mem|apply List.mem_append_right));exact rfl;exact rfl)|(apply zaq hT;exact rfl;exact rfl;(repeat(first|exact List.mem_cons_self|apply List.mem_cons_of_mem|apply List.mem_append_right));exact rfl))
  |(apply zau;(iterate 5 exact rfl);intro _)|(apply zac hT;(iterate 5 exact rfl);intro _)
  |(apply zaf;(iterate 2 exact rfl))|(apply zag;(iterate 2 exact rfl))
  |(apply zak;exact rfl;all_goals intro hb;all_goals(fail_if_success (change true=true at hb));all_goals(fail_if_success (change false=false at hb));all_goals(try dsimp only at hb);all_goals(try simp only[hb]);all_goals(first|replace hb:=of_decide_eq_true hb|replace hb:=of_decide_eq_false hb|replace hb:=zao hb|replace hb:=zap hb|replace hb:=eq_of_beq hb|replace hb:=ne_of_beq_false hb|skip);all_goals(try(exfalso;omega)))
  |(apply zan;exact rfl;all_goals intro hb;all_goals(try dsimp only at hb);all_goals(try simp only[hb]);all_goals(first|replace hb:=of_decide_eq_true hb|replace hb:=of_decide_eq_false hb|replace hb:=zao hb|replace hb:=zap hb|replace hb:=eq_of_beq hb|replace hb:=ne_of_beq_false hb|skip);all_goals(try(exfalso;omega))))
 refine zaX (α:=Nat) (E:=fun k=>[(1,.int .i64 tick),(2,.int .i64 look),(10,.slice A l.length c),(11,.int .i64 l.length),(12,.int .i64 k)]) (H:=fun _=>h') (μ:=fun k=>l.length - k)
  (S:=fun k=>k≤l.length∧∀(j:Nat) y,j<k→l[j]? =some y→zgh tick look y=true) 0 ⟨Nat.zero_le _,fun j y hj=>absurd hj (Nat.not_lt_zero _)⟩ ⟨rfl,rfl,rfl,rfl,rfl,trivial⟩ dX ?_
 rintro k ⟨hk,hgd⟩
 by_cases hlt:k<l.length
 ·obtain⟨x,hx⟩:∃x,l[k]? =some x:=⟨l[k]'(by omega),gge (by omega)⟩
  have hx2:l[(k:Int).toNat]? =some x:=by simpa using hx
  have hA':=hA (by omega)
  have hd1:decide ((k:Int)<(l.length:Int))=true:=by simp;omega
  have hxm:=mog hx
  obtain⟨w1,w2⟩:=hok x hxm
  unfold inW at w1 w2
  cases he:zgh tick look x
  ·repeat' (first
    |apply zaz|apply zaa|apply zay|apply zal|apply zam|apply zae|apply zaw
    |(apply zai hT;(iterate 4 exact rfl))|(apply zaj;(iterate 3 exact rfl))|(apply zad;(iterate 2 exact rfl))
    |(apply zax hT;(iterate 4 exact rfl);(iterate 2 (first|omega|(dsimp only;omega))))
    |(apply zar [] [] hmix;decide+kernel)
    |(apply zaU hT;(iterate 8 exact rfl);(iterate 2 omega);exact hA')
    |(apply zab;(iterate 5 exact rfl);exact zaY hT rfl rfl (hrd.mono (by(intro c hc;(repeat(first|exact hc|apply List.mem_cons_of_mem|apply List.mem_append_right))))) AskR.enc_len rfl hx2 rfl)
    |(apply zaP hT;(iterate 6 exact rfl);exact sX;(iterate 3 exact rfl);exact Nat.le_of_ble_eq_true rfl)
    |(apply zaC (hs:=((ze4 W x.ends look tick (by unfold inW;omega) hlk (by unfold inW;omega)).mono (by simp)));(iterate 7 exact rfl))
    |(apply zab;(iterate 5 exact rfl);first|(apply zas hT;exact rfl;exact rfl;(repeat(first|exact List.mem_cons_self|apply List.mem_cons_of_mem|apply List.mem_append_right));exact rfl;exact rfl)|(apply zaq hT;exact rfl;exact rfl;(repeat(first|exact List.mem_cons_self|apply List.mem_cons_of_mem|apply List.mem_append_right));exact rfl))
    |(apply zau;(iterate 5 exact rfl);intro _)|(apply zac hT;(iterate 5 exact rfl);intro _)
    |(apply zaf;(iterate 2 exact rfl))|(apply zag;(iterate 2 exact rfl))
    |(apply zak;exact rfl;all_goals intro hb;all_goals(fail_if_success (change true=true at hb));all_goals(fail_if_success (change false=false at hb));all_goals(try dsimp only at hb);all_goals(try simp only[hb]);all_goals(first|replace hb:=of_decide_eq_true hb|replace hb:=of_decide_eq_false hb|replace hb:=zao hb|replace hb:=zap hb|replace hb:=eq_of_beq hb|replace hb:=ne_of_beq_false hb|skip);all_goals(try(exfalso;omega)))
    |(apply zan;exact rfl;all_goals intro hb;all_goals(try dsimp only at hb);all_goals(try simp only[hb]);all_goals(first|replace hb:=of_decide_eq_true hb|replace hb:=of_decide_eq_false hb|replace hb:=zao hb|replace hb:=zap hb|replace hb:=eq_of_beq hb|replace hb:=ne_of_beq_false hb|skip);all_goals(try(exfalso;omega))))
   all_goals first
    |(exfalso;simp[zgh]at he;omega)
    |(apply ret1;exact rfl;exact⟨by rw[show zjH l tick look=false from zlE hxm he],dX⟩)
    |skip
  ·repeat' (first
    |apply zaz|apply zaa|apply zay|apply zal|apply zam|apply zae|apply zaw
    |(apply zai hT;(iterate 4 exact rfl))|(apply zaj;(iterate 3 exact rfl))|(apply zad;(iterate 2 exact rfl))
    |(apply zax hT;(iterate 4 exact rfl);(iterate 2 (first|omega|(dsimp only;omega))))
    |(apply zar [] [] hmix;decide+kernel)
    |(apply zaU hT;(iterate 8 exact rfl);(iterate 2 omega);exact hA')
    |(apply zab;(iterate 5 exact rfl);exact zaY hT rfl rfl (hrd.mono (by(intro c hc;(repeat(first|exact hc|apply List.mem_cons_of_mem|apply List.mem_append_right))))) AskR.enc_len rfl hx2 rfl)
    |(apply zaP hT;(iterate 6 exact rfl);exact sX;(iterate 3 exact rfl);exact Nat.le_of_ble_eq_true rfl)
    |(apply zaC (hs:=((ze4 W x.ends look tick (by unfold inW;omega) hlk (by unfold inW;omega)).mono (by simp)));(iterate 7 exact rfl))
    |(apply zab;(iterate 5 exact rfl);first|(apply zas hT;exact rfl;exact rfl;(repeat(first|exact List.mem_cons_self|apply List.mem_cons_of_mem|apply List.mem_append_right));exact rfl;exact rfl)|(apply zaq hT;exact rfl;exact rfl;(repeat(first|exact List.mem_cons_self|apply List.mem_cons_of_mem|apply List.mem_append_right));exact rfl))
    |(apply zau;(iterate 5 exact rfl);intro _)|(apply zac hT;(iterate 5 exact rfl);intro _)
    |(apply zaf;(iterate 2 exact rfl))|(apply zag;(iterate 2 exact rfl))
    |(apply zak;exact rfl;all_goals intro hb;all_goals(fail_if_success (change true=true at hb));all_goals(fail_if_success (change false=false at hb));all_goals(try dsimp only at hb);all_goals(try simp only[hb]);all_goals(first|replace hb:=of_decide_eq_true hb|replace hb:=of_decide_eq_false hb|replace hb:=zao hb|replace hb:=zap hb|replace hb:=eq_of_beq hb|replace hb:=ne_of_beq_false hb|skip);all_goals(try(exfalso;omega)))
    |(apply zan;exact rfl;all_goals intro hb;all_goals(try dsimp only at hb);all_goals(try simp only[hb]);all_goals(first|replace hb:=of_decide_eq_true hb|replace hb:=of_decide_eq_false hb|replace hb:=zao hb|replace hb:=zap hb|replace hb:=eq_of_beq hb|replace hb:=ne_of_beq_false hb|skip);all_goals(try(exfalso;omega))))
   all_goals first
    |(exfalso;simp[zgh]at he;omega)
    |exact zaM (k+1) (by(try dsimp only);omega) ⟨by(try dsimp only);omega,fun j y hj hy=>by
      by_cases hjk:j=k
      ·rw[hjk,hx]at hy;cases hy;exact he
      ·exact hgd j y (by(try dsimp only at hj);omega) hy⟩ ⟨rfl,rfl,rfl,rfl,rfl,trivial⟩ dX
    |skip
 ·obtain rfl:k=l.length:=by omega
  have hd1:decide ((l.length:Int)<(l.length:Int))=false:=by simp
  repeat' (first
   |apply zaz|apply zaa|apply zay|apply zal|apply zam|apply zae|apply zaw
   |(apply zai hT;(iterate 4 exact rfl))|(apply zaj;(iterate 3 exact rfl))|(apply zad;(iterate 2 exact rfl))
   |(apply zax hT;(iterate 4 exact rfl);(iterate 2 (first|omega|(dsimp only;omega))))
   |(apply zar [] [] hmix;decide+kernel)
   |(apply zab;(iterate 5 exact rfl);first|(apply zas hT;exact rfl;exact rfl;(repeat(first|exact List.mem_cons_self|apply List.mem_cons_of_mem|apply List.mem_append_right));exact rfl;exact rfl)|(apply zaq hT;exact rfl;exact rfl;(repeat(first|exact List.mem_cons_self|apply List.mem_cons_of_mem|apply List.mem_append_right));exact rfl))
   |(apply zau;(iterate 5 exact rfl);intro _)|(apply zac hT;(iterate 5 exact rfl);intro _)
   |(apply zaf;(iterate 2 exact rfl))|(apply zag;(iterate 2 exact rfl))
   |(apply zak;exact rfl;all_goals intro hb;all_goals(fail_if_success (change true=true at hb));all_goals(fail_if_success (change false=false at hb));all_goals(try dsimp only at hb);all_goals(try simp only[hb]);all_goals(first|replace hb:=of_decide_eq_true hb|replace hb:=of_decide_eq_false hb|replace hb:=zao hb|replace hb:=zap hb|replace hb:=eq_of_beq hb|replace hb:=ne_of_beq_false hb|skip);all_goals(try(exfalso;omega)))
   |(apply zan;exact rfl;all_goals intro hb;all_goals(try dsimp only at hb);all_goals(try simp only[hb]);all_goals(first|replace hb:=of_decide_eq_true hb|replace hb:=of_decide_eq_false hb|replace hb:=zao hb|replace hb:=zap hb|replace hb:=eq_of_beq hb|replace hb:=ne_of_beq_false hb|skip);all_goals(try(exfalso;omega))))
  all_goals first
   |(exfalso;omega)
   |(apply ret1;exact rfl;exact⟨by rw[show zjH l tick look=true from zkD hgd],dX⟩)
   |skip
end Go.Proofs.YteocfhdocpeokaaGreat
set_option linter.unusedSimpArgs false
set_option linter.unusedVariables false
namespace Go.Proofs.YteocfhdocpeokaaGreat
open Go Go.Sl
attribute [local irreducible] AW ES EP Ld RetQ
set_option maxRecDepth 100000
theorem zeF {W:World}{h:List zah}{A:Option Addr}{k:Nat}:zaD W h A 0 k []:=⟨by simp,by simp,fun w hw j v hj=>by simp at hj⟩
theorem zgS (W:World)(A:Option Addr)(c:Nat):zaF Tryz.prog W 58 [.slice A 0 c] [] (.slice none 0 0):=by
 refine zaF.ofD (fun h' hs=> ?_)
 refine zaA Tryz.func58 rfl rfl Tryz.results58 Tryz.ntmps58 rfl rfl ?_
 repeat' (first
  |apply zaz|apply zaa|apply zay|apply zal|apply zam|apply zae|apply zaw
  |(apply zai hT;(iterate 4 exact rfl))|(apply zaj;(iterate 3 exact rfl))|(apply zad;(iterate 2 exact rfl))
  |(apply zax hT;(iterate 4 exact rfl);(iterate 2 (first|omega|(dsimp only;omega))))
  |(apply zar [] [] hmix;decide+kernel)
  |(apply zab;(iterate 5 exact rfl);first|(apply zas hT;exact rfl;exact rfl;(repeat(first|exact List.mem_cons_self|apply List.mem_cons_of_mem|apply List.mem_append_right));exact rfl;exact rfl)|(apply zaq hT;exact rfl;exact rfl;(repeat(first|exact List.mem_cons_self|apply List.mem_cons_of_mem|apply List.mem_append_right));exact rfl))
  |(apply zau;(iterate 5 exact rfl);intro _)|(apply zac hT;(iterate 5 exact rfl);intro _)
  |(apply zaf;(iterate 2 exact rfl))|(apply zag;(iterate 2 exact rfl))
  |(apply zak;exact rfl;all_goals intro hb;all_goals(fail_if_success (change true=true at hb));all_goals(fail_if_success (change false=false at hb));all_goals(try dsimp only at hb);all_goals(try simp only[hb]);all_goals(first|replace hb:=of_decide_eq_true hb|replace hb:=of_decide_eq_false hb|replace hb:=zao hb|replace hb:=zap hb|replace hb:=eq_of_beq hb|replace hb:=ne_of_beq_false hb|skip);all_goals(try(exfalso;omega)))
  |(apply zan;exact rfl;all_goals intro hb;all_goals(try dsimp only at hb);all_goals(try simp only[hb]);all_goals(first|replace hb:=of_decide_eq_true hb|replace hb:=of_decide_eq_false hb|replace hb:=zao hb|replace hb:=zap hb|replace hb:=eq_of_beq hb|replace hb:=ne_of_beq_false hb|skip);all_goals(try(exfalso;omega))))
 refine zaX (α:=Unit) (E:=fun _=>[(3,.slice none 0 0),(8,.int .i64 0),(9,.int .i64 0)]) (H:=fun _=>h') (μ:=fun _=>0) (S:=fun _=>True) () trivial ⟨rfl,rfl,rfl,trivial⟩ dX ?_
 intro _ _
 have hd1:decide ((0:Int)<0)=false:=by decide
 repeat' (first
  |apply zaz|apply zaa|apply zay|apply zal|apply zam|apply zae|apply zaw
  |(apply zai hT;(iterate 4 exact rfl))|(apply zaj;(iterate 3 exact rfl))|(apply zad;(iterate 2 exact rfl))
  |(apply zax hT;(iterate 4 exact rfl);(iterate 2 (first|omega|(dsimp only;omega))))
  |(apply zar [] [] hmix;decide+kernel)
  |(apply zab;(iterate 5 exact rfl);first|(apply zas hT;exact rfl;exact rfl;(repeat(first|exact List.mem_cons_self|apply List.mem_cons_of_mem|apply List.mem_append_right));exact rfl;exact rfl)|(apply zaq hT;exact rfl;exact rfl;(repeat(first|exact List.mem_cons_self|apply List.mem_cons_of_mem|apply List.mem_append_right));exact rfl))
  |(apply zau;(iterate 5 exact rfl);intro _)|(apply zac hT;(iterate 5 exact rfl);intro _)
  |(apply zaf;(iterate 2 exact rfl))|(apply zag;(iterate 2 exact rfl))
  |(apply zak;exact rfl;all_goals intro hb;all_goals(fail_if_success (change true=true at hb));all_goals(fail_if_success (change false=false at hb));all_goals(try dsimp only at hb);all_goals(try simp only[hb]);all_goals(first|replace hb:=of_decide_eq_true hb|replace hb:=of_decide_eq_false hb|replace hb:=zao hb|replace hb:=zap hb|replace hb:=eq_of_beq hb|replace hb:=ne_of_beq_false hb|skip);all_goals(try(exfalso;omega)))
  |(apply zan;exact rfl;all_goals intro hb;all_goals(try dsimp only at hb);all_goals(try simp only[hb]);all_goals(first|replace hb:=of_decide_eq_true hb|replace hb:=of_decide_eq_false hb|replace hb:=zao hb|replace hb:=zap hb|replace hb:=eq_of_beq hb|replace hb:=ne_of_beq_false hb|skip);all_goals(try(exfalso;omega))))
 all_goals first
  |(exfalso;omega)
  |(apply ret1;exact rfl;exact⟨rfl,dX⟩)
  |skip
theorem zgT (W:World)(A:Option Addr)(c:Nat)(A2:Option Addr)(c2:Nat):zaF Tryz.prog W 21 [.slice A 0 c,.slice A2 0 c2] [] (.bool true):=by
 refine zaF.ofD (fun h' hs=> ?_)
 have hcf:=fun k (g:Nat)=>zdM W k A 0 c [] rfl zeF 65 [.pointer (some ⟨g,0,none⟩)] (fun _=>false) (fun x hx=>by cases hx) (by omega)
 refine zaA Tryz.func21 rfl rfl Tryz.results21 Tryz.ntmps21 rfl rfl ?_
 repeat' (first
  |apply zaz|apply zaa|apply zay|apply zal|apply zam|apply zae|apply zaw
  |(apply zai hT;(iterate 4 exact rfl))|(apply zaj;(iterate 3 exact rfl))|(apply zad;(iterate 2 exact rfl))
  |(apply zax hT;(iterate 4 exact rfl);(iterate 2 (first|omega|(dsimp only;omega))))
  |(apply zar [] [] hmix;decide+kernel)
  |(apply zh0;(iterate 4 exact rfl);intro gm)
  |(apply zac hT;(iterate 5 exact rfl);first|((fail_if_success (have q:=g5));intro g5)|intro _)
  |(apply zaP hT;(iterate 6 exact rfl);exact sX;(iterate 3 exact rfl);exact Nat.le_of_ble_eq_true rfl)
  |(apply zab;(iterate 5 exact rfl);first|(apply zas hT;exact rfl;exact rfl;(repeat(first|exact List.mem_cons_self|apply List.mem_cons_of_mem|apply List.mem_append_right));exact rfl;exact rfl)|(apply zaq hT;exact rfl;exact rfl;(repeat(first|exact List.mem_cons_self|apply List.mem_cons_of_mem|apply List.mem_append_right));exact rfl))
  |(apply zau;(iterate 5 exact rfl);intro _)|(apply zac hT;(iterate 5 exact rfl);intro _)
  |(apply zaf;(iterate 2 exact rfl))|(apply zag;(iterate 2 exact rfl))
  |(apply zak;exact rfl;all_goals intro hb;all_goals(fail_if_success (change true=true at hb));all_goals(fail_if_success (change false=false at hb));all_goals(try dsimp only at hb);all_goals(try simp only[hb]);all_goals(first|replace hb:=of_decide_eq_true hb|replace hb:=of_decide_eq_false hb|replace hb:=zao hb|replace hb:=zap hb|replace hb:=eq_of_beq hb|replace hb:=ne_of_beq_false hb|skip);all_goals(try(exfalso;omega)))
  |(apply zan;exact rfl;all_goals intro hb;all_goals(try dsimp only at hb);all_goals(try simp only[hb]);all_goals(first|replace hb:=of_decide_eq_true hb|replace hb:=of_decide_eq_false hb|replace hb:=zao hb|replace hb:=zap hb|replace hb:=eq_of_beq hb|replace hb:=ne_of_beq_false hb|skip);all_goals(try(exfalso;omega))))
 refine zaX (α:=Unit) (E:=fun _=>[(0,.slice A 0 c),(5,.pointer (some ⟨g5,0,none⟩)),(10,.int .i64 0),(11,.int .i64 0)]) (H:=fun _=>h') (μ:=fun _=>0) (S:=fun _=>True) () trivial ⟨rfl,rfl,rfl,rfl,trivial⟩ dX ?_
 intro _ _
 have hd1:decide ((0:Int)<0)=false:=by decide
 repeat' (first
  |apply zaz|apply zaa|apply zay|apply zal|apply zam|apply zae|apply zaw
  |(apply zai hT;(iterate 4 exact rfl))|(apply zaj;(iterate 3 exact rfl))|(apply zad;(iterate 2 exact rfl))
  |(apply zax hT;(iterate 4 exact rfl);(iterate 2 (first|omega|(dsimp only;omega))))
  |(apply zar [] [] hmix;decide+kernel)
  |(apply zaC (hs:=(hcf _ g5));(iterate 7 exact rfl))
  |(apply zab;(iterate 5 exact rfl);first|(apply zas hT;exact rfl;exact rfl;(repeat(first|exact List.mem_cons_self|apply List.mem_cons_of_mem|apply List.mem_append_right));exact rfl;exact rfl)|(apply zaq hT;exact rfl;exact rfl;(repeat(first|exact List.mem_cons_self|apply List.mem_cons_of_mem|apply List.mem_append_right));exact rfl))
  |(apply zau;(iterate 5 exact rfl);intro _)|(apply zac hT;(iterate 5 exact rfl);intro _)
  |(apply zaf;(iterate 2 exact rfl))|(apply zag;(iterate 2 exact rfl))
  |(apply zak;exact rfl;all_goals intro hb;all_goals(fail_if_success (change true=true at hb));all_goals(fail_if_success (change false=false at hb));all_goals(try dsimp only at hb);all_goals(try simp only[hb]);all_goals(first|replace hb:=of_decide_eq_true hb|replace hb:=of_decide_eq_false hb|replace hb:=zao hb|replace hb:=zap hb|replace hb:=eq_of_beq hb|replace hb:=ne_of_beq_false hb|skip);all_goals(try(exfalso;omega)))
  |(apply zan;exact rfl;all_goals intro hb;all_goals(try dsimp only at hb);all_goals(try simp only[hb]);all_goals(first|replace hb:=of_decide_eq_true hb|replace hb:=of_decide_eq_false hb|replace hb:=zao hb|replace hb:=zap hb|replace hb:=eq_of_beq hb|replace hb:=ne_of_beq_false hb|skip);all_goals(try(exfalso;omega))))
 all_goals first
  |(exfalso;omega)
  |(apply ret1;exact rfl;exact⟨by simp[za0],dX⟩)
  |skip
end Go.Proofs.YteocfhdocpeokaaGreat
set_option linter.unusedSimpArgs false
set_option linter.unusedVariables false
namespace Go.Proofs.YteocfhdocpeokaaGreat
open Go Go.Sl
/-! ### books -/
/-- no two orders could trade -/
def zl9 (l:List zav):Prop:=∀a∈l,∀b∈l,a.side=1→b.side=2→a.price<b.price
instance (l:List zav):Decidable (zl9 l):=by unfold zl9;infer_instance
def zkU :List Lvl→List Lvl→Bool
 |v::_,w::_=>decide (v.price<w.price)
 |_,_=>true
end Go.Proofs.YteocfhdocpeokaaGreat
