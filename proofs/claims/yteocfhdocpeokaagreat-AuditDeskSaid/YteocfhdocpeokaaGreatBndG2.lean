/- The statements' walks, and what they stand on, joined into few texts: part 2. Conditions stand in each statement. -/
import Derived.Test.YteocfhdocpeokaaGreatBndG1
set_option maxHeartbeats 16000000
set_option linter.all false
namespace Go.Proofs.YteocfhdocpeokaaGreat
open Go Go.Sl
structure zbM where
 maker:Int
 taker:Int
 mparty:Int
 tparty:Int
 price:Int
 qty:Int
 left:Int
 deriving DecidableEq
def zbM.enc (f:zbM):List Value:=[.int .i64 f.maker,.int .i64 f.taker,.int .i64 f.mparty,.int .i64 f.tparty,.int .i64 f.price,.int .i64 f.qty,.int .i64 f.left]
theorem zbM.enc_len (f:zbM):f.enc.length=7:=rfl
theorem zbM.enc_one (f:zbM):∀x∈f.enc,x.oneCell'=true:=List.all_eq_true.1 (rfl:f.enc.all Value.oneCell'=true)
structure zcw where
 id:Int
 owner:Int
 left:Int
 deriving DecidableEq
def zcw.enc (f:zcw):List Value:=[.int .i64 f.id,.int .i64 f.owner,.int .i64 f.left]
theorem zcw.enc_len (f:zcw):f.enc.length=3:=rfl
theorem zcw.enc_one (f:zcw):∀x∈f.enc,x.oneCell'=true:=List.all_eq_true.1 (rfl:f.enc.all Value.oneCell'=true)
def zcX (how:Int)(o x:zap):Bool:=how==4||(isB o.side&& !zbG o.side x.price o.price)
def zaV (how:Int)(o:zap)(l:List zap):List zap:=(za3 (zbS o.side) l).takeWhile (zcX how o)
structure XSt where
 left:Int
 bk:List zap
 fills:List zbM
 gones:List zcw
def zdy (o:zap)(s:XSt)(x:zap):XSt:=
 if s.left=0 then s else if x.owner=o.owner then⟨s.left,zbf x.id s.bk,s.fills,s.gones++[⟨x.id,x.owner,x.left⟩]⟩
 else⟨s.left - min s.left x.left,if min s.left x.left=x.left then zbf x.id s.bk else zb2 x.id (x.left - min s.left x.left) s.bk,
  s.fills++[⟨x.id,o.id,x.owner,o.owner,x.price,min s.left x.left,x.left - min s.left x.left⟩],s.gones⟩
def runX (o:zap)(l:List zap)(ms:List zap):XSt:=ms.foldl (zdy o) ⟨o.left,l,[],[]⟩
def zcS (o:zap)(ms:List zap):List zap:=ms.filter fun x=> !(x.owner==o.owner)
def zga (how:Int)(o:zap)(l:List zap):Int:=if isB o.side then max (min (sumL (zcS o (zaV how o l))) o.left) 0 else 0
def asX (how:Int)(o:zap):zap:=if how=4 then{o with price:=1}else o
def newB (how:Int)(o:zap)(l:List zap):Bool:=decide (0≤how)&&(decide (how≤4)&&(!(how==4&& !(o.price==0))&&(okO (asX how o)&&decide (zaT (zbj o) l<0))))
def zb9 (how:Int):Bool:=how==0||how==3
def zbC (how:Int)(o:zap)(l:List zap):Int:=
 if newB how o l=false then 1 else if zb9 how=true∧l.length≥64 then 3 else if how=3∧(zaV how o l).length>0 then 16
 else if how=2∧zga how o l<o.left then 17 else 0
structure zsX where
 fills:List zbM
 gones:List zcw
 left:Int
 err:Int
 bk:List zap
def zdz (how:Int)(o:zap)(s:XSt):List zap:=if zb9 how=true∧s.left>0 then addO {o with left:=s.left} s.bk else s.bk
def doV (how:Int)(o:zap)(l:List zap):zsX:=
 if zbC how o l=0 then
  let s:=runX o l (zaV how o l)
  ⟨s.fills,s.gones,s.left,0,zdz how o s⟩
 else⟨[],[],0,zbC how o l,l⟩
/-! ### the book along the way -/
theorem za6.drop {l:List zap}(h:za6 l)(id:Int):za6 (zbf id l):=h.sub (zfm id l)
theorem zqK {o:zap}{s:XSt}{x:zap}(h:za6 s.bk):za6 (zdy o s x).bk:=by
 unfold zdy
 split
 ·exact h
 ·split
  ·exact h.drop _
  ·dsimp only
   split
   ·exact h.drop _
   ·exact h.lessAny _ _
theorem znt {o:zap}:∀(ms:List zap) (s:XSt),za6 s.bk→za6 (ms.foldl (zdy o) s).bk
 |[],_,h=>h
 |x::ms,s,h=>by rw[List.foldl_cons];exact znt ms _ (zqK h)
theorem zhX {o:zap}{l ms:List zap}(h:za6 l):za6 (runX o l ms).bk:=znt ms _ h
theorem zsY {how:Int}{o:zap}{l:List zap}(h:za6 l):za6 (doV how o l).bk:=by
 unfold doV
 split
 ·dsimp only
  unfold zdz
  split
  ·exact(zhX h).add _
  ·exact zhX h
 ·exact h
theorem zhY {o:zap}{s:XSt}(h:s.left=0)(x:zap):zdy o s x=s:=by unfold zdy;rw[if_pos h]
theorem zhZ {o:zap}{s:XSt}(h:s.left=0):∀ms:List zap,ms.foldl (zdy o) s=s
 |[]=>rfl
 |x::ms=>by rw[List.foldl_cons,zhY h,zhZ h ms]
theorem zl7 {o:zap}{s:XSt}{x:zap}(hx:1≤x.left)(h:0≤s.left):0≤(zdy o s x).left∧(zdy o s x).left≤s.left:=by
 unfold zdy
 split
 ·exact⟨h,Int.le_refl _⟩
 ·split
  ·exact⟨h,Int.le_refl _⟩
  ·dsimp only;omega
/-! ### the first one gone -/
theorem zjt {l:List zap}(hu:l.Pairwise fun a b=>a.id≠b.id){x:zap}(hx:x∈l):l.Perm (x::zbf x.id l):=by
 rcases zc3 (p:=hasO x.id) l with ⟨hi,hf⟩|⟨i,y,hi,hy,hp,hf⟩
 ·have:=zbV.1 (show zaT (hasO x.id) l<0 by omega) x hx
  simp[hasO]at this
 ·have hyx:y=x:=by
   have hyi:y.id=x.id:=by simpa [hasO]using hp
   obtain⟨j,hj⟩:=List.getElem?_of_mem hx
   obtain⟨hil,hie⟩:=gsi.1 hy
   obtain⟨hjl,hje⟩:=gsi.1 hj
   rcases Nat.lt_trichotomy i j with h|h|h
   ·have:=List.pairwise_iff_getElem.1 hu i j hil hjl h
    rw[hie,hje]at this;exact absurd hyi this
   ·subst h;rw[hie]at hje;exact hje
   ·have:=List.pairwise_iff_getElem.1 hu j i hjl hil h
    rw[hie,hje]at this;exact absurd hyi.symm this
  subst hyx
  obtain⟨hil,hie⟩:=gsi.1 hy
  have e:zbf y.id l=l.take i++l.drop (i+1):=by
   unfold zbf
   rw[hi,if_neg (by omega)];simp
  rw[e]
  have:l=l.take i++y::l.drop (i+1):=by
   rw[←hie,List.getElem_cons_drop,List.take_append_drop]
  conv=>lhs;rw[this]
  exact List.perm_middle
theorem znu {s:Int}{l:List zap}(hs:isB s=true)(h:za6 l){x:zap}{r:List zap}(he:za3 s l=x::r):za3 s (zbf x.id l)=r:=by
 have hx:x∈za3 s l:=by rw[he];exact mcs
 have hup:=zfj hs h.seq
 rw[he,List.pairwise_cons]at hup
 refine znc (p:=zcb s) (fun x y=>zjl x y) (zfj hs (h.drop x.id).seq) hup.2 ?_
 have h1:=(zjt h.id (zbX hx).1).filter (zbB s)
 have hsx:zbB s x=true:=by simp[zbB,(zbX hx).2]
 rw[List.filter_cons,if_pos hsx]at h1
 have h2:(x::r).Perm (x::(zbf x.id l).filter (zbB s)):=by rw[←he];exact(zbW s l).trans h1
 exact(zbW s (zbf x.id l)).trans h2.cons_inv.symm
theorem zl8 {how:Int}{o:zap}{l:List zap}(hs:isB o.side=true)(h:za6 l){x:zap}{r:List zap}(he:zaV how o l=x::r):zaV how o (zbf x.id l)=r:=by
 have ho:isB (zbS o.side)=true:=by rcases zeT hs with h|h<;>simp[zbS,isB,h]
 unfold zaV at he ⊢
 cases hsd:za3 (zbS o.side) l with
 |nil=>rw[hsd]at he;simp at he
 |cons y t=>
  rw[hsd,List.takeWhile_cons]at he
  split at he
  ·injection he with h1 h2
   subst h1
   rw[znu ho h hsd];exact h2
  ·cases he
theorem zju {how:Int}{o:zap}{l:List zap}(hs:isB o.side=true)(h:za6 l):∀(k:Nat),k≤(zaV how o l).length→(runX o l ((zaV how o l).take k)).left≠0→
 zaV how o (runX o l ((zaV how o l).take k)).bk=(zaV how o l).drop k:=by
 intro k
 induction k with
 |zero=>intro _ _;rfl
 |succ k ih=>
  intro hk hl
  obtain⟨x,hx⟩:∃x,(zaV how o l)[k]? =some x:=⟨(zaV how o l)[k]'(by omega),gge (by omega)⟩
  have hst:runX o l ((zaV how o l).take (k+1))=zdy o (runX o l ((zaV how o l).take k)) x:=by
   unfold runX;rw[List.take_add_one,hx,List.foldl_append];rfl
  rw[hst]at hl ⊢
  have hl0:(runX o l ((zaV how o l).take k)).left≠0:=fun h0=>hl (by rw[zhY h0];exact h0)
  have ihk:=ih (by omega) hl0
  have hd:(zaV how o l).drop k=x::(zaV how o l).drop (k+1):=by
   obtain⟨hkl,hke⟩:=gsi.1 hx
   rw[←hke,List.getElem_cons_drop]
  rw[hd]at ihk
  have hBk:za6 (runX o l ((zaV how o l).take k)).bk:=zhX h
  generalize runX o l ((zaV how o l).take k)=s at hl hl0 ihk hBk ⊢
  have hgone:=zl8 hs hBk ihk
  unfold zdy at hl ⊢
  rw[if_neg hl0]at hl ⊢
  split
  ·exact hgone
  ·rename_i hown
   rw[if_neg hown]at hl
   dsimp only at hl ⊢
   have hm:min s.left x.left=x.left:=by omega
   rw[if_pos hm];exact hgone
end Go.Proofs.YteocfhdocpeokaaGreat
namespace Go.Proofs.YteocfhdocpeokaaGreat
open Go Go.Sl
attribute [local irreducible] AW ES EP Ld RetQ
set_option maxRecDepth 100000
def zlo (s:Int)(a b:zat):Bool:=if a.price=b.price then decide (a.id<b.id)else zbG (zbS s) a.price b.price
theorem zl9 (W:World)(s:Int)(a b:zat):zaw Tryz.prog W 185 [.int .i64 s,.agg a.enc.toArray,.agg b.enc.toArray] [] (.bool (zlo s a b)):=by
 refine zaw.ofD (fun h' hs=> ?_)
 have hO:=zfV W s
 have hBt:=zgK W (zbS s) a.price b.price
 refine zaf Tryz.func185 rfl rfl Tryz.results185 Tryz.ntmps185 rfl rfl ?_
 repeat' (first|apply zah|apply zaa|apply zak|apply zam|apply zag|apply zac hT;iterate 4 exact rfl|apply zaC [214,168] [] hmix;decide+kernel|(apply zab (hs:=(hO.mono (by simp)));iterate 7 exact rfl)|(apply zab (hs:=(hBt.mono (by simp)));iterate 7 exact rfl)|(apply zad;(iterate 5 exact rfl);first|(apply zaq hT;exact rfl;exact rfl;exact mX;exact rfl;exact rfl))|apply zaA;(iterate 5 exact rfl);intro _|(apply zal;exact rfl;all_goals(intro hb;(try simp only[hb]);(first|replace hb:=odt hb|replace hb:=odf hb);(try omega))))
 all_goals
  apply ret1;exact rfl
  refine⟨?_,dX⟩
  simp[zlo, *]
def ziG (s:Int)(b q:zat):zat:=if zlo s q b then q else b
def ziH (s:Int)(x:zat)(l:List zat):zat:=l.foldl (ziG s) x
theorem zma {s:Int}{x y:zat}{l:List zat}{k:Nat}(h:l[k]? =some y):ziH s x (l.take (k+1))=ziG s (ziH s x (l.take k)) y:=by
 rw[ziH,List.take_add_one,h,List.foldl_append];rfl
def zrv :zat:=⟨0,0,0,0,0,false⟩
def gotQ :Option zat→Value
 |some x=>.tuple #[.agg x.enc.toArray,.bool true]
 |none=>.tuple #[.agg zrv.enc.toArray,.bool false]
def ziI (s:Int)(l:List zat):Option zat:=if isB s then(match l with
 |[]=>none
 |x::r=>some (ziH s x (x::r)))else none
theorem znv (W:World)(h:List zao)(A:Option Addr)(c:Nat)(l:List zat)(s:Int)(hr:zaz W h A l.length 6 (l.flatMap zat.enc))(hb:l.length≤1000000):
 zaw Tryz.prog W 151 [.int .i64 s,.slice A l.length c] h (gotQ (ziI s l)):=by
 refine zaw.ofD (fun h' hs=> ?_)
 have hr:=hr.mono hs
 have hI:=zdx W s
 refine zaf Tryz.func151 rfl rfl Tryz.results151 Tryz.ntmps151 rfl rfl ?_
 refine zaI hr (by rfl) (fun hA=> ?_)
 cases hB:isB s
 ·rw[hB]at hI
  repeat' (first|apply zah|apply zaa|apply zak|apply zag|apply zac hT;iterate 4 exact rfl|apply zaK;iterate 3 exact rfl|apply zay hT;(iterate 5 exact rfl);intro g4|(apply zab (hs:=(hI.mono (by simp)));iterate 7 exact rfl)|apply zb8 hT;iterate 4 exact rfl|(apply zar hT;(iterate 6 exact rfl);exact sX;(iterate 3 exact rfl);exact nle rfl)|apply zas;iterate 2 exact rfl)
  all_goals first
   |(exfalso;omega)
   |(apply zeE;exact rfl;exact zaF hT rfl rfl mem0 rfl;exact rfl;exact⟨by simp[ziI,hB];rfl,dX⟩)
 rw[hB]at hI
 cases l with
 |nil=>
  have hd:(((([]:List zat).length:Nat):Int)==0)=true:=by decide
  repeat' (first|apply zah|apply zaa|apply zak|apply zag|apply zac hT;iterate 4 exact rfl|apply zay hT;(iterate 5 exact rfl);intro g4|(apply zab (hs:=(hI.mono (by simp)));iterate 7 exact rfl)|apply zb8 hT;iterate 4 exact rfl|(apply zar hT;(iterate 6 exact rfl);exact sX;(iterate 3 exact rfl);exact nle rfl)|apply zas;iterate 2 exact rfl)
  all_goals first
   |(exfalso;omega)
   |(apply zeE;exact rfl;exact zaF hT rfl rfl mem0 rfl;exact rfl;exact⟨by simp[ziI,hB];rfl,dX⟩)
   |(exfalso;simp at hb;done)
 |cons x0 r=>
  have hv:ziI s (x0::r)=some (ziH s x0 (x0::r)):=by simp[ziI,hB]
  rw[hv]
  have h0:(x0::r)[(0:Int).toNat]? =some x0:=rfl
  generalize hl:x0::r=l at*
  have hpos:0<l.length:=by rw[←hl];simp
  have hA:=hA hpos
  have hd:(((l.length:Nat):Int)==0)=false:=beq_eq_false_iff_ne.2 (by omega)
  repeat' (first|apply zah|apply zaa|apply zam|apply zaj|apply zag|apply zac hT;iterate 4 exact rfl|apply zay hT;(iterate 5 exact rfl);intro g4|(apply zab (hs:=(hI.mono (by simp)));iterate 7 exact rfl)|apply zaJ hT;(iterate 8 exact rfl);(iterate 2 omega);exact hA|apply zad;(iterate 5 exact rfl);exact zaO hT rfl rfl (hr.mono (fun _ h=>.tail _ h)) zat.enc_len rfl h0 rfl|(apply zar hT;(iterate 6 exact rfl);exact sX;(iterate 3 exact rfl);exact nle rfl)|(apply zal;exact rfl;all_goals(intro hb;(try simp only[hb]);(first|replace hb:=odt hb|replace hb:=odf hb);(try omega))))
  all_goals try omega
  rename_i g0
  refine za1 (α:=Nat) (E:=fun k=>[(0,.int .i64 s),(4,.pointer (some ⟨g0,0,none⟩)),(6,.pointer (some ⟨g4,0,none⟩)),(21,.slice A l.length c),(22,.int .i64 l.length),(23,.int .i64 k)])
   (H:=fun k=>.blk g4 174 (ziH s x0 (l.take k)).enc::.blk g0 174 zrv.enc::h') (μ:=fun k=>l.length - k)
   (S:=fun k=>k≤l.length) 0 (Nat.zero_le _) ⟨rfl,rfl,rfl,rfl,rfl,rfl,trivial⟩ (by rw[List.take_zero,show ziH s x0 []=x0 from rfl];exact dX) ?_
  intro k hk
  by_cases hlt:k<l.length
  ·obtain⟨y,hy⟩:∃y,l[k]? =some y:=⟨l[k]'(by omega),gge (by omega)⟩
   have hy2:l[(k:Int).toNat]? =some y:=by simpa using hy
   have hd1:decide ((k:Int)<(l.length:Int))=true:=by simp;omega
   have hst:=zma (s:=s) (x:=x0) hy
   generalize ziH s x0 (l.take k)=bk at hst ⊢
   have hah:=zl9 W s y bk
   unfold ziG at hst
   cases hc:zlo s y bk
   ·rw[hc]at hah hst
    rw[if_neg (by decide)]at hst
    repeat' (first|apply zah|apply zaa|apply zam|apply zaj|apply zag|apply zac hT;iterate 4 exact rfl|apply zaM hT;(iterate 4 exact rfl);(iterate 2 omega)|apply zaJ hT;(iterate 8 exact rfl);(iterate 2 omega);exact hA|apply zad;(iterate 5 exact rfl);exact zaO hT rfl rfl (hr.mono (fun _ h=>.tail _ (.tail _ h))) zat.enc_len rfl hy2 rfl|apply zay hT;(iterate 5 exact rfl);intro g8|(apply zab (hs:=(hah.mono (by simp)));iterate 7 exact rfl)|(apply zar hT;(iterate 6 exact rfl);exact sX;(iterate 3 exact rfl);exact nle rfl)|(apply zad;(iterate 5 exact rfl);first|(apply zaF hT;exact rfl;exact rfl;exact mX;exact rfl))|apply zan;iterate 2 exact rfl|(apply zal;exact rfl;all_goals(intro hb;(try simp only[hb]);(first|replace hb:=odt hb|replace hb:=odf hb);(try omega))))
    all_goals first
     |(exfalso;omega)
     |(refine zaD (k+1) (by(try dsimp only);omega) (by(try dsimp only);omega) ⟨rfl,rfl,rfl,rfl,rfl,rfl,trivial⟩ ?_
       (try dsimp only)
       rw[hst]
       exact dX)
     |(apply zdt;refine zaD (k+1) (by(try dsimp only);omega) (by(try dsimp only);omega) ⟨rfl,rfl,rfl,rfl,rfl,rfl,trivial⟩ ?_
       (try dsimp only)
       rw[hst]
       exact dX)
     |skip
   ·rw[hc]at hah hst
    rw[if_pos rfl]at hst
    repeat' (first|apply zah|apply zaa|apply zam|apply zaj|apply zag|apply zac hT;iterate 4 exact rfl|apply zaM hT;(iterate 4 exact rfl);(iterate 2 omega)|apply zaJ hT;(iterate 8 exact rfl);(iterate 2 omega);exact hA|apply zad;(iterate 5 exact rfl);exact zaO hT rfl rfl (hr.mono (fun _ h=>.tail _ (.tail _ h))) zat.enc_len rfl hy2 rfl|apply zay hT;(iterate 5 exact rfl);intro g8|(apply zab (hs:=(hah.mono (by simp)));iterate 7 exact rfl)|(apply zar hT;(iterate 6 exact rfl);exact sX;(iterate 3 exact rfl);exact nle rfl)|(apply zad;(iterate 5 exact rfl);first|(apply zaF hT;exact rfl;exact rfl;exact mX;exact rfl))|apply zas;iterate 2 exact rfl|(apply zal;exact rfl;all_goals(intro hb;(try simp only[hb]);(first|replace hb:=odt hb|replace hb:=odf hb);(try omega))))
    all_goals first
     |(exfalso;omega)
     |(refine zaD (k+1) (by(try dsimp only);omega) (by(try dsimp only);omega) ⟨rfl,rfl,rfl,rfl,rfl,rfl,trivial⟩ ?_
       (try dsimp only)
       rw[hst]
       exact dX)
     |(apply zdt;refine zaD (k+1) (by(try dsimp only);omega) (by(try dsimp only);omega) ⟨rfl,rfl,rfl,rfl,rfl,rfl,trivial⟩ ?_
       (try dsimp only)
       rw[hst]
       exact dX)
     |skip
  ·obtain rfl:k=l.length:=by omega
   have hd1:decide ((l.length:Int)<(l.length:Int))=false:=by simp
   rw[List.take_length]
   repeat' (first|apply zah|apply zaa|apply zak|apply zaN|apply zag|apply zac hT;iterate 4 exact rfl|(apply zar hT;(iterate 6 exact rfl);exact sX;(iterate 3 exact rfl);exact nle rfl)|(apply zad;(iterate 5 exact rfl);first|(apply zaF hT;exact rfl;exact rfl;exact mX;exact rfl))|(apply zal;exact rfl;all_goals(intro hb;(try simp only[hb]);(first|replace hb:=odt hb|replace hb:=odf hb);(try omega))))
   all_goals first
    |(exfalso;omega)
    |(apply zeE;exact rfl;exact zaF hT rfl rfl mem0 rfl;exact rfl;exact⟨rfl,dX⟩)
    |skip
end Go.Proofs.YteocfhdocpeokaaGreat
namespace Go.Proofs.YteocfhdocpeokaaGreat
open Go Go.Sl
attribute [local irreducible] AW ES Ld RetQ
set_option maxRecDepth 100000
theorem zhy (W:World)(h:List zao)(A:Option Addr)(n c:Nat)(l:List zat)(hn:l.length=n)(hr:zaz W h A n 6 (l.flatMap zat.enc))(fn:FuncId)(cap:List Value)(p:zat→Bool)
 (hf:∀x∈l,zaw Tryz.prog W fn ([.agg x.enc.toArray]++cap) h (.bool (p x)))(hb:n≤4611686018427387903):
 zaw Tryz.prog W 219 [.slice A n c,.func (.func fn) #[] cap.toArray] h (.int .i64 (zaT p l)):=by
 refine zaw.of (fun h' hs=> ?_)
 have hr':=hr.mono hs
 refine zaf Tryz.func219 rfl rfl Tryz.results219 Tryz.ntmps219 rfl rfl ?_
 refine zaI hr' rfl (fun hA=> ?_)
 repeat' (first|apply zah|apply zaa|apply zaj|apply zag|apply zac hT;iterate 4 exact rfl)
 refine zbT (α:=Nat) (E:=fun k=>[(0,.slice A n c),(1,.func (.func fn) #[] cap.toArray),(7,.int .i64 n),(8,.int .i64 k)]) (H:=fun _=>h') (μ:=fun k=>n - k)
  (S:=fun k=>k≤n∧∀(j:Nat) y,j<k→l[j]? =some y→p y=false) 0 (J:=[]) ⟨Nat.zero_le _,fun j y hj=>by omega⟩ ⟨rfl,rfl,rfl,rfl,trivial⟩ (plr _) ?_
 rintro k ⟨hk1,hk2⟩
 by_cases hlt:k<n
 ·obtain⟨x,hx⟩:∃x,l[k]? =some x:=⟨l[k]'(by omega),gge (by omega)⟩
  have hx2:l[(k:Int).toNat]? =some x:=by simpa using hx
  have hfx:=(hf x (mog hx)).mono hs
  have hA':=hA (by omega)
  repeat' (first|apply zah|apply zaa|apply zak|apply zam|apply zaj|apply zag|apply zac hT;iterate 4 exact rfl|apply zaM hT;(iterate 4 exact rfl);(iterate 2 omega)|apply zaJ hT;(iterate 8 exact rfl);(iterate 2 omega);exact hA'|apply zad;(iterate 5 exact rfl);exact zaO hT rfl rfl hr' zat.enc_len rfl hx2 rfl|apply zab (hs:=hfx);iterate 7 exact rfl|(apply zal;exact rfl;all_goals(intro hb;(try simp only[hb]);(first|replace hb:=odt hb|replace hb:=odf hb|skip);(try omega))))
  ·exact zca (J:=[]) rfl (by rw[zds hx hb hk2]) (plr _)
  ·have hpx:=hb
   refine⟨k+1,[],by dsimp only;omega,⟨by omega,fun j y hj hy=> ?_⟩,⟨rfl,rfl,rfl,rfl,trivial⟩,plr _⟩
   by_cases hjk:j<k
   ·exact hk2 j y hjk hy
   ·obtain rfl:j=k:=by omega
    rw[hx]at hy;cases hy;exact hpx
 ·repeat' (first|apply zah|apply zaa|apply zak|apply zaN|apply zag|apply zac hT;iterate 4 exact rfl|(apply zal;exact rfl;all_goals(intro hb;(try simp only[hb]);(first|replace hb:=odt hb|replace hb:=odf hb);(try omega))))
  exact zca (J:=[]) rfl (by rw[zb6 (fun(j:Nat) y hj=>hk2 j y (by have:=(gsi.1 hj).1;omega) hj)]) (plr _)
theorem zjv (W:World)(h:List zao)(A:Option Addr)(n c:Nat)(l:List zat)(hn:l.length=n)(hr:zaz W h A n 6 (l.flatMap zat.enc))(tgt:Value)(htg:∃a,tgt=.int .i64 a)(fn:FuncId)(cap:List Value)(cf:zat→Int)
 (hf:∀x∈l,zaw Tryz.prog W fn ([.agg x.enc.toArray,tgt]++cap) h (.int .i64 (cf x)))(hmono:∀(i j:Nat) x y,i≤j→l[i]? =some x→l[j]? =some y→cf y<0→cf x<0)(hb:n≤2305843009213693951):
 zaw Tryz.prog W 162 [.slice A n c,tgt,.func (.func fn) #[] cap.toArray] h (.tuple #[.int .i64 (bsN cf l),.bool (bsB cf l)]):=by
 obtain⟨ta,rfl⟩:=htg
 refine zaw.of (fun h' hs=> ?_)
 have hr':=hr.mono hs
 refine zaf Tryz.func162 rfl rfl Tryz.results162 Tryz.ntmps162 rfl rfl ?_
 refine zaI hr' rfl (fun hA=> ?_)
 repeat' (first|apply zah|apply zaa|apply zaj|apply zag|apply zac hT;iterate 4 exact rfl)
 refine zbT (α:=Int×Int) (E:=fun p=>[(0,.slice A n c),(2,.func (.func fn) #[] cap.toArray),(1,.int .i64 ta),(8,.int .i64 n),(9,.int .i64 p.1),(10,.int .i64 p.2)]) (H:=fun _=>_) (μ:=fun p=>(p.2 - p.1).toNat)
  (S:=fun p=>0≤p.1∧p.1≤p.2∧p.2≤n∧(∀(k:Nat) y,(k:Int)<p.1→l[k]? =some y→cf y<0)∧(∀(k:Nat) y,p.2≤(k:Int)→l[k]? =some y→¬cf y<0)) (0,(n:Int)) (J:=[])
  ⟨by simp,by simp,by simp,fun k y hk=>by simp at hk;omega,fun k y hk hy=>by have:=(gsi.1 hy).1;simp at hk;omega⟩ ⟨rfl,rfl,rfl,rfl,rfl,rfl,trivial⟩ (plr _) ?_
 rintro⟨i,j⟩ ⟨s1,s2,s3,s4,s5⟩
 simp only at s1 s2 s3 s4 s5
 by_cases hlt:i<j
 ·obtain⟨m,hm⟩:∃m:Nat,(i+j) / 2=(m:Int):=⟨((i+j) / 2).toNat,by omega⟩
  have hm2:((i+j) / 2).toNat=m:=by omega
  obtain⟨x,hx⟩:∃x,l[m]? =some x:=⟨l[m]'(by omega),gge (by omega)⟩
  have hx2:l[((i+j) / 2).toNat]? =some x:=by rw[hm2];exact hx
  have hfx:=(hf x (mog hx)).mono hs
  have hA':=hA (by omega)
  repeat' (first|apply zah|apply zaa|apply zam|apply zaj|apply zag|apply zac hT;iterate 4 exact rfl|apply zaM hT;(iterate 4 exact rfl);(iterate 2 omega)|apply zje hT;(iterate 4 exact rfl);(iterate 2 omega)|apply zkn;iterate 6 exact rfl|apply zaJ hT;(iterate 8 exact rfl);(iterate 2 omega);exact hA'|(apply zad;(iterate 5 exact rfl);first|exact zaO hT rfl rfl hr' zat.enc_len rfl hx2 rfl)|apply zab (hs:=hfx);iterate 7 exact rfl|(apply zal;exact rfl;all_goals(intro hb;(try simp only[hb]);(first|replace hb:=odt hb|replace hb:=odf hb);(try omega))))
  ·have hcx:=hb
   refine⟨((i+j) / 2+1,j),[],by dsimp only;omega,⟨by dsimp only;omega,by dsimp only;omega,s3,fun k y hk hy=> ?_,s5⟩,⟨rfl,rfl,rfl,rfl,rfl,rfl,trivial⟩,plr _⟩
   exact hmono k m y x (by dsimp only at hk;omega) hy hx hcx
  ·have hcx:=hb
   refine⟨(i,(i+j) / 2),[],by dsimp only;omega,⟨s1,by dsimp only;omega,by dsimp only;omega,s4,fun k y hk hy hneg=>hcx (hmono m k x y (by dsimp only at hk;omega) hx hy hneg)⟩,⟨rfl,rfl,rfl,rfl,rfl,rfl,trivial⟩,plr _⟩
 ·obtain⟨m,hm⟩:∃m:Nat,i=(m:Int):=⟨i.toNat,by omega⟩
  subst hm
  obtain rfl:j=(m:Int):=by omega
  have hbs:bsN cf l=m:=zhP (by omega) (fun k y hk hy=>s4 k y (by omega) hy) (fun y hy=>s5 m y (by omega) hy)
  by_cases hmn:m<n
  ·obtain⟨x,hx⟩:∃x,l[m]? =some x:=⟨l[m]'(by omega),gge (by omega)⟩
   have hx2:l[(m:Int).toNat]? =some x:=by simpa using hx
   have hfx:=(hf x (mog hx)).mono hs
   have hA':=hA (by omega)
   have hd:decide ((m:Int)<(n:Int))=true:=by simp;omega
   repeat' (first|apply zah|apply zaa|apply zak|apply zaN|apply zag|apply zac hT;iterate 4 exact rfl|apply zaJ hT;(iterate 8 exact rfl);(iterate 2 omega);exact hA'|(apply zad;(iterate 5 exact rfl);first|exact zaO hT rfl rfl hr' zat.enc_len rfl hx2 rfl)|apply zab (hs:=hfx);iterate 7 exact rfl|(apply zaH;exact rfl;all_goals(intro hb;(try simp only[hb]);(first|replace hb:=odt hb|replace hb:=odf hb);(try omega)))|(apply zal;exact rfl;all_goals(intro hb;(try simp only[hb]);(first|replace hb:=odt hb|replace hb:=odf hb);(try omega))))
   apply ret2;exact rfl;exact rfl
   exact⟨by rw[bsB,hbs,hx],[],plr _⟩
  ·have hx:l[m]? =none:=List.getElem?_eq_none (by omega)
   repeat' (first|apply zah|apply zaa|apply zak|apply zaN|apply zag|apply zac hT;iterate 4 exact rfl|apply zaK;iterate 3 exact rfl|(apply zaH;exact rfl;all_goals(intro hb;(try simp only[hb]);(first|replace hb:=odt hb|replace hb:=odf hb);(try omega)))|(apply zal;exact rfl;all_goals(intro hb;(try simp only[hb]);(first|replace hb:=odt hb|replace hb:=odf hb);(try omega))))
   apply ret2;exact rfl;exact rfl
   exact⟨by rw[bsB,hbs,hx],[],plr _⟩
theorem ziJ (W:World)(h:List zao)(gv g n c o m2 c2:Nat)(vs cur:List Value)(hv:zao.own (some ⟨gv,0,none⟩) 1 1 174 6 vs∈h)(hg:zao.blk g 174 cur∈h)(hne:gv≠g)(hcur:cur.length≠0):
 ∀w,RepS W h w→(callFunc 208 [Value.slice (some ⟨gv,0,none⟩) 1 1,.slice (some ⟨g,o,none⟩) m2 c2].toArray).run Tryz.prog w=.ok (.value (.bool false)) w:=fun w hw=>by
 have h1:=hw.heap_blk hg
 have h2:=(hw.holds _ hv).1
 rcases h2.2 with ⟨hx,_⟩|⟨g',cap,cv,hx,_,hgv,_⟩
 ·cases hx
 ·injection hx with hA _ _
  injection hA with hA
  injection hA with hA _ _
  subst hA
  have hz:∀w,(Go.sizeOf 174).run Tryz.prog w=.ok 6 w:=fun w=>(hT _ _ (rfl:TT.lookup 174 =some ti174)).sz w
  rw[run_callFunc_extern Tryz.func208 (by kernel_rfl) (by kernel_rfl) (by kernel_rfl) (e:=Extern.SlicesOverlaps.overlaps #[140,140] #[4]) (by kernel_rfl)]
  have:=Lib.run_overlaps_apart (P:= Tryz.prog) w 140 4 174 Tryz.underlying140 6 hz ⟨gv,0,none⟩ ⟨g,o,none⟩ 1 1 m2 c2 hne 174 174 cv.size cur.length (by simp[World.shape?,hgv]) (by simp[World.shape?,h1]) hcur (by simp[World.frozen?,hgv]) (by simp[World.frozen?,hgv])
  rw[this]
  rfl
theorem zkw (W:World)(F:List zao)(A:Option Addr)(n c:Nat)(i:Int)(cs:List Value)(gv:Nat)(vs:List Value)(hv:zao.own (some ⟨gv,0,none⟩) 1 1 174 6 vs∈F)(h0:0≤i)(hin:i≤n)(hb:(n+1)*48≤140737488355328):
 zax Tryz.prog W 179 [.slice A n c,.int .i64 i,.slice (some ⟨gv,0,none⟩) 1 1] (.own A n c 174 6 cs::F)
  (fun v h'=>∃A' c',v=.slice A' (n+1) c'∧h'=.own A' (n+1) c' 174 6 (cs.take (i.toNat*6)++vs++cs.drop (i.toNat*6))::F):=by
 obtain⟨i,rfl⟩:=Int.eq_ofNat_of_zero_le h0
 simp only[Int.toNat_natCast]
 refine zax.drop ?_
 refine zaf Tryz.func179 rfl rfl Tryz.results179 Tryz.ntmps179 rfl rfl ?_
 refine zbi mem0 (fun hl hnc hcc hsome hnone hone=> ?_)
 refine zbi (mcm _ hv) (fun hvl _ _ _ _ hvone=> ?_)
 have hvl:vs.length=6:=by simpa using hvl
 have hrvG:∀c0,zaz W (c0::F) (some ⟨gv,0,none⟩) 1 6 vs:=fun c0=>zaz.own (mcm _ hv) (by simpa using hvl) hvone
 have hrv:=hrvG (.own A n c 174 6 cs)
 have hmin1:∀m,0<m→Nat.min 1 m=1:=fun m hm=>by show min 1 m=1;omega
 have hrs:zaz W (.own A n c 174 6 cs::F) A n 6 cs:=zaz.own mem0 hl hone
 by_cases hi:i=n
 ·subst hi
  have he:((i:Int)==(i:Int))=true:=by simp
  repeat' (first|apply zah|apply zaa|apply zak|apply zam|apply zag|apply zac hT;iterate 4 exact rfl|apply zbu hT;(iterate 8 exact rfl);(iterate 3 omega);exact rfl|apply zas;exact rfl;exact he|apply zbb hT;(iterate 10 exact rfl);exact sel0;exact hrv;omega;(show(i+1)*48≤_;omega);intro A' c'|apply zan;iterate 2 exact rfl)
  apply ret1;exact rfl
  refine⟨[],_,plr _,A',c',rfl,?_⟩
  show zao.own A' (i+1) c' 174 6 (cs++vs)::F=_
  rw[List.take_of_length_le (by omega),List.drop_of_length_le (by omega),List.append_nil]
 ·have hlt:i<n:=by omega
  have he:((i:Int)==(n:Int))=false:=by simp;omega
  obtain⟨g,rfl⟩:=hsome (by omega)
  by_cases hroom:n+1≤c
  ·
   refine zbI (fun w hw=> ?_)
   have hnd:=hw.nodup
   have hgv:gv≠g:=by
    intro e
    simp only[List.flatMap_cons,List.nodup_append]at hnd
    exact hnd.2.2 g (by simp[zao.keys]) g (List.mem_flatMap.2 ⟨_,hv,by simp[zao.keys,e]⟩) rfl
   refine⟨_,hw,?_⟩
   refine zfN sel0 (fun cur hcl htk _ _ _ _=> ?_)
   have hr0:zaz W (.blk g 174 cur::F) (some ⟨g,0,none⟩) n 6 cs:=zaz.blk mem0 (by simpa using htk) hl hone
   have hr1:=hr0.cut hnc (show i≤n by omega) (Nat.le_refl n)
   rw[List.take_of_length_le (by rw[List.length_drop,hl,Nat.sub_mul];omega),zcq (by omega)]at hr1
   have hdl:(cs.drop (i*6)).length=(n - i)*6:=hr1.len
   have hmin2:Nat.min (n+1 - i) (n+1 - (i+1))=n - i:=by show min (n+1 - i) (n+1 - (i+1))=n - i;omega
   have hov:=ziJ W (.blk g 174 cur::F) gv g n c ((i+1)*6) (n+1 - (i+1)) (c - (i+1)) vs cur (mcm _ hv) mem0 hgv (by omega)
   refine zfQ (Q':=RetQ Tryz.prog W #[ResultVar.tmp 6].toList (fun v h'=>v=.slice (some ⟨g,0,none⟩) (n+1) c∧h'=.blk g 174 (lay (lay cur (i*6+vs.length) (cs.drop (i*6))) (i*6) vs)::F)) (zdD ?_) ?_
   ·rintro v h' ⟨hv',rfl⟩ w hw
    have hb2:=zfP (cur:=cur) (v:=vs) (S:=cs.drop (i*6)) (a:=i*6) (by omega)
    rw[hb2]at hw
    have htk2:cur.take (i*6)=cs.take (i*6):=by rw[←htk,List.take_take,Nat.min_eq_left (by omega)]
    have hone2:∀u∈cs.take (i*6)++vs++cs.drop (i*6),u.oneCell'=true:=fun u hu=>by
     simp only[lma]at hu
     rcases hu with (hu|hu)|hu
     ·exact hone u (List.mem_of_mem_take hu)
     ·exact hvone u hu
     ·exact hone u (List.mem_of_mem_drop hu)
    have hl2:(cs.take (i*6)++vs++cs.drop (i*6)).length=(n+1)*6:=by simp only[lla,llt,hdl,hvl,hl];omega
    refine⟨_,hw.shut_ (n:=n+1) (c:=c) (k:=6) ?_ ?_ hl2 hroom hcc hone2,[],_,plr _,some ⟨g,0,none⟩,c,hv',rfl⟩
    ·simp only[lla,llt,List.length_drop,hvl,hcl,hl];omega
    ·rw[htk2,←hl2,List.take_left]
   ·repeat' (first|apply zah|apply zaa|apply zak|apply zam|apply zag|apply zac hT;iterate 4 exact rfl|apply zaM hT;(iterate 4 exact rfl);(iterate 2 omega)|apply zaC [] [] hmix;decide+kernel|(apply zbu hT;(iterate 8 exact rfl);(iterate 3 omega);first|exact zcq (by omega))|apply zhN hT;iterate 6 exact rfl|apply zbU hT;(iterate 8 exact rfl);(iterate 2 omega)|apply zan;exact rfl;exact he|apply zfe;(iterate 6 exact rfl);exact hov|(apply zcd hT (k:=6);(iterate 10 exact rfl);exact sel0;exact rfl;exact(show zaz W (.blk g 174 cur::F) (some ⟨g,i*6,none⟩) (Nat.min (n+1 - i) (n+1 - (i+1))) 6 (cs.drop (i*6))from(by rw[hmin2];exact hr1));(show(i+1)*6+(cs.drop (i*6)).length≤cur.length;omega))|(apply zcd hT (k:=6);(iterate 10 exact rfl);exact sel0;exact rfl;exact(show zaz W _ (some ⟨gv,0,none⟩) (Nat.min 1 (n+1 - i)) 6 vs from(by rw[hmin1 _ (by omega)];exact hrvG _));(show i*6+vs.length≤(lay cur ((i+1)*6) (cs.drop (i*6))).length;rw[zcK (by omega)];omega))|apply zas;iterate 2 exact rfl|apply zan;iterate 2 exact rfl|(apply zal;exact rfl;all_goals(intro hb;(try simp only[hb]);(first|replace hb:=odt hb|replace hb:=odf hb);(try omega))))
    apply ret1;exact rfl
    refine⟨rfl,?_⟩
    show zao.blk g 174 (lay (lay cur ((i+1)*6) (cs.drop (i*6))) (i*6) vs)::F=_
    rw[hvl,←Nat.succ_mul]
  ·
   have hz:(ti174.zero.cells.toList).length=6:=rfl
   have hr1:∀c0,zaz W (c0::.own (some ⟨g,0,none⟩) n c 174 6 cs::F) (some ⟨g,i*6,none⟩) (n - i) 6 (cs.drop (i*6)):=fun c0=>by
    have:=(zaz.own (W:=W) (h:=c0::.own (some ⟨g,0,none⟩) n c 174 6 cs::F) mem1 hl hone).cut hnc (show i≤n by omega) (Nat.le_refl n)
    rw[List.take_of_length_le (by rw[List.length_drop,hl,Nat.sub_mul];omega),zcq (by omega)]at this
    exact this
   have hdl:(cs.drop (i*6)).length=(n - i)*6:=(hr1 (.blk 0 0 [])).len
   have hmin3:Nat.min (n - i) (i+(n+1 - i) - (i+1))=n - i:=by show min (n - i) (i+(n+1 - i) - (i+1))=n - i;omega
   refine zfQ (Q':=RetQ Tryz.prog W #[ResultVar.tmp 6].toList (fun v h'=>∃(g2 c2:Nat) (cur:List Value),n+1≤c2∧c2≤9223372036854775807∧cur.length=c2*6∧cur.take (i*6)=cs.take (i*6)∧v=.slice (some ⟨g2,0,none⟩) (n+1) c2∧
    h'=.blk g2 174 (lay (lay cur (i*6) vs) (i*6+vs.length) (cs.drop (i*6)))::.own (some ⟨g,0,none⟩) n c 174 6 cs::F)) (zdD ?_) ?_
   ·rintro v h' ⟨g2,c2,cur,k1,k2,k3,k4,hv',rfl⟩ w hw
    have ha2:=zgF (cur:=cur) (v:=vs) (S:=cs.drop (i*6)) (a:=i*6) (by omega)
    rw[ha2,k4]at hw
    have hone2:∀u∈cs.take (i*6)++vs++cs.drop (i*6),u.oneCell'=true:=fun u hu=>by
     simp only[lma]at hu
     rcases hu with (hu|hu)|hu
     ·exact hone u (List.mem_of_mem_take hu)
     ·exact hvone u hu
     ·exact hone u (List.mem_of_mem_drop hu)
    have hl2:(cs.take (i*6)++vs++cs.drop (i*6)).length=(n+1)*6:=by simp only[lla,llt,hdl,hvl,hl];omega
    refine⟨_,hw.shut_ (n:=n+1) (c:=c2) (k:=6) ?_ ?_ hl2 k1 k2 hone2,[.own (some ⟨g,0,none⟩) n c 174 6 cs],_,sel1,some ⟨g2,0,none⟩,c2,hv',rfl⟩
    ·simp only[lla,llt,List.length_drop,hvl,k3,hl];omega
    ·rw[←hl2,List.take_left]
   ·repeat' (first|apply zah|apply zaa|apply zak|apply zam|apply zag|apply zac hT;iterate 4 exact rfl|apply zaM hT;(iterate 4 exact rfl);(iterate 2 omega)|apply zaC [] [] hmix;decide+kernel|apply zhN hT;iterate 6 exact rfl|apply zbU hT;(iterate 8 exact rfl);(iterate 2 omega)|(apply zbu hT;(iterate 8 exact rfl);(iterate 3 omega);first|exact zcq (by omega))|apply zan;exact rfl;exact he|(apply zfO hT (m:=n+1 - i);(iterate 12 exact rfl);omega;exact hrs.take (show i≤n by omega);omega;omega;omega;(show(i+(n+1 - i))*48≤_;omega);intro g2 c2 hc2)|(apply zcd hT (k:=6);(iterate 10 exact rfl);exact sel0;exact rfl;exact(show zaz W _ (some ⟨gv,0,none⟩) (Nat.min 1 (i+(n+1 - i) - i)) 6 vs from(by rw[hmin1 _ (by omega)];exact(hrvG _).cons));(show i*6+vs.length≤cur.length;omega))|(apply zcd hT (k:=6);(iterate 10 exact rfl);exact sel0;exact rfl;exact(show zaz W _ (some ⟨g,i*6,none⟩) (Nat.min (n - i) (i+(n+1 - i) - (i+1))) 6 (cs.drop (i*6))from(by rw[hmin3];exact hr1 _));(show(i+1)*6+(cs.drop (i*6)).length≤(lay cur (i*6) vs).length;rw[zcK (by omega)];omega))|apply zkm rfl sel0;intro cur hcl htk hc3 hc4;replace hcl:cur.length=c2*6:=hcl|apply zan;iterate 2 exact rfl|(apply zal;exact rfl;all_goals(intro hb;(try simp only[hb]);(first|replace hb:=odt hb|replace hb:=odf hb);(try omega))))
    apply ret1;exact rfl
    refine⟨g2,c2,cur,by omega,hc4,hcl,?_,by show Value.slice (some ⟨g2,0,none⟩) (i+(n+1 - i)) c2=_;rw[show i+(n+1 - i)=n+1 by omega],?_⟩
    ·have e1:cur.take ((i+(n+1 - i))*6)=cs.take (i*6)++repZ ti174.zero.cells.toList (n+1 - i):=htk
     have e2:=congrArg (List.take (i*6)) e1
     rw[List.take_take,Nat.min_eq_left (by omega),List.take_append_of_le_length (by rw[llt];omega),List.take_take,Nat.min_self]at e2
     exact e2
    ·show zao.blk g2 174 (lay (lay cur (i*6) vs) ((i+1)*6) (cs.drop (i*6)))::_=_
     rw[hvl,←Nat.succ_mul]
end Go.Proofs.YteocfhdocpeokaaGreat
namespace Go.Proofs.YteocfhdocpeokaaGreat
open Go Go.Sl
attribute [local irreducible] AW ES EP Ld RetQ
set_option maxRecDepth 100000
def zbk (p:Nat)(A:Option Addr)(c:Nat)(l:List zat)(F:List zao):List zao:=
 .blk p 142 [.slice A l.length c]::.own A l.length c 174 6 (l.flatMap zat.enc)::F
def cQ (id:Int)(q:zat):Int:=cmpI q.id id
def upQ (l:List zat):Prop:=l.Pairwise fun a b=>a.id<b.id
theorem zjw {id:Int}{q:zat}:cQ id q<0↔q.id<id:=by unfold cQ cmpI;split<;>(try split)<;>omega
theorem zpg {l:List zat}(h:upQ l)(id:Int):∀(i j:Nat) x y,i≤j→l[i]? =some x→l[j]? =some y→cQ id y<0→cQ id x<0:=by
 intro i j x y hij hx hy hd
 rw[zjw]at*
 rcases Nat.lt_or_ge i j with hlt|hge
 ·obtain⟨hi,rfl⟩:=gsi.1 hx
  obtain⟨hj,rfl⟩:=gsi.1 hy
  have:=List.pairwise_iff_getElem.1 h i j hi hj hlt
  omega
 ·obtain rfl:i=j:=by omega
  rw[hx]at hy;cases hy;exact hd
theorem znw (W:World)(q:zat)(id:Int):zaw Tryz.prog W 163 [.agg q.enc.toArray,.int .i64 id] [] (.int .i64 (cQ id q)):=by
 refine zaw.ofD (fun h' hs=> ?_)
 refine zaf Tryz.func163 rfl rfl Tryz.results163 Tryz.ntmps163 rfl rfl ?_
 repeat' (first|apply zah|apply zaa|apply zak|apply zag|apply zac hT;iterate 4 exact rfl|(apply zab (hs:=((zqz W _ _).mono (by simp)));iterate 7 exact rfl)|(apply zad;(iterate 5 exact rfl);first|exact zaq hT rfl rfl mem0 rfl rfl)|apply zaA;(iterate 5 exact rfl);intro _)
 apply ret1;exact rfl
 exact⟨rfl,za5 zaX⟩
def znx (id:Int)(l:List zat):Value:=.tuple #[.int .i64 (bsN (cQ id) l),.bool (bsB (cQ id) l)]
theorem ziK (W:World)(p:Nat)(A:Option Addr)(c:Nat)(l:List zat)(id:Int)(hb:l.length≤1000000)(hup:upQ l):
 zaw Tryz.prog W 120 [.pointer (some ⟨p,0,none⟩),.int .i64 id] (zbk p A c l []) (znx id l):=by
 refine zaw.ofD (fun h' hs=> ?_)
 have m1:=hs _ mem0
 have m2:=hs _ mem1
 refine zaf Tryz.func120 rfl rfl Tryz.results120 Tryz.ntmps120 rfl rfl ?_
 refine zbi m2 (fun hl hnc hcc hsome hnone hone=> ?_)
 have hr:=zaz.own (W:=W) m2 hl hone
 have hq:zaw Tryz.prog W 162 [.slice A l.length c,.int .i64 id,.func (.func 163) #[] #[]] h' (.tuple #[.int .i64 (bsN (cQ id) l),.bool (bsB (cQ id) l)]):=
  zjv W _ A _ c l rfl hr _ ⟨id,rfl⟩ _ [] (cQ id) (fun x _=>(znw W x id).mono (by simp)) (zpg hup id) (by omega)
 repeat' (first|apply zah|apply zaa|apply zak|apply zam|apply zag|apply zac hT;iterate 4 exact rfl|apply zab (hs:=hq);iterate 7 exact rfl|(apply zad;(iterate 5 exact rfl);first|exact zaq hT rfl rfl m1 rfl rfl)|apply zan;iterate 2 exact rfl)
 apply ret2;exact rfl;exact rfl
 exact⟨rfl,zaX⟩
theorem zkx (W:World)(h:List zao)(p:Nat)(A:Option Addr)(c:Nat)(l:List zat)(m1:zao.blk p 142 [.slice A l.length c]∈h)(hr:zaz W h A l.length 6 (l.flatMap zat.enc))(hb:l.length≤1000000)
 (fn:FuncId)(cap:List Value)(is:zat→Bool)(hf:∀x∈l,zaw Tryz.prog W fn ([.agg x.enc.toArray]++cap) h (.bool (is x))):
 zax Tryz.prog W 128 [.pointer (some ⟨p,0,none⟩),.func (.func fn) #[] cap.toArray] h (fun v h'=>∃A' c',v=.slice A' (l.filter is).length c'∧h'=.own A' (l.filter is).length c' 174 6 ((l.filter is).flatMap zat.enc)::h∧OwnF A' (l.filter is).length c' 6 ((l.filter is).flatMap zat.enc)):=by
 refine zax.dropF ?_
 refine zaf Tryz.func128 rfl rfl Tryz.results128 Tryz.ntmps128 rfl rfl ?_
 refine zaI hr (by rfl) (fun hA=> ?_)
 repeat' (first|apply zah|apply zaa|apply zam|apply zaj|apply zag|apply zac hT;iterate 4 exact rfl|(apply zad;(iterate 5 exact rfl);first|exact zaq hT rfl rfl m1 rfl rfl)|apply zan;iterate 2 exact rfl)
 refine zbI (fun w hw=>⟨_,hw.own_nil 174 6,?_⟩)
 have hfl:∀k,((l.take k).filter is).length≤k:=fun k=>by
  have:=List.length_filter_le is (l.take k);simp at this;omega
 refine zbT (α:=Nat×List zat×Option Addr×Nat) (E:=fun x=>[(1,.func (.func fn) #[] cap.toArray),(5,.slice x.2.2.1 x.2.1.length x.2.2.2),(13,.slice A l.length c),(14,.int .i64 l.length),(15,.int .i64 x.1)])
  (H:=fun x=>.own x.2.2.1 x.2.1.length x.2.2.2 174 6 (x.2.1.flatMap zat.enc)::h) (μ:=fun x=>l.length - x.1)
  (S:=fun x=>x.1≤l.length∧x.2.1=(l.take x.1).filter is) (0,[],none,0) (J:=[]) ⟨Nat.zero_le _,rfl⟩ ⟨rfl,rfl,rfl,rfl,rfl,trivial⟩ (plr _) ?_
 rintro⟨k,m,A5,c5⟩ ⟨hk,hm⟩
 dsimp only at hk hm ⊢
 have hfk:=hfl k
 rw[←hm]at hfk
 by_cases hlt:k<l.length
 ·obtain⟨x,hx⟩:∃x,l[k]? =some x:=⟨l[k]'(by omega),gge (by omega)⟩
  have hx2:l[(k:Int).toNat]? =some x:=by simpa using hx
  have hA:=hA (by omega)
  have hd1:decide ((k:Int)<(l.length:Int))=true:=by simp;omega
  have hfx:=hf x (mog hx)
  have hstep:(l.take (k+1)).filter is=m++if is x then [x]else []:=by
   rw[List.take_add_one,hx,List.filter_append,←hm]
   cases hh:is x<;>simp[hh]
  cases hh:is x
  ·rw[hh]at hfx hstep
   repeat' (first|apply zah|apply zaa|apply zam|apply zaj|apply zag|apply zac hT;iterate 4 exact rfl|apply zaM hT;(iterate 4 exact rfl);(iterate 2 omega)|apply zaJ hT;(iterate 8 exact rfl);(iterate 2 omega);exact hA|apply zad;(iterate 5 exact rfl);exact zaO hT rfl rfl hr.cons zat.enc_len rfl hx2 rfl|apply zay hT;(iterate 5 exact rfl);intro g7|apply zar hT;(iterate 6 exact rfl);exact sel0;(iterate 3 exact rfl);exact nle rfl|apply zab (hs:=(hfx.mono (fun c hc=>.tail _ (.tail _ hc))));iterate 7 exact rfl|(apply zad;(iterate 5 exact rfl);first|exact zaF hT rfl rfl mem0 rfl)|apply zan;iterate 2 exact rfl|(apply zal;exact rfl;all_goals(intro hb;(try simp only[hb]);(first|replace hb:=odt hb|replace hb:=odf hb);(try omega))))
   exact zaD (k+1,m,A5,c5) (by dsimp only;omega) ⟨by dsimp only;omega,by dsimp only;rw[hstep];simp⟩ ⟨rfl,rfl,rfl,rfl,rfl,trivial⟩ (by apply zaQ;(first|exact sel1);exact dX)
  ·rw[hh]at hfx hstep
   repeat' (first|apply zah|apply zaa|apply zam|apply zaj|apply zag|apply zac hT;iterate 4 exact rfl|apply zaM hT;(iterate 4 exact rfl);(iterate 2 omega)|apply zaJ hT;(iterate 8 exact rfl);(iterate 2 omega);exact hA|apply zad;(iterate 5 exact rfl);exact zaO hT rfl rfl hr.cons zat.enc_len rfl hx2 rfl|apply zay hT;(iterate 5 exact rfl);intro g7|apply zar hT;(iterate 6 exact rfl);exact sel0;(iterate 3 exact rfl);exact nle rfl|apply zab (hs:=(hfx.mono (fun c hc=>.tail _ (.tail _ hc))));iterate 7 exact rfl|apply zaB hT;(iterate 12 exact rfl);intro g|(apply zbb hT;(iterate 10 exact rfl);(first|exact selS sel1);exact zaz.own mem0 rfl (zat.enc_one x);omega;(show(_:Nat)*48≤_;omega);intro A' c')|(apply zad;(iterate 5 exact rfl);first|exact zaF hT rfl rfl mem0 rfl)|apply zas;iterate 2 exact rfl|(apply zal;exact rfl;all_goals(intro hb;(try simp only[hb]);(first|replace hb:=odt hb|replace hb:=odf hb);(try omega))))
   refine zaD (k+1,m++[x],A',c') (by dsimp only;omega) ⟨by dsimp only;omega,by dsimp only;rw[hstep];simp⟩ ?_ ?_
   ·dsimp only;rw[lla];exact⟨rfl,rfl,rfl,rfl,rfl,trivial⟩
   ·dsimp only;rw[lla,List.flatMap_append,List.flatMap_singleton]
    apply zaQ;(first|exact sel0)
    exact dX
 ·obtain rfl:k=l.length:=by omega
  rw[List.take_length]at hm
  subst hm
  have hd1:decide ((l.length:Int)<(l.length:Int))=false:=by simp
  repeat' (first|apply zah|apply zaa|apply zak|apply zaN|apply zag|apply zac hT;iterate 4 exact rfl|(apply zal;exact rfl;all_goals(intro hb;(try simp only[hb]);(first|replace hb:=odt hb|replace hb:=odf hb);(try omega))))
  apply ret1;exact rfl
  exact⟨_,zaX,fun w hw=>⟨A5,c5,rfl,rfl,hw.ownF mem0⟩⟩
end Go.Proofs.YteocfhdocpeokaaGreat
namespace Go.Proofs.YteocfhdocpeokaaGreat
open Go Go.Sl
attribute [local irreducible] AW ES Ld RetQ
set_option maxRecDepth 100000
theorem zgQ (W:World)(F:List zao)(A:Option Addr)(c:Nat)(l:List zat)(fn:FuncId)(cap:List Value)(p:zat→Bool)
 (hf:∀x∈l,zaw Tryz.prog W fn ([.agg x.enc.toArray]++cap) F (.bool (p x)))(hb:l.length≤1000000):
 zax Tryz.prog W 195 [.slice A l.length c,.func (.func fn) #[] cap.toArray] (.own A l.length c 174 6 (l.flatMap zat.enc)::F)
  (fun v h'=>v=.slice A (l.filter fun x=> !p x).length c∧h'=.own A (l.filter fun x=> !p x).length c 174 6 ((l.filter fun x=> !p x).flatMap zat.enc)::F):=by
 have hz:(ti174.zero.cells.toList).length=6:=rfl
 refine zax.conv (R:=fun v h'=>v=.slice A (l.filter fun x=> !p x).length c∧(h'=.own A (l.filter fun x=> !p x).length c 174 6 ((l.filter fun x=> !p x).flatMap zat.enc)::F∨
  ∃(g i:Nat) (m:List zat) (cur:List Value),A=some ⟨g,0,none⟩∧i=(l.filter fun x=> !p x).length∧m.take i=(l.filter fun x=> !p x)∧m.length=l.length∧i≤l.length∧cur.length=c*6∧cur.take (l.length*6)=m.flatMap zat.enc∧l.length≤c∧c≤9223372036854775807∧(∀v∈m.flatMap zat.enc,v.oneCell'=true)∧
   h'=.blk g 174 (lay cur (i*6) (repZ ti174.zero.cells.toList (l.length - i)))::F)) ?_ ?_
 rotate_left
 ·rintro v h' ⟨hv,h|⟨g,i,m,cur,rfl,hi,htm,hml,hil,hcl,htk,hnc,hcc,hone,rfl⟩⟩ w hw
  ·exact⟨h',hw,hv,h⟩
  ·have hzl:(repZ ti174.zero.cells.toList (l.length - i)).length=(l.length - i)*6:=by rw[zdU,hz]
   have hcut:(lay cur (i*6) (repZ ti174.zero.cells.toList (l.length - i))).take (i*6)=(l.filter fun x=> !p x).flatMap zat.enc:=by
    rw[zef (by omega),←htm,←zci zat.enc_len,←htk,List.take_take,Nat.min_eq_left (by omega)]
   refine⟨_,hw.shut_ (n:=i) (c:=c) (k:=6) (by rw[zcK (by omega)];exact hcl) hcut (by rw[zda zat.enc_len,←hi]) (by omega) hcc ?_,hv,by rw[←hi]⟩
   intro u hu
   rw[←htm,←zci zat.enc_len]at hu
   exact hone u (List.mem_of_mem_take hu)
 refine zaf Tryz.func195 rfl rfl Tryz.results195 Tryz.ntmps195 rfl rfl ?_
 refine zbi mem0 (fun hl hnc hcc hsome hnone hone=> ?_)
 have hr:zaz W (.own A l.length c 174 6 (l.flatMap zat.enc)::F) A l.length 6 (l.flatMap zat.enc):=zaz.own mem0 hl hone
 have hix:=zhy W _ A l.length c l rfl hr fn cap p (fun x hx=>(hf x hx).mono (fun c hc=>.tail _ hc)) (by omega)
 have hge:=ziA (p:=p) (l:=l)
 have hlt0:=ziz (p:=p) (l:=l)
 by_cases hi:zaT p l= -1
 ·have hd:(zaT p l== -1)=true:=by simp[hi]
  have hfl:(l.filter fun x=> !p x)=l:=List.filter_eq_self.2 (fun x hx=>by
   have:=zbV.1 (show zaT p l<0 by omega) x hx
   simp[this])
  repeat' (first|apply zah|apply zaa|apply zak|apply zag|apply zac hT;iterate 4 exact rfl|apply zab (hs:=hix);iterate 7 exact rfl|(apply zal;exact rfl;all_goals(intro hb;(try simp only[hb]);(first|replace hb:=odt hb|replace hb:=odf hb);(try omega))))
  apply ret1;exact rfl
  rw[hfl]
  exact⟨rfl,.inl rfl⟩
 ·have hd:(zaT p l== -1)=false:=by simpa using hi
  obtain⟨i0,hi0⟩:∃k:Nat,zaT p l=k:=⟨(zaT p l).toNat,by omega⟩
  obtain⟨x0,hx0,hpx0,hbef⟩:=zeO hi0
  rw[hi0]at hix hd hlt0
  obtain⟨g,rfl⟩:=hsome (by omega)
  repeat' (first|apply zah|apply zaa|apply zam|apply zaj|apply zag|apply zac hT;iterate 4 exact rfl|apply zaM hT;(iterate 4 exact rfl);(iterate 2 omega)|apply zab (hs:=hix);iterate 7 exact rfl|apply zan;iterate 2 exact rfl)
  refine zbT (α:=Nat×Nat×List zat) (E:=fun x=>[(0,.slice (some ⟨g,0,none⟩) l.length c),(1,.func (.func fn) #[] cap.toArray),(5,.int .i64 x.2.1),(6,.int .i64 x.1)]) (H:=fun x=>.own (some ⟨g,0,none⟩) l.length c 174 6 (x.2.2.flatMap zat.enc)::F) (μ:=fun x=>l.length - x.1)
   (S:=fun x=>x.1≤l.length∧x.2.1<x.1∧x.2.2.length=l.length∧x.2.2.take x.2.1=(l.take x.1).filter (fun x=> !p x)∧x.2.2.drop x.1=l.drop x.1) (i0+1,i0,l) (J:=[]) ⟨by dsimp only;omega,by dsimp only;omega,rfl,by
     dsimp only
     rw[List.take_add_one,hx0,List.filter_append]
     simp only[Option.toList_some,List.filter_cons,hpx0,Bool.not_true,Bool.false_eq_true,if_false,List.filter_nil,List.append_nil]
     refine(List.filter_eq_self.2 (fun y hy=> ?_)).symm
     obtain⟨j,hj⟩:=List.getElem?_of_mem hy
     have hj2:=(gsi.1 hj).1
     rw[List.getElem?_take_of_lt (by simp at hj2;omega)]at hj
     simp[hbef j y (by simp at hj2;omega) hj],rfl⟩ ⟨rfl,rfl,rfl,rfl,trivial⟩ (plr _) ?_
  rintro⟨j,i,m⟩ ⟨s1,s2,s3,s4,s5⟩
  dsimp only at s1 s2 s3 s4 s5 ⊢
  refine zbi mem0 (fun hl2 hnc2 _ _ _ hone2=> ?_)
  have hrm:zaz W (.own (some ⟨g,0,none⟩) l.length c 174 6 (m.flatMap zat.enc)::F) (some ⟨g,0,none⟩) l.length 6 (m.flatMap zat.enc):=zaz.own mem0 hl2 hone2
  by_cases hlt:j<l.length
  ·obtain⟨x,hx⟩:∃x,l[j]? =some x:=⟨l[j]'(by omega),gge (by omega)⟩
   have hxm:m[j]? =some x:=by
    have:(m.drop j)[0]? =some x:=by rw[s5,List.getElem?_drop];simpa using hx
    rw[List.getElem?_drop]at this;simpa using this
   have hx2:m[(j:Int).toNat]? =some x:=by simpa using hxm
   have hd1:decide ((j:Int)<(l.length:Int))=true:=by simp;omega
   have hfx:=hf x (mog hx)
   have hstep:(l.take (j+1)).filter (fun x=> !p x)=m.take i++if p x then []else [x]:=by
    rw[List.take_add_one,hx,List.filter_append,←s4]
    cases hh:p x<;>simp[hh]
   have hd5:m.drop (j+1)=l.drop (j+1):=by
    rw[←List.drop_drop (i:=1) (j:=j),s5,List.drop_drop]
   obtain⟨y,hy⟩:∃y,m[i]? =some y:=⟨m[i]'(by omega),gge (by omega)⟩
   cases hh:p x
   ·rw[hh]at hfx hstep
    have hlay:lay (m.flatMap zat.enc) (i*6) x.enc=(m.set i x).flatMap zat.enc:=zbQ zat.enc_len (f:=0) hy (Nat.le_of_ble_eq_true rfl) (by simp[lay,zat.enc_len])
    repeat' (first|apply zah|apply zaa|apply zam|apply zaj|apply zag|apply zac hT;iterate 4 exact rfl|apply zaM hT;(iterate 4 exact rfl);(iterate 2 omega)|apply zaJ hT;(iterate 8 exact rfl);(iterate 2 omega);exact rfl|apply zad;(iterate 5 exact rfl);exact zaO hT rfl rfl hrm zat.enc_len rfl hx2 rfl|apply zay hT;(iterate 5 exact rfl);intro g7|apply zar hT;(iterate 6 exact rfl);exact sel0;(iterate 3 exact rfl);exact nle rfl|apply zab (hs:=(hfx.mono (fun c hc=>.tail _ (.tail _ hc))));iterate 7 exact rfl|(apply zbn hT;(iterate 6 exact rfl);(first|exact sel1);exact rfl;exact rfl;exact rfl;(show i*6+6≤l.length*6;omega);omega)|(apply zad;(iterate 5 exact rfl);first|exact zaF hT rfl rfl mem0 rfl)|apply zas;iterate 2 exact rfl|(apply zal;exact rfl;all_goals(intro hb;(try simp only[hb]);(first|replace hb:=odt hb|replace hb:=odf hb);(try omega))))
    refine zaD (j+1,i+1,m.set i x) (by dsimp only;omega) ⟨by dsimp only;omega,by dsimp only;omega,by dsimp only;simpa using s3,?_,?_⟩ ⟨rfl,rfl,rfl,rfl,trivial⟩ ?_
    ·dsimp only
     rw[hstep,List.take_add_one,List.getElem?_set_self (by omega),List.take_set_of_le (Nat.le_refl i)]
     simp
    ·dsimp only
     rw[List.drop_set_of_lt (by omega),hd5]
    ·dsimp only
     rw[←hlay]
     apply zaQ;(first|exact sel0)
     exact dX
   ·rw[hh]at hfx hstep
    repeat' (first|apply zah|apply zaa|apply zam|apply zaj|apply zag|apply zac hT;iterate 4 exact rfl|apply zaM hT;(iterate 4 exact rfl);(iterate 2 omega)|apply zaJ hT;(iterate 8 exact rfl);(iterate 2 omega);exact rfl|apply zad;(iterate 5 exact rfl);exact zaO hT rfl rfl hrm zat.enc_len rfl hx2 rfl|apply zay hT;(iterate 5 exact rfl);intro g7|apply zar hT;(iterate 6 exact rfl);exact sel0;(iterate 3 exact rfl);exact nle rfl|apply zab (hs:=(hfx.mono (fun c hc=>.tail _ (.tail _ hc))));iterate 7 exact rfl|(apply zad;(iterate 5 exact rfl);first|exact zaF hT rfl rfl mem0 rfl)|apply zan;iterate 2 exact rfl|(apply zal;exact rfl;all_goals(intro hb;(try simp only[hb]);(first|replace hb:=odt hb|replace hb:=odf hb);(try omega))))
    refine zaD (j+1,i,m) (by dsimp only;omega) ⟨by dsimp only;omega,by dsimp only;omega,s3,by dsimp only;rw[hstep];simp,hd5⟩ ⟨rfl,rfl,rfl,rfl,trivial⟩ ?_
    apply zaQ;(first|exact sel1)
    exact dX
  ·obtain rfl:j=l.length:=by omega
   rw[List.take_length]at s4
   have hd1:decide ((l.length:Int)<(l.length:Int))=false:=by simp
   have hil:i=(l.filter fun x=> !p x).length:=by rw[←s4];simp;omega
   refine zfN sel0 (fun cur hcl htk _ _ _ _=> ?_)
   repeat' (first|apply zah|apply zaa|apply zak|apply zaN|apply zag|apply zac hT;iterate 4 exact rfl|apply zbU hT;(iterate 8 exact rfl);(iterate 2 omega)|(apply zbu hT;(iterate 8 exact rfl);(iterate 3 omega);exact zcq (by omega))|apply ziy hT (k:=6);(iterate 9 exact rfl);exact sel0;exact rfl;(show i*6+(l.length - i)*6≤cur.length;omega)|(apply zal;exact rfl;all_goals(intro hb;(try simp only[hb]);(first|replace hb:=odt hb|replace hb:=odf hb);(try omega))))
   apply ret1;exact rfl
   exact⟨by rw[←hil];simp,.inr ⟨g,i,m,cur,rfl,hil,s4,s3,by omega,hcl,htk,hnc,hcc,hone2,rfl⟩⟩
end Go.Proofs.YteocfhdocpeokaaGreat
namespace Go.Proofs.YteocfhdocpeokaaGreat
open Go Go.Sl
attribute [local irreducible] AW ES EP Ld RetQ
set_option maxRecDepth 100000
def zcu (ask tick:Int)(q:zat):Bool:=q.ask==ask&&q.live&&decide (q.expires>tick)
def isOf (dealer:Int)(q:zat):Bool:=q.dealer==dealer&&q.live
def zdq (ask:Int)(q:zat):Bool:=q.ask==ask
theorem zny (W:World)(q:zat)(b1 b2:Nat)(ask tick:Int):
 zaw Tryz.prog W 186 [.agg q.enc.toArray,.pointer (some ⟨b1,0,none⟩),.pointer (some ⟨b2,0,none⟩)] [.blk b1 2 [.int .i64 ask],.blk b2 2 [.int .i64 tick]] (.bool (zcu ask tick q)):=by
 refine zaw.ofD (fun h' hs=> ?_)
 have m1:=hs _ mem0
 have m2:=hs _ mem1
 refine zaf Tryz.func186 rfl rfl Tryz.results186 Tryz.ntmps186 rfl rfl ?_
 cases hl:q.live
 all_goals
  have e:q.enc=[.int .i64 q.id,.int .i64 q.ask,.int .i64 q.dealer,.int .i64 q.price,.int .i64 q.expires,.bool q.live]:=rfl
  rw[hl]at e
  rw[e]
  repeat' (first|apply zah|apply zaa|apply zak|apply zag|apply zac hT;iterate 4 exact rfl|apply zaK;iterate 3 exact rfl|(apply zad;(iterate 5 exact rfl);first|exact zaq hT rfl rfl mem0 rfl rfl)|(apply zad;(iterate 5 exact rfl);first|exact zaq hT rfl rfl (mcm _ m1) rfl rfl)|(apply zad;(iterate 5 exact rfl);first|exact zaq hT rfl rfl (mcm _ m2) rfl rfl)|apply zaA;(iterate 5 exact rfl);intro _|(apply zaH;exact rfl;all_goals(intro hb;(try simp only[hb]);(first|replace hb:=odt hb|replace hb:=odf hb);(try omega))))
 all_goals
  apply ret1;exact rfl
  refine⟨?_,za5 zaX⟩
  simp[zcu,hl, *]
theorem zqL (W:World)(q:zat)(b1:Nat)(dealer:Int):
 zaw Tryz.prog W 129 [.agg q.enc.toArray,.pointer (some ⟨b1,0,none⟩)] [.blk b1 3 [.int .i64 dealer]] (.bool (isOf dealer q)):=by
 refine zaw.ofD (fun h' hs=> ?_)
 have m1:=hs _ mem0
 refine zaf Tryz.func129 rfl rfl Tryz.results129 Tryz.ntmps129 rfl rfl ?_
 repeat' (first|apply zah|apply zaa|apply zak|apply zag|apply zac hT;iterate 4 exact rfl|apply zaK;iterate 3 exact rfl|(apply zad;(iterate 5 exact rfl);first|exact zaq hT rfl rfl mem0 rfl rfl)|(apply zad;(iterate 5 exact rfl);first|exact zaq hT rfl rfl (mcm _ m1) rfl rfl)|apply zaA;(iterate 5 exact rfl);intro _|(apply zaH;exact rfl;all_goals(intro hb;(try simp only[hb]);(first|replace hb:=odt hb|replace hb:=odf hb);(try omega))))
 all_goals
  apply ret1;exact rfl
  refine⟨?_,za5 zaX⟩
  simp[isOf, *]
theorem zmb (W:World)(q:zat)(b1:Nat)(ask:Int):
 zaw Tryz.prog W 194 [.agg q.enc.toArray,.pointer (some ⟨b1,0,none⟩)] [.blk b1 2 [.int .i64 ask]] (.bool (zdq ask q)):=by
 refine zaw.ofD (fun h' hs=> ?_)
 have m1:=hs _ mem0
 refine zaf Tryz.func194 rfl rfl Tryz.results194 Tryz.ntmps194 rfl rfl ?_
 repeat' (first|apply zah|apply zaa|apply zak|apply zag|apply zac hT;iterate 4 exact rfl|(apply zad;(iterate 5 exact rfl);first|exact zaq hT rfl rfl mem0 rfl rfl)|(apply zad;(iterate 5 exact rfl);first|exact zaq hT rfl rfl (mcm _ m1) rfl rfl)|apply zaA;(iterate 5 exact rfl);intro _)
 apply ret1;exact rfl
 exact⟨rfl,za5 zaX⟩
theorem zmc (W:World)(q:zat)(b1:Nat)(ask:Int):
 zaw Tryz.prog W 196 [.agg q.enc.toArray,.pointer (some ⟨b1,0,none⟩)] [.blk b1 2 [.int .i64 ask]] (.bool (zdq ask q)):=by
 refine zaw.ofD (fun h' hs=> ?_)
 have m1:=hs _ mem0
 refine zaf Tryz.func196 rfl rfl Tryz.results196 Tryz.ntmps196 rfl rfl ?_
 repeat' (first|apply zah|apply zaa|apply zak|apply zag|apply zac hT;iterate 4 exact rfl|(apply zad;(iterate 5 exact rfl);first|exact zaq hT rfl rfl mem0 rfl rfl)|(apply zad;(iterate 5 exact rfl);first|exact zaq hT rfl rfl (mcm _ m1) rfl rfl)|apply zaA;(iterate 5 exact rfl);intro _)
 apply ret1;exact rfl
 exact⟨rfl,za5 zaX⟩
theorem zph (W:World)(F:List zao)(p:Nat)(A:Option Addr)(c:Nat)(l:List zat)(ask tick:Int)(hb:l.length≤1000000):
 zax Tryz.prog W 152 [.pointer (some ⟨p,0,none⟩),.int .i64 ask,.int .i64 tick] (zbk p A c l F)
  (fun v h'=>∃A' c',v=.slice A' (l.filter (zcu ask tick)).length c'∧h'=.own A' (l.filter (zcu ask tick)).length c' 174 6 ((l.filter (zcu ask tick)).flatMap zat.enc)::zbk p A c l F∧OwnF A' (l.filter (zcu ask tick)).length c' 6 ((l.filter (zcu ask tick)).flatMap zat.enc)):=by
 refine zax.dropF ?_
 refine zaf Tryz.func152 rfl rfl Tryz.results152 Tryz.ntmps152 rfl rfl ?_
 refine zbi (h:=zbk p A c l F) mem1 (fun hl hnc hcc hsome hnone hone=> ?_)
 have hall:∀g1 g2,zax Tryz.prog W 128 [.pointer (some ⟨p,0,none⟩),.func (.func 186) #[] #[.pointer (some ⟨g1,0,none⟩),.pointer (some ⟨g2,0,none⟩)]] (.blk g2 2 [.int .i64 tick]::.blk g1 2 [.int .i64 ask]::zbk p A c l F) _:=fun g1 g2=>
  zkx W _ p A c l mem2 (zaz.own mem3 hl hone) hb _ [_,_] (zcu ask tick) (fun x _=>(zny W x g1 g2 ask tick).mono (by intro c hc;simp only[List.mem_cons,List.not_mem_nil,or_false]at hc;rcases hc with rfl|rfl<;>simp))
 repeat' (first|apply zah|apply zaa|apply zak|apply zag|apply zac hT;iterate 4 exact rfl|apply zau (hs:=(hall _ _));(iterate 7 exact rfl);rintro _ _ ⟨A',c',rfl,rfl,hf⟩|apply zaA;(iterate 5 exact rfl);intro _)
 apply ret1;exact rfl
 exact⟨.own A' (l.filter (zcu ask tick)).length c' 174 6 ((l.filter (zcu ask tick)).flatMap zat.enc)::zbk p A c l F,by apply zaQ;(first|exact sel0);exact dX,fun w hw=>⟨A',c',rfl,rfl,hf⟩⟩
theorem zrw (W:World)(F:List zao)(p:Nat)(A:Option Addr)(c:Nat)(l:List zat)(dealer:Int)(hb:l.length≤1000000):
 zax Tryz.prog W 85 [.pointer (some ⟨p,0,none⟩),.int .i64 dealer] (zbk p A c l F)
  (fun v h'=>∃A' c',v=.slice A' (l.filter (isOf dealer)).length c'∧h'=.own A' (l.filter (isOf dealer)).length c' 174 6 ((l.filter (isOf dealer)).flatMap zat.enc)::zbk p A c l F∧OwnF A' (l.filter (isOf dealer)).length c' 6 ((l.filter (isOf dealer)).flatMap zat.enc)):=by
 refine zax.dropF ?_
 refine zaf Tryz.func85 rfl rfl Tryz.results85 Tryz.ntmps85 rfl rfl ?_
 refine zbi (h:=zbk p A c l F) mem1 (fun hl hnc hcc hsome hnone hone=> ?_)
 have hall:∀g1,zax Tryz.prog W 128 [.pointer (some ⟨p,0,none⟩),.func (.func 129) #[] #[.pointer (some ⟨g1,0,none⟩)]] (.blk g1 3 [.int .i64 dealer]::zbk p A c l F) _:=fun g1=>
  zkx W _ p A c l mem1 (zaz.own mem2 hl hone) hb _ [_] (isOf dealer) (fun x _=>(zqL W x g1 dealer).mono (by intro c hc;simp only[List.mem_cons,List.not_mem_nil,or_false]at hc;rcases hc with rfl;simp))
 repeat' (first|apply zah|apply zaa|apply zak|apply zag|apply zac hT;iterate 4 exact rfl|apply zau (hs:=(hall _));(iterate 7 exact rfl);rintro _ _ ⟨A',c',rfl,rfl,hf⟩|apply zaA;(iterate 5 exact rfl);intro _)
 apply ret1;exact rfl
 exact⟨.own A' (l.filter (isOf dealer)).length c' 174 6 ((l.filter (isOf dealer)).flatMap zat.enc)::zbk p A c l F,by apply zaQ;(first|exact sel0);exact dX,fun w hw=>⟨A',c',rfl,rfl,hf⟩⟩
/-! ### getting, killing -/
def zsZ :zat:=⟨0,0,0,0,0,false⟩
def getQ (id:Int)(l:List zat):Option zat:=if bsB (cQ id) l then l[bsN (cQ id) l]? else none
theorem zdk {id:Int}{l:List zat}(h:bsB (cQ id) l=true):∃x,l[bsN (cQ id) l]? =some x∧x.id=id∧getQ id l=some x:=by
 unfold bsB at h
 split at h
 ·rename_i x hx
  refine⟨x,hx,?_,?_⟩
  ·have:cQ id x=0:=by simpa using h
   unfold cQ cmpI at this;split at this<;>(try split at this)<;>omega
  ·unfold getQ bsB;rw[hx];simp only at h ⊢;rw[if_pos h]
 ·cases h
theorem zdH {id:Int}{l:List zat}(h:bsB (cQ id) l=false):getQ id l=none:=by unfold getQ;rw[h];rfl
def zb3 (id:Int)(l:List zat):List zat:=match getQ id l with
 |some x=>l.set (bsN (cQ id) l) {x with live:=false}
 |none=>l
def getV (o:Option zat):Value:=match o with
 |some x=>.tuple #[.agg x.enc.toArray,.bool true]
 |none=>.tuple #[.agg zsZ.enc.toArray,.bool false]
theorem ziL (W:World)(p:Nat)(A:Option Addr)(c:Nat)(l:List zat)(id:Int)(hb:l.length≤1000000)(hup:upQ l):
 zaw Tryz.prog W 148 [.pointer (some ⟨p,0,none⟩),.int .i64 id] (zbk p A c l []) (getV (getQ id l)):=by
 refine zaw.ofD (fun h' hs=> ?_)
 have m1:=hs _ mem0
 have m2:=hs _ mem1
 refine zaf Tryz.func148 rfl rfl Tryz.results148 Tryz.ntmps148 rfl rfl ?_
 refine zbi m2 (fun hl hnc hcc hsome hnone hone=> ?_)
 have hr:zaz W h' A l.length 6 (l.flatMap zat.enc):=zaz.own m2 hl hone
 have hfind:=(ziK W p A c l id hb hup).mono (h':=h') hs
 unfold znx at hfind
 cases hB:bsB (cQ id) l
 ·rw[hB]at hfind
  repeat' (first|apply zah|apply zaa|apply zak|apply zag|apply zac hT;iterate 4 exact rfl|apply zay hT;(iterate 5 exact rfl);intro g4|apply zab (hs:=(hfind.mono (fun c hc=>.tail _ hc)));iterate 7 exact rfl|apply zb8 hT;iterate 4 exact rfl|(apply zar hT;(iterate 6 exact rfl);(first|exact sel0);(iterate 3 exact rfl);exact nle rfl)|apply zas;iterate 2 exact rfl)
  apply zeE;exact rfl;exact zaF hT rfl rfl mem0 rfl;exact rfl
  exact⟨by rw[zdH hB];rfl,za5 zaX⟩
 ·obtain⟨x,hx,_,hg⟩:=zdk hB
  rw[hB]at hfind
  have hlt:=(gsi.1 hx).1
  have hx2:l[((bsN (cQ id) l:Nat):Int).toNat]? =some x:=by simpa using hx
  obtain⟨g,hA⟩:=hsome (by omega)
  have hA2:A.isSome=true:=by rw[hA];rfl
  repeat' (first|apply zah|apply zaa|apply zak|apply zam|apply zag|apply zac hT;iterate 4 exact rfl|apply zay hT;(iterate 5 exact rfl);intro g4|apply zab (hs:=(hfind.mono (fun c hc=>.tail _ hc)));iterate 7 exact rfl|apply zaJ hT;(iterate 8 exact rfl);(iterate 2 omega);exact hA2|apply zad;(iterate 5 exact rfl);exact zaO hT rfl rfl hr.cons zat.enc_len rfl hx2 rfl|(apply zar hT;(iterate 6 exact rfl);(first|exact sel0);(iterate 3 exact rfl);exact nle rfl)|(apply zad;(iterate 5 exact rfl);first|exact zaq hT rfl rfl (mcm _ m1) rfl rfl)|apply zan;iterate 2 exact rfl)
  apply zeE;exact rfl;exact zaF hT rfl rfl mem0 rfl;exact rfl
  exact⟨by rw[hg];rfl,za5 zaX⟩
theorem zgn (W:World)(F:List zao)(p:Nat)(A:Option Addr)(c:Nat)(l:List zat)(id:Int)(hb:l.length≤1000000)(hup:upQ l):
 zax Tryz.prog W 79 [.pointer (some ⟨p,0,none⟩),.int .i64 id] (zbk p A c l F) (fun v h'=>v=.bool ((getQ id l).any (·.live))∧h'=zbk p A c (zb3 id l) F):=by
 refine zax.dropTo ?_
 refine zaf Tryz.func79 rfl rfl Tryz.results79 Tryz.ntmps79 rfl rfl ?_
 refine zbi (h:=zbk p A c l F) mem1 (fun hl hnc hcc hsome hnone hone=> ?_)
 have hr:zaz W (zbk p A c l F) A l.length 6 (l.flatMap zat.enc):=zaz.own mem1 hl hone
 have hfind:=(ziK W p A c l id hb hup).mono (h':=zbk p A c l F) (by intro c hc;simp only[zbk,List.mem_cons,List.not_mem_nil,or_false]at hc ⊢;rcases hc with rfl|rfl<;>simp)
 unfold znx at hfind
 cases hB:bsB (cQ id) l
 ·rw[hB]at hfind
  repeat' (first|apply zah|apply zaa|apply zak|apply zag|apply zac hT;iterate 4 exact rfl|apply zaK;iterate 3 exact rfl|apply zab (hs:=hfind);iterate 7 exact rfl|apply zas;iterate 2 exact rfl)
  apply ret1;exact rfl
  exact⟨_,zaX,by rw[zdH hB];rfl,by rw[zb3,zdH hB]⟩
 ·obtain⟨x,hx,_,hg⟩:=zdk hB
  rw[hB]at hfind
  have hlt:=(gsi.1 hx).1
  have hx2:l[((bsN (cQ id) l:Nat):Int).toNat]? =some x:=by simpa using hx
  obtain⟨g,hA⟩:=hsome (by omega)
  have hA2:A.isSome=true:=by rw[hA];rfl
  have hlay:lay (l.flatMap zat.enc) (bsN (cQ id) l*6+5) [.bool false]=(l.set (bsN (cQ id) l) {x with live:=false}).flatMap zat.enc:=zbQ zat.enc_len hx (Nat.le_of_ble_eq_true rfl) rfl
  cases hlv:x.live
  ·repeat' (first|apply zah|apply zaa|apply zak|apply zag|apply zac hT;iterate 4 exact rfl|apply zab (hs:=hfind);iterate 7 exact rfl|apply zaJ hT;(iterate 8 exact rfl);(iterate 2 omega);exact hA2|(apply zad;(iterate 5 exact rfl);exact zbx hT rfl rfl hr zat.enc_len (za4 _ _ _) hx2 (by decide) (show(zat.enc x)[5]? =some (.bool false)by rw[←hlv];rfl))|(apply zad;(iterate 5 exact rfl);first|exact zaq hT rfl rfl mem0 rfl rfl)|apply zas;iterate 2 exact rfl)
   apply ret1;exact rfl
   refine⟨_,zaX,by rw[hg];simp[hlv],?_⟩
   rw[zb3,hg]
   have:l.set (bsN (cQ id) l) {x with live:=false}=l:=by
    have e:({x with live:=false}:zat)=x:=by rw[←hlv]
    rw[e];exact zlb hx
   simp only[this]
  ·repeat' (first|apply zah|apply zaa|apply zak|apply zam|apply zag|apply zac hT;iterate 4 exact rfl|apply zab (hs:=hfind);iterate 7 exact rfl|apply zaJ hT;(iterate 8 exact rfl);(iterate 2 omega);exact hA2|(apply zad;(iterate 5 exact rfl);exact zbx hT rfl rfl hr zat.enc_len (za4 _ _ _) hx2 (by decide) (show(zat.enc x)[5]? =some (.bool true)by rw[←hlv];rfl))|apply zbn hT;(iterate 6 exact rfl);exact sel1;exact za4 _ _ _;exact rfl;exact rfl;(show(bsN (cQ id) l*6+5)+1≤l.length*6;omega);omega|(apply zad;(iterate 5 exact rfl);first|exact zaq hT rfl rfl mem0 rfl rfl)|apply zan;iterate 2 exact rfl)
   apply ret1;exact rfl
   refine⟨zbk p A c (zb3 id l) F,?_,by rw[hg];simp[hlv],rfl⟩
   rw[zb3,hg]
   show za7 _ (.blk p 142 [.slice A (l.set (bsN (cQ id) l) {x with live:=false}).length c]::.own A (l.set (bsN (cQ id) l) {x with live:=false}).length c 174 6 ((l.set (bsN (cQ id) l) {x with live:=false}).flatMap zat.enc)::F)
   rw[←hlay,List.length_set]
   apply zaQ;(first|exact sel1)
   apply zaQ;(first|exact sel0)
   exact dX
def pullE (id dealer:Int)(l:List zat):Int:=match getQ id l with
 |none=>4
 |some x=>if x.dealer=dealer then(if x.live then 0 else 12)else 5
def zd1 (id dealer:Int)(l:List zat):List zat:=if pullE id dealer l=0∨pullE id dealer l=12 then zb3 id l else l
theorem zpi (W:World)(F:List zao)(p:Nat)(A:Option Addr)(c:Nat)(l:List zat)(id dealer:Int)(hb:l.length≤1000000)(hup:upQ l):
 zax Tryz.prog W 178 [.pointer (some ⟨p,0,none⟩),.int .i64 id,.int .i64 dealer] (zbk p A c l F) (fun v h'=>v=.int .i64 (pullE id dealer l)∧h'=zbk p A c (zd1 id dealer l) F):=by
 refine zax.dropTo ?_
 refine zaf Tryz.func178 rfl rfl Tryz.results178 Tryz.ntmps178 rfl rfl ?_
 have hget:=(ziL W p A c l id hb hup).mono (h':=zbk p A c l F) (by intro c hc;simp only[zbk,List.mem_cons,List.not_mem_nil,or_false]at hc ⊢;rcases hc with rfl|rfl<;>simp)
 cases hg:getQ id l with
 |none=>
  rw[hg]at hget
  repeat' (first|apply zah|apply zaa|apply zak|apply zaj|apply zag|apply zac hT;iterate 4 exact rfl|apply zab (hs:=hget);iterate 7 exact rfl|apply zay hT;(iterate 5 exact rfl);intro g7|apply zar hT;(iterate 6 exact rfl);exact sel0;(iterate 3 exact rfl);exact nle rfl|apply zas;iterate 2 exact rfl)
  apply ret1;exact rfl
  exact⟨zbk p A c l F,za5 zaX,by simp[pullE,hg],by simp[zd1,pullE,hg]⟩
 |some x=>
  rw[hg]at hget
  by_cases hd:x.dealer=dealer
  ·have hd1:(x.dealer != dealer)=false:=by simpa using hd
   have hkill:∀g,zax Tryz.prog W 79 [.pointer (some ⟨p,0,none⟩),.int .i64 id] (.blk g 174 x.enc::zbk p A c l F) (fun v h'=>v=.bool x.live∧h'=zbk p A c (zb3 id l) (.blk g 174 x.enc::F)):=fun g=>
    ((zgn W (.blk g 174 x.enc::F) p A c l id hb hup).perm (selS (selS sel0)).symm).mono (fun v h' h=>by rw[hg]at h;simpa using h)
   cases hlv:x.live
   ·rw[hlv]at hkill
    repeat' (first|apply zah|apply zaa|apply zak|apply zaj|apply zag|apply zac hT;iterate 4 exact rfl|apply zab (hs:=hget);iterate 7 exact rfl|apply zay hT;(iterate 5 exact rfl);intro g7|apply zar hT;(iterate 6 exact rfl);exact sel0;(iterate 3 exact rfl);exact nle rfl|apply zau (hs:=(hkill _));(iterate 7 exact rfl);rintro _ _ ⟨rfl,rfl⟩|(apply zad;(iterate 5 exact rfl);first|exact zaq hT rfl rfl mem0 rfl rfl)|apply zas;iterate 2 exact rfl|apply zan;iterate 2 exact rfl|(apply zal;exact rfl;all_goals(intro hb;(try simp only[hb]);(first|replace hb:=zbc hb|replace hb:=zbd hb);(try omega))))
    apply ret1;exact rfl
    exact⟨zbk p A c (zb3 id l) F,by apply zaQ;(first|exact sel0);apply zaQ;(first|exact sel0);exact dX,by simp[pullE,hg,hd,hlv],by simp[zd1,pullE,hg,hd,hlv]⟩
   ·rw[hlv]at hkill
    repeat' (first|apply zah|apply zaa|apply zak|apply zam|apply zaj|apply zag|apply zac hT;iterate 4 exact rfl|apply zab (hs:=hget);iterate 7 exact rfl|apply zay hT;(iterate 5 exact rfl);intro g7|apply zar hT;(iterate 6 exact rfl);exact sel0;(iterate 3 exact rfl);exact nle rfl|apply zau (hs:=(hkill _));(iterate 7 exact rfl);rintro _ _ ⟨rfl,rfl⟩|(apply zad;(iterate 5 exact rfl);first|exact zaq hT rfl rfl mem0 rfl rfl)|apply zan;iterate 2 exact rfl|(apply zal;exact rfl;all_goals(intro hb;(try simp only[hb]);(first|replace hb:=zbc hb|replace hb:=zbd hb);(try omega))))
    apply ret1;exact rfl
    exact⟨zbk p A c (zb3 id l) F,by apply zaQ;(first|exact sel0);apply zaQ;(first|exact sel0);exact dX,by simp[pullE,hg,hd,hlv],by simp[zd1,pullE,hg,hd,hlv]⟩
  ·have hd1:(x.dealer != dealer)=true:=by simpa using hd
   repeat' (first|apply zah|apply zaa|apply zak|apply zaj|apply zag|apply zac hT;iterate 4 exact rfl|apply zab (hs:=hget);iterate 7 exact rfl|apply zay hT;(iterate 5 exact rfl);intro g7|apply zar hT;(iterate 6 exact rfl);exact sel0;(iterate 3 exact rfl);exact nle rfl|(apply zad;(iterate 5 exact rfl);first|exact zaq hT rfl rfl mem0 rfl rfl)|apply zan;iterate 2 exact rfl|(apply zal;exact rfl;all_goals(intro hb;(try simp only[hb]);(first|replace hb:=zbc hb|replace hb:=zbd hb);(try omega))))
   apply ret1;exact rfl
   exact⟨zbk p A c l F,za5 zaX,by simp[pullE,hg,hd],by simp[zd1,pullE,hg,hd]⟩
/-! ### putting -/
def metQ (q x:zat):Bool:=x.ask==q.ask&&x.dealer==q.dealer&&x.live
def offQ (q x:zat):zat:=if metQ q x then{x with live:=false}else x
def oldQ (q:zat)(l:List zat):Int:=l.foldl (fun o x=>if metQ q x then x.id else o) 0
def badQ (q:zat)(l:List zat):Bool:=bsB (cQ q.id) l||decide (q.id<1)||decide (q.ask<1)||decide (q.price<1)||decide (q.dealer<0)|| !q.live
def putQ (q:zat)(l:List zat):List zat:=if badQ q l then l else(l.map (offQ q)).take (bsN (cQ q.id) l)++[q]++(l.map (offQ q)).drop (bsN (cQ q.id) l)
def putV (q:zat)(l:List zat):Value:=if badQ q l then .tuple #[.int .i64 0,.int .i64 1]else .tuple #[.int .i64 (oldQ q l),.int .i64 0]
theorem zqM (W:World)(F:List zao)(p:Nat)(A:Option Addr)(c:Nat)(l:List zat)(q:zat)(hb:l.length≤1000000)(hup:upQ l):
 zax Tryz.prog W 146 [.pointer (some ⟨p,0,none⟩),.agg q.enc.toArray] (zbk p A c l F) (fun v h'=>v=putV q l∧∃A' c',h'=zbk p A' c' (putQ q l) F):=by
 refine zax.dropTo ?_
 refine zaf Tryz.func146 rfl rfl Tryz.results146 Tryz.ntmps146 rfl rfl ?_
 refine zbi (h:=zbk p A c l F) mem1 (fun hl hnc hcc hsome hnone hone=> ?_)
 have hfind:∀g,zaw Tryz.prog W 120 [.pointer (some ⟨p,0,none⟩),.int .i64 q.id] (.blk g 174 q.enc::zbk p A c l F) (znx q.id l):=fun g=>(ziK W p A c l q.id hb hup).mono (by intro c hc;simp only[zbk,List.mem_cons,List.not_mem_nil,or_false]at hc ⊢;rcases hc with rfl|rfl<;>simp)
 unfold znx at hfind
 by_cases hbad:badQ q l=true
 ·have hp:putQ q l=l:=by simp[putQ,hbad]
  have hv:putV q l=.tuple #[.int .i64 0,.int .i64 1]:=by simp[putV,hbad]
  cases hB:bsB (cQ q.id) l
  all_goals
   rw[hB]at hfind
   repeat' (first|apply zah|apply zaa|apply zak|apply zam|apply zaj|apply zag|apply zac hT;iterate 4 exact rfl|apply zaK;iterate 3 exact rfl|apply zab (hs:=(hfind _));iterate 7 exact rfl|(apply zad;(iterate 5 exact rfl);first|exact zaq hT rfl rfl mem0 rfl rfl)|(apply zad;(iterate 5 exact rfl);first|exact zaq hT rfl rfl mem1 rfl rfl)|apply zaA;(iterate 5 exact rfl);intro _|apply zas;iterate 2 exact rfl|(apply zaH;exact rfl;all_goals(intro hb;(try simp only[hb]);(first|replace hb:=odt hb|replace hb:=odf hb);(try omega)))|(apply zal;exact rfl;all_goals(intro hb;(try simp only[hb]);(first|skip);(try omega))))
  all_goals first
   |(apply ret2;exact rfl;exact rfl;exact⟨zbk p A c l F,za5 zaX,hv.symm,A,c,by rw[hp]⟩)
   |skip
  all_goals(exfalso;simp_all [badQ];try omega)
 ·have hbad2:badQ q l=false:=by simpa using hbad
  have hv:putV q l=.tuple #[.int .i64 (oldQ q l),.int .i64 0]:=by simp[putV,hbad]
  simp only[badQ,Bool.or_eq_false_iff,decide_eq_false_iff_not,Bool.not_eq_false']at hbad2
  obtain⟨⟨⟨⟨⟨hB,k1⟩,k2⟩,k3⟩,k4⟩,k5⟩:=hbad2
  have e1:decide (q.id<1)=false:=by simpa using k1
  rw[hB]at hfind
  repeat' (first|apply zah|apply zaa|apply zak|apply zam|apply zaj|apply zag|apply zac hT;iterate 4 exact rfl|apply zaA;(iterate 5 exact rfl);intro g3|apply zab (hs:=(hfind _));iterate 7 exact rfl|(apply zad;(iterate 5 exact rfl);first|exact zaq hT rfl rfl mem0 rfl rfl)|(apply zad;(iterate 5 exact rfl);first|exact zaq hT rfl rfl mem1 rfl rfl)|(apply zaH;exact rfl;all_goals(intro hb;(try simp only[hb]);(first|replace hb:=odt hb|replace hb:=odf hb);(try omega)))|(apply zal;exact rfl;all_goals(intro hb;(try simp only[hb]);(first|skip);(try omega))))
  ·exfalso;simp_all
  refine zbT (α:=Nat×Int×List zat) (E:=fun x=>[(0,.pointer (some ⟨p,0,none⟩)),(3,.pointer (some ⟨g3,0,none⟩)),(4,.int .i64 x.2.1),(6,.int .i64 (bsN (cQ q.id) l)),(51,.int .i64 l.length),(52,.int .i64 x.1)])
   (H:=fun x=>.blk g3 174 q.enc::.blk p 142 [.slice A l.length c]::.own A l.length c 174 6 (x.2.2.flatMap zat.enc)::F) (μ:=fun x=>l.length - x.1)
   (S:=fun x=>x.1≤l.length∧x.2.1=oldQ q (l.take x.1)∧x.2.2=(l.take x.1).map (offQ q)++l.drop x.1) (0,0,l) (J:=[]) ⟨Nat.zero_le _,rfl,rfl⟩ ⟨rfl,rfl,rfl,rfl,rfl,rfl,trivial⟩ (plr _) ?_
  rintro⟨k,old,m⟩ ⟨s1,s2,s3⟩
  dsimp only at s1 s2 s3 ⊢
  have hml:m.length=l.length:=by rw[s3];simp;omega
  have hrd:∀h,zao.own A l.length c 174 6 (m.flatMap zat.enc)∈h→zaz W h A l.length 6 (m.flatMap zat.enc):=fun h hm=>zaz.own hm (by rw[zda zat.enc_len,hml]) (fun v hv=>by obtain⟨y,_,hy⟩:=List.mem_flatMap.1 hv;exact zat.enc_one y v hy)
  by_cases hlt:k<l.length
  ·obtain⟨x,hx⟩:∃x,l[k]? =some x:=⟨l[k]'(by omega),gge (by omega)⟩
   have hlk:((l.take k).map (offQ q)).length=k:=by simp;omega
   have hxm:m[k]? =some x:=by rw[s3,List.getElem?_append_right (by omega),hlk];simpa using hx
   have hx2:m[(k:Int).toNat]? =some x:=by simpa using hxm
   obtain⟨g,hA⟩:=hsome (by omega)
   have hA2:A.isSome=true:=by rw[hA];rfl
   have hd1:decide ((k:Int)<(l.length:Int))=true:=by simp;omega
   have hset:m.set k (offQ q x)=(l.take (k+1)).map (offQ q)++l.drop (k+1):=by
    rw[s3,List.set_append_right _ _ (by omega),hlk,Nat.sub_self,List.take_add_one,hx,List.drop_eq_getElem_cons hlt,List.set_cons_zero]
    simp
   have hold:oldQ q (l.take (k+1))=if metQ q x then x.id else old:=by
    rw[List.take_add_one,hx,oldQ,List.foldl_append,s2];rfl
   cases hmet:metQ q x
   ·have hoff:m.set k (offQ q x)=m:=by rw[show offQ q x=x by simp[offQ,hmet]];exact zlb hxm
    rw[hoff]at hset
    rw[hmet]at hold
    repeat' (first|apply zah|apply zaa|apply zam|apply zaj|apply zag|apply zac hT;iterate 4 exact rfl|apply zaK;iterate 3 exact rfl|apply zaM hT;(iterate 4 exact rfl);(iterate 2 omega)|apply zaC [] [] hmix;decide+kernel|apply zaJ hT;(iterate 8 exact rfl);(iterate 2 omega);exact hA2|(apply zad;(iterate 5 exact rfl);exact zbx hT rfl rfl (hrd _ mem2) zat.enc_len (za4 _ _ _) hx2 (by decide) rfl)|(apply zad;(iterate 5 exact rfl);first|exact zaq hT rfl rfl mem0 rfl rfl)|(apply zad;(iterate 5 exact rfl);first|exact zaq hT rfl rfl mem1 rfl rfl)|apply zan;iterate 2 exact rfl|(apply zaH;exact rfl;all_goals(intro hb;(try simp only[hb]);(first|replace hb:=odt hb|replace hb:=odf hb);(try omega)))|(apply zal;exact rfl;all_goals(intro hb;(try simp only[hb]);(first|replace hb:=odt hb|replace hb:=odf hb|skip);(try omega))))
    all_goals first
     |exact zaD (k+1,old,m) (by dsimp only;omega) ⟨by dsimp only;omega,hold.symm,hset⟩ ⟨rfl,rfl,rfl,rfl,rfl,rfl,trivial⟩ zaX
     |(exfalso;simp_all [metQ])
   ·have hoff:offQ q x={x with live:=false}:=by simp[offQ,hmet]
    rw[hoff]at hset
    rw[hmet]at hold
    have hlay:lay (m.flatMap zat.enc) (k*6+5) [.bool false]=(m.set k {x with live:=false}).flatMap zat.enc:=zbQ zat.enc_len hxm (Nat.le_of_ble_eq_true rfl) rfl
    have hrd2:∀h,zao.own A l.length c 174 6 (lay (m.flatMap zat.enc) (k*6+5) [.bool false])∈h→zaz W h A l.length 6 ((m.set k {x with live:=false}).flatMap zat.enc):=fun h hm=>by
     rw[hlay]at hm
     exact zaz.own hm (by rw[zda zat.enc_len,List.length_set,hml]) (fun v hv=>by obtain⟨y,_,hy⟩:=List.mem_flatMap.1 hv;exact zat.enc_one y v hy)
    have hx3:(m.set k {x with live:=false})[(k:Int).toNat]? =some {x with live:=false}:=by
     rw[Int.toNat_natCast,List.getElem?_set_self (by omega)]
    have hmet':=hmet
    simp only[metQ,Bool.and_eq_true,beq_iff_eq]at hmet'
    obtain⟨⟨n1,n2⟩,n3⟩:=hmet'
    repeat' (first|apply zah|apply zaa|apply zam|apply zaj|apply zag|apply zac hT;iterate 4 exact rfl|apply zaM hT;(iterate 4 exact rfl);(iterate 2 omega)|apply zaC [] [] hmix;decide+kernel|apply zaJ hT;(iterate 8 exact rfl);(iterate 2 omega);exact hA2|(apply zad;(iterate 5 exact rfl);first|exact zbx hT rfl rfl (hrd _ mem2) zat.enc_len (za4 _ _ _) hx2 (by decide) rfl|exact zbx hT rfl rfl (hrd2 _ mem0) zat.enc_len (za4 _ _ _) hx3 (by decide) rfl)|(apply zbn hT;(iterate 6 exact rfl);(first|exact selS sel1);exact za4 _ _ _;exact rfl;exact rfl;(show(k*6+5)+1≤l.length*6;omega);omega)|(apply zad;(iterate 5 exact rfl);first|exact zaq hT rfl rfl mem0 rfl rfl)|(apply zad;(iterate 5 exact rfl);first|exact zaq hT rfl rfl mem1 rfl rfl)|(apply zaH;exact rfl;all_goals(intro hb;(try simp only[hb]);(first|replace hb:=odt hb|replace hb:=odf hb);(try omega)))|(apply zal;exact rfl;all_goals(intro hb;(try simp only[hb]);(first|replace hb:=odt hb|replace hb:=odf hb|skip);(try omega))))
    all_goals first
     |(refine zaD (k+1,x.id,m.set k {x with live:=false}) (by dsimp only;omega) ⟨by dsimp only;omega,hold.symm,hset⟩ ⟨rfl,rfl,rfl,rfl,rfl,rfl,trivial⟩ ?_
       dsimp only
       rw[←hlay]
       apply zaQ;(first|exact sel1)
       apply zaQ;(first|exact sel1)
       apply zaQ;(first|exact sel0)
       exact dX)
     |(exfalso;simp_all)
  ·obtain rfl:k=l.length:=by omega
   have hd1:decide ((l.length:Int)<(l.length:Int))=false:=by simp
   rw[List.take_length]at s2 s3
   rw[List.drop_length,List.append_nil]at s3
   subst s2 s3
   have hle:=zmW (c:=cQ q.id) (l:=l)
   have hpq:putQ q l=(l.map (offQ q)).take (bsN (cQ q.id) l)++[q]++(l.map (offQ q)).drop (bsN (cQ q.id) l):=by simp[putQ,hbad]
   have hplen:(putQ q l).length=l.length+1:=by rw[hpq];simp;omega
   have hc:((l.map (offQ q)).flatMap zat.enc).take ((bsN (cQ q.id) l)*6)++q.enc++((l.map (offQ q)).flatMap zat.enc).drop ((bsN (cQ q.id) l)*6)=(putQ q l).flatMap zat.enc:=by
    rw[zci zat.enc_len,zde zat.enc_len,hpq];simp
   have hins:∀gv,zax Tryz.prog W 179 [.slice A l.length c,.int .i64 (bsN (cQ q.id) l),.slice (some ⟨gv,0,none⟩) 1 1] (.own (some ⟨gv,0,none⟩) 1 1 174 6 q.enc::.blk g3 174 q.enc::.blk p 142 [.slice A l.length c]::.own A l.length c 174 6 ((l.map (offQ q)).flatMap zat.enc)::F) _:=fun gv=>
    (zkw W (.own (some ⟨gv,0,none⟩) 1 1 174 6 q.enc::.blk g3 174 q.enc::.blk p 142 [.slice A l.length c]::F) A l.length c (bsN (cQ q.id) l) ((l.map (offQ q)).flatMap zat.enc) gv q.enc mem0 (by omega) (by omega) (by omega)).perm (selS (selS (selS sel0)))
   repeat' (first|apply zah|apply zaa|apply zak|apply zaN|apply zag|apply zac hT;iterate 4 exact rfl|apply zaC [] [] hmix;decide+kernel|apply zaB hT;(iterate 12 exact rfl);intro gv|apply zau (hs:=(hins _));(iterate 7 exact rfl);rintro _ _ ⟨A',c',rfl,rfl⟩|(apply zar hT;(iterate 6 exact rfl);(first|exact selS (selS sel1));(iterate 3 exact rfl);exact nle rfl)|(apply zad;(iterate 5 exact rfl);first|exact zaF hT rfl rfl mem0 rfl)|(apply zad;(iterate 5 exact rfl);first|exact zaq hT rfl rfl mem1 rfl rfl)|(apply zal;exact rfl;all_goals(intro hb;(try simp only[hb]);(first|replace hb:=odt hb|replace hb:=odf hb);(try omega))))
   apply ret2;exact rfl;exact rfl
   refine⟨zbk p A' c' (putQ q l) F,?_,hv.symm,A',c',rfl⟩
   rw[zbk,hplen,←hc]
   apply zaQ;(first|exact sel0)
   apply zaQ;(first|exact sel0)
   exact dX
end Go.Proofs.YteocfhdocpeokaaGreat
namespace Go.Proofs.YteocfhdocpeokaaGreat
open Go Go.Sl
attribute [local irreducible] AW ES Ld RetQ
set_option maxRecDepth 100000
theorem zjx (W:World)(h:List zao)(A:Option Addr)(n c:Nat)(cs:List Value)(hr:zaz W h A n 10 cs)(hb:n*80≤140737488355328):
 zax Tryz.prog W 102 [.slice A n c] h (fun v h'=>∃A' c',v=.slice A' n c'∧h'=.own A' n c' 87 10 cs::h):=by
 refine zax.drop ?_
 refine zaf Tryz.func102 rfl rfl Tryz.results102 Tryz.ntmps102 rfl rfl ?_
 refine zaI hr rfl (fun hA=> ?_)
 cases A with
 |none=>
  have hn:n=0:=by
   rcases Nat.eq_zero_or_pos n with h|h
   ·exact h
   ·have:=hA h;simp at this
  subst hn
  have hcs:cs=[]:=List.eq_nil_of_length_eq_zero (by simpa using hr.len)
  subst hcs
  refine zbI (fun w hw=>⟨_,hw.own_nil 87 10,?_⟩)
  repeat' (first|apply zah|apply zaa|apply zak|apply zag|apply zac hT;iterate 4 exact rfl|apply zas;iterate 2 exact rfl)
  apply ret1;exact rfl
  exact⟨[],_,plr _,none,0,rfl,rfl⟩
 |some ad=>
  repeat' (first|apply zah|apply zaa|apply zak|apply zam|apply zag|apply zac hT;iterate 4 exact rfl|apply zaB hT;(iterate 12 exact rfl);intro g1|apply zbb hT;(iterate 10 exact rfl);exact sel0;exact hr.cons;omega;(show(0+n)*80≤_;omega);intro A' c'|apply zan;iterate 2 exact rfl)
  apply ret1;exact rfl
  refine⟨[],_,plr _,A',c',by rw[Nat.zero_add],?_⟩
  show zao.own A' (0+n) c' 87 10 ([]++cs)::h=_
  simp
theorem zky (W:World)(h:List zao)(A:Option Addr)(n c:Nat)(l:List AskR)(hn:l.length=n)(hr:zaz W h A n 10 (l.flatMap AskR.enc))(tgt:Value)(htg:∃a,tgt=.int .i64 a)(fn:FuncId)(cap:List Value)(cf:AskR→Int)
 (hf:∀x∈l,zaw Tryz.prog W fn ([.agg x.enc.toArray,tgt]++cap) h (.int .i64 (cf x)))(hmono:∀(i j:Nat) x y,i≤j→l[i]? =some x→l[j]? =some y→cf y<0→cf x<0)(hb:n≤2305843009213693951):
 zaw Tryz.prog W 159 [.slice A n c,tgt,.func (.func fn) #[] cap.toArray] h (.tuple #[.int .i64 (bsN cf l),.bool (bsB cf l)]):=by
 obtain⟨ta,rfl⟩:=htg
 refine zaw.of (fun h' hs=> ?_)
 have hr':=hr.mono hs
 refine zaf Tryz.func159 rfl rfl Tryz.results159 Tryz.ntmps159 rfl rfl ?_
 refine zaI hr' rfl (fun hA=> ?_)
 repeat' (first|apply zah|apply zaa|apply zaj|apply zag|apply zac hT;iterate 4 exact rfl)
 refine zbT (α:=Int×Int) (E:=fun p=>[(0,.slice A n c),(2,.func (.func fn) #[] cap.toArray),(1,.int .i64 ta),(8,.int .i64 n),(9,.int .i64 p.1),(10,.int .i64 p.2)]) (H:=fun _=>_) (μ:=fun p=>(p.2 - p.1).toNat)
  (S:=fun p=>0≤p.1∧p.1≤p.2∧p.2≤n∧(∀(k:Nat) y,(k:Int)<p.1→l[k]? =some y→cf y<0)∧(∀(k:Nat) y,p.2≤(k:Int)→l[k]? =some y→¬cf y<0)) (0,(n:Int)) (J:=[])
  ⟨by simp,by simp,by simp,fun k y hk=>by simp at hk;omega,fun k y hk hy=>by have:=(gsi.1 hy).1;simp at hk;omega⟩ ⟨rfl,rfl,rfl,rfl,rfl,rfl,trivial⟩ (plr _) ?_
 rintro⟨i,j⟩ ⟨s1,s2,s3,s4,s5⟩
 simp only at s1 s2 s3 s4 s5
 by_cases hlt:i<j
 ·obtain⟨m,hm⟩:∃m:Nat,(i+j) / 2=(m:Int):=⟨((i+j) / 2).toNat,by omega⟩
  have hm2:((i+j) / 2).toNat=m:=by omega
  obtain⟨x,hx⟩:∃x,l[m]? =some x:=⟨l[m]'(by omega),gge (by omega)⟩
  have hx2:l[((i+j) / 2).toNat]? =some x:=by rw[hm2];exact hx
  have hfx:=(hf x (mog hx)).mono hs
  have hA':=hA (by omega)
  repeat' (first|apply zah|apply zaa|apply zam|apply zaj|apply zag|apply zac hT;iterate 4 exact rfl|apply zaM hT;(iterate 4 exact rfl);(iterate 2 omega)|apply zje hT;(iterate 4 exact rfl);(iterate 2 omega)|apply zkn;iterate 6 exact rfl|apply zaJ hT;(iterate 8 exact rfl);(iterate 2 omega);exact hA'|(apply zad;(iterate 5 exact rfl);first|exact zaO hT rfl rfl hr' AskR.enc_len rfl hx2 rfl)|apply zab (hs:=hfx);iterate 7 exact rfl|(apply zal;exact rfl;all_goals(intro hb;(try simp only[hb]);(first|replace hb:=odt hb|replace hb:=odf hb);(try omega))))
  ·have hcx:=hb
   refine⟨((i+j) / 2+1,j),[],by dsimp only;omega,⟨by dsimp only;omega,by dsimp only;omega,s3,fun k y hk hy=> ?_,s5⟩,⟨rfl,rfl,rfl,rfl,rfl,rfl,trivial⟩,plr _⟩
   exact hmono k m y x (by dsimp only at hk;omega) hy hx hcx
  ·have hcx:=hb
   refine⟨(i,(i+j) / 2),[],by dsimp only;omega,⟨s1,by dsimp only;omega,by dsimp only;omega,s4,fun k y hk hy hneg=>hcx (hmono m k x y (by dsimp only at hk;omega) hx hy hneg)⟩,⟨rfl,rfl,rfl,rfl,rfl,rfl,trivial⟩,plr _⟩
 ·obtain⟨m,hm⟩:∃m:Nat,i=(m:Int):=⟨i.toNat,by omega⟩
  subst hm
  obtain rfl:j=(m:Int):=by omega
  have hbs:bsN cf l=m:=zhP (by omega) (fun k y hk hy=>s4 k y (by omega) hy) (fun y hy=>s5 m y (by omega) hy)
  by_cases hmn:m<n
  ·obtain⟨x,hx⟩:∃x,l[m]? =some x:=⟨l[m]'(by omega),gge (by omega)⟩
   have hx2:l[(m:Int).toNat]? =some x:=by simpa using hx
   have hfx:=(hf x (mog hx)).mono hs
   have hA':=hA (by omega)
   have hd:decide ((m:Int)<(n:Int))=true:=by simp;omega
   repeat' (first|apply zah|apply zaa|apply zak|apply zaN|apply zag|apply zac hT;iterate 4 exact rfl|apply zaJ hT;(iterate 8 exact rfl);(iterate 2 omega);exact hA'|(apply zad;(iterate 5 exact rfl);first|exact zaO hT rfl rfl hr' AskR.enc_len rfl hx2 rfl)|apply zab (hs:=hfx);iterate 7 exact rfl|(apply zaH;exact rfl;all_goals(intro hb;(try simp only[hb]);(first|replace hb:=odt hb|replace hb:=odf hb);(try omega)))|(apply zal;exact rfl;all_goals(intro hb;(try simp only[hb]);(first|replace hb:=odt hb|replace hb:=odf hb);(try omega))))
   apply ret2;exact rfl;exact rfl
   exact⟨by rw[bsB,hbs,hx],[],plr _⟩
  ·have hx:l[m]? =none:=List.getElem?_eq_none (by omega)
   repeat' (first|apply zah|apply zaa|apply zak|apply zaN|apply zag|apply zac hT;iterate 4 exact rfl|apply zaK;iterate 3 exact rfl|(apply zaH;exact rfl;all_goals(intro hb;(try simp only[hb]);(first|replace hb:=odt hb|replace hb:=odf hb);(try omega)))|(apply zal;exact rfl;all_goals(intro hb;(try simp only[hb]);(first|replace hb:=odt hb|replace hb:=odf hb);(try omega))))
   apply ret2;exact rfl;exact rfl
   exact⟨by rw[bsB,hbs,hx],[],plr _⟩
theorem zjy (W:World)(h:List zao)(gv g n c o m2 c2:Nat)(vs cur:List Value)(hv:zao.own (some ⟨gv,0,none⟩) 1 1 87 10 vs∈h)(hg:zao.blk g 87 cur∈h)(hne:gv≠g)(hcur:cur.length≠0):
 ∀w,RepS W h w→(callFunc 217 [Value.slice (some ⟨gv,0,none⟩) 1 1,.slice (some ⟨g,o,none⟩) m2 c2].toArray).run Tryz.prog w=.ok (.value (.bool false)) w:=fun w hw=>by
 have h1:=hw.heap_blk hg
 have h2:=(hw.holds _ hv).1
 rcases h2.2 with ⟨hx,_⟩|⟨g',cap,cv,hx,_,hgv,_⟩
 ·cases hx
 ·injection hx with hA _ _
  injection hA with hA
  injection hA with hA _ _
  subst hA
  have hz:∀w,(Go.sizeOf 87).run Tryz.prog w=.ok 10 w:=fun w=>(hT _ _ (rfl:TT.lookup 87 =some ti87)).sz w
  rw[run_callFunc_extern Tryz.func217 (by kernel_rfl) (by kernel_rfl) (by kernel_rfl) (e:=Extern.SlicesOverlaps.overlaps #[62,62] #[4]) (by kernel_rfl)]
  have:=Lib.run_overlaps_apart (P:= Tryz.prog) w 62 4 87 Tryz.underlying62 10 hz ⟨gv,0,none⟩ ⟨g,o,none⟩ 1 1 m2 c2 hne 87 87 cv.size cur.length (by simp[World.shape?,hgv]) (by simp[World.shape?,h1]) hcur (by simp[World.frozen?,hgv]) (by simp[World.frozen?,hgv])
  rw[this]
  rfl
theorem zmd (W:World)(F:List zao)(A:Option Addr)(n c:Nat)(i:Int)(cs:List Value)(gv:Nat)(vs:List Value)(hv:zao.own (some ⟨gv,0,none⟩) 1 1 87 10 vs∈F)(h0:0≤i)(hin:i≤n)(hb:(n+1)*80≤140737488355328):
 zax Tryz.prog W 192 [.slice A n c,.int .i64 i,.slice (some ⟨gv,0,none⟩) 1 1] (.own A n c 87 10 cs::F)
  (fun v h'=>∃A' c',v=.slice A' (n+1) c'∧h'=.own A' (n+1) c' 87 10 (cs.take (i.toNat*10)++vs++cs.drop (i.toNat*10))::F):=by
 obtain⟨i,rfl⟩:=Int.eq_ofNat_of_zero_le h0
 simp only[Int.toNat_natCast]
 refine zax.drop ?_
 refine zaf Tryz.func192 rfl rfl Tryz.results192 Tryz.ntmps192 rfl rfl ?_
 refine zbi mem0 (fun hl hnc hcc hsome hnone hone=> ?_)
 refine zbi (mcm _ hv) (fun hvl _ _ _ _ hvone=> ?_)
 have hvl:vs.length=10:=by simpa using hvl
 have hrvG:∀c0,zaz W (c0::F) (some ⟨gv,0,none⟩) 1 10 vs:=fun c0=>zaz.own (mcm _ hv) (by simpa using hvl) hvone
 have hrv:=hrvG (.own A n c 87 10 cs)
 have hmin1:∀m,0<m→Nat.min 1 m=1:=fun m hm=>by show min 1 m=1;omega
 have hrs:zaz W (.own A n c 87 10 cs::F) A n 10 cs:=zaz.own mem0 hl hone
 by_cases hi:i=n
 ·subst hi
  have he:((i:Int)==(i:Int))=true:=by simp
  repeat' (first|apply zah|apply zaa|apply zak|apply zam|apply zag|apply zac hT;iterate 4 exact rfl|apply zbu hT;(iterate 8 exact rfl);(iterate 3 omega);exact rfl|apply zas;exact rfl;exact he|apply zbb hT;(iterate 10 exact rfl);exact sel0;exact hrv;omega;(show(i+1)*80≤_;omega);intro A' c'|apply zan;iterate 2 exact rfl)
  apply ret1;exact rfl
  refine⟨[],_,plr _,A',c',rfl,?_⟩
  show zao.own A' (i+1) c' 87 10 (cs++vs)::F=_
  rw[List.take_of_length_le (by omega),List.drop_of_length_le (by omega),List.append_nil]
 ·have hlt:i<n:=by omega
  have he:((i:Int)==(n:Int))=false:=by simp;omega
  obtain⟨g,rfl⟩:=hsome (by omega)
  by_cases hroom:n+1≤c
  ·
   refine zbI (fun w hw=> ?_)
   have hnd:=hw.nodup
   have hgv:gv≠g:=by
    intro e
    simp only[List.flatMap_cons,List.nodup_append]at hnd
    exact hnd.2.2 g (by simp[zao.keys]) g (List.mem_flatMap.2 ⟨_,hv,by simp[zao.keys,e]⟩) rfl
   refine⟨_,hw,?_⟩
   refine zfN sel0 (fun cur hcl htk _ _ _ _=> ?_)
   have hr0:zaz W (.blk g 87 cur::F) (some ⟨g,0,none⟩) n 10 cs:=zaz.blk mem0 (by simpa using htk) hl hone
   have hr1:=hr0.cut hnc (show i≤n by omega) (Nat.le_refl n)
   rw[List.take_of_length_le (by rw[List.length_drop,hl,Nat.sub_mul];omega),zcq (by omega)]at hr1
   have hdl:(cs.drop (i*10)).length=(n - i)*10:=hr1.len
   have hmin2:Nat.min (n+1 - i) (n+1 - (i+1))=n - i:=by show min (n+1 - i) (n+1 - (i+1))=n - i;omega
   have hov:=zjy W (.blk g 87 cur::F) gv g n c ((i+1)*10) (n+1 - (i+1)) (c - (i+1)) vs cur (mcm _ hv) mem0 hgv (by omega)
   refine zfQ (Q':=RetQ Tryz.prog W #[ResultVar.tmp 6].toList (fun v h'=>v=.slice (some ⟨g,0,none⟩) (n+1) c∧h'=.blk g 87 (lay (lay cur (i*10+vs.length) (cs.drop (i*10))) (i*10) vs)::F)) (zdD ?_) ?_
   ·rintro v h' ⟨hv',rfl⟩ w hw
    have hb2:=zfP (cur:=cur) (v:=vs) (S:=cs.drop (i*10)) (a:=i*10) (by omega)
    rw[hb2]at hw
    have htk2:cur.take (i*10)=cs.take (i*10):=by rw[←htk,List.take_take,Nat.min_eq_left (by omega)]
    have hone2:∀u∈cs.take (i*10)++vs++cs.drop (i*10),u.oneCell'=true:=fun u hu=>by
     simp only[lma]at hu
     rcases hu with (hu|hu)|hu
     ·exact hone u (List.mem_of_mem_take hu)
     ·exact hvone u hu
     ·exact hone u (List.mem_of_mem_drop hu)
    have hl2:(cs.take (i*10)++vs++cs.drop (i*10)).length=(n+1)*10:=by simp only[lla,llt,hdl,hvl,hl];omega
    refine⟨_,hw.shut_ (n:=n+1) (c:=c) (k:=10) ?_ ?_ hl2 hroom hcc hone2,[],_,plr _,some ⟨g,0,none⟩,c,hv',rfl⟩
    ·simp only[lla,llt,List.length_drop,hvl,hcl,hl];omega
    ·rw[htk2,←hl2,List.take_left]
   ·repeat' (first|apply zah|apply zaa|apply zak|apply zam|apply zag|apply zac hT;iterate 4 exact rfl|apply zaM hT;(iterate 4 exact rfl);(iterate 2 omega)|apply zaC [] [] hmix;decide+kernel|(apply zbu hT;(iterate 8 exact rfl);(iterate 3 omega);first|exact zcq (by omega))|apply zhN hT;iterate 6 exact rfl|apply zbU hT;(iterate 8 exact rfl);(iterate 2 omega)|apply zan;exact rfl;exact he|apply zfe;(iterate 6 exact rfl);exact hov|(apply zcd hT (k:=10);(iterate 10 exact rfl);exact sel0;exact rfl;exact(show zaz W (.blk g 87 cur::F) (some ⟨g,i*10,none⟩) (Nat.min (n+1 - i) (n+1 - (i+1))) 10 (cs.drop (i*10))from(by rw[hmin2];exact hr1));(show(i+1)*10+(cs.drop (i*10)).length≤cur.length;omega))|(apply zcd hT (k:=10);(iterate 10 exact rfl);exact sel0;exact rfl;exact(show zaz W _ (some ⟨gv,0,none⟩) (Nat.min 1 (n+1 - i)) 10 vs from(by rw[hmin1 _ (by omega)];exact hrvG _));(show i*10+vs.length≤(lay cur ((i+1)*10) (cs.drop (i*10))).length;rw[zcK (by omega)];omega))|apply zas;iterate 2 exact rfl|apply zan;iterate 2 exact rfl|(apply zal;exact rfl;all_goals(intro hb;(try simp only[hb]);(first|replace hb:=odt hb|replace hb:=odf hb);(try omega))))
    apply ret1;exact rfl
    refine⟨rfl,?_⟩
    show zao.blk g 87 (lay (lay cur ((i+1)*10) (cs.drop (i*10))) (i*10) vs)::F=_
    rw[hvl,←Nat.succ_mul]
  ·
   have hz:(ti87.zero.cells.toList).length=10:=rfl
   have hr1:∀c0,zaz W (c0::.own (some ⟨g,0,none⟩) n c 87 10 cs::F) (some ⟨g,i*10,none⟩) (n - i) 10 (cs.drop (i*10)):=fun c0=>by
    have:=(zaz.own (W:=W) (h:=c0::.own (some ⟨g,0,none⟩) n c 87 10 cs::F) mem1 hl hone).cut hnc (show i≤n by omega) (Nat.le_refl n)
    rw[List.take_of_length_le (by rw[List.length_drop,hl,Nat.sub_mul];omega),zcq (by omega)]at this
    exact this
   have hdl:(cs.drop (i*10)).length=(n - i)*10:=(hr1 (.blk 0 0 [])).len
   have hmin3:Nat.min (n - i) (i+(n+1 - i) - (i+1))=n - i:=by show min (n - i) (i+(n+1 - i) - (i+1))=n - i;omega
   refine zfQ (Q':=RetQ Tryz.prog W #[ResultVar.tmp 6].toList (fun v h'=>∃(g2 c2:Nat) (cur:List Value),n+1≤c2∧c2≤9223372036854775807∧cur.length=c2*10∧cur.take (i*10)=cs.take (i*10)∧v=.slice (some ⟨g2,0,none⟩) (n+1) c2∧
    h'=.blk g2 87 (lay (lay cur (i*10) vs) (i*10+vs.length) (cs.drop (i*10)))::.own (some ⟨g,0,none⟩) n c 87 10 cs::F)) (zdD ?_) ?_
   ·rintro v h' ⟨g2,c2,cur,k1,k2,k3,k4,hv',rfl⟩ w hw
    have ha2:=zgF (cur:=cur) (v:=vs) (S:=cs.drop (i*10)) (a:=i*10) (by omega)
    rw[ha2,k4]at hw
    have hone2:∀u∈cs.take (i*10)++vs++cs.drop (i*10),u.oneCell'=true:=fun u hu=>by
     simp only[lma]at hu
     rcases hu with (hu|hu)|hu
     ·exact hone u (List.mem_of_mem_take hu)
     ·exact hvone u hu
     ·exact hone u (List.mem_of_mem_drop hu)
    have hl2:(cs.take (i*10)++vs++cs.drop (i*10)).length=(n+1)*10:=by simp only[lla,llt,hdl,hvl,hl];omega
    refine⟨_,hw.shut_ (n:=n+1) (c:=c2) (k:=10) ?_ ?_ hl2 k1 k2 hone2,[.own (some ⟨g,0,none⟩) n c 87 10 cs],_,sel1,some ⟨g2,0,none⟩,c2,hv',rfl⟩
    ·simp only[lla,llt,List.length_drop,hvl,k3,hl];omega
    ·rw[←hl2,List.take_left]
   ·repeat' (first|apply zah|apply zaa|apply zak|apply zam|apply zag|apply zac hT;iterate 4 exact rfl|apply zaM hT;(iterate 4 exact rfl);(iterate 2 omega)|apply zaC [] [] hmix;decide+kernel|apply zhN hT;iterate 6 exact rfl|apply zbU hT;(iterate 8 exact rfl);(iterate 2 omega)|(apply zbu hT;(iterate 8 exact rfl);(iterate 3 omega);first|exact zcq (by omega))|apply zan;exact rfl;exact he|(apply zfO hT (m:=n+1 - i);(iterate 12 exact rfl);omega;exact hrs.take (show i≤n by omega);omega;omega;omega;(show(i+(n+1 - i))*80≤_;omega);intro g2 c2 hc2)|(apply zcd hT (k:=10);(iterate 10 exact rfl);exact sel0;exact rfl;exact(show zaz W _ (some ⟨gv,0,none⟩) (Nat.min 1 (i+(n+1 - i) - i)) 10 vs from(by rw[hmin1 _ (by omega)];exact(hrvG _).cons));(show i*10+vs.length≤cur.length;omega))|(apply zcd hT (k:=10);(iterate 10 exact rfl);exact sel0;exact rfl;exact(show zaz W _ (some ⟨g,i*10,none⟩) (Nat.min (n - i) (i+(n+1 - i) - (i+1))) 10 (cs.drop (i*10))from(by rw[hmin3];exact hr1 _));(show(i+1)*10+(cs.drop (i*10)).length≤(lay cur (i*10) vs).length;rw[zcK (by omega)];omega))|apply zkm rfl sel0;intro cur hcl htk hc3 hc4;replace hcl:cur.length=c2*10:=hcl|apply zan;iterate 2 exact rfl|(apply zal;exact rfl;all_goals(intro hb;(try simp only[hb]);(first|replace hb:=odt hb|replace hb:=odf hb);(try omega))))
    apply ret1;exact rfl
    refine⟨g2,c2,cur,by omega,hc4,hcl,?_,by show Value.slice (some ⟨g2,0,none⟩) (i+(n+1 - i)) c2=_;rw[show i+(n+1 - i)=n+1 by omega],?_⟩
    ·have e1:cur.take ((i+(n+1 - i))*10)=cs.take (i*10)++repZ ti87.zero.cells.toList (n+1 - i):=htk
     have e2:=congrArg (List.take (i*10)) e1
     rw[List.take_take,Nat.min_eq_left (by omega),List.take_append_of_le_length (by rw[llt];omega),List.take_take,Nat.min_self]at e2
     exact e2
    ·show zao.blk g2 87 (lay (lay cur (i*10) vs) ((i+1)*10) (cs.drop (i*10)))::_=_
     rw[hvl,←Nat.succ_mul]
end Go.Proofs.YteocfhdocpeokaaGreat
namespace Go.Proofs.YteocfhdocpeokaaGreat
open Go Go.Sl
attribute [local irreducible] AW ES EP Ld RetQ
set_option maxRecDepth 100000
def zbl (p:Nat)(A:Option Addr)(c:Nat)(l:List AskR)(F:List zao):List zao:=
 .blk p 144 [.slice A l.length c]::.own A l.length c 87 10 (l.flatMap AskR.enc)::F
def cA (id:Int)(q:AskR):Int:=cmpI q.id id
def upA (l:List AskR):Prop:=l.Pairwise fun a b=>a.id<b.id
theorem zlp {id:Int}{q:AskR}:cA id q<0↔q.id<id:=by unfold cA cmpI;split<;>(try split)<;>omega
theorem zpj {l:List AskR}(h:upA l)(id:Int):∀(i j:Nat) x y,i≤j→l[i]? =some x→l[j]? =some y→cA id y<0→cA id x<0:=by
 intro i j x y hij hx hy hd
 rw[zlp]at*
 rcases Nat.lt_or_ge i j with hlt|hge
 ·obtain⟨hi,rfl⟩:=gsi.1 hx
  obtain⟨hj,rfl⟩:=gsi.1 hy
  have:=List.pairwise_iff_getElem.1 h i j hi hj hlt
  omega
 ·obtain rfl:i=j:=by omega
  rw[hx]at hy;cases hy;exact hd
theorem znz (W:World)(q:AskR)(id:Int):zaw Tryz.prog W 160 [.agg q.enc.toArray,.int .i64 id] [] (.int .i64 (cA id q)):=by
 refine zaw.ofD (fun h' hs=> ?_)
 refine zaf Tryz.func160 rfl rfl Tryz.results160 Tryz.ntmps160 rfl rfl ?_
 repeat' (first|apply zah|apply zaa|apply zak|apply zag|apply zac hT;iterate 4 exact rfl|(apply zab (hs:=((zqz W _ _).mono (by simp)));iterate 7 exact rfl)|(apply zad;(iterate 5 exact rfl);first|exact zaq hT rfl rfl mem0 rfl rfl)|apply zaA;(iterate 5 exact rfl);intro _)
 apply ret1;exact rfl
 exact⟨rfl,za5 zaX⟩
def znA (id:Int)(l:List AskR):Value:=.tuple #[.int .i64 (bsN (cA id) l),.bool (bsB (cA id) l)]
theorem ziM (W:World)(p:Nat)(A:Option Addr)(c:Nat)(l:List AskR)(id:Int)(hb:l.length≤1000000)(hup:upA l):
 zaw Tryz.prog W 119 [.pointer (some ⟨p,0,none⟩),.int .i64 id] (zbl p A c l []) (znA id l):=by
 refine zaw.ofD (fun h' hs=> ?_)
 have m1:=hs _ mem0
 have m2:=hs _ mem1
 refine zaf Tryz.func119 rfl rfl Tryz.results119 Tryz.ntmps119 rfl rfl ?_
 refine zbi m2 (fun hl hnc hcc hsome hnone hone=> ?_)
 have hr:=zaz.own (W:=W) m2 hl hone
 have hq:zaw Tryz.prog W 159 [.slice A l.length c,.int .i64 id,.func (.func 160) #[] #[]] h' (.tuple #[.int .i64 (bsN (cA id) l),.bool (bsB (cA id) l)]):=
  zky W _ A _ c l rfl hr _ ⟨id,rfl⟩ _ [] (cA id) (fun x _=>(znz W x id).mono (by simp)) (zpj hup id) (by omega)
 repeat' (first|apply zah|apply zaa|apply zak|apply zam|apply zag|apply zac hT;iterate 4 exact rfl|apply zab (hs:=hq);iterate 7 exact rfl|(apply zad;(iterate 5 exact rfl);first|exact zaq hT rfl rfl m1 rfl rfl)|apply zan;iterate 2 exact rfl)
 apply ret2;exact rfl;exact rfl
 exact⟨rfl,zaX⟩
theorem zme (W:World)(s:Int):zaw Tryz.prog W 101 [.int .i64 s] [] (.bool (s==1||s==2)):=by
 refine zaw.ofD (fun h' hs=> ?_)
 refine zaf Tryz.func101 rfl rfl Tryz.results101 Tryz.ntmps101 rfl rfl ?_
 repeat' (first|apply zah|apply zaa|apply zak|apply zag|apply zac hT;iterate 4 exact rfl|apply zaK;iterate 3 exact rfl|(apply zaH;exact rfl;all_goals(intro hb;(try simp only[hb]);(first|replace hb:=odt hb|replace hb:=odf hb);(try omega))))
 all_goals
  apply ret1;exact rfl
  refine⟨?_,zaX⟩
  simp[*]
def newA (a:AskR):Bool:=decide (a.id≥1)&&decide (a.qty≥1)&&decide (a.client≥0)&&decide (a.bond≥0)&&(a.side==1||a.side==2)&&a.dealers != 0&&a.state==1&&a.hit==0&&a.until_==0
theorem znB (W:World)(a:AskR):zaw Tryz.prog W 190 [.agg a.enc.toArray] [] (.bool (newA a)):=by
 refine zaw.ofD (fun h' hs=> ?_)
 refine zaf Tryz.func190 rfl rfl Tryz.results190 Tryz.ntmps190 rfl rfl ?_
 repeat' (first|apply zah|apply zaa|apply zak|apply zag|apply zac hT;iterate 4 exact rfl|apply zaK;iterate 3 exact rfl|(apply zab (hs:=((zme W _).mono (by simp)));iterate 7 exact rfl)|(apply zad;(iterate 5 exact rfl);first|exact zaq hT rfl rfl mem0 rfl rfl)|apply zaA;(iterate 5 exact rfl);intro _|(apply zaH;exact rfl;all_goals(intro hb;(try simp only[hb]);(first|replace hb:=odt hb|replace hb:=odf hb|replace hb:=zbc hb|replace hb:=zbd hb|skip);(try omega))))
 all_goals
  apply ret1;exact rfl
  refine⟨?_,za5 zaX⟩
  simp[newA, *]
def ofA (A:Option Addr)(id:Int)(l:List AskR):Value:=if bsB (cA id) l then .tuple #[.pointer (some (adr A (bsN (cA id) l*10))),.int .i64 0]else .tuple #[.pointer none,.int .i64 4]
theorem znC (W:World)(p:Nat)(A:Option Addr)(c:Nat)(l:List AskR)(id:Int)(hb:l.length≤1000000)(hup:upA l):
 zaw Tryz.prog W 164 [.pointer (some ⟨p,0,none⟩),.int .i64 id] (zbl p A c l []) (ofA A id l):=by
 refine zaw.ofD (fun h' hs=> ?_)
 have m1:=hs _ mem0
 have m2:=hs _ mem1
 refine zaf Tryz.func164 rfl rfl Tryz.results164 Tryz.ntmps164 rfl rfl ?_
 refine zbi m2 (fun hl hnc hcc hsome hnone hone=> ?_)
 have hfind:=(ziM W p A c l id hb hup).mono (h':=h') hs
 unfold znA at hfind
 cases hB:bsB (cA id) l
 ·rw[hB]at hfind
  repeat' (first|apply zah|apply zaa|apply zak|apply zag|apply zac hT;iterate 4 exact rfl|apply zab (hs:=hfind);iterate 7 exact rfl|apply zas;iterate 2 exact rfl)
  apply ret2;exact rfl;exact rfl
  exact⟨by simp[ofA,hB],zaX⟩
 ·rw[hB]at hfind
  have hlt:bsN (cA id) l<l.length:=by
   unfold bsB at hB
   split at hB
   ·rename_i x hx;exact(gsi.1 hx).1
   ·cases hB
  obtain⟨g,hA⟩:=hsome (by omega)
  have hA2:A.isSome=true:=by rw[hA];rfl
  repeat' (first|apply zah|apply zaa|apply zak|apply zam|apply zag|apply zac hT;iterate 4 exact rfl|apply zab (hs:=hfind);iterate 7 exact rfl|apply zaJ hT;(iterate 8 exact rfl);(iterate 2 omega);exact hA2|(apply zad;(iterate 5 exact rfl);first|exact zaq hT rfl rfl m1 rfl rfl)|apply zan;iterate 2 exact rfl)
  apply ret2;exact rfl;exact rfl
  refine⟨?_,zaX⟩
  rw[ofA,if_pos hB]
  rfl
theorem zqN (W:World)(h:List zao)(p:Nat)(A:Option Addr)(c:Nat)(l:List AskR)(m1:zao.blk p 144 [.slice A l.length c]∈h)(hr:zaz W h A l.length 10 (l.flatMap AskR.enc))(hb:l.length≤1000000):
 zax Tryz.prog W 66 [.pointer (some ⟨p,0,none⟩)] h (fun v h'=>∃A' c',v=.slice A' l.length c'∧h'=.own A' l.length c' 87 10 (l.flatMap AskR.enc)::h∧OwnF A' l.length c' 10 (l.flatMap AskR.enc)):=by
 refine zax.dropF ?_
 refine zaf Tryz.func66 rfl rfl Tryz.results66 Tryz.ntmps66 rfl rfl ?_
 have hcl:=zjx W h A l.length c (l.flatMap AskR.enc) hr (by omega)
 repeat' (first|apply zah|apply zaa|apply zak|apply zam|apply zag|apply zac hT;iterate 4 exact rfl|apply zau (hs:=hcl);(iterate 7 exact rfl);rintro _ _ ⟨A',c',rfl,rfl⟩|(apply zad;(iterate 5 exact rfl);first|exact zaq hT rfl rfl m1 rfl rfl)|apply zan;iterate 2 exact rfl)
 apply ret1;exact rfl
 exact⟨_,zaX,fun w hw=>⟨A',c',rfl,rfl,hw.ownF mem0⟩⟩
def onA (a:AskR):Bool:=a.state==1||a.state==2
def zgR (l:List AskR):Nat:=(l.filter onA).length
theorem zpk (W:World)(p:Nat)(A:Option Addr)(c:Nat)(l:List AskR)(hb:l.length≤1000000):
 zaw Tryz.prog W 191 [.pointer (some ⟨p,0,none⟩)] (zbl p A c l []) (.int .i64 (zgR l)):=by
 refine zaw.ofD (fun h' hs=> ?_)
 have m1:=hs _ mem0
 have m2:=hs _ mem1
 refine zaf Tryz.func191 rfl rfl Tryz.results191 Tryz.ntmps191 rfl rfl ?_
 refine zbi m2 (fun hl hnc hcc hsome hnone hone=> ?_)
 have hall:=zqN W h' p A c l m1 (zaz.own m2 hl hone) hb
 repeat' (first|apply zah|apply zaa|apply zaj|apply zag|apply zac hT;iterate 4 exact rfl|apply zau (hs:=hall);(iterate 7 exact rfl);rintro _ _ ⟨AO,cO,rfl,rfl,hf⟩)
 have hml:∀k,zgR (l.take k)≤k:=fun k=>by
  have:=List.length_filter_le onA (l.take k);simp at this;unfold zgR;omega
 refine zbT (α:=Nat×Int) (E:=fun x=>[(3,.int .i64 x.2),(7,.slice AO l.length cO),(8,.int .i64 l.length),(9,.int .i64 x.1)]) (H:=fun _=>.own AO l.length cO 87 10 (l.flatMap AskR.enc)::h') (μ:=fun x=>l.length - x.1)
  (S:=fun x=>x.1≤l.length∧x.2=(zgR (l.take x.1):Nat)) (0,0) (J:=[]) ⟨Nat.zero_le _,rfl⟩ ⟨rfl,rfl,rfl,rfl,trivial⟩ (plr _) ?_
 rintro⟨k,n⟩ ⟨hk,hn⟩
 dsimp only at hk hn ⊢
 have hmk:=hml k
 by_cases hlt:k<l.length
 ·obtain⟨x,hx⟩:∃x,l[k]? =some x:=⟨l[k]'(by omega),gge (by omega)⟩
  have hx2:l[(k:Int).toNat]? =some x:=by simpa using hx
  have hA:=hf.some_ (by omega)
  have hd1:decide ((k:Int)<(l.length:Int))=true:=by simp;omega
  have hstep:((zgR (l.take (k+1)):Nat):Int)=if onA x then n+1 else n:=by
   unfold zgR at hn ⊢
   rw[List.take_add_one,hx,List.filter_append,hn]
   cases hh:onA x<;>simp[hh]
  repeat' (first|apply zah|apply zaa|apply zam|apply zaj|apply zag|apply zac hT;iterate 4 exact rfl|apply zaK;iterate 3 exact rfl|apply zaM hT;(iterate 4 exact rfl);(iterate 2 omega)|apply zaJ hT;(iterate 8 exact rfl);(iterate 2 omega);exact hA|apply zad;(iterate 5 exact rfl);exact zaO hT rfl rfl (hf.reads mem0) AskR.enc_len rfl hx2 rfl|apply zay hT;(iterate 5 exact rfl);intro g7|apply zar hT;(iterate 6 exact rfl);exact sel0;(iterate 3 exact rfl);exact nle rfl|(apply zad;(iterate 5 exact rfl);first|exact zaq hT rfl rfl mem0 rfl rfl)|apply zas;iterate 2 exact rfl|(apply zaH;exact rfl;all_goals(intro hb;(try simp only[hb]);(first|replace hb:=odt hb|replace hb:=odf hb);(try omega)))|(apply zal;exact rfl;all_goals(intro hb;(try simp only[hb]);(first|replace hb:=odt hb|replace hb:=odf hb);(try omega))))
  all_goals first
   |exact zaD (k+1,n+1) (by dsimp only;omega) ⟨by dsimp only;omega,by dsimp only;rw[hstep,if_pos (by simp[onA, *])]⟩ ⟨rfl,rfl,rfl,rfl,trivial⟩ (za5 zaX)
   |exact zaD (k+1,n) (by dsimp only;omega) ⟨by dsimp only;omega,by dsimp only;rw[hstep,if_neg (by simp[onA, *])]⟩ ⟨rfl,rfl,rfl,rfl,trivial⟩ (za5 zaX)
 ·obtain rfl:k=l.length:=by omega
  have hd1:decide ((l.length:Int)<(l.length:Int))=false:=by simp
  rw[List.take_length]at hn
  subst hn
  repeat' (first|apply zah|apply zaa|apply zak|apply zaN|apply zag|apply zac hT;iterate 4 exact rfl|(apply zal;exact rfl;all_goals(intro hb;(try simp only[hb]);(first|replace hb:=odt hb|replace hb:=odf hb);(try omega))))
  apply ret1;exact rfl
  exact⟨rfl,za5 zaX⟩
def addE (a:AskR)(l:List AskR):Int:=if bsB (cA a.id) l then 1 else if newA a then(if zgR l≥32 then 3 else 0)else 1
def addA (a:AskR)(l:List AskR):List AskR:=if addE a l=0 then l.take (bsN (cA a.id) l)++[a]++l.drop (bsN (cA a.id) l)else l
theorem zqO (W:World)(F:List zao)(p:Nat)(A:Option Addr)(c:Nat)(l:List AskR)(a:AskR)(hb:l.length≤1000000)(hup:upA l):
 zax Tryz.prog W 158 [.pointer (some ⟨p,0,none⟩),.agg a.enc.toArray] (zbl p A c l F) (fun v h'=>v=.int .i64 (addE a l)∧∃A' c',h'=zbl p A' c' (addA a l) F):=by
 refine zax.dropTo ?_
 refine zaf Tryz.func158 rfl rfl Tryz.results158 Tryz.ntmps158 rfl rfl ?_
 have hfind:∀g,zaw Tryz.prog W 119 [.pointer (some ⟨p,0,none⟩),.int .i64 a.id] (.blk g 87 a.enc::zbl p A c l F) (znA a.id l):=fun g=>(ziM W p A c l a.id hb hup).mono (by intro c hc;simp only[zbl,List.mem_cons,List.not_mem_nil,or_false]at hc ⊢;rcases hc with rfl|rfl<;>simp)
 unfold znA at hfind
 have hmany:∀g,zaw Tryz.prog W 191 [.pointer (some ⟨p,0,none⟩)] (.blk g 87 a.enc::zbl p A c l F) (.int .i64 (zgR l)):=fun g=>(zpk W p A c l hb).mono (by intro c hc;simp only[zbl,List.mem_cons,List.not_mem_nil,or_false]at hc ⊢;rcases hc with rfl|rfl<;>simp)
 have hnew:∀g,zaw Tryz.prog W 190 [.agg a.enc.toArray] (.blk g 87 a.enc::zbl p A c l F) (.bool (newA a)):=fun g=>(znB W a).mono (by simp)
 cases hB:bsB (cA a.id) l
 ·rw[hB]at hfind
  cases hN:newA a
  ·rw[hN]at hnew
   repeat' (first|apply zah|apply zaa|apply zak|apply zag|apply zac hT;iterate 4 exact rfl|apply zab (hs:=(hfind _));iterate 7 exact rfl|apply zab (hs:=(hnew _));iterate 7 exact rfl|(apply zad;(iterate 5 exact rfl);first|exact zaq hT rfl rfl mem0 rfl rfl|exact zaF hT rfl rfl mem0 rfl)|apply zaA;(iterate 5 exact rfl);intro _|apply zas;iterate 2 exact rfl)
   apply ret1;exact rfl
   exact⟨zbl p A c l F,za5 zaX,by simp[addE,hB,hN],A,c,by simp[addA,addE,hB,hN]⟩
  ·rw[hN]at hnew
   by_cases hM:zgR l≥32
   ·have hd:decide (((zgR l:Nat):Int)≥32)=true:=by simp;omega
    repeat' (first|apply zah|apply zaa|apply zak|apply zam|apply zag|apply zac hT;iterate 4 exact rfl|apply zab (hs:=(hfind _));iterate 7 exact rfl|apply zab (hs:=(hnew _));iterate 7 exact rfl|apply zab (hs:=(hmany _));iterate 7 exact rfl|(apply zad;(iterate 5 exact rfl);first|exact zaq hT rfl rfl mem0 rfl rfl|exact zaF hT rfl rfl mem0 rfl)|apply zaA;(iterate 5 exact rfl);intro _|apply zan;iterate 2 exact rfl|(apply zal;exact rfl;all_goals(intro hb;(try simp only[hb]);(first|replace hb:=odt hb|replace hb:=odf hb);(try omega))))
    apply ret1;exact rfl
    exact⟨zbl p A c l F,za5 zaX,by simp[addE,hB,hN,hM],A,c,by simp[addA,addE,hB,hN,hM]⟩
   ·have hd:decide (((zgR l:Nat):Int)≥32)=false:=by simp;omega
    have hE:addE a l=0:=by simp[addE,hB,hN,hM]
    have hle:=zmW (c:=cA a.id) (l:=l)
    have hpa:addA a l=l.take (bsN (cA a.id) l)++[a]++l.drop (bsN (cA a.id) l):=by simp[addA,hE]
    have hplen:(addA a l).length=l.length+1:=by rw[hpa];simp;omega
    have hc:(l.flatMap AskR.enc).take ((bsN (cA a.id) l)*10)++a.enc++(l.flatMap AskR.enc).drop ((bsN (cA a.id) l)*10)=(addA a l).flatMap AskR.enc:=by
     rw[zci AskR.enc_len,zde AskR.enc_len,hpa];simp
    have hins:∀g3 gv,zax Tryz.prog W 192 [.slice A l.length c,.int .i64 (bsN (cA a.id) l),.slice (some ⟨gv,0,none⟩) 1 1] (.own (some ⟨gv,0,none⟩) 1 1 87 10 a.enc::.blk g3 87 a.enc::zbl p A c l F) _:=fun g3 gv=>
     (zmd W (.own (some ⟨gv,0,none⟩) 1 1 87 10 a.enc::.blk g3 87 a.enc::.blk p 144 [.slice A l.length c]::F) A l.length c (bsN (cA a.id) l) (l.flatMap AskR.enc) gv a.enc mem0 (by omega) (by omega) (by omega)).perm (selS (selS (selS sel0)))
    repeat' (first|apply zah|apply zaa|apply zak|apply zam|apply zag|apply zac hT;iterate 4 exact rfl|apply zaC [] [] hmix;decide+kernel|apply zab (hs:=(hfind _));iterate 7 exact rfl|apply zab (hs:=(hnew _));iterate 7 exact rfl|apply zab (hs:=(hmany _));iterate 7 exact rfl|apply zaB hT;(iterate 12 exact rfl);intro gv|apply zau (hs:=(hins _ _));(iterate 7 exact rfl);rintro _ _ ⟨A',c',rfl,rfl⟩|(apply zar hT;(iterate 6 exact rfl);(first|exact selS (selS sel1));(iterate 3 exact rfl);exact nle rfl)|(apply zad;(iterate 5 exact rfl);first|exact zaq hT rfl rfl mem0 rfl rfl|exact zaF hT rfl rfl mem0 rfl)|(apply zad;(iterate 5 exact rfl);first|exact zaq hT rfl rfl mem1 rfl rfl)|apply zaA;(iterate 5 exact rfl);intro _|apply zan;iterate 2 exact rfl|(apply zal;exact rfl;all_goals(intro hb;(try simp only[hb]);(first|replace hb:=odt hb|replace hb:=odf hb);(try omega))))
    apply ret1;exact rfl
    refine⟨zbl p A' c' (addA a l) F,?_,by rw[hE],A',c',rfl⟩
    rw[zbl,hplen,←hc]
    apply zaQ;(first|exact sel0)
    apply zaQ;(first|exact sel0)
    exact dX
 ·rw[hB]at hfind
  repeat' (first|apply zah|apply zaa|apply zak|apply zag|apply zac hT;iterate 4 exact rfl|apply zaK;iterate 3 exact rfl|apply zab (hs:=(hfind _));iterate 7 exact rfl|(apply zad;(iterate 5 exact rfl);first|exact zaq hT rfl rfl mem0 rfl rfl)|apply zaA;(iterate 5 exact rfl);intro _|apply zas;iterate 2 exact rfl)
  apply ret1;exact rfl
  exact⟨zbl p A c l F,za5 zaX,by simp[addE,hB],A,c,by simp[addA,addE,hB]⟩
def getA (id:Int)(l:List AskR):Option AskR:=if bsB (cA id) l then l[bsN (cA id) l]? else none
theorem zdI {id:Int}{l:List AskR}(h:bsB (cA id) l=true):∃x,l[bsN (cA id) l]? =some x∧x.id=id∧getA id l=some x:=by
 unfold bsB at h
 split at h
 ·rename_i x hx
  refine⟨x,hx,?_,?_⟩
  ·have:cA id x=0:=by simpa using h
   unfold cA cmpI at this;split at this<;>(try split at this)<;>omega
  ·unfold getA bsB;rw[hx];simp only at h ⊢;rw[if_pos h]
 ·cases h
theorem zdl {id:Int}{l:List AskR}(h:bsB (cA id) l=false):getA id l=none:=by unfold getA;rw[h];rfl
def setA (id:Int)(x:AskR)(l:List AskR):List AskR:=l.set (bsN (cA id) l) x
def zeU (id quote until_:Int)(l:List AskR):Int:=match getA id l with
 |none=>4
 |some x=>if x.state=1 then(if quote<1∨until_<1 then 1 else 0)else 11
def zdA (id quote until_:Int)(l:List AskR):List AskR:=match getA id l with
 |none=>l
 |some x=>if zeU id quote until_ l=0 then setA id {x with state:=2,hit:=quote,until_:=until_} l else l
theorem zpl (W:World)(F:List zao)(p:Nat)(A:Option Addr)(c:Nat)(l:List AskR)(id quote until_:Int)(hb:l.length≤1000000)(hup:upA l):
 zax Tryz.prog W 184 [.pointer (some ⟨p,0,none⟩),.int .i64 id,.int .i64 quote,.int .i64 until_] (zbl p A c l F) (fun v h'=>v=.int .i64 (zeU id quote until_ l)∧h'=zbl p A c (zdA id quote until_ l) F):=by
 refine zax.dropTo ?_
 refine zaf Tryz.func184 rfl rfl Tryz.results184 Tryz.ntmps184 rfl rfl ?_
 refine zbi (h:=zbl p A c l F) mem1 (fun hl hnc hcc hsome hnone hone=> ?_)
 have hr:zaz W (zbl p A c l F) A l.length 10 (l.flatMap AskR.enc):=zaz.own mem1 hl hone
 have hof:=(znC W p A c l id hb hup).mono (h':=zbl p A c l F) (by intro c hc;simp only[zbl,List.mem_cons,List.not_mem_nil,or_false]at hc ⊢;rcases hc with rfl|rfl<;>simp)
 unfold ofA at hof
 cases hB:bsB (cA id) l
 ·rw[hB]at hof
  repeat' (first|apply zah|apply zaa|apply zak|apply zaj|apply zag|apply zac hT;iterate 4 exact rfl|apply zab (hs:=hof);iterate 7 exact rfl|apply zas;iterate 2 exact rfl)
  apply ret1;exact rfl
  exact⟨_,zaX,by simp[zeU,zdl hB],by simp[zdA,zdl hB]⟩
 ·obtain⟨x,hx,_,hg⟩:=zdI hB
  rw[hB]at hof
  have hlt:=(gsi.1 hx).1
  by_cases hs:x.state=1
  ·have hs1:(x.state != 1)=false:=by simpa using hs
   by_cases hq:quote<1∨until_<1
   ·have hE:zeU id quote until_ l=1:=by simp[zeU,hg,hs,hq]
    repeat' (first|apply zah|apply zaa|apply zak|apply zaj|apply zag|apply zac hT;iterate 4 exact rfl|apply zaK;iterate 3 exact rfl|apply zab (hs:=hof);iterate 7 exact rfl|(apply zad;(iterate 5 exact rfl);exact zbx hT rfl rfl hr AskR.enc_len (za4 _ _ _) hx (by decide) rfl)|apply zas;iterate 2 exact rfl|apply zan;iterate 2 exact rfl|(apply zaH;exact rfl;all_goals(intro hb;(try simp only[hb]);(first|replace hb:=odt hb|replace hb:=odf hb);(try omega)))|(apply zal;exact rfl;all_goals(intro hb;(try simp only[hb]);(first|replace hb:=odt hb|replace hb:=odf hb|replace hb:=zbc hb|replace hb:=zbd hb);(try omega))))
    all_goals first
     |(apply ret1;exact rfl;exact⟨_,zaX,by rw[hE],by simp[zdA,hg,hE]⟩)
     |(exfalso;omega)
   ·have hE:zeU id quote until_ l=0:=by simp[zeU,hg,hs,hq]
    have q1:decide (quote<1)=false:=by simp;omega
    have q2:decide (until_<1)=false:=by simp;omega
    have hlay:lay (lay (lay (l.flatMap AskR.enc) (bsN (cA id) l*10+8) [.int .i64 2]) (bsN (cA id) l*10+9) [.int .i64 quote]) (bsN (cA id) l*10+7) [.int .i64 until_]=(setA id {x with state:=2,hit:=quote,until_:=until_} l).flatMap AskR.enc:=by
     rw[zbQ AskR.enc_len (x':={x with state:=2}) hx (Nat.le_of_ble_eq_true rfl) rfl,
      zbQ AskR.enc_len (x':={x with state:=2,hit:=quote}) (List.getElem?_set_self hlt) (Nat.le_of_ble_eq_true rfl) rfl,
      zbQ AskR.enc_len (x':={x with state:=2,hit:=quote,until_:=until_}) (List.getElem?_set_self (by simpa using hlt)) (Nat.le_of_ble_eq_true rfl) rfl,List.set_set,List.set_set,setA]
    repeat' (first|apply zah|apply zaa|apply zak|apply zam|apply zaj|apply zag|apply zac hT;iterate 4 exact rfl|apply zab (hs:=hof);iterate 7 exact rfl|(apply zad;(iterate 5 exact rfl);exact zbx hT rfl rfl hr AskR.enc_len (za4 _ _ _) hx (by decide) rfl)|(apply zbn hT;(iterate 6 exact rfl);(first|exact sel0|exact sel1);exact za4 _ _ _;exact rfl;exact rfl;(first|show(bsN (cA id) l*10+8)+1≤l.length*10;omega|show(bsN (cA id) l*10+9)+1≤l.length*10;omega|show(bsN (cA id) l*10+7)+1≤l.length*10;omega);omega)|(apply zan;iterate 2 exact rfl)|(apply zaH;exact rfl;all_goals(intro hb;(try simp only[hb]);(first|replace hb:=odt hb|replace hb:=odf hb);(try omega)))|(apply zal;exact rfl;all_goals(intro hb;(try simp only[hb]);(first|replace hb:=odt hb|replace hb:=odf hb|replace hb:=zbc hb|replace hb:=zbd hb);(try omega))))
    apply ret1;exact rfl
    refine⟨zbl p A c (zdA id quote until_ l) F,?_,by rw[hE],rfl⟩
    have hll:zdA id quote until_ l=setA id {x with state:=2,hit:=quote,until_:=until_} l:=by simp[zdA,hg,hE]
    rw[hll,zbl,←hlay,show(setA id {x with state:=2,hit:=quote,until_:=until_} l).length=l.length by simp[setA]]
    apply zaQ;(first|exact sel1)
    apply zaQ;(first|exact sel0)
    exact dX
  ·have hs1:(x.state != 1)=true:=by simpa using hs
   repeat' (first|apply zah|apply zaa|apply zak|apply zaj|apply zag|apply zac hT;iterate 4 exact rfl|apply zab (hs:=hof);iterate 7 exact rfl|(apply zad;(iterate 5 exact rfl);exact zbx hT rfl rfl hr AskR.enc_len (za4 _ _ _) hx (by decide) rfl)|apply zan;iterate 2 exact rfl|(apply zal;exact rfl;all_goals(intro hb;(try simp only[hb]);(first|replace hb:=zbc hb|replace hb:=zbd hb);(try omega))))
   apply ret1;exact rfl
   exact⟨_,zaX,by simp[zeU,hg,hs],by simp[zdA,zeU,hg,hs]⟩
def zhz (id:Int)(l:List AskR):Int:=match getA id l with
 |none=>4
 |some x=>if x.state=2 then 0 else 11
def zd2 (id:Int)(l:List AskR):List AskR:=match getA id l with
 |none=>l
 |some x=>if zhz id l=0 then setA id {x with state:=1,hit:=0,until_:=0} l else l
theorem zpm (W:World)(F:List zao)(p:Nat)(A:Option Addr)(c:Nat)(l:List AskR)(id:Int)(hb:l.length≤1000000)(hup:upA l):
 zax Tryz.prog W 121 [.pointer (some ⟨p,0,none⟩),.int .i64 id] (zbl p A c l F) (fun v h'=>v=.int .i64 (zhz id l)∧h'=zbl p A c (zd2 id l) F):=by
 refine zax.dropTo ?_
 refine zaf Tryz.func121 rfl rfl Tryz.results121 Tryz.ntmps121 rfl rfl ?_
 refine zbi (h:=zbl p A c l F) mem1 (fun hl hnc hcc hsome hnone hone=> ?_)
 have hr:zaz W (zbl p A c l F) A l.length 10 (l.flatMap AskR.enc):=zaz.own mem1 hl hone
 have hof:=(znC W p A c l id hb hup).mono (h':=zbl p A c l F) (by intro c hc;simp only[zbl,List.mem_cons,List.not_mem_nil,or_false]at hc ⊢;rcases hc with rfl|rfl<;>simp)
 unfold ofA at hof
 cases hB:bsB (cA id) l
 ·rw[hB]at hof
  repeat' (first|apply zah|apply zaa|apply zak|apply zaj|apply zag|apply zac hT;iterate 4 exact rfl|apply zab (hs:=hof);iterate 7 exact rfl|apply zas;iterate 2 exact rfl)
  apply ret1;exact rfl
  exact⟨_,zaX,by simp[zhz,zdl hB],by simp[zd2,zdl hB]⟩
 ·obtain⟨x,hx,_,hg⟩:=zdI hB
  rw[hB]at hof
  have hlt:=(gsi.1 hx).1
  by_cases hs:x.state=2
  ·have hs1:(x.state != 2)=false:=by simpa using hs
   have hE:zhz id l=0:=by simp[zhz,hg,hs]
   have hlay:lay (lay (lay (l.flatMap AskR.enc) (bsN (cA id) l*10+8) [.int .i64 1]) (bsN (cA id) l*10+9) [.int .i64 0]) (bsN (cA id) l*10+7) [.int .i64 0]=(setA id {x with state:=1,hit:=0,until_:=0} l).flatMap AskR.enc:=by
    rw[zbQ AskR.enc_len (x':={x with state:=1}) hx (Nat.le_of_ble_eq_true rfl) rfl,
     zbQ AskR.enc_len (x':={x with state:=1,hit:=0}) (List.getElem?_set_self hlt) (Nat.le_of_ble_eq_true rfl) rfl,
     zbQ AskR.enc_len (x':={x with state:=1,hit:=0,until_:=0}) (List.getElem?_set_self (by simpa using hlt)) (Nat.le_of_ble_eq_true rfl) rfl,List.set_set,List.set_set,setA]
   repeat' (first|apply zah|apply zaa|apply zak|apply zam|apply zaj|apply zag|apply zac hT;iterate 4 exact rfl|apply zab (hs:=hof);iterate 7 exact rfl|(apply zad;(iterate 5 exact rfl);exact zbx hT rfl rfl hr AskR.enc_len (za4 _ _ _) hx (by decide) rfl)|(apply zbn hT;(iterate 6 exact rfl);(first|exact sel0|exact sel1);exact za4 _ _ _;exact rfl;exact rfl;(first|show(bsN (cA id) l*10+8)+1≤l.length*10;omega|show(bsN (cA id) l*10+9)+1≤l.length*10;omega|show(bsN (cA id) l*10+7)+1≤l.length*10;omega);omega)|(apply zan;iterate 2 exact rfl)|(apply zal;exact rfl;all_goals(intro hb;(try simp only[hb]);(first|replace hb:=zbc hb|replace hb:=zbd hb);(try omega))))
   apply ret1;exact rfl
   refine⟨zbl p A c (zd2 id l) F,?_,by rw[hE],rfl⟩
   have hll:zd2 id l=setA id {x with state:=1,hit:=0,until_:=0} l:=by simp[zd2,hg,hE]
   rw[hll,zbl,←hlay,show(setA id {x with state:=1,hit:=0,until_:=0} l).length=l.length by simp[setA]]
   apply zaQ;(first|exact sel1)
   apply zaQ;(first|exact sel0)
   exact dX
  ·have hs1:(x.state != 2)=true:=by simpa using hs
   repeat' (first|apply zah|apply zaa|apply zak|apply zaj|apply zag|apply zac hT;iterate 4 exact rfl|apply zab (hs:=hof);iterate 7 exact rfl|(apply zad;(iterate 5 exact rfl);exact zbx hT rfl rfl hr AskR.enc_len (za4 _ _ _) hx (by decide) rfl)|apply zan;iterate 2 exact rfl|(apply zal;exact rfl;all_goals(intro hb;(try simp only[hb]);(first|replace hb:=zbc hb|replace hb:=zbd hb);(try omega))))
   apply ret1;exact rfl
   exact⟨_,zaX,by simp[zhz,hg,hs],by simp[zd2,zhz,hg,hs]⟩
def endE (id state:Int)(l:List AskR):Int:=match getA id l with
 |none=>4
 |some x=>if state≠3∧state≠4 then 1 else if x.state=3∨x.state=4∨(state=3∧x.state≠2)then 11 else 0
def endX (state:Int)(x:AskR):AskR:=if state=4 then{x with state:=state,until_:=0,hit:=0}else{x with state:=state,until_:=0}
def endA (id state:Int)(l:List AskR):List AskR:=match getA id l with
 |none=>l
 |some x=>if endE id state l=0 then setA id (endX state x) l else l
theorem znD (W:World)(F:List zao)(p:Nat)(A:Option Addr)(c:Nat)(l:List AskR)(id state:Int)(hb:l.length≤1000000)(hup:upA l):
 zax Tryz.prog W 122 [.pointer (some ⟨p,0,none⟩),.int .i64 id,.int .i64 state] (zbl p A c l F) (fun v h'=>v=.int .i64 (endE id state l)∧h'=zbl p A c (endA id state l) F):=by
 refine zax.dropTo ?_
 refine zaf Tryz.func122 rfl rfl Tryz.results122 Tryz.ntmps122 rfl rfl ?_
 refine zbi (h:=zbl p A c l F) mem1 (fun hl hnc hcc hsome hnone hone=> ?_)
 have hr:zaz W (zbl p A c l F) A l.length 10 (l.flatMap AskR.enc):=zaz.own mem1 hl hone
 have hof:=(znC W p A c l id hb hup).mono (h':=zbl p A c l F) (by intro c hc;simp only[zbl,List.mem_cons,List.not_mem_nil,or_false]at hc ⊢;rcases hc with rfl|rfl<;>simp)
 unfold ofA at hof
 cases hB:bsB (cA id) l
 ·rw[hB]at hof
  repeat' (first|apply zah|apply zaa|apply zak|apply zaj|apply zag|apply zac hT;iterate 4 exact rfl|apply zab (hs:=hof);iterate 7 exact rfl|apply zas;iterate 2 exact rfl)
  apply ret1;exact rfl
  exact⟨_,zaX,by simp[endE,zdl hB],by simp[endA,zdl hB]⟩
 ·obtain⟨x,hx,_,hg⟩:=zdI hB
  rw[hB]at hof
  have hlt:=(gsi.1 hx).1
  by_cases h0:endE id state l=0
  ·have hee:=h0
   simp only[endE,hg]at hee
   have hst:¬(state≠3∧state≠4):=fun h=>by rw[if_pos h]at hee;omega
   have hxs:¬(x.state=3∨x.state=4∨(state=3∧x.state≠2)):=fun h=>by rw[if_neg hst,if_pos h]at hee;omega
   have hll:endA id state l=setA id (endX state x) l:=by simp[endA,hg,h0]
   by_cases h4:state=4
   ·subst h4
    have hX:endX 4 x={x with state:=4,until_:=0,hit:=0}:=rfl
    rw[hX]at hll
    have hlay:lay (lay (lay (l.flatMap AskR.enc) (bsN (cA id) l*10+8) [.int .i64 4]) (bsN (cA id) l*10+7) [.int .i64 0]) (bsN (cA id) l*10+9) [.int .i64 0]=(setA id {x with state:=4,until_:=0,hit:=0} l).flatMap AskR.enc:=by
     rw[zbQ AskR.enc_len (x':={x with state:=4}) hx (Nat.le_of_ble_eq_true rfl) rfl,
      zbQ AskR.enc_len (x':={x with state:=4,until_:=0}) (List.getElem?_set_self hlt) (Nat.le_of_ble_eq_true rfl) rfl,
      zbQ AskR.enc_len (x':={x with state:=4,until_:=0,hit:=0}) (List.getElem?_set_self (by simpa using hlt)) (Nat.le_of_ble_eq_true rfl) rfl,List.set_set,List.set_set,setA]
    repeat' (first|apply zah|apply zaa|apply zak|apply zam|apply zaj|apply zag|apply zac hT;iterate 4 exact rfl|apply zaK;iterate 3 exact rfl|apply zab (hs:=hof);iterate 7 exact rfl|(apply zad;(iterate 5 exact rfl);exact zbx hT rfl rfl hr AskR.enc_len (za4 _ _ _) hx (by decide) rfl)|(apply zbn hT;(iterate 6 exact rfl);(first|exact sel0|exact sel1);exact za4 _ _ _;exact rfl;exact rfl;(first|show(bsN (cA id) l*10+8)+1≤l.length*10;omega|show(bsN (cA id) l*10+9)+1≤l.length*10;omega|show(bsN (cA id) l*10+7)+1≤l.length*10;omega);omega)|(apply zas;iterate 2 exact rfl)|(apply zan;iterate 2 exact rfl)|(apply zaH;exact rfl;all_goals(intro hb;(try simp only[hb]);(first|replace hb:=odt hb|replace hb:=odf hb);(try omega))))
    all_goals first
     |(exfalso;omega)
     |(apply ret1;exact rfl
       refine⟨zbl p A c (endA id 4 l) F,?_,by rw[h0],rfl⟩
       rw[hll,zbl,←hlay,show(setA id {x with state:=4,until_:=0,hit:=0} l).length=l.length by simp[setA]]
       apply zaQ;(first|exact sel1)
       apply zaQ;(first|exact sel0)
       exact dX)
   ·obtain rfl:state=3:=by omega
    have hX:endX 3 x={x with state:=3,until_:=0}:=rfl
    rw[hX]at hll
    have hlay:lay (lay (l.flatMap AskR.enc) (bsN (cA id) l*10+8) [.int .i64 3]) (bsN (cA id) l*10+7) [.int .i64 0]=(setA id {x with state:=3,until_:=0} l).flatMap AskR.enc:=by
     rw[zbQ AskR.enc_len (x':={x with state:=3}) hx (Nat.le_of_ble_eq_true rfl) rfl,
      zbQ AskR.enc_len (x':={x with state:=3,until_:=0}) (List.getElem?_set_self hlt) (Nat.le_of_ble_eq_true rfl) rfl,List.set_set,setA]
    repeat' (first|apply zah|apply zaa|apply zak|apply zam|apply zaj|apply zag|apply zac hT;iterate 4 exact rfl|apply zaK;iterate 3 exact rfl|apply zab (hs:=hof);iterate 7 exact rfl|(apply zad;(iterate 5 exact rfl);exact zbx hT rfl rfl hr AskR.enc_len (za4 _ _ _) hx (by decide) rfl)|(apply zbn hT;(iterate 6 exact rfl);(first|exact sel0|exact sel1);exact za4 _ _ _;exact rfl;exact rfl;(first|show(bsN (cA id) l*10+8)+1≤l.length*10;omega|show(bsN (cA id) l*10+7)+1≤l.length*10;omega);omega)|(apply zan;iterate 2 exact rfl)|(apply zaH;exact rfl;all_goals(intro hb;(try simp only[hb]);(first|replace hb:=odt hb|replace hb:=odf hb);(try omega)))|(apply zal;exact rfl;all_goals(intro hb;(try simp only[hb]);(first|replace hb:=zbc hb|replace hb:=zbd hb);(try omega))))
    all_goals first
     |(exfalso;omega)
     |(apply ret1;exact rfl
       refine⟨zbl p A c (endA id 3 l) F,?_,by rw[h0],rfl⟩
       rw[hll,zbl,←hlay,show(setA id {x with state:=3,until_:=0} l).length=l.length by simp[setA]]
       apply zaQ;(first|exact sel1)
       apply zaQ;(first|exact sel0)
       exact dX)
  ·have hll:endA id state l=l:=by simp[endA,hg,h0]
   repeat' (first|apply zah|apply zaa|apply zak|apply zam|apply zaj|apply zag|apply zac hT;iterate 4 exact rfl|apply zaK;iterate 3 exact rfl|apply zab (hs:=hof);iterate 7 exact rfl|(apply zad;(iterate 5 exact rfl);exact zbx hT rfl rfl hr AskR.enc_len (za4 _ _ _) hx (by decide) rfl)|apply zas;iterate 2 exact rfl|apply zan;iterate 2 exact rfl|(apply zaH;exact rfl;all_goals(intro hb;(try simp only[hb]);(first|replace hb:=odt hb|replace hb:=odf hb|replace hb:=zbc hb|replace hb:=zbd hb);(try omega)))|(apply zal;exact rfl;all_goals(intro hb;(try simp only[hb]);(first|replace hb:=zbc hb|replace hb:=zbd hb);(try omega))))
   all_goals first
    |(apply ret1;exact rfl;refine⟨_,zaX,?_,by rw[hll]⟩;congr 1;simp only[endE,hg];(repeat' split)<;>first|rfl|exfalso;omega)
    |(exfalso;apply h0;simp only[endE,hg];(repeat' split)<;>first|rfl|exfalso;omega)
def zrx :AskR:=⟨0,0,0,0,0,0,0,0,0,0⟩
def gotA :Option AskR→Value
 |some x=>.tuple #[.agg x.enc.toArray,.bool true]
 |none=>.tuple #[.agg zrx.enc.toArray,.bool false]
theorem zgS (W:World)(p:Nat)(A:Option Addr)(c:Nat)(l:List AskR)(id:Int)(hb:l.length≤1000000)(hup:upA l):
 zaw Tryz.prog W 78 [.pointer (some ⟨p,0,none⟩),.int .i64 id] (zbl p A c l []) (gotA (getA id l)):=by
 refine zaw.ofD (fun h' hs=> ?_)
 have m1:=hs _ mem0
 have m2:=hs _ mem1
 refine zaf Tryz.func78 rfl rfl Tryz.results78 Tryz.ntmps78 rfl rfl ?_
 refine zbi m2 (fun hl hnc hcc hsome hnone hone=> ?_)
 have hr:=zaz.own (W:=W) m2 hl hone
 have hfind:=(ziM W p A c l id hb hup).mono (h':=h') hs
 unfold znA at hfind
 cases hB:bsB (cA id) l
 ·rw[hB]at hfind
  repeat' (first|apply zah|apply zaa|apply zak|apply zag|apply zac hT;iterate 4 exact rfl|apply zay hT;(iterate 5 exact rfl);intro g4|apply zab (hs:=(hfind.mono (fun c hc=>.tail _ hc)));iterate 7 exact rfl|apply zb8 hT;iterate 4 exact rfl|(apply zar hT;(iterate 6 exact rfl);(first|exact sel0);(iterate 3 exact rfl);exact nle rfl)|apply zas;iterate 2 exact rfl)
  apply zeE;exact rfl;exact zaF hT rfl rfl mem0 rfl;exact rfl
  exact⟨by rw[zdl hB];rfl,za5 zaX⟩
 ·obtain⟨x,hx,_,hg⟩:=zdI hB
  have hlt:=(gsi.1 hx).1
  rw[hB]at hfind
  obtain⟨g,hA⟩:=hsome (by omega)
  have hA2:A.isSome=true:=by rw[hA];rfl
  have hx2:l[((bsN (cA id) l:Nat):Int).toNat]? =some x:=by simpa using hx
  repeat' (first|apply zah|apply zaa|apply zak|apply zam|apply zag|apply zac hT;iterate 4 exact rfl|apply zay hT;(iterate 5 exact rfl);intro g4|apply zab (hs:=(hfind.mono (fun c hc=>.tail _ hc)));iterate 7 exact rfl|apply zaJ hT;(iterate 8 exact rfl);(iterate 2 omega);exact hA2|apply zad;(iterate 5 exact rfl);exact zaO hT rfl rfl hr.cons AskR.enc_len rfl hx2 rfl|(apply zar hT;(iterate 6 exact rfl);(first|exact sel0);(iterate 3 exact rfl);exact nle rfl)|(apply zad;(iterate 5 exact rfl);first|exact zaq hT rfl rfl (mcm _ m1) rfl rfl)|apply zan;iterate 2 exact rfl)
  apply zeE;exact rfl;exact zaF hT rfl rfl mem0 rfl;exact rfl
  exact⟨by rw[hg];rfl,za5 zaX⟩
end Go.Proofs.YteocfhdocpeokaaGreat
namespace Go.Proofs.YteocfhdocpeokaaGreat
open Go Go.Sl
attribute [local irreducible] AW ES Ld RetQ
set_option maxRecDepth 100000
theorem zry (W:World)(x:Int):zaw Tryz.prog W 231 [.int .i64 x] [] (.bool false):=by
 refine zaw.of (fun h' hs=> ?_)
 refine zaf Tryz.func231 rfl rfl Tryz.results231 Tryz.ntmps231 rfl rfl ?_
 repeat' (first|apply zah|apply zaa|apply zak|apply zag|apply zac hT;iterate 4 exact rfl)
 exact zca (J:=[]) rfl (by simp) (plr _)
theorem cmpi (W:World)(x y:Int):zaw Tryz.prog W 211 [.int .i64 x,.int .i64 y] [] (.int .i64 (cmpI x y)):=by
 refine zaw.of (fun h' hs=> ?_)
 refine zaf Tryz.func211 rfl rfl Tryz.results211 Tryz.ntmps211 rfl rfl ?_
 repeat' (first|apply zah|apply zaa|apply zak|apply zam|apply zag|apply zac hT;iterate 4 exact rfl|(apply zab (hs:=((zry W _).mono (by simp)));iterate 7 exact rfl)|apply zan;iterate 2 exact rfl|(apply zal;exact rfl;all_goals(intro hb;(try simp only[hb]);(first|replace hb:=odt hb|replace hb:=odf hb);(try omega))))
 ·exact zca (J:=[]) rfl (by simp[cmpI,hb]) (plr _)
 ·rename_i h1;exact zca (J:=[]) rfl (by simp[cmpI];omega) (plr _)
 ·rename_i h1;exact zca (J:=[]) rfl (by simp[cmpI];omega) (plr _)
theorem zjz (W:World)(h:List zao)(A:Option Addr)(n c:Nat)(l:List Due)(hn:l.length=n)(hr:zaz W h A n 3 (l.flatMap Due.enc))(fn:FuncId)(cap:List Value)(p:Due→Bool)
 (hf:∀x∈l,zaw Tryz.prog W fn ([.agg x.enc.toArray]++cap) h (.bool (p x)))(hb:n≤4611686018427387903):
 zaw Tryz.prog W 171 [.slice A n c,.func (.func fn) #[] cap.toArray] h (.int .i64 (zaT p l)):=by
 refine zaw.of (fun h' hs=> ?_)
 have hr':=hr.mono hs
 refine zaf Tryz.func171 rfl rfl Tryz.results171 Tryz.ntmps171 rfl rfl ?_
 refine zaI hr' rfl (fun hA=> ?_)
 repeat' (first|apply zah|apply zaa|apply zaj|apply zag|apply zac hT;iterate 4 exact rfl)
 refine zbT (α:=Nat) (E:=fun k=>[(0,.slice A n c),(1,.func (.func fn) #[] cap.toArray),(7,.int .i64 n),(8,.int .i64 k)]) (H:=fun _=>h') (μ:=fun k=>n - k)
  (S:=fun k=>k≤n∧∀(j:Nat) y,j<k→l[j]? =some y→p y=false) 0 (J:=[]) ⟨Nat.zero_le _,fun j y hj=>by omega⟩ ⟨rfl,rfl,rfl,rfl,trivial⟩ (plr _) ?_
 rintro k ⟨hk1,hk2⟩
 by_cases hlt:k<n
 ·obtain⟨x,hx⟩:∃x,l[k]? =some x:=⟨l[k]'(by omega),gge (by omega)⟩
  have hx2:l[(k:Int).toNat]? =some x:=by simpa using hx
  have hfx:=(hf x (mog hx)).mono hs
  have hA':=hA (by omega)
  repeat' (first|apply zah|apply zaa|apply zak|apply zam|apply zaj|apply zag|apply zac hT;iterate 4 exact rfl|apply zaM hT;(iterate 4 exact rfl);(iterate 2 omega)|apply zaJ hT;(iterate 8 exact rfl);(iterate 2 omega);exact hA'|apply zad;(iterate 5 exact rfl);exact zaO hT rfl rfl hr' Due.enc_len rfl hx2 rfl|apply zab (hs:=hfx);iterate 7 exact rfl|(apply zal;exact rfl;all_goals(intro hb;(try simp only[hb]);(first|replace hb:=odt hb|replace hb:=odf hb|skip);(try omega))))
  ·exact zca (J:=[]) rfl (by rw[zds hx hb hk2]) (plr _)
  ·have hpx:=hb
   refine⟨k+1,[],by dsimp only;omega,⟨by omega,fun j y hj hy=> ?_⟩,⟨rfl,rfl,rfl,rfl,trivial⟩,plr _⟩
   by_cases hjk:j<k
   ·exact hk2 j y hjk hy
   ·obtain rfl:j=k:=by omega
    rw[hx]at hy;cases hy;exact hpx
 ·repeat' (first|apply zah|apply zaa|apply zak|apply zaN|apply zag|apply zac hT;iterate 4 exact rfl|(apply zal;exact rfl;all_goals(intro hb;(try simp only[hb]);(first|replace hb:=odt hb|replace hb:=odf hb);(try omega))))
  exact zca (J:=[]) rfl (by rw[zb6 (fun(j:Nat) y hj=>hk2 j y (by have:=(gsi.1 hj).1;omega) hj)]) (plr _)
theorem zpn (W:World)(h:List zao)(A:Option Addr)(n c:Nat)(cs:List Value)(hr:zaz W h A n 3 cs)(hb:n*24≤140737488355328):
 zax Tryz.prog W 117 [.slice A n c] h (fun v h'=>∃A' c',v=.slice A' n c'∧h'=.own A' n c' 160 3 cs::h):=by
 refine zax.drop ?_
 refine zaf Tryz.func117 rfl rfl Tryz.results117 Tryz.ntmps117 rfl rfl ?_
 refine zaI hr rfl (fun hA=> ?_)
 cases A with
 |none=>
  have hn:n=0:=by
   rcases Nat.eq_zero_or_pos n with h|h
   ·exact h
   ·have:=hA h;simp at this
  subst hn
  have hcs:cs=[]:=List.eq_nil_of_length_eq_zero (by simpa using hr.len)
  subst hcs
  refine zbI (fun w hw=>⟨_,hw.own_nil 160 3,?_⟩)
  repeat' (first|apply zah|apply zaa|apply zak|apply zag|apply zac hT;iterate 4 exact rfl|apply zas;iterate 2 exact rfl)
  apply ret1;exact rfl
  exact⟨[],_,plr _,none,0,rfl,rfl⟩
 |some ad=>
  repeat' (first|apply zah|apply zaa|apply zak|apply zam|apply zag|apply zac hT;iterate 4 exact rfl|apply zaB hT;(iterate 12 exact rfl);intro g1|apply zbb hT;(iterate 10 exact rfl);exact sel0;exact hr.cons;omega;(show(0+n)*24≤_;omega);intro A' c'|apply zan;iterate 2 exact rfl)
  apply ret1;exact rfl
  refine⟨[],_,plr _,A',c',by rw[Nat.zero_add],?_⟩
  show zao.own A' (0+n) c' 160 3 ([]++cs)::h=_
  simp
theorem zjA (W:World)(F:List zao)(A:Option Addr)(n c:Nat)(i j:Int)(cs:List Value)(h0:0≤i)(hij:i≤j)(hjn:j≤n):
 zax Tryz.prog W 118 [.slice A n c,.int .i64 i,.int .i64 j] (.own A n c 160 3 cs::F)
  (fun v h'=>v=.slice A (n - (j.toNat - i.toNat)) c∧h'=.own A (n - (j.toNat - i.toNat)) c 160 3 (cs.take (i.toNat*3)++cs.drop (j.toNat*3))::F):=by
 obtain⟨i,rfl⟩:=Int.eq_ofNat_of_zero_le h0
 obtain⟨j,rfl⟩:=Int.eq_ofNat_of_zero_le (show 0≤j by omega)
 simp only[Int.toNat_natCast]
 by_cases hij0:i=j
 ·subst hij0
  have he:((i:Int)==(i:Int))=true:=by simp
  refine zaf Tryz.func118 rfl rfl Tryz.results118 Tryz.ntmps118 rfl rfl ?_
  refine zbi mem0 (fun hl hnc hcc hsome hnone hone=> ?_)
  repeat' (first|apply zah|apply zaa|apply zak|apply zag|apply zac hT;iterate 4 exact rfl|apply zfd hT;(iterate 10 exact rfl);(iterate 3 omega)|apply zas;exact rfl;exact he)
  apply ret1;exact rfl
  exact⟨by simp,by simp⟩
 ·have he:((i:Int)==(j:Int))=false:=by simp;omega
  have hlt:i<j:=by omega
  have hz:(ti160.zero.cells.toList).length=3:=rfl
  refine zax.conv (R:=fun v h'=>v=.slice A (n - (j - i)) c∧∃(g:Nat) (cur:List Value),A=some ⟨g,0,none⟩∧cur.length=c*3∧cur.take (n*3)=cs∧cs.length=n*3∧n≤c∧c≤9223372036854775807∧(∀v∈cs,v.oneCell'=true)∧
   h'=.blk g 160 (lay (lay cur (i*3) (cs.drop (j*3))) ((i+(n - j))*3) (repZ ti160.zero.cells.toList (n - (i+(n - j)))))::F) ?_ ?_
  rotate_left
  ·rintro v h' ⟨hv,g,cur,rfl,hcl,htk,hl,hnc,hcc,hone,rfl⟩ w hw
   have hdl:(cs.drop (j*3)).length=(n - j)*3:=by rw[List.length_drop,hl,Nat.sub_mul]
   have hyl:(lay cur (i*3) (cs.drop (j*3))).length=c*3:=by rw[zcK (by omega)];exact hcl
   have hzl:(repZ ti160.zero.cells.toList (n - (i+(n - j)))).length=(n - (i+(n - j)))*3:=by rw[zdU,hz]
   have hcut:(lay (lay cur (i*3) (cs.drop (j*3))) ((i+(n - j))*3) (repZ ti160.zero.cells.toList (n - (i+(n - j))))).take ((n - (j - i))*3)=cs.take (i*3)++cs.drop (j*3):=by
    rw[show(n - (j - i))*3=(i+(n - j))*3 by omega,zef (by omega)]
    have:=zeg (Y:=cur) (Z:=cs.drop (j*3)) (o:=i*3) (by omega)
    rw[hdl,←Nat.add_mul]at this
    rw[this,←htk,List.take_take,Nat.min_eq_left (by omega)]
   refine⟨_,hw.shut_ (n:=n - (j - i)) (c:=c) (k:=3) ?_ hcut ?_ (by omega) hcc ?_,hv,rfl⟩
   ·rw[zcK (by omega)];exact hyl
   ·rw[lla,hdl,llt,hl];omega
   ·intro u hu
    rcases lma.1 hu with hu|hu
    ·exact hone u (List.mem_of_mem_take hu)
    ·exact hone u (List.mem_of_mem_drop hu)
  refine zaf Tryz.func118 rfl rfl Tryz.results118 Tryz.ntmps118 rfl rfl ?_
  refine zbi mem0 (fun hl hnc hcc hsome hnone hone=> ?_)
  obtain⟨g,rfl⟩:=hsome (by omega)
  refine zfN sel0 (fun cur hcl htk _ _ _ _=> ?_)
  have hr0:zaz W (.blk g 160 cur::F) (some ⟨g,0,none⟩) n 3 cs:=zaz.blk mem0 (by simpa using htk) hl hone
  have hr1:=hr0.cut hnc (show j≤n by omega) (Nat.le_refl n)
  rw[List.take_of_length_le (by rw[List.length_drop,hl,Nat.sub_mul];omega)]at hr1
  have hdl:(cs.drop (j*3)).length=(n - j)*3:=hr1.len
  have hyl:(lay cur (i*3) (cs.drop (j*3))).length=c*3:=by rw[zcK (by omega)];exact hcl
  repeat' (first|apply zah|apply zaa|apply zak|apply zam|apply zag|apply zac hT;iterate 4 exact rfl|apply zaC [] [] hmix;decide+kernel|apply zfd hT;(iterate 10 exact rfl);(iterate 3 omega)|apply zan;exact rfl;exact he|apply zbU hT;(iterate 8 exact rfl);(iterate 2 omega)|apply zbu hT;(iterate 8 exact rfl);(iterate 3 omega);exact rfl|apply zhO hT (k:=3);(iterate 11 exact rfl);exact sel0;exact hr1;omega;(show i*3+(n - j)*3≤_;omega)|(apply zf8 hT;(iterate 9 exact rfl);(iterate 3 omega);exact zcq (by omega))|apply ziy hT (k:=3);(iterate 9 exact rfl);exact sel0;exact rfl;(show(i+(n - j))*3+(n - (i+(n - j)))*3≤(lay cur (i*3) (cs.drop (j*3))).length;omega))
  apply ret1;exact rfl
  exact⟨by rw[show n - (j - i)=i+(n - j)by omega];rfl,g,cur,rfl,hcl,htk,hl,hnc,hcc,hone,rfl⟩
theorem zmf (W:World)(h:List zao)(A:Option Addr)(n c:Nat)(l:List Due)(hn:l.length=n)(hr:zaz W h A n 3 (l.flatMap Due.enc))(tgt:Value)(htg:∃a,tgt=.agg (Due.enc a).toArray)(fn:FuncId)(cap:List Value)(cf:Due→Int)
 (hf:∀x∈l,zaw Tryz.prog W fn ([.agg x.enc.toArray,tgt]++cap) h (.int .i64 (cf x)))(hmono:∀(i j:Nat) x y,i≤j→l[i]? =some x→l[j]? =some y→cf y<0→cf x<0)(hb:n≤2305843009213693951):
 zaw Tryz.prog W 180 [.slice A n c,tgt,.func (.func fn) #[] cap.toArray] h (.tuple #[.int .i64 (bsN cf l),.bool (bsB cf l)]):=by
 obtain⟨ta,rfl⟩:=htg
 refine zaw.of (fun h' hs=> ?_)
 have hr':=hr.mono hs
 refine zaf Tryz.func180 rfl rfl Tryz.results180 Tryz.ntmps180 rfl rfl ?_
 refine zaI hr' rfl (fun hA=> ?_)
 repeat' (first|apply zah|apply zaa|apply zaj|apply zag|apply zac hT;iterate 4 exact rfl|apply zaA;(iterate 5 exact rfl);intro _)
 refine zbT (α:=Int×Int) (E:=fun p=>[(0,.slice A n c),(2,.func (.func fn) #[] cap.toArray),(4,_),(8,.int .i64 n),(9,.int .i64 p.1),(10,.int .i64 p.2)]) (H:=fun _=>_) (μ:=fun p=>(p.2 - p.1).toNat)
  (S:=fun p=>0≤p.1∧p.1≤p.2∧p.2≤n∧(∀(k:Nat) y,(k:Int)<p.1→l[k]? =some y→cf y<0)∧(∀(k:Nat) y,p.2≤(k:Int)→l[k]? =some y→¬cf y<0)) (0,(n:Int)) (J:=[])
  ⟨by simp,by simp,by simp,fun k y hk=>by simp at hk;omega,fun k y hk hy=>by have:=(gsi.1 hy).1;simp at hk;omega⟩ ⟨rfl,rfl,rfl,rfl,rfl,rfl,trivial⟩ (plr _) ?_
 rintro⟨i,j⟩ ⟨s1,s2,s3,s4,s5⟩
 simp only at s1 s2 s3 s4 s5
 by_cases hlt:i<j
 ·obtain⟨m,hm⟩:∃m:Nat,(i+j) / 2=(m:Int):=⟨((i+j) / 2).toNat,by omega⟩
  have hm2:((i+j) / 2).toNat=m:=by omega
  obtain⟨x,hx⟩:∃x,l[m]? =some x:=⟨l[m]'(by omega),gge (by omega)⟩
  have hx2:l[((i+j) / 2).toNat]? =some x:=by rw[hm2];exact hx
  have hfx:=(hf x (mog hx)).mono hs
  have hA':=hA (by omega)
  repeat' (first|apply zah|apply zaa|apply zam|apply zaj|apply zag|apply zac hT;iterate 4 exact rfl|apply zaM hT;(iterate 4 exact rfl);(iterate 2 omega)|apply zaC [] [] hmix;decide+kernel|apply zje hT;(iterate 4 exact rfl);(iterate 2 omega)|apply zkn;iterate 6 exact rfl|apply zaJ hT;(iterate 8 exact rfl);(iterate 2 omega);exact hA'|(apply zad;(iterate 5 exact rfl);first|exact zaO hT rfl rfl hr'.cons Due.enc_len rfl hx2 rfl)|apply zab (hs:=(hfx.mono (fun c hc=>mcm _ hc)));iterate 7 exact rfl|(apply zad;(iterate 5 exact rfl);first|exact zaF hT rfl rfl mem0 rfl)|(apply zal;exact rfl;all_goals(intro hb;(try simp only[hb]);(first|replace hb:=odt hb|replace hb:=odf hb);(try omega))))
  ·have hcx:=hb
   refine⟨((i+j) / 2+1,j),[],by dsimp only;omega,⟨by dsimp only;omega,by dsimp only;omega,s3,fun k y hk hy=> ?_,s5⟩,⟨rfl,rfl,rfl,rfl,rfl,rfl,trivial⟩,plr _⟩
   exact hmono k m y x (by dsimp only at hk;omega) hy hx hcx
  ·have hcx:=hb
   refine⟨(i,(i+j) / 2),[],by dsimp only;omega,⟨s1,by dsimp only;omega,by dsimp only;omega,s4,fun k y hk hy hneg=>hcx (hmono m k x y (by dsimp only at hk;omega) hx hy hneg)⟩,⟨rfl,rfl,rfl,rfl,rfl,rfl,trivial⟩,plr _⟩
 ·obtain⟨m,hm⟩:∃m:Nat,i=(m:Int):=⟨i.toNat,by omega⟩
  subst hm
  obtain rfl:j=(m:Int):=by omega
  have hbs:bsN cf l=m:=zhP (by omega) (fun k y hk hy=>s4 k y (by omega) hy) (fun y hy=>s5 m y (by omega) hy)
  by_cases hmn:m<n
  ·obtain⟨x,hx⟩:∃x,l[m]? =some x:=⟨l[m]'(by omega),gge (by omega)⟩
   have hx2:l[(m:Int).toNat]? =some x:=by simpa using hx
   have hfx:=(hf x (mog hx)).mono hs
   have hA':=hA (by omega)
   have hd:decide ((m:Int)<(n:Int))=true:=by simp;omega
   repeat' (first|apply zah|apply zaa|apply zak|apply zaN|apply zag|apply zac hT;iterate 4 exact rfl|apply zaC [] [] hmix;decide+kernel|apply zaJ hT;(iterate 8 exact rfl);(iterate 2 omega);exact hA'|(apply zad;(iterate 5 exact rfl);first|exact zaO hT rfl rfl hr'.cons Due.enc_len rfl hx2 rfl)|apply zab (hs:=(hfx.mono (fun c hc=>mcm _ hc)));iterate 7 exact rfl|(apply zad;(iterate 5 exact rfl);first|exact zaF hT rfl rfl mem0 rfl)|(apply zaH;exact rfl;all_goals(intro hb;(try simp only[hb]);(first|replace hb:=odt hb|replace hb:=odf hb);(try omega)))|(apply zal;exact rfl;all_goals(intro hb;(try simp only[hb]);(first|replace hb:=odt hb|replace hb:=odf hb);(try omega))))
   apply ret2;exact rfl;exact rfl
   exact⟨by rw[bsB,hbs,hx],[_],plr _⟩
  ·have hx:l[m]? =none:=List.getElem?_eq_none (by omega)
   repeat' (first|apply zah|apply zaa|apply zak|apply zaN|apply zag|apply zac hT;iterate 4 exact rfl|apply zaK;iterate 3 exact rfl|apply zaC [] [] hmix;decide+kernel|(apply zaH;exact rfl;all_goals(intro hb;(try simp only[hb]);(first|replace hb:=odt hb|replace hb:=odf hb);(try omega)))|(apply zal;exact rfl;all_goals(intro hb;(try simp only[hb]);(first|replace hb:=odt hb|replace hb:=odf hb);(try omega))))
   apply ret2;exact rfl;exact rfl
   exact⟨by rw[bsB,hbs,hx],[_],plr _⟩
theorem zkz (W:World)(h:List zao)(gv g n c o m2 c2:Nat)(vs cur:List Value)(hv:zao.own (some ⟨gv,0,none⟩) 1 1 160 3 vs∈h)(hg:zao.blk g 160 cur∈h)(hne:gv≠g)(hcur:cur.length≠0):
 ∀w,RepS W h w→(callFunc 212 [Value.slice (some ⟨gv,0,none⟩) 1 1,.slice (some ⟨g,o,none⟩) m2 c2].toArray).run Tryz.prog w=.ok (.value (.bool false)) w:=fun w hw=>by
 have h1:=hw.heap_blk hg
 have h2:=(hw.holds _ hv).1
 rcases h2.2 with ⟨hx,_⟩|⟨g',cap,cv,hx,_,hgv,_⟩
 ·cases hx
 ·injection hx with hA _ _
  injection hA with hA
  injection hA with hA _ _
  subst hA
  have hz:∀w,(Go.sizeOf 160).run Tryz.prog w=.ok 3 w:=fun w=>(hT _ _ (rfl:TT.lookup 160 =some ti160)).sz w
  rw[run_callFunc_extern Tryz.func212 (by kernel_rfl) (by kernel_rfl) (by kernel_rfl) (e:=Extern.SlicesOverlaps.overlaps #[145,145] #[4]) (by kernel_rfl)]
  have:=Lib.run_overlaps_apart (P:= Tryz.prog) w 145 4 160 Tryz.underlying145 3 hz ⟨gv,0,none⟩ ⟨g,o,none⟩ 1 1 m2 c2 hne 160 160 cv.size cur.length (by simp[World.shape?,hgv]) (by simp[World.shape?,h1]) hcur (by simp[World.frozen?,hgv]) (by simp[World.frozen?,hgv])
  rw[this]
  rfl
theorem znE (W:World)(F:List zao)(A:Option Addr)(n c:Nat)(i:Int)(cs:List Value)(gv:Nat)(vs:List Value)(hv:zao.own (some ⟨gv,0,none⟩) 1 1 160 3 vs∈F)(h0:0≤i)(hin:i≤n)(hb:(n+1)*24≤140737488355328):
 zax Tryz.prog W 182 [.slice A n c,.int .i64 i,.slice (some ⟨gv,0,none⟩) 1 1] (.own A n c 160 3 cs::F)
  (fun v h'=>∃A' c',v=.slice A' (n+1) c'∧h'=.own A' (n+1) c' 160 3 (cs.take (i.toNat*3)++vs++cs.drop (i.toNat*3))::F):=by
 obtain⟨i,rfl⟩:=Int.eq_ofNat_of_zero_le h0
 simp only[Int.toNat_natCast]
 refine zax.drop ?_
 refine zaf Tryz.func182 rfl rfl Tryz.results182 Tryz.ntmps182 rfl rfl ?_
 refine zbi mem0 (fun hl hnc hcc hsome hnone hone=> ?_)
 refine zbi (mcm _ hv) (fun hvl _ _ _ _ hvone=> ?_)
 have hvl:vs.length=3:=by simpa using hvl
 have hrvG:∀c0,zaz W (c0::F) (some ⟨gv,0,none⟩) 1 3 vs:=fun c0=>zaz.own (mcm _ hv) (by simpa using hvl) hvone
 have hrv:=hrvG (.own A n c 160 3 cs)
 have hmin1:∀m,0<m→Nat.min 1 m=1:=fun m hm=>by show min 1 m=1;omega
 have hrs:zaz W (.own A n c 160 3 cs::F) A n 3 cs:=zaz.own mem0 hl hone
 by_cases hi:i=n
 ·subst hi
  have he:((i:Int)==(i:Int))=true:=by simp
  repeat' (first|apply zah|apply zaa|apply zak|apply zam|apply zag|apply zac hT;iterate 4 exact rfl|apply zbu hT;(iterate 8 exact rfl);(iterate 3 omega);exact rfl|apply zas;exact rfl;exact he|apply zbb hT;(iterate 10 exact rfl);exact sel0;exact hrv;omega;(show(i+1)*24≤_;omega);intro A' c'|apply zan;iterate 2 exact rfl)
  apply ret1;exact rfl
  refine⟨[],_,plr _,A',c',rfl,?_⟩
  show zao.own A' (i+1) c' 160 3 (cs++vs)::F=_
  rw[List.take_of_length_le (by omega),List.drop_of_length_le (by omega),List.append_nil]
 ·have hlt:i<n:=by omega
  have he:((i:Int)==(n:Int))=false:=by simp;omega
  obtain⟨g,rfl⟩:=hsome (by omega)
  by_cases hroom:n+1≤c
  ·
   refine zbI (fun w hw=> ?_)
   have hnd:=hw.nodup
   have hgv:gv≠g:=by
    intro e
    simp only[List.flatMap_cons,List.nodup_append]at hnd
    exact hnd.2.2 g (by simp[zao.keys]) g (List.mem_flatMap.2 ⟨_,hv,by simp[zao.keys,e]⟩) rfl
   refine⟨_,hw,?_⟩
   refine zfN sel0 (fun cur hcl htk _ _ _ _=> ?_)
   have hr0:zaz W (.blk g 160 cur::F) (some ⟨g,0,none⟩) n 3 cs:=zaz.blk mem0 (by simpa using htk) hl hone
   have hr1:=hr0.cut hnc (show i≤n by omega) (Nat.le_refl n)
   rw[List.take_of_length_le (by rw[List.length_drop,hl,Nat.sub_mul];omega),zcq (by omega)]at hr1
   have hdl:(cs.drop (i*3)).length=(n - i)*3:=hr1.len
   have hmin2:Nat.min (n+1 - i) (n+1 - (i+1))=n - i:=by show min (n+1 - i) (n+1 - (i+1))=n - i;omega
   have hov:=zkz W (.blk g 160 cur::F) gv g n c ((i+1)*3) (n+1 - (i+1)) (c - (i+1)) vs cur (mcm _ hv) mem0 hgv (by omega)
   refine zfQ (Q':=RetQ Tryz.prog W #[ResultVar.tmp 6].toList (fun v h'=>v=.slice (some ⟨g,0,none⟩) (n+1) c∧h'=.blk g 160 (lay (lay cur (i*3+vs.length) (cs.drop (i*3))) (i*3) vs)::F)) (zdD ?_) ?_
   ·rintro v h' ⟨hv',rfl⟩ w hw
    have hb2:=zfP (cur:=cur) (v:=vs) (S:=cs.drop (i*3)) (a:=i*3) (by omega)
    rw[hb2]at hw
    have htk2:cur.take (i*3)=cs.take (i*3):=by rw[←htk,List.take_take,Nat.min_eq_left (by omega)]
    have hone2:∀u∈cs.take (i*3)++vs++cs.drop (i*3),u.oneCell'=true:=fun u hu=>by
     simp only[lma]at hu
     rcases hu with (hu|hu)|hu
     ·exact hone u (List.mem_of_mem_take hu)
     ·exact hvone u hu
     ·exact hone u (List.mem_of_mem_drop hu)
    have hl2:(cs.take (i*3)++vs++cs.drop (i*3)).length=(n+1)*3:=by simp only[lla,llt,hdl,hvl,hl];omega
    refine⟨_,hw.shut_ (n:=n+1) (c:=c) (k:=3) ?_ ?_ hl2 hroom hcc hone2,[],_,plr _,some ⟨g,0,none⟩,c,hv',rfl⟩
    ·simp only[lla,llt,List.length_drop,hvl,hcl,hl];omega
    ·rw[htk2,←hl2,List.take_left]
   ·repeat' (first|apply zah|apply zaa|apply zak|apply zam|apply zag|apply zac hT;iterate 4 exact rfl|apply zaM hT;(iterate 4 exact rfl);(iterate 2 omega)|apply zaC [] [] hmix;decide+kernel|(apply zbu hT;(iterate 8 exact rfl);(iterate 3 omega);first|exact zcq (by omega))|apply zhN hT;iterate 6 exact rfl|apply zbU hT;(iterate 8 exact rfl);(iterate 2 omega)|apply zan;exact rfl;exact he|apply zfe;(iterate 6 exact rfl);exact hov|(apply zcd hT (k:=3);(iterate 10 exact rfl);exact sel0;exact rfl;exact(show zaz W (.blk g 160 cur::F) (some ⟨g,i*3,none⟩) (Nat.min (n+1 - i) (n+1 - (i+1))) 3 (cs.drop (i*3))from(by rw[hmin2];exact hr1));(show(i+1)*3+(cs.drop (i*3)).length≤cur.length;omega))|(apply zcd hT (k:=3);(iterate 10 exact rfl);exact sel0;exact rfl;exact(show zaz W _ (some ⟨gv,0,none⟩) (Nat.min 1 (n+1 - i)) 3 vs from(by rw[hmin1 _ (by omega)];exact hrvG _));(show i*3+vs.length≤(lay cur ((i+1)*3) (cs.drop (i*3))).length;rw[zcK (by omega)];omega))|apply zas;iterate 2 exact rfl|apply zan;iterate 2 exact rfl|(apply zal;exact rfl;all_goals(intro hb;(try simp only[hb]);(first|replace hb:=odt hb|replace hb:=odf hb);(try omega))))
    apply ret1;exact rfl
    refine⟨rfl,?_⟩
    show zao.blk g 160 (lay (lay cur ((i+1)*3) (cs.drop (i*3))) (i*3) vs)::F=_
    rw[hvl,←Nat.succ_mul]
  ·
   have hz:(ti160.zero.cells.toList).length=3:=rfl
   have hr1:∀c0,zaz W (c0::.own (some ⟨g,0,none⟩) n c 160 3 cs::F) (some ⟨g,i*3,none⟩) (n - i) 3 (cs.drop (i*3)):=fun c0=>by
    have:=(zaz.own (W:=W) (h:=c0::.own (some ⟨g,0,none⟩) n c 160 3 cs::F) mem1 hl hone).cut hnc (show i≤n by omega) (Nat.le_refl n)
    rw[List.take_of_length_le (by rw[List.length_drop,hl,Nat.sub_mul];omega),zcq (by omega)]at this
    exact this
   have hdl:(cs.drop (i*3)).length=(n - i)*3:=(hr1 (.blk 0 0 [])).len
   have hmin3:Nat.min (n - i) (i+(n+1 - i) - (i+1))=n - i:=by show min (n - i) (i+(n+1 - i) - (i+1))=n - i;omega
   refine zfQ (Q':=RetQ Tryz.prog W #[ResultVar.tmp 6].toList (fun v h'=>∃(g2 c2:Nat) (cur:List Value),n+1≤c2∧c2≤9223372036854775807∧cur.length=c2*3∧cur.take (i*3)=cs.take (i*3)∧v=.slice (some ⟨g2,0,none⟩) (n+1) c2∧
    h'=.blk g2 160 (lay (lay cur (i*3) vs) (i*3+vs.length) (cs.drop (i*3)))::.own (some ⟨g,0,none⟩) n c 160 3 cs::F)) (zdD ?_) ?_
   ·rintro v h' ⟨g2,c2,cur,k1,k2,k3,k4,hv',rfl⟩ w hw
    have ha2:=zgF (cur:=cur) (v:=vs) (S:=cs.drop (i*3)) (a:=i*3) (by omega)
    rw[ha2,k4]at hw
    have hone2:∀u∈cs.take (i*3)++vs++cs.drop (i*3),u.oneCell'=true:=fun u hu=>by
     simp only[lma]at hu
     rcases hu with (hu|hu)|hu
     ·exact hone u (List.mem_of_mem_take hu)
     ·exact hvone u hu
     ·exact hone u (List.mem_of_mem_drop hu)
    have hl2:(cs.take (i*3)++vs++cs.drop (i*3)).length=(n+1)*3:=by simp only[lla,llt,hdl,hvl,hl];omega
    refine⟨_,hw.shut_ (n:=n+1) (c:=c2) (k:=3) ?_ ?_ hl2 k1 k2 hone2,[.own (some ⟨g,0,none⟩) n c 160 3 cs],_,sel1,some ⟨g2,0,none⟩,c2,hv',rfl⟩
    ·simp only[lla,llt,List.length_drop,hvl,k3,hl];omega
    ·rw[←hl2,List.take_left]
   ·repeat' (first|apply zah|apply zaa|apply zak|apply zam|apply zag|apply zac hT;iterate 4 exact rfl|apply zaM hT;(iterate 4 exact rfl);(iterate 2 omega)|apply zaC [] [] hmix;decide+kernel|apply zhN hT;iterate 6 exact rfl|apply zbU hT;(iterate 8 exact rfl);(iterate 2 omega)|(apply zbu hT;(iterate 8 exact rfl);(iterate 3 omega);first|exact zcq (by omega))|apply zan;exact rfl;exact he|(apply zfO hT (m:=n+1 - i);(iterate 12 exact rfl);omega;exact hrs.take (show i≤n by omega);omega;omega;omega;(show(i+(n+1 - i))*24≤_;omega);intro g2 c2 hc2)|(apply zcd hT (k:=3);(iterate 10 exact rfl);exact sel0;exact rfl;exact(show zaz W _ (some ⟨gv,0,none⟩) (Nat.min 1 (i+(n+1 - i) - i)) 3 vs from(by rw[hmin1 _ (by omega)];exact(hrvG _).cons));(show i*3+vs.length≤cur.length;omega))|(apply zcd hT (k:=3);(iterate 10 exact rfl);exact sel0;exact rfl;exact(show zaz W _ (some ⟨g,i*3,none⟩) (Nat.min (n - i) (i+(n+1 - i) - (i+1))) 3 (cs.drop (i*3))from(by rw[hmin3];exact hr1 _));(show(i+1)*3+(cs.drop (i*3)).length≤(lay cur (i*3) vs).length;rw[zcK (by omega)];omega))|apply zkm rfl sel0;intro cur hcl htk hc3 hc4;replace hcl:cur.length=c2*3:=hcl|apply zan;iterate 2 exact rfl|(apply zal;exact rfl;all_goals(intro hb;(try simp only[hb]);(first|replace hb:=odt hb|replace hb:=odf hb);(try omega))))
    apply ret1;exact rfl
    refine⟨g2,c2,cur,by omega,hc4,hcl,?_,by show Value.slice (some ⟨g2,0,none⟩) (i+(n+1 - i)) c2=_;rw[show i+(n+1 - i)=n+1 by omega],?_⟩
    ·have e1:cur.take ((i+(n+1 - i))*3)=cs.take (i*3)++repZ ti160.zero.cells.toList (n+1 - i):=htk
     have e2:=congrArg (List.take (i*3)) e1
     rw[List.take_take,Nat.min_eq_left (by omega),List.take_append_of_le_length (by rw[llt];omega),List.take_take,Nat.min_self]at e2
     exact e2
    ·show zao.blk g2 160 (lay (lay cur (i*3) vs) ((i+1)*3) (cs.drop (i*3)))::_=_
     rw[hvl,←Nat.succ_mul]
def zbK (p:Nat)(A:Option Addr)(c:Nat)(l:List Due)(F:List zao):List zao:=
 .blk p 147 [.slice A l.length c]::.own A l.length c 160 3 (l.flatMap Due.enc)::F
def ordD (a b:Due):Int:=orI [cmpI a.tick b.tick,cmpI a.kind b.kind,cmpI a.id b.id]
def hasD (kind id:Int)(d:Due):Bool:=d.kind==kind&&d.id==id
theorem znF (W:World)(d:Due)(b1 b2:Nat)(kind id:Int):
 zaw Tryz.prog W 172 [.agg d.enc.toArray,.pointer (some ⟨b1,0,none⟩),.pointer (some ⟨b2,0,none⟩)] [.blk b1 3 [.int .i64 kind],.blk b2 2 [.int .i64 id]] (.bool (hasD kind id d)):=by
 refine zaw.of (fun h' hs=> ?_)
 have m1:=hs _ mem0
 have m2:=hs _ mem1
 refine zaf Tryz.func172 rfl rfl Tryz.results172 Tryz.ntmps172 rfl rfl ?_
 repeat' (first|apply zah|apply zaa|apply zak|apply zag|apply zac hT;iterate 4 exact rfl|apply zaK;iterate 3 exact rfl|(apply zad;(iterate 5 exact rfl);first|(apply zaq hT;exact rfl;exact rfl;(repeat(first|exact mcs|exact m1|exact m2|apply mcm));exact rfl;exact rfl))|apply zaA;(iterate 5 exact rfl);intro _|(apply zaH;exact rfl;all_goals(intro hb;(fail_if_success (change true=true at hb));(fail_if_success (change false=false at hb));(try dsimp only at hb);(try simp only[hb]);(first|replace hb:=odt hb|replace hb:=odf hb);(try omega))))
 ·apply zca (J:=[_]);exact rfl;rotate_left;exact plr _
  simp[hasD,hb]
 ·apply zca (J:=[_]);exact rfl;rotate_left;exact plr _
  simp[hasD,hb]
theorem znG (W:World)(a b:Due):zaw Tryz.prog W 181 [.agg a.enc.toArray,.agg b.enc.toArray] [] (.int .i64 (ordD a b)):=by
 refine zaw.of (fun h' hs=> ?_)
 refine zaf Tryz.func181 rfl rfl Tryz.results181 Tryz.ntmps181 rfl rfl ?_
 repeat' (first|apply zah|apply zaa|apply zak|apply zag|apply zac hT;iterate 4 exact rfl|apply zaC [161,211,210] [] hmix;decide+kernel|(apply zab (hs:=((zqz W _ _).mono (by simp)));iterate 7 exact rfl)|(apply zab (hs:=((cmpi W _ _).mono (by simp)));iterate 7 exact rfl)|apply zaB hT;(iterate 12 exact rfl);intro g1|(apply zab (hs:=(zrt W _ _ 3 3 [cmpI a.tick b.tick,cmpI a.kind b.kind,cmpI a.id b.id] rfl (zaz.own mem0 rfl (by simp[Value.oneCell'])) (by omega)));iterate 7 exact rfl)|(apply zad;(iterate 5 exact rfl);first|(apply zaq hT;exact rfl;exact rfl;exact mX;exact rfl;exact rfl))|apply zaA;(iterate 5 exact rfl);intro _)
 apply zca (J:=[_,_,_]);exact rfl;exact rfl;exact plr _
theorem zlq (W:World)(p:Nat)(A:Option Addr)(c:Nat)(l:List Due)(kind id:Int)(hb:l.length≤1000000):
 zaw Tryz.prog W 130 [.pointer (some ⟨p,0,none⟩),.int .i64 kind,.int .i64 id] (zbK p A c l []) (.int .i64 (zaT (hasD kind id) l)):=by
 refine zaw.of (fun h' hs=> ?_)
 have m1:=hs _ mem0
 have m2:=hs _ mem1
 refine zaf Tryz.func130 rfl rfl Tryz.results130 Tryz.ntmps130 rfl rfl ?_
 refine zbi m2 (fun hl hnc hcc hsome hnone hone=> ?_)
 have hr:=zaz.own (W:=W) m2 hl hone
 have hq:∀g1 g2,zaw Tryz.prog W 171 [.slice A l.length c,.func (.func 172) #[] #[.pointer (some ⟨g1,0,none⟩),.pointer (some ⟨g2,0,none⟩)]]
  (.blk g2 2 [.int .i64 id]::.blk g1 3 [.int .i64 kind]::h') (.int .i64 (zaT (hasD kind id) l)):=fun g1 g2=>
  zjz W _ A _ c l rfl hr.cons.cons _ [_,_] (hasD kind id) (fun x _=>(znF W x g1 g2 kind id).mono (by intro c hc;simp only[List.mem_cons,List.not_mem_nil,or_false]at hc;rcases hc with rfl|rfl<;>simp)) (by omega)
 repeat' (first|apply zah|apply zaa|apply zak|apply zag|apply zac hT;iterate 4 exact rfl|apply zab (hs:=(hq _ _));iterate 7 exact rfl|(apply zad;(iterate 5 exact rfl);first|(apply zaq hT;exact rfl;exact rfl;(repeat(first|exact m1|apply mcm));exact rfl;exact rfl))|apply zaA;(iterate 5 exact rfl);intro _)
 apply zca (J:=[_,_]);exact rfl;exact rfl;exact plr _
def insD (l:List Due)(d:Due):List Due:=l.take (bsN (ordD · d) l)++[d]++l.drop (bsN (ordD · d) l)
theorem zlr (l:List Due)(d:Due):(insD l d).length=l.length+1:=by simp[insD];omega
def addD (l:List Due)(d:Due):List Due:=if zaT (hasD d.kind d.id) l<0 then insD l d else l
theorem zkA (W:World)(F:List zao)(p:Nat)(A:Option Addr)(c:Nat)(l:List Due)(d:Due)(hb:l.length≤1000000)
 (hmono:∀(i j:Nat) x y,i≤j→l[i]? =some x→l[j]? =some y→ordD y d<0→ordD x d<0):
 zax Tryz.prog W 147 [.pointer (some ⟨p,0,none⟩),.agg d.enc.toArray] (zbK p A c l F) (fun v h'=>v=.bool (decide (zaT (hasD d.kind d.id) l<0))∧∃A' c',h'=zbK p A' c' (addD l d) F):=by
 refine zax.dropTo ?_
 refine zaf Tryz.func147 rfl rfl Tryz.results147 Tryz.ntmps147 rfl rfl ?_
 have hfind:∀g1,zaw Tryz.prog W 130 [.pointer (some ⟨p,0,none⟩),.int .i64 d.kind,.int .i64 d.id] (.blk g1 160 d.enc.toArray.toList::zbK p A c l F) (.int .i64 (zaT (hasD d.kind d.id) l)):=fun g1=>
  (zlq W p A c l d.kind d.id hb).mono (by intro c hc;simp only[zbK,List.mem_cons,List.not_mem_nil,or_false]at hc ⊢;rcases hc with rfl|rfl<;>simp)
 refine zbi (h:=zbK p A c l F) mem1 (fun hl hnc hcc hsome hnone hone=> ?_)
 by_cases hi:zaT (hasD d.kind d.id) l<0
 ·have hd:decide (zaT (hasD d.kind d.id) l≥0)=false:=by simp;omega
  have hr:∀g1,zaz W (.blk g1 160 d.enc.toArray.toList::zbK p A c l F) A l.length 3 (l.flatMap Due.enc):=fun g1=>zaz.own mem2 hl hone
  have hbs:∀g1,zaw Tryz.prog W 180 [.slice A l.length c,.agg d.enc.toArray,.func (.func 181) #[] #[]] (.blk g1 160 d.enc.toArray.toList::zbK p A c l F) (.tuple #[.int .i64 (bsN (ordD · d) l),.bool (bsB (ordD · d) l)]):=fun g1=>
   zmf W _ A _ c l rfl (hr g1) _ ⟨d,rfl⟩ _ [] (ordD · d) (fun x _=>(znG W x d).mono (by simp)) hmono (by omega)
  have hle:=zmW (c:=(ordD · d)) (l:=l)
  have hins:∀g1 gv,zax Tryz.prog W 182 [.slice A l.length c,.int .i64 (bsN (ordD · d) l),.slice (some ⟨gv,0,none⟩) 1 1] (.own (some ⟨gv,0,none⟩) 1 1 160 3 d.enc::.blk g1 160 d.enc.toArray.toList::zbK p A c l F) _:=fun g1 gv=>
   (znE W (.own (some ⟨gv,0,none⟩) 1 1 160 3 d.enc::.blk g1 160 d.enc.toArray.toList::.blk p 147 [.slice A l.length c]::F) A l.length c (bsN (ordD · d) l) (l.flatMap Due.enc) gv d.enc mem0 (by omega) (by omega) (by omega)).perm (selS (selS (selS sel0)))
  repeat' (first|apply zah|apply zaa|apply zak|apply zam|apply zag|apply zac hT;iterate 4 exact rfl|apply zaC [] [] hmix;decide+kernel|apply zab (hs:=(hfind _));iterate 7 exact rfl|apply zab (hs:=(hbs _));iterate 7 exact rfl|apply zaB hT;(iterate 12 exact rfl);intro gv|apply zau (hs:=(hins _ _));(iterate 7 exact rfl);rintro _ _ ⟨A',c',rfl,rfl⟩|apply zar hT;(iterate 6 exact rfl);exact(selS (selS (selS sel0)));(iterate 3 exact rfl);exact nle rfl|(apply zad;(iterate 5 exact rfl);first|(apply zaq hT;exact rfl;exact rfl;exact mX;exact rfl;exact rfl)|(apply zaF hT;exact rfl;exact rfl;exact mX;exact rfl))|apply zaA;(iterate 5 exact rfl);intro _|(apply zal;exact rfl;all_goals(intro hb;(try dsimp only at hb);(try simp only[hb]);(first|replace hb:=odt hb|replace hb:=odf hb);(try omega))))
  apply ret1;exact rfl
  refine⟨zbK p A' c' (addD l d) F,?_,by simp[hi],A',c',rfl⟩
  have e:addD l d=insD l d:=by simp[addD,hi]
  have hc:(l.flatMap Due.enc).take ((bsN (ordD · d) l)*3)++d.enc++(l.flatMap Due.enc).drop ((bsN (ordD · d) l)*3)=(insD l d).flatMap Due.enc:=by
   rw[zci Due.enc_len,zde Due.enc_len];simp[insD]
  rw[e,zbK,zlr,←hc]
  apply zaQ;exact sX
  apply zaQ;exact sX
  exact dX
 ·have hd:decide (zaT (hasD d.kind d.id) l≥0)=true:=by simp;omega
  repeat' (first|apply zah|apply zaa|apply zak|apply zag|apply zac hT;iterate 4 exact rfl|apply zab (hs:=(hfind _));iterate 7 exact rfl|(apply zad;(iterate 5 exact rfl);first|(apply zaq hT;exact rfl;exact rfl;exact mX;exact rfl;exact rfl))|apply zaA;(iterate 5 exact rfl);intro _|(apply zal;exact rfl;all_goals(intro hb;(try dsimp only at hb);(try simp only[hb]);(first|replace hb:=odt hb|replace hb:=odf hb);(try omega))))
  apply ret1;exact rfl
  have e:addD l d=l:=by simp[addD,hi]
  exact⟨zbK p A c l F,za5 zaX,by simp[hi],A,c,by rw[e]⟩
def zbg (l:List Due)(kind id:Int):List Due:=if zaT (hasD kind id) l<0 then l else l.eraseIdx (zaT (hasD kind id) l).toNat
theorem zfp (W:World)(F:List zao)(p:Nat)(A:Option Addr)(c:Nat)(l:List Due)(kind id:Int)(hb:l.length≤1000000):
 zax Tryz.prog W 87 [.pointer (some ⟨p,0,none⟩),.int .i64 kind,.int .i64 id] (zbK p A c l F) (fun v h'=>v=.bool (decide (¬zaT (hasD kind id) l<0))∧∃A' c',h'=zbK p A' c' (zbg l kind id) F):=by
 refine zax.dropTo ?_
 refine zaf Tryz.func87 rfl rfl Tryz.results87 Tryz.ntmps87 rfl rfl ?_
 have hfind:zaw Tryz.prog W 130 [.pointer (some ⟨p,0,none⟩),.int .i64 kind,.int .i64 id] (zbK p A c l F) (.int .i64 (zaT (hasD kind id) l)):=
  (zlq W p A c l kind id hb).mono (by intro c hc;simp only[zbK,List.mem_cons,List.not_mem_nil,or_false]at hc ⊢;rcases hc with rfl|rfl<;>simp)
 have hlt:=ziz (p:=hasD kind id) (l:=l)
 by_cases hi:zaT (hasD kind id) l<0
 ·have hd:decide (zaT (hasD kind id) l<0)=true:=by simp;omega
  repeat' (first|apply zah|apply zaa|apply zak|apply zam|apply zag|apply zac hT;iterate 4 exact rfl|apply zab (hs:=hfind);iterate 7 exact rfl|apply zan;iterate 2 exact rfl|(apply zal;exact rfl;all_goals(intro hb;(try dsimp only at hb);(try simp only[hb]);(first|replace hb:=odt hb|replace hb:=odf hb);(try omega))))
  apply ret1;exact rfl
  have e:zbg l kind id=l:=by simp[zbg,hi]
  exact⟨zbK p A c l F,zaX,by simp[hi],A,c,by rw[e]⟩
 ·have hd:decide (zaT (hasD kind id) l<0)=false:=by simp;omega
  have hdel:=(zjA W (.blk p 147 [.slice A l.length c]::F) A l.length c (zaT (hasD kind id) l) (zaT (hasD kind id) l+1) (l.flatMap Due.enc) (by omega) (by omega) (by omega)).perm (h':=zbK p A c l F) (selS sel0)
  repeat' (first|apply zah|apply zaa|apply zak|apply zam|apply zag|apply zac hT;iterate 4 exact rfl|(apply zaM hT;(iterate 4 exact rfl);(iterate 2 (first|omega)))|apply zab (hs:=hfind);iterate 7 exact rfl|apply zau (hs:=hdel);(iterate 7 exact rfl);rintro _ _ ⟨rfl,rfl⟩|apply zar hT;(iterate 6 exact rfl);exact(selS sel0);(iterate 3 exact rfl);exact nle rfl|(apply zad;(iterate 5 exact rfl);first|(apply zaq hT;exact rfl;exact rfl;exact mX;exact rfl;exact rfl))|apply zan;iterate 2 exact rfl|(apply zal;exact rfl;all_goals(intro hb;(try dsimp only at hb);(try simp only[hb]);(first|replace hb:=odt hb|replace hb:=odf hb);(try omega))))
  apply ret1;exact rfl
  refine⟨zbK p A c (zbg l kind id) F,?_,by simp[hi],A,c,rfl⟩
  obtain⟨k,hk⟩:∃k:Nat,zaT (hasD kind id) l=k:=⟨(zaT (hasD kind id) l).toNat,by omega⟩
  have e:zbg l kind id=l.take k++l.drop (k+1):=by rw[zbg,if_neg hi,hk];simp[List.eraseIdx_eq_take_drop_succ]
  have hc:(l.flatMap Due.enc).take (k*3)++(l.flatMap Due.enc).drop ((k+1)*3)=(l.take k++l.drop (k+1)).flatMap Due.enc:=by
   rw[zci Due.enc_len,zde Due.enc_len];simp
  have hlen:(l.take k++l.drop (k+1)).length=l.length - (((k:Int)+1).toNat - (k:Int).toNat):=by simp;omega
  rw[e,zbK,hlen,←hc,hk]
  apply zaQ;exact sX
  apply zaQ;exact sX
  exact dX
def zb4 (l:List Due)(tick:Int):Nat:=(l.takeWhile fun d=>decide (d.tick≤tick)).length
theorem ziN {tick:Int}:∀{l:List Due} {i:Nat},i≤l.length→(∀(k:Nat) y,k<i→l[k]? =some y→y.tick≤tick)→(∀y,l[i]? =some y→¬y.tick≤tick)→zb4 l tick=i
 |[],i,h,_,_=>by simp at h;subst h;rfl
 |x::l,0,_,_,h2=>by
  have:=h2 x rfl
  simp[zb4,List.takeWhile_cons,this]
 |x::l,i+1,h,h1,h2=>by
  have h0:=h1 0 x (by omega) rfl
  have ih:=ziN (tick:=tick) (l:=l) (i:=i) (by simpa using h) (fun k y hk hy=>h1 (k+1) y (by omega) (by simpa using hy)) (fun y hy=>h2 y (by simpa using hy))
  unfold zb4 at*
  simp[List.takeWhile_cons,h0,ih]
theorem zpo (W:World)(F:List zao)(p:Nat)(A:Option Addr)(c:Nat)(l:List Due)(tick:Int)(hb:l.length≤1000000):
 zax Tryz.prog W 77 [.pointer (some ⟨p,0,none⟩),.int .i64 tick] (zbK p A c l F)
  (fun v h'=>∃A1 c1 A2 c2,v=.slice A1 (zb4 l tick) c1∧h'=.own A1 (zb4 l tick) c1 160 3 ((l.take (zb4 l tick)).flatMap Due.enc)::zbK p A2 c2 (l.drop (zb4 l tick)) F):=by
 refine zax.dropTo ?_
 refine zaf Tryz.func77 rfl rfl Tryz.results77 Tryz.ntmps77 rfl rfl ?_
 refine zbi (h:=zbK p A c l F) mem1 (fun hl hnc hcc hsome hnone hone=> ?_)
 have hr:zaz W (zbK p A c l F) A l.length 3 (l.flatMap Due.enc):=zaz.own mem1 hl hone
 repeat' (first|apply zah|apply zaa|apply zam|apply zaj|apply zag|apply zac hT;iterate 4 exact rfl|apply zan;iterate 2 exact rfl)
 refine zbT (α:=Nat) (E:=fun k=>[(0,.pointer (some ⟨p,0,none⟩)),(1,.int .i64 tick),(5,.int .i64 k)]) (H:=fun _=>zbK p A c l F) (μ:=fun k=>l.length - k)
  (S:=fun k=>k≤l.length∧∀(j:Nat) y,j<k→l[j]? =some y→y.tick≤tick) 0 (J:=[]) ⟨Nat.zero_le _,fun j y hj=>by omega⟩ ⟨rfl,rfl,rfl,trivial⟩ (plr _) ?_
 rintro k ⟨hk1,hk2⟩
 have hclone:∀n:Nat,n≤l.length→zax Tryz.prog W 117 [.slice A n c] (zbK p A c l F) _:=fun n hn=>zpn W (zbK p A c l F) A n c _ (hr.take hn) (by omega)
 have fin:zb4 l tick=k→∀A1 c1 A2,za7 (.blk p 147 [.slice A2 (l.length - k) c]::.own A2 (l.length - k) c 160 3 ([]++(l.flatMap Due.enc).drop (k*3))::.own A1 k c1 160 3 ((l.flatMap Due.enc).take (k*3))::F)
  (.own A1 (zb4 l tick) c1 160 3 ((l.take (zb4 l tick)).flatMap Due.enc)::zbK p A2 c (l.drop (zb4 l tick)) F):=fun hkk A1 c1 A2=>by
  rw[hkk,zbK,List.length_drop,List.nil_append,zci Due.enc_len,zde Due.enc_len]
  apply zaQ;exact sX
  apply zaQ;exact sX
  apply zaQ;exact sX
  exact zaX
 have hdel:∀A1 c1,zax Tryz.prog W 118 _ (.own A1 (k:Int).toNat c1 160 3 ((l.flatMap Due.enc).take ((k:Int).toNat*3))::zbK p A c l F) _:=fun A1 c1=>
  (zjA W (.own A1 (k:Int).toNat c1 160 3 ((l.flatMap Due.enc).take ((k:Int).toNat*3))::.blk p 147 [.slice A l.length c]::F) A l.length c 0 k (l.flatMap Due.enc) (by omega) (by omega) (by omega)).perm (selS (selS sel0))
 by_cases hlt:k<l.length
 ·obtain⟨x,hx⟩:∃x,l[k]? =some x:=⟨l[k]'(by omega),gge (by omega)⟩
  have hx2:l[(k:Int).toNat]? =some x:=by simpa using hx
  obtain⟨g,hg⟩:=hsome (by omega)
  have hA:A.isSome=true:=by rw[hg];rfl
  have hd:decide ((k:Int)<(l.length:Int))=true:=by simp;omega
  by_cases hx0:x.tick≤tick
  ·have hd2:decide (x.tick≤tick)=true:=by simpa using hx0
   repeat' (first|apply zah|apply zaa|apply zam|apply zaj|apply zag|apply zac hT;iterate 4 exact rfl|(apply zaM hT;(iterate 4 exact rfl);(iterate 2 (first|omega)))|apply zaJ hT;(iterate 8 exact rfl);(iterate 2 omega);exact hA|(apply zad;(iterate 5 exact rfl);exact zbx hT rfl rfl hr Due.enc_len (za4 _ _ _) hx2 (by decide) rfl)|(apply zad;(iterate 5 exact rfl);first|(apply zaq hT;exact rfl;exact rfl;exact mX;exact rfl;exact rfl))|(apply zaH;exact rfl;all_goals(intro hb;(fail_if_success (change true=true at hb));(fail_if_success (change false=false at hb));(try dsimp only at hb);(try simp only[hb]);(first|replace hb:=odt hb|replace hb:=odf hb);(try omega)))|(apply zal;exact rfl;all_goals(intro hb;(try dsimp only at hb);(try simp only[hb]);(first|replace hb:=odt hb|replace hb:=odf hb);(try omega))))
   exact⟨k+1,[],by dsimp only;omega,⟨by omega,fun j y hj hy=>by
    by_cases hjk:j=k
    ·subst hjk;rw[hx]at hy;cases hy;exact hx0
    ·exact hk2 j y (by omega) hy⟩,⟨rfl,rfl,rfl,trivial⟩,plr _⟩
  ·have hd2:decide (x.tick≤tick)=false:=by simpa using hx0
   repeat' (first|apply zah|apply zaa|apply zak|apply zaN|apply zag|apply zac hT;iterate 4 exact rfl|apply zaJ hT;(iterate 8 exact rfl);(iterate 2 omega);exact hA|(apply zad;(iterate 5 exact rfl);exact zbx hT rfl rfl hr Due.enc_len (za4 _ _ _) hx2 (by decide) rfl)|apply zbU hT;(iterate 8 exact rfl);(iterate 2 omega)|(apply zau (hs:=(hclone _ (by omega)));(iterate 7 exact rfl);rintro _ _ ⟨A1,c1,rfl,rfl⟩)|apply zau (hs:=(hdel _ _));(iterate 7 exact rfl);rintro _ _ ⟨rfl,rfl⟩|apply zar hT;(iterate 6 exact rfl);exact(selS (selS sel0));(iterate 3 exact rfl);exact nle rfl|(apply zad;(iterate 5 exact rfl);first|(apply zaq hT;exact rfl;exact rfl;exact mX;exact rfl;exact rfl))|(apply zaH;exact rfl;all_goals(intro hb;(fail_if_success (change true=true at hb));(fail_if_success (change false=false at hb));(try dsimp only at hb);(try simp only[hb]);(first|replace hb:=odt hb|replace hb:=odf hb);(try omega)))|(apply zal;exact rfl;all_goals(intro hb;(try dsimp only at hb);(try simp only[hb]);(first|replace hb:=odt hb|replace hb:=odf hb);(try omega))))
   have hkk:zb4 l tick=k:=ziN hk1 hk2 (fun y hy=>by rw[hx]at hy;cases hy;exact hx0)
   have hval:Value.slice A1 ((k:Int).toNat) c1=.slice A1 (zb4 l tick) c1:=by rw[hkk];simp
   apply ret1;exact rfl
   refine⟨_,fin hkk A1 c1 A,A1,c1,A,c,?_,rfl⟩
   exact hval
 ·have hd:decide ((k:Int)<(l.length:Int))=false:=by simp;omega
  repeat' (first|apply zah|apply zaa|apply zak|apply zaN|apply zag|apply zac hT;iterate 4 exact rfl|apply zaK;iterate 3 exact rfl|apply zbU hT;(iterate 8 exact rfl);(iterate 2 omega)|(apply zau (hs:=(hclone _ (by omega)));(iterate 7 exact rfl);rintro _ _ ⟨A1,c1,rfl,rfl⟩)|apply zau (hs:=(hdel _ _));(iterate 7 exact rfl);rintro _ _ ⟨rfl,rfl⟩|apply zar hT;(iterate 6 exact rfl);exact(selS (selS sel0));(iterate 3 exact rfl);exact nle rfl|(apply zad;(iterate 5 exact rfl);first|(apply zaq hT;exact rfl;exact rfl;exact mX;exact rfl;exact rfl))|apply zan;iterate 2 exact rfl|(apply zaH;exact rfl;all_goals(intro hb;(fail_if_success (change true=true at hb));(fail_if_success (change false=false at hb));(try dsimp only at hb);(try simp only[hb]);(first|replace hb:=odt hb|replace hb:=odf hb);(try omega))))
  have hkk:zb4 l tick=k:=ziN hk1 hk2 (fun y hy=>by rw[List.getElem?_eq_none (by omega)]at hy;cases hy)
  have hval:Value.slice A1 ((k:Int).toNat) c1=.slice A1 (zb4 l tick) c1:=by rw[hkk];simp
  apply ret1;exact rfl
  refine⟨_,fin hkk A1 c1 A,A1,c1,A,c,?_,rfl⟩
  exact hval
theorem znH (W:World)(F:List zao)(p:Nat)(A:Option Addr)(c:Nat)(l:List Due)(tick:Int)(hb:l.length≤1000000):
 zax Tryz.prog W 77 [.pointer (some ⟨p,0,none⟩),.int .i64 tick] (zbK p A c l F)
  (fun v h'=>∃A1 c1 A2 c2,v=.slice A1 (zb4 l tick) c1∧h'=.own A1 (zb4 l tick) c1 160 3 ((l.take (zb4 l tick)).flatMap Due.enc)::zbK p A2 c2 (l.drop (zb4 l tick)) F∧OwnF A1 (zb4 l tick) c1 3 ((l.take (zb4 l tick)).flatMap Due.enc)):=
 (zpo W F p A c l tick hb).conv (by
   rintro v h' ⟨A1,c1,A2,c2,rfl,rfl⟩ w hw
   exact⟨_,hw,A1,c1,A2,c2,rfl,rfl,hw.ownF mem0⟩)
end Go.Proofs.YteocfhdocpeokaaGreat
namespace Go.Proofs.YteocfhdocpeokaaGreat
open Go Go.Sl
/-! ### a place -/
structure Rs where
 d:Dk
 id:Int
 outs:List OutR
 err:Int
def bad (d:Dk)(e:Int):Rs:=⟨d,0,[],e⟩
/-! ### trades -/
def zbr (d:Dk)(s who other bond price qty ask:Int):zaL:=
 if s=2 then⟨d.trades.length+1,bond,other,who,price,qty,ask,d.now⟩else⟨d.trades.length+1,bond,who,other,price,qty,ask,d.now⟩
def zcY (d:Dk)(t:zaL):Dk:=
 {d with cash:=(putP ⟨d.cash,d.pos⟩ t).cash,pos:=(putP ⟨d.cash,d.pos⟩ t).pos,trades:=d.trades++[t],head:=(zcf d.head.toNat (zbR t):Nat)}
/-! ### orders -/
def zcE (d:Dk)(n:Int):Bool:=decide (0≤n)&&decide (n<d.books.length)
def zbv (d:Dk)(n:Int):zaP:=(at0 d.bonds n).getD ⟨1,1,1,1,1,1,true⟩
def za8 (d:Dk)(n:Nat):List zap:=d.books.getD n []
structure FSt where
 d:Dk
 outs:List OutR
 rest:Int
def zbN (who:Int)(o:zap)(n:Nat)(s:FSt)(f:zbM):FSt:=
 let rest:=s.rest - f.qty
 let t:=zbr s.d o.side who f.mparty n f.price f.qty 0
 ⟨zcY s.d t,s.outs++[outM f.mparty 20 [f.maker,f.price,f.qty,f.left],outM who 20 [o.id,f.price,f.qty,rest]]++zdE t,rest⟩
def zby (d:Dk)(who:Int)(n:Nat)(o:zap)(how:Int):Rs:=
 let v:=doV how {o with seq:=d.seq+1} (za8 d n)
 if v.err≠0 then bad d v.err else
 let s:=v.fills.foldl (zbN who o n) ⟨{d with seq:=d.seq+1,books:=d.books.set n v.bk},v.gones.map fun g=>outM who 21 [g.id,g.left],o.left⟩
 ⟨s.d,0,if how≠0∧how≠3∧v.left>0 then s.outs++[outM who 21 [o.id,v.left]]else s.outs,0⟩
def zcg (d:Dk)(who:Int)(m:MsgR):Rs:=
 if zcE d m.f0=false then bad d 4 else if isB m.f1=false∨m.f4<0∨m.f4>4 then bad d 1 else
 let e:=znb (zbv d m.f0) m.f4 m.f2 m.f3
 if e≠0 then bad d e else
 let r:=zby d who m.f0.toNat ⟨d.order+1,0,who,m.f1,m.f2,m.f3⟩ m.f4
 if r.err=0 then{r with d:={r.d with order:=r.d.order+1},id:=r.d.order+1}else r
def zcx (bs:List (List zap))(id:Int):Int:=zaT (fun l=>(getO id l).isSome) bs
def zbm (d:Dk)(who kind id price qty:Int):Rs:=
 let n:=zcx d.books id
 if n<0 then bad d 4 else
 match getO id (za8 d n.toNat)with
 |none=>bad d 4
 |some o=>
  if o.owner≠who then bad d 5
  else if kind=8 then
   (if zdj (zbv d n) price qty≠0 then bad d (zdj (zbv d n) price qty)
   else if price=o.price∧qty≤o.left then⟨{d with books:=d.books.set n.toNat (zb2 o.id qty (za8 d n.toNat))},id,[],zdp o.id qty (za8 d n.toNat)⟩
   else{zby {d with books:=d.books.set n.toNat (zbf o.id (za8 d n.toNat))} who n.toNat {o with price:=price,left:=qty} 0 with id:=id})
  else⟨{d with books:=d.books.set n.toNat (zbf id (za8 d n.toNat))},id,[outM who 21 [id,o.left]],0⟩
/-! ### requests -/
def zeV (n:Int):Bool:=inB n 1 1000
def askD (d:Dk)(who:Int)(m:MsgR):Rs:=
 let dealers:=m.f3%18446744073709551616
 if zcE d m.f0=false then bad d 4 else if isB m.f1=false then bad d 1 else if (zbv d m.f0).halted then bad d 6
 else if qtyE (zbv d m.f0) m.f2≠0 then bad d (qtyE (zbv d m.f0) m.f2)else if zf9 d.parties who dealers≠0 then bad d (zf9 d.parties who dealers)
 else if zeV m.f4=false then bad d 1 else
 let a:AskR:=⟨d.ask+1,who,m.f0,m.f1,m.f2,dealers,d.now+m.f4,0,1,0⟩
 if addE a d.asks≠0 then bad d (addE a d.asks)else
 ⟨{d with asks:=addA a d.asks,ask:=d.ask+1,due:=addD d.due ⟨a.ends,1,a.id⟩},d.ask+1,
   (List.range d.parties.length).filterMap fun(i:Nat)=>if zgJ dealers i then some (outM i 22 [a.id,m.f0,m.f1,m.f2,a.ends])else none,0⟩
def zcZ (rf:Bool)(d:Dk)(who:Int)(m:MsgR):Rs:=
 match getA m.f0 d.asks with
 |none=>bad d 4
 |some a=>
  if zgJ a.dealers who=false then bad d 5 else if a.state≠1 then bad d 11 else if (zbv d a.bond).halted then bad d 6
  else if zei (zbv d a.bond) m.f1≠0 then bad d (zei (zbv d a.bond) m.f1)else if zeV m.f2=false then bad d 1 else
  let q:zat:=⟨d.quote+1,a.id,who,m.f1,d.now+m.f2,true⟩
  if badQ q d.quotes then bad d 1 else
  ⟨{d with quotes:=putQ q d.quotes,quote:=d.quote+1,due:=addD (if rf then zbg d.due 3 (oldQ q d.quotes)else d.due) ⟨q.expires,3,q.id⟩},d.quote+1,
    [outM a.client 23 [a.id,q.id,m.f1,q.expires]],0⟩
def zev (d:Dk)(q:zat):Bool:=match getA q.ask d.asks with
 |none=>false
 |some a=>a.state==2&&a.hit==q.id
def zc4 (rf:Bool)(d:Dk)(who id:Int):Rs:=
 match getQ id d.quotes with
 |none=>bad d 4
 |some q=>if q.dealer≠who then bad d 5 else if zev d q then bad d 11 else
  if pullE id who d.quotes≠0 then bad d (pullE id who d.quotes)else
  ⟨{d with quotes:=zd1 id who d.quotes,due:=if rf then zbg d.due 3 id else d.due},id,[],0⟩
def zc0 (d:Dk)(who id:Int):Int:=match getA id d.asks with
 |none=>4
 |some a=>if a.client≠who then 5 else if a.state≠1 then 11 else 0
def zcF (d:Dk)(a:AskR)(q:zat):Int:=if (zbv d a.bond).halted then 6 else zeJ a.side q.price a.qty (za8 d a.bond.toNat)
def hitQ (d:Dk)(a:AskR)(q:zat):Rs:=
 if q.live=false∨q.expires≤d.now then bad d 12 else if zcF d a q≠0 then bad d (zcF d a q)
 else if zdb d.parties d.used q.dealer q.price a.qty≠0 then bad d (zdb d.parties d.used q.dealer q.price a.qty)
 else if zeU a.id q.id (d.now+d.look) d.asks≠0 then bad d (zeU a.id q.id (d.now+d.look) d.asks)else
 ⟨{d with asks:=zdA a.id q.id (d.now+d.look) d.asks,due:=addD d.due ⟨d.now+d.look,2,a.id⟩},a.id,[outM q.dealer 24 [a.id,q.id,d.now+d.look]],0⟩
def hitD (d:Dk)(who id:Int):Rs:=
 match getQ id d.quotes with
 |none=>bad d 4
 |some q=>if zc0 d who q.ask≠0 then bad d (zc0 d who q.ask)else match getA q.ask d.asks with
  |none=>bad d 4
  |some a=>hitQ d a q
def zfq (d:Dk)(who id:Int):Rs:=
 if zc0 d who id≠0 then bad d (zc0 d who id)else match getA id d.asks with
 |none=>bad d 4
 |some a=>match ziI a.side (d.quotes.filter (zcu a.id d.now))with
  |none=>bad d 12
  |some q=>hitQ d a q
def zc8 (d:Dk)(id:Int):Dk:=
 {d with quotes:=d.quotes.filter fun q=> !zdq id q,due:=zbg (zbg ((d.quotes.filter (zdq id)).foldl (fun l q=>zbg l 3 q.id) d.due) 1 id) 2 id}
def zeF (d:Dk)(a:AskR):Dk:=zc8 {d with asks:=endA a.id 4 d.asks} a.id
def ziO (a:AskR):List OutR:=[outM a.client 27 [a.id]]
def zaU (rf:Bool)(d:Dk)(a:AskR):Dk×List OutR:=
 let d1:={d with quotes:=zb3 a.hit d.quotes,due:=if rf then zbg (zbg d.due 3 a.hit) 2 a.id else d.due}
 if d.now≥a.ends then(zeF d1 a,ziO a)else({d1 with asks:=zd2 a.id d.asks},[outM a.client 25 [a.id,a.hit]])
def qOf (d:Dk)(id:Int):zat:=(getQ id d.quotes).getD ⟨0,0,0,0,0,false⟩
def zc1 (rf:Bool)(d:Dk)(who kind id:Int):Rs:=
 match getA id d.asks with
 |none=>bad d 4
 |some a=>if a.state≠2 then bad d 11 else
  let q:=qOf d a.hit
  if q.dealer≠who then bad d 5 else if kind=15 then
   (let r:=zaU rf {d with due:=zbg d.due 2 a.id} a
   ⟨r.1,a.id,r.2,0⟩)
  else if zcF d a q≠0 then bad d (zcF d a q)
  else if zdb d.parties d.used q.dealer q.price a.qty≠0 then bad d (zdb d.parties d.used q.dealer q.price a.qty)else
  let d1:=zc8 {d with used:=d.used.set q.dealer.toNat (zdY d.used q.dealer+q.price*a.qty),asks:=endA a.id 3 d.asks} a.id
  let t:=zbr d1 a.side a.client q.dealer a.bond q.price a.qty a.id
  ⟨zcY d1 t,a.id,outM a.client 26 [a.id,q.price]::zdE t,0⟩
def zbE (d:Dk)(who id:Int):Rs:=
 if zc0 d who id≠0 then bad d (zc0 d who id)else match getA id d.asks with
 |none=>bad d 4
 |some a=>⟨zeF d a,id,ziO a,0⟩
def zdJ (d:Dk)(n is:Int):Rs:=
 if zcE d n=false then bad d 4 else if is≠0∧is≠1 then bad d 1 else⟨{d with bonds:=d.bonds.set n.toNat {zbv d n with halted:=is==1}},n,[],0⟩
/-! ### what is asked, ticks, who is gone -/
def zcL (rf:Bool)(d:Dk)(who:Int)(m:MsgR):Rs:=
 if zhQ m.kind=false∨zna m=false∨mayV d.parties who m.kind=false then bad d 5
 else if m.kind=6 then zcg d who m else if m.kind=7∨m.kind=8 then zbm d who m.kind m.f0 m.f1 m.f2
 else if m.kind=10 then zcZ rf d who m else if m.kind=11 then zc4 rf d who m.f0 else if m.kind=12 then hitD d who m.f0 else if m.kind=13 then zfq d who m.f0
 else if m.kind=14∨m.kind=15 then zc1 rf d who m.kind m.f0 else if m.kind=16 then zbE d who m.f0 else if m.kind=9 then askD d who m else zdJ d m.f0 m.f1
def doD (rf:Bool)(d:Dk)(who seq:Int)(m:MsgR):Dk×List OutR:=
 let r:=zcL rf d who m
 (r.d,if r.err≠0 then [outM who 19 [seq,r.err]]else outM who 18 [seq,r.id]::r.outs)
def dueD (rf:Bool)(s:Dk×List OutR)(x:Due):Dk×List OutR:=
 if x.kind=3 then({s.1 with quotes:=zb3 x.id s.1.quotes},s.2)
 else match getA x.id s.1.asks with
 |none=>s
 |some a=>if x.kind=2∧a.state=2 then(let r:=zaU rf s.1 a;(r.1,s.2++r.2))else if x.kind=1∧a.state=1 then(zeF s.1 a,s.2++ziO a)else s
def zc5 (rf:Bool)(d:Dk):Dk×List OutR:=
 (d.due.take (zb4 d.due (d.now+1))).foldl (dueD rf) ({d with now:=d.now+1,due:=d.due.drop (zb4 d.due (d.now+1))},[])
def zea (who s:Int)(l:List zap):List zap:=(za3 s l).filter fun o=>o.owner==who
def zgg (who:Int)(l:List zap):List zap:=(zea who 2 l).foldl (fun l o=>zbf o.id l) ((zea who 1 l).foldl (fun l o=>zbf o.id l) l)
def zct (rf:Bool)(d:Dk)(q:zat):Dk:=if zev d q then d else{d with quotes:=zb3 q.id d.quotes,due:=zbg d.due 3 q.id}
def zeb (rf:Bool)(d:Dk)(who:Int):Dk×List OutR:=
 ((d.quotes.filter (isOf who)).foldl (zct rf) {d with books:=d.books.map (zgg who)},
   d.books.flatMap fun l=>(zea who 1 l++zea who 2 l).map fun o=>outM who 21 [o.id,o.left])
theorem zjB {α:Type}{R:α→α→Prop}{p:α→Bool}(hm:∀x y,R x y→p y=true→p x=true):∀{l:List α},l.Pairwise R→l.takeWhile p=l.filter p
 |[],_=>rfl
 |x::l,h=>by
  rw[List.pairwise_cons]at h
  cases hp:p x
  ·rw[List.takeWhile_cons,List.filter_cons,hp]
   have:l.filter p=[]:=by
    rw[List.filter_eq_nil_iff]
    intro y hy hpy
    rw[hm x y (h.1 y hy) hpy]at hp;cases hp
   simp[this]
  ·rw[List.takeWhile_cons,List.filter_cons,hp,if_pos rfl,if_pos rfl,zjB hm h.2]
theorem zqg {α:Type}{p:α→Bool}:∀{l:List α},(zaT (fun x=> !p x) l<0→l.takeWhile p=l)∧(∀i:Nat,zaT (fun x=> !p x) l=i→l.takeWhile p=l.take i∧i≤l.length)
 |[]=>⟨fun _=>rfl,fun i h=>by simp[zaT]at h⟩
 |x::l=>by
  obtain⟨h1,h2⟩:=zqg (p:=p) (l:=l)
  cases hp:p x
  ·refine⟨fun h=> ?_,fun i h=> ?_⟩
   ·simp[zaT,hp]at h
   ·simp[zaT,hp]at h
    obtain rfl:i=0:=by omega
    simp[List.takeWhile_cons,hp]
  ·refine⟨fun h=> ?_,fun i h=> ?_⟩
   ·have:zaT (fun x=> !p x) l<0:=by
     simp only[zaT,hp,Bool.not_true,Bool.false_eq_true,if_false]at h
     split at h
     ·assumption
     ·omega
    rw[List.takeWhile_cons,hp,if_pos rfl,h1 this]
   ·simp only[zaT,hp,Bool.not_true,Bool.false_eq_true,if_false]at h
    split at h
    ·omega
    ·obtain⟨j,rfl⟩:∃j,i=j+1:=⟨i - 1,by omega⟩
     obtain⟨k1,k2⟩:=h2 j (by omega)
     rw[List.takeWhile_cons,hp,if_pos rfl,k1]
     exact⟨rfl,by simp;omega⟩
theorem zmg {how:Int}{o:zap}(hs:isB o.side=true)(x y:zap)(h:zcb (zbS o.side) x y=true)(hy:zcX how o y=true):zcX how o x=true:=by
 unfold zcX at*
 by_cases hh:how=4
 ·simp[hh]
 ·rcases zeT hs with e|e
  ·simp[e,zbS,isB,zbG,hh,zcb]at*
   split at h<;>simp_all<;>omega
  ·simp[e,zbS,isB,zbG,hh,zcb]at*
   split at h<;>simp_all<;>omega
theorem zjC {how:Int}{o:zap}{l:List zap}(hs:isB o.side=true)(h:za6 l):zaV how o l=(za3 (zbS o.side) l).filter (zcX how o):=by
 have ho:isB (zbS o.side)=true:=by rcases zeT hs with h|h<;>simp[zbS,isB,h]
 exact zjB (fun x y hxy hy=>zmg hs x y hxy hy) (zfj ho h.seq)
theorem zmh {W w:World}{h:List zao}{A:Option Addr}{n c k m:Nat}{e:TypeId}{cs:List Value}(hw:Rep W (.own A n c e k cs::h) w)(hm:m≤n):Rep W (.own A m c e k (cs.take (m*k))::h) w:=by
 have ho:=hw.ownF mem0
 rcases Nat.eq_zero_or_pos n with h0|h0
 ·subst h0
  obtain rfl:m=0:=by omega
  have:cs=[]:=List.eq_nil_of_length_eq_zero (by rw[ho.len];simp)
  subst this;simpa using hw
 ·obtain⟨g,rfl⟩:=ho.at_ h0
  obtain⟨cur,h1,h2,h3,h4,h5,h6,h7⟩:=hw.open_
  have hmk:m*k≤n*k:=Nat.mul_le_mul_right k hm
  refine h7.shut_ h1 ?_ ?_ (by omega) h4 (fun v hv=>h6 v (List.mem_of_mem_take hv))
  ·rw[←h2,List.take_take,Nat.min_eq_left hmk]
  ·rw[llt,h5,Nat.min_eq_left hmk]
end Go.Proofs.YteocfhdocpeokaaGreat
