/- The statements' walks, and what they stand on, joined into few texts: part 6. Conditions stand in each statement. -/
import Derived.Test.YteocfhdocpeokaaGreatBndG5
set_option maxHeartbeats 16000000
set_option linter.all false
namespace Go.Proofs.YteocfhdocpeokaaGreat
open Go Go.Sl
attribute [local irreducible] AW ES EP Ld RetQ
set_option maxRecDepth 100000
theorem zjZ {α β:Type}(f:α→β)(p:β→Bool):∀l:List α,zaT p (l.map f)=zaT (fun x=>p (f x)) l
 |[]=>rfl
 |x::l=>by
  rw[List.map_cons]
  unfold zaT
  rw[zjZ f p l]
theorem zkV (W:World)(h:List zao)(A:Option Addr)(n c:Nat)(l:List BAd)(hn:l.length=n)(hr:zaz W h A n 1 (l.map BAd.ptr))(fn:FuncId)(cap:List Value)(p:BAd→Bool)
 (hf:∀x∈l,zaw Tryz.prog W fn ([ptrV x.p]++cap) h (.bool (p x)))(hb:n≤4611686018427387903):
 zaw Tryz.prog W 139 [.slice A n c,.func (.func fn) #[] cap.toArray] h (.int .i64 (zaT p l)):=by
 refine zaw.of (fun h' hs=> ?_)
 have hr':=hr.mono hs
 refine zaf Tryz.func139 rfl rfl Tryz.results139 Tryz.ntmps139 rfl rfl ?_
 refine zaI hr' rfl (fun hA=> ?_)
 repeat' (first|apply zah|apply zaa|apply zaj|apply zag|apply zac hT;iterate 4 exact rfl)
 refine zbT (α:=Nat) (E:=fun k=>[(0,.slice A n c),(1,.func (.func fn) #[] cap.toArray),(7,.int .i64 n),(8,.int .i64 k)]) (H:=fun _=>h') (μ:=fun k=>n - k)
  (S:=fun k=>k≤n∧∀(j:Nat) y,j<k→l[j]? =some y→p y=false) 0 (J:=[]) ⟨Nat.zero_le _,fun j y hj=>by omega⟩ ⟨rfl,rfl,rfl,rfl,trivial⟩ (plr _) ?_
 rintro k ⟨hk1,hk2⟩
 by_cases hlt:k<n
 ·obtain⟨x,hx⟩:∃x,l[k]? =some x:=⟨l[k]'(by omega),gge (by omega)⟩
  have hx2:(l.map BAd.ptr)[(k:Int).toNat*1]? =some (ptrV x.p):=by simp[hx];rfl
  have hfx:=(hf x (mog hx)).mono hs
  have hA':=hA (by omega)
  repeat' (first|apply zah|apply zaa|apply zak|apply zam|apply zaj|apply zag|apply zac hT;iterate 4 exact rfl|(apply zaM hT;(iterate 4 exact rfl);(iterate 2 (first|omega)))|apply zaJ hT;(iterate 8 exact rfl);(iterate 2 omega);exact hA'|apply zad;(iterate 5 exact rfl);exact zbe hT rfl rfl hr' rfl hx2|apply zab (hs:=hfx);iterate 7 exact rfl|(apply zal;exact rfl;all_goals(intro hb;(try dsimp only at hb);(try simp only[hb]);(first|replace hb:=odt hb|replace hb:=odf hb|skip);(try omega))))
  ·exact zca (J:=[]) rfl (by rw[zds hx hb hk2]) (plr _)
  ·have hpx:=hb
   refine⟨k+1,[],by dsimp only;omega,⟨by omega,fun j y hj hy=> ?_⟩,⟨rfl,rfl,rfl,rfl,trivial⟩,plr _⟩
   by_cases hjk:j<k
   ·exact hk2 j y hjk hy
   ·obtain rfl:j=k:=by omega
    rw[hx]at hy;cases hy;exact hpx
 ·repeat' (first|apply zah|apply zaa|apply zak|apply zaN|apply zag|apply zac hT;iterate 4 exact rfl|(apply zal;exact rfl;all_goals(intro hb;(try dsimp only at hb);(try simp only[hb]);(first|replace hb:=odt hb|replace hb:=odf hb);(try omega))))
  exact zca (J:=[]) rfl (by rw[zb6 (fun(j:Nat) y hj=>hk2 j y (by have:=(gsi.1 hj).1;omega) hj)]) (plr _)
theorem zpU (W:World)(h:List zao)(b:BAd)(g7:Nat)(id:Int)(hl:b.l.length≤1000000)(m0:zao.blk g7 2 [.int .i64 id]∈h)(m1:zao.blk b.p 152 [b.s.sl b.l.length]∈h)(m2:b.s.own b.l.length 168 6 (b.l.flatMap zap.enc)∈h):
 zaw Tryz.prog W 140 ([ptrV b.p]++[.pointer (some ⟨g7,0,none⟩)]) h (.bool (getO id b.l).isSome):=by
 refine zaw.ofD (fun h' hs=> ?_)
 have n0:=hs _ m0
 have hG:=(zlh W b.p b.s.A b.s.c b.l id hl).mono (h':=h') (zbp (hs _ m1) (hs _ m2))
 rcases hg:getO id b.l with _|od
 all_goals
  rw[hg]at hG
  refine zaf Tryz.func140 rfl rfl Tryz.results140 Tryz.ntmps140 rfl rfl ?_
  repeat' (first|apply zah|apply zaa|apply zak|apply zag|apply zac hT;iterate 4 exact rfl|apply zab (hs:=hG);iterate 7 exact rfl|(apply zay hT;(iterate 5 exact rfl);first|(fail_if_success (have q:=g4));intro g4)|(apply zar hT;(iterate 6 exact rfl);exact sX;(iterate 3 exact rfl);exact nle rfl)|(apply zad;(iterate 5 exact rfl);first|(apply zaq hT;exact rfl;exact rfl;(repeat(first|exact n0));exact rfl;exact rfl)))
  all_goals(apply ret1;exact rfl;exact⟨rfl,dX⟩)
theorem zih {g:Nat}{who id:Int}{o:Sp}{outs:List OutR}{x:DAd}{s:Dk}{bks:List BAd}{rows:List PRow}{F:List zao}{b:BAd}(hb:b∈bks):∀c∈BAd.ck b,c∈zai g who id o outs (zae x s bks rows F):=fun c hc=>by
 unfold zai zae
 iterate 20 (apply mcm)
 exact List.mem_append_left _ (List.mem_flatMap.2 ⟨b,hb,hc⟩)
theorem zj0 (W:World)(F:List zao)(x:DAd)(s:Dk)(bks:List BAd)(rows:List PRow)(g:Nat)(who id0:Int)(o:Sp)(outs:List OutR)(n:Nat)(bd:BAd)(id:Int)(hb1:bks[n]? =some bd)(hB:bd.l.length≤1000000):
 zax Tryz.prog W 83 [ptrV bd.p,.int .i64 id] (zai g who id0 o outs (zae x s bks rows F)) (fun v h'=>v=gotO (getO id bd.l)∧∃sp,h'=zai g who id0 o outs (zae x {s with books:=s.books.set n (zbf id bd.l)} (bks.set n ⟨bd.p,sp,zbf id bd.l⟩) rows F)):=by
 obtain⟨R,hR⟩:=zi0 hb1
 have hself:bks.set n bd=bks:=zcC hb1
 have hp0:=hR bd
 rw[hself]at hp0
 refine(zax.perm (zfk W _ bd.p bd.s.A bd.s.c bd.l id hB) (zcP hp0)).conv ?_
 rintro v h' ⟨rfl,A,c,rfl⟩ w hw
 refine⟨_,hw.perm ?_,rfl,⟨A,c⟩,rfl⟩
 refine List.Perm.trans ?_ (zcP (hR ⟨bd.p,⟨A,c⟩,zbf id bd.l⟩)).symm
 rw[zf3 (b':=⟨bd.p,⟨A,c⟩,zbf id bd.l⟩) hb1 rfl]
 have hls:(s.books.set n (zbf id bd.l)).length=s.books.length:=by simp
 have hcs:zbD x {s with books:=s.books.set n (zbf id bd.l)}=zbD x s:=by simp only[zbD,hls]
 unfold zai zba
 rw[hcs,hls]
 exact plr _
theorem ze5 (W:World)(F:List zao)(x:DAd)(s:Dk)(bks:List BAd)(rows:List PRow)(N:Nat)(hD:DOK N s)(hO:OwnI s)(hN:N≤10000)(hf:zaY s bks rows)(g:Nat)(who id0:Int)(o:Sp)(outs:List OutR)(m:MsgR)(hk:m.kind=6∨m.kind=7∨m.kind=8)(hmw:MsgW m)(hw:0≤who∧who≤8)(hbo:outs.length≤900000):
 zax Tryz.prog W 110 [ptrV x.d,ptrV g,.agg m.enc.toArray] (zai g who id0 o outs (zae x s bks rows F)) (zaZ x g who outs F (if m.kind=6 then zcg s who m else zbm s who m.kind m.f0 m.f1 m.f2)):=by
 refine zax.dropTo ?_
 have h8:=hD.few
 have hl:=zfC hf
 by_cases hk6:m.kind=6
 ·rw[if_pos hk6]
  have hC:=fun G=>zmx W G x s bks rows N hD hO hN hf g who id0 o outs m hmw hw hbo
  generalize zcg s who m=r at*
  refine zaf Tryz.func110 rfl rfl Tryz.results110 Tryz.ntmps110 rfl rfl ?_
  skip
  unfold zai zae
  repeat' (first|apply zah|apply zaa|apply zak|apply zag|apply zac hT;iterate 4 exact rfl|apply zaA;(iterate 5 exact rfl);intro g5|(apply zau;(iterate 7 exact rfl);exact(zax.perm (hC _) pX);rintro _ _ ⟨rfl,y2,o2,bks2,rows2,id2,os2,rfl,hf2,hok2⟩)|(apply zad;(iterate 5 exact rfl);first|(apply zaq hT;exact rfl;exact rfl;exact mX;exact rfl;exact rfl)|(apply zaF hT;exact rfl;exact rfl;exact mX;exact rfl))|(apply zal;exact rfl;all_goals(intro hb;(try dsimp only at hb);(try simp only[hb]);(first|replace hb:=odt hb|replace hb:=odf hb);(try omega))))
  all_goals try omega
  all_goals(apply ret1;exact rfl;exact⟨zai g who id2 o2 os2 (zae (y2.at x.d) r.d bks2 rows2 F),by(unfold zai zae;exact dA),rfl,y2,o2,bks2,rows2,id2,os2,rfl,hf2,hok2⟩)
 ·rw[if_neg hk6]
  have hIx:=fun h g7 hr hf=>zkV W h x.books.A s.books.length x.books.c bks hl hr 140 [.pointer (some ⟨g7,0,none⟩)] (fun b=>(getO m.f0 b.l).isSome) hf (by omega)
  have hfind:zaT (fun b:BAd=>(getO m.f0 b.l).isSome) bks=zcx s.books m.f0:=by
   unfold zcx
   rw[←hf.1]
   exact(zjZ BAd.l (fun l=>(getO m.f0 l).isSome) bks).symm
  rw[hfind]at hIx
  have hBb:∀b∈bks,za6 b.l:=fun b hb=>hD.bks b.l (by rw[←hf.1];exact lmm.2 ⟨b,hb,rfl⟩)
  have hrd0:zaz W (zai g who id0 o outs (zae x s bks rows F)) x.books.A s.books.length 1 (bks.map BAd.ptr):=zcO (c:=x.books.c) (t:= 113) (by unfold zai zae;exact mX) hl
  have hrdD:zaz W (zae x s bks rows F) x.books.A s.books.length 1 (bks.map BAd.ptr):=zcO (c:=x.books.c) (t:= 113) (by unfold zae;exact mX) hl
  have hcl:∀h g7,zao.blk g7 2 [.int .i64 m.f0]∈h→(∀c∈zai g who id0 o outs (zae x s bks rows F),c∈h)→∀b∈bks,zaw Tryz.prog W 140 ([ptrV b.p]++[.pointer (some ⟨g7,0,none⟩)]) h (.bool (getO m.f0 b.l).isSome):=fun h g7 m0 hh b hb=>
   zpU W h b g7 m.f0 (hBb b hb).le m0 (hh _ (zih hb _ (by unfold BAd.ck;exact mem0))) (hh _ (zih hb _ (by unfold BAd.ck;exact mem1)))
  unfold zbm
  dsimp only
  by_cases hn:zcx s.books m.f0<0
  ·rw[if_pos hn]
   generalize zcx s.books m.f0=fb at*
   refine zaf Tryz.func110 rfl rfl Tryz.results110 Tryz.ntmps110 rfl rfl ?_
   skip
   unfold zai zae
   repeat' (first|apply zah|apply zaa|apply zak|apply zam|apply zag|apply zac hT;iterate 4 exact rfl|apply zaA;(iterate 5 exact rfl);intro g5|(apply zay hT;(iterate 5 exact rfl);first|(fail_if_success (have q:=g7));intro g7)|(apply zar hT;(iterate 6 exact rfl);exact sX;(iterate 3 exact rfl);exact nle rfl)|(apply zaS hT;(iterate 9 exact rfl);(iterate 2 omega))|(apply zab;(iterate 7 exact rfl);exact(hIx _ _ (hrd0.mono kX) (hcl _ _ mX kX)))|(apply zad;(iterate 5 exact rfl);first|(apply zaq hT;exact rfl;exact rfl;exact mX;exact rfl;exact rfl))|(apply zal;exact rfl;all_goals(intro hb;(try dsimp only at hb);(try simp only[hb]);(first|replace hb:=odt hb|replace hb:=odf hb);(try omega))))
   all_goals try omega
   all_goals(apply ret1;exact rfl;exact⟨zai g who id0 o outs (zae x s bks rows F),by(unfold zai zae;exact dA),zaZ.bad' (by decide) hf⟩)
  ·rw[if_neg hn]
   obtain⟨n,l,hfn,hbl,hsome⟩:=ziT hn
   have hnl:=(gsi.1 hbl).1
   obtain⟨bd,hb1,hb2,hb3⟩:=zpR hf hnl
   have hll:l=bd.l:=by rw[hbl]at hb3;exact Option.some.inj hb3
   subst hll
   rw[hfn]at hIx ⊢
   rw[Int.toNat_natCast,hb2]
   obtain⟨od,hgo⟩:=Option.isSome_iff_exists.1 hsome
   rw[hgo]
   dsimp only
   have hod:=ziU hgo
   have hB:=hBb bd (mog hb1)
   have hix:=zi1 hb1
   have hG0:=zlh W bd.p bd.s.A bd.s.c bd.l m.f0 hB.le
   rw[hgo]at hG0
   have hG:zaw Tryz.prog W 141 [.pointer (some ⟨bd.p,0,none⟩),.int .i64 m.f0] (zai g who id0 o outs (zae x s bks rows F)) (gotO (some od)):=hG0.mono (zbp (zih (mog hb1) _ (by unfold BAd.ck;exact mem0)) (zih (mog hb1) _ (by unfold BAd.ck;exact mem1)))
   by_cases how:od.owner≠who
   ·rw[if_pos how]
    refine zaf Tryz.func110 rfl rfl Tryz.results110 Tryz.ntmps110 rfl rfl ?_
    (refine zaI hrd0 rfl (fun hAi=> ?_);have hA:=hAi (by omega))
    unfold zai zae
    repeat' (first|apply zah|apply zaa|apply zak|apply zam|apply zag|apply zac hT;iterate 4 exact rfl|apply zaC [141] [] hmix;decide+kernel|apply zaA;(iterate 5 exact rfl);intro g5|(apply zay hT;(iterate 5 exact rfl);first|(fail_if_success (have q:=g7));intro g7|(fail_if_success (have q:=g9));intro g9)|(apply zar hT;(iterate 6 exact rfl);exact sX;(iterate 3 exact rfl);exact nle rfl)|(apply zaS hT;(iterate 9 exact rfl);(iterate 2 omega))|(apply zab;(iterate 7 exact rfl);exact(hIx _ _ (hrd0.mono kX) (hcl _ _ mX kX)))|(apply zaJ hT;(iterate 8 exact rfl);(iterate 2 omega);exact hA)|(apply zad;(iterate 5 exact rfl);exact zbe hT rfl rfl (hrdD.mono kX) rfl hix)|(apply zab;(iterate 7 exact rfl);exact(hG.mono kX))|(apply zad;(iterate 5 exact rfl);first|(apply zaq hT;exact rfl;exact rfl;exact mX;exact rfl;exact rfl))|(apply zan;iterate 2 exact rfl)|(apply zal;exact rfl;all_goals(intro hb;(try dsimp only at hb);(try simp only[hb]);(first|replace hb:=odt hb|replace hb:=odf hb|replace hb:=zbc hb|replace hb:=zbd hb);(try omega))))
    all_goals try omega
    all_goals(apply ret1;exact rfl;exact⟨zai g who id0 o outs (zae x s bks rows F),by(unfold zai zae;exact dA),zaZ.bad' (by decide) hf⟩)
   ·rw[if_neg how]
    have how:=Decidable.not_not.1 how
    by_cases hk8:m.kind=8
    ·rw[if_pos hk8]
     have hCh:=fun G=>zkU W G x s bks rows N hD hO hN hf g who m.f0 o outs n od m.f1 m.f2 hnl hw hbo
     have hRr:∀R:Rs,R=(if zdj (zbv s n) m.f1 m.f2≠0 then bad s (zdj (zbv s n) m.f1 m.f2)
      else if m.f1=od.price∧m.f2≤od.left then⟨{s with books:=s.books.set n (zb2 od.id m.f2 bd.l)},m.f0,[],zdp od.id m.f2 bd.l⟩
      else{zby {s with books:=s.books.set n (zbf od.id bd.l)} who n {od with price:=m.f1,left:=m.f2} 0 with id:=m.f0})→
      R.d=(chgD s who n od m.f1 m.f2).d∧R.err=(chgD s who n od m.f1 m.f2).err∧R.outs=(chgD s who n od m.f1 m.f2).outs∧(R.err=0→R.id=m.f0):=by
      rintro R rfl
      unfold chgD
      rw[hb2]
      by_cases h1:zdj (zbv s n) m.f1 m.f2≠0
      ·rw[if_pos h1,if_pos h1];exact⟨rfl,rfl,rfl,fun h=>absurd h h1⟩
      ·rw[if_neg h1,if_neg h1]
       by_cases h2:m.f1=od.price∧m.f2≤od.left
       ·rw[if_pos h2,if_pos h2];exact⟨rfl,rfl,rfl,fun _=>rfl⟩
       ·rw[if_neg h2,if_neg h2];exact⟨rfl,rfl,rfl,fun _=>rfl⟩
     generalize hRe:(if zdj (zbv s n) m.f1 m.f2≠0 then bad s (zdj (zbv s n) m.f1 m.f2)
      else if m.f1=od.price∧m.f2≤od.left then⟨{s with books:=s.books.set n (zb2 od.id m.f2 bd.l)},m.f0,[],zdp od.id m.f2 bd.l⟩
      else{zby {s with books:=s.books.set n (zbf od.id bd.l)} who n {od with price:=m.f1,left:=m.f2} 0 with id:=m.f0}:Rs)=R at*
     obtain⟨e1,e2,e3,e4⟩:=hRr R rfl
     unfold zaZ
     rw[e1,e2,e3]
     rw[e2]at e4
     generalize chgD s who n od m.f1 m.f2=r at*
     refine zaf Tryz.func110 rfl rfl Tryz.results110 Tryz.ntmps110 rfl rfl ?_
     (refine zaI hrd0 rfl (fun hAi=> ?_);have hA:=hAi (by omega))
     unfold zai zae
     repeat' (first|apply zah|apply zaa|apply zak|apply zam|apply zag|apply zac hT;iterate 4 exact rfl|apply zaC [141] [] hmix;decide+kernel|apply zaA;(iterate 5 exact rfl);intro g5|(apply zay hT;(iterate 5 exact rfl);first|(fail_if_success (have q:=g7));intro g7|(fail_if_success (have q:=g9));intro g9)|(apply zar hT;(iterate 6 exact rfl);exact sX;(iterate 3 exact rfl);exact nle rfl)|(apply zaS hT;(iterate 9 exact rfl);(iterate 2 omega))|(apply zab;(iterate 7 exact rfl);exact(hIx _ _ (hrd0.mono kX) (hcl _ _ mX kX)))|(apply zaJ hT;(iterate 8 exact rfl);(iterate 2 omega);exact hA)|(apply zad;(iterate 5 exact rfl);exact zbe hT rfl rfl (hrdD.mono kX) rfl hix)|(apply zab;(iterate 7 exact rfl);exact(hG.mono kX))|(apply zau;(iterate 7 exact rfl);exact(zax.perm (hCh _) pX);rintro _ _ ⟨rfl,y2,o2,bks2,rows2,os2,rfl,hf2,hok2⟩)|(apply zad;(iterate 5 exact rfl);first|(apply zaq hT;exact rfl;exact rfl;exact mX;exact rfl;exact rfl)|(apply zaF hT;exact rfl;exact rfl;exact mX;exact rfl))|(apply zan;iterate 2 exact rfl)|(apply zal;exact rfl;all_goals(intro hb;(try dsimp only at hb);(try simp only[hb]);(first|replace hb:=odt hb|replace hb:=odf hb|replace hb:=zbc hb|replace hb:=zbd hb);(try omega))))
     all_goals try omega
     all_goals(apply ret1;exact rfl;exact⟨zai g who m.f0 o2 os2 (zae (y2.at x.d) r.d bks2 rows2 F),by(unfold zai zae;exact dA),rfl,y2,o2,bks2,rows2,m.f0,os2,rfl,hf2,fun h=>⟨(e4 h).symm,hok2 h⟩⟩)
    ·rw[if_neg hk8]
     have hDr:=fun G=>zj0 W G x s bks rows g who m.f0 o outs n bd m.f0 hb1 hB.le
     have hfit:∀sp,zaY {s with books:=s.books.set n (zbf m.f0 bd.l)} (bks.set n ⟨bd.p,sp,zbf m.f0 bd.l⟩) rows:=fun sp=>⟨by rw[List.map_set,hf.1],hf.2⟩
     have hbo2:outs.length≤1000000:=by omega
     generalize zbf m.f0 bd.l=l2 at*
     refine zaf Tryz.func110 rfl rfl Tryz.results110 Tryz.ntmps110 rfl rfl ?_
     (refine zaI hrd0 rfl (fun hAi=> ?_);have hA:=hAi (by omega))
     unfold zai zae
     repeat' (first|apply zah|apply zaa|apply zak|apply zam|apply zag|apply zac hT;iterate 4 exact rfl|apply zaC [141] [] hmix;decide+kernel|apply zaA;(iterate 5 exact rfl);intro g5|(apply zay hT;(iterate 5 exact rfl);first|(fail_if_success (have q:=g7));intro g7|(fail_if_success (have q:=g9));intro g9)|(apply zar hT;(iterate 6 exact rfl);exact sX;(iterate 3 exact rfl);exact nle rfl)|(apply zaS hT;(iterate 9 exact rfl);(iterate 2 omega))|(apply zab;(iterate 7 exact rfl);exact(hIx _ _ (hrd0.mono kX) (hcl _ _ mX kX)))|(apply zaJ hT;(iterate 8 exact rfl);(iterate 2 omega);exact hA)|(apply zad;(iterate 5 exact rfl);exact zbe hT rfl rfl (hrdD.mono kX) rfl hix)|(apply zab;(iterate 7 exact rfl);exact(hG.mono kX))|(apply zau;(iterate 7 exact rfl);exact(zax.perm (hDr _) pX);rintro _ _ ⟨rfl,sp,rfl⟩)|(apply zaB (cs:=[.int .i64 m.f0,.int .i64 od.left]) hT;(iterate 12 exact rfl);intro g83)|(apply zau;(iterate 7 exact rfl);exact(zbY W _ g who m.f0 o outs _ (some ⟨g83,0,none⟩) 2 who 21 [m.f0,od.left] pX mX (Nat.le_of_ble_eq_true rfl) hbo2);rintro _ _ ⟨rfl,o2,rfl⟩)|(apply zad;(iterate 5 exact rfl);first|(apply zaq hT;exact rfl;exact rfl;exact mX;exact rfl;exact rfl))|(apply zan;iterate 2 exact rfl)|(apply zal;exact rfl;all_goals(intro hb;(try dsimp only at hb);(try simp only[hb]);(first|replace hb:=odt hb|replace hb:=odf hb|replace hb:=zbc hb|replace hb:=zbd hb);(try omega))))
     all_goals try omega
     all_goals(apply ret1;exact rfl;exact⟨zai g who m.f0 o2 (outs++[outM who 21 [m.f0,od.left]]) (zae (x.at x.d) {s with books:=s.books.set n l2} (bks.set n ⟨bd.p,sp,l2⟩) rows F),by(unfold zai zae;exact dA),zaZ.ok' (hfit sp)⟩)
theorem zmy (W:World)(F:List zao)(x:DAd)(s:Dk)(bks:List BAd)(rows:List PRow)(hf:zaY s bks rows)(hup:upA s.asks)(hupq:upQ s.quotes)(ha:s.asks.length≤1000000)(hq:s.quotes.length≤1000000)(g:Nat)(who id0:Int)(o:Sp)(outs:List OutR)(m:MsgR)(hk:m.kind=11):
 zax Tryz.prog W 111 [ptrV x.d,ptrV g,.agg m.enc.toArray] (zai g who id0 o outs (zae x s bks rows F)) (zaZ x g who outs F (zc4 false s who m.f0)):=by
 refine zax.dropTo ?_
 have hR:=fun G=>zod W G x s bks rows g who id0 m.f0 o outs hf hup hupq ha hq
 generalize zc4 false s who m.f0=r at*
 unfold zai zae
 refine zaf Tryz.func111 rfl rfl Tryz.results111 Tryz.ntmps111 rfl rfl ?_
 repeat' (first|apply zah|apply zaa|apply zak|apply zag|apply zac hT;iterate 4 exact rfl|apply zaA;(iterate 5 exact rfl);intro g5|apply zaS hT;(iterate 9 exact rfl);(iterate 2 omega)|(apply zau;(iterate 7 exact rfl);exact(zax.perm (hR _) pX);rintro _ _ ⟨rfl,y2,o2,bks2,rows2,id2,os2,rfl,hf2,hok2⟩)|(apply zad;(iterate 5 exact rfl);first|(apply zaq hT;exact rfl;exact rfl;exact mX;exact rfl;exact rfl))|(apply zal;exact rfl;all_goals(intro hb;(try dsimp only at hb);(try simp only[hb]);(first|replace hb:=odt hb|replace hb:=odf hb);(try omega))))
 all_goals try omega
 all_goals(apply ret1;exact rfl;exact⟨zai g who id2 o2 os2 (zae (y2.at x.d) r.d bks2 rows2 F),by(unfold zai zae;exact dA),rfl,y2,o2,bks2,rows2,id2,os2,rfl,hf2,hok2⟩)
theorem zoq (W:World)(F:List zao)(x:DAd)(s:Dk)(bks:List BAd)(rows:List PRow)(N:Nat)(hD:DOK N s)(hO:OwnI s)(hN:N≤10000)(hf:zaY s bks rows)(g:Nat)(who id0:Int)(o:Sp)(outs:List OutR)(m:MsgR)(hmw:MsgW m)(hbo:outs.length≤900000):
 zax Tryz.prog W 75 [ptrV x.d,ptrV g,.agg m.enc.toArray] (zai g who id0 o outs (zae x s bks rows F)) (zaZ x g who outs F (zcL false s who m)):=by
 refine zax.dropTo ?_
 have hla:s.asks.length≤1000000:=by have:=hD.na;omega
 have hlq:s.quotes.length≤1000000:=by have:=hD.nq;omega
 have hld:s.due.length≤1000000:=by have:=hD.nd;omega
 have hbo2:outs.length≤1000000:=by omega
 have hAk:=znZ W m.kind
 have hIs:=zrC W m
 have hMy:=zpP W x.f x.fparties.A x.fparties.c (x.used.sl s.parties.length) s.parties who m.kind
 cases h1:zhQ m.kind
 ·have e:zcL false s who m=bad s 5:=by unfold zcL;rw[if_pos (.inl h1)]
  rw[e]
  rw[h1]at hAk
  unfold zai zae
  refine zaf Tryz.func75 rfl rfl Tryz.results75 Tryz.ntmps75 rfl rfl ?_
  repeat' (first|apply zah|apply zaa|apply zak|apply zag|apply zac hT;iterate 4 exact rfl|apply zaK;iterate 3 exact rfl|apply zaC [107,108,109] [] hmix;decide+kernel|apply zaA;(iterate 5 exact rfl);intro g5|(apply zab;(iterate 7 exact rfl);exact(hAk.mono (by simp)))|(apply zad;(iterate 5 exact rfl);first|(apply zaq hT;exact rfl;exact rfl;exact mX;exact rfl;exact rfl))|apply zas;iterate 2 exact rfl)
  all_goals try omega
  all_goals(apply ret1;exact rfl;exact⟨zai g who id0 o outs (zae x s bks rows F),by(unfold zai zae;exact dX),zaZ.bad' (by decide) hf⟩)
 ·rw[h1]at hAk
  cases h2:zna m
  ·have e:zcL false s who m=bad s 5:=by unfold zcL;rw[if_pos (.inr (.inl h2))]
   rw[e]
   rw[h2]at hIs
   unfold zai zae
   refine zaf Tryz.func75 rfl rfl Tryz.results75 Tryz.ntmps75 rfl rfl ?_
   repeat' (first|apply zah|apply zaa|apply zak|apply zag|apply zac hT;iterate 4 exact rfl|apply zaK;iterate 3 exact rfl|apply zaC [107,108,109] [] hmix;decide+kernel|apply zaA;(iterate 5 exact rfl);intro g5|(apply zab;(iterate 7 exact rfl);exact(hAk.mono (by simp)))|(apply zab;(iterate 7 exact rfl);exact(hIs.mono (by simp)))|(apply zad;(iterate 5 exact rfl);first|(apply zaq hT;exact rfl;exact rfl;exact mX;exact rfl;exact rfl)|(apply zaF hT;exact rfl;exact rfl;exact mX;exact rfl))|apply zas;iterate 2 exact rfl)
   all_goals try omega
   all_goals(apply ret1;exact rfl;exact⟨zai g who id0 o outs (zae x s bks rows F),by(unfold zai zae;exact dX),zaZ.bad' (by decide) hf⟩)
  ·rw[h2]at hIs
   cases h3:mayV s.parties who m.kind
   ·have e:zcL false s who m=bad s 5:=by unfold zcL;rw[if_pos (.inr (.inr h3))]
    rw[e]
    rw[h3]at hMy
    unfold zai zae
    refine zaf Tryz.func75 rfl rfl Tryz.results75 Tryz.ntmps75 rfl rfl ?_
    repeat' (first|apply zah|apply zaa|apply zak|apply zag|apply zac hT;iterate 4 exact rfl|apply zaC [107,108,109] [] hmix;decide+kernel|apply zaA;(iterate 5 exact rfl);intro g5|(apply zab;(iterate 7 exact rfl);exact(hAk.mono (by simp)))|(apply zab;(iterate 7 exact rfl);exact(hIs.mono (by simp)))|(apply zab;(iterate 7 exact rfl);exact(hMy.mono (zbp mX mX)))|(apply zad;(iterate 5 exact rfl);first|(apply zaq hT;exact rfl;exact rfl;exact mX;exact rfl;exact rfl)|(apply zaF hT;exact rfl;exact rfl;exact mX;exact rfl))|apply zas;iterate 2 exact rfl)
    all_goals try omega
    all_goals(apply ret1;exact rfl;exact⟨zai g who id0 o outs (zae x s bks rows F),by(unfold zai zae;exact dX),zaZ.bad' (by decide) hf⟩)
   ·rw[h3]at hMy
    have hw:=zop hD h3
    have hc:¬(zhQ m.kind=false∨zna m=false∨mayV s.parties who m.kind=false):=by rw[h1,h2,h3];decide
    unfold zcL
    rw[if_neg hc]
    have hk:=zck h1
    clear h1 h2 h3 hc
    have hks:m.kind=6∨m.kind=7∨m.kind=8∨m.kind=9∨m.kind=10∨m.kind=11∨m.kind=12∨m.kind=13∨m.kind=14∨m.kind=15∨m.kind=16∨m.kind=17:=by omega
    rcases m with ⟨kd,f0,f1,f2,f3,f4,f5⟩
    dsimp only at*
    rcases hks with rfl|rfl|rfl|rfl|rfl|rfl|rfl|rfl|rfl|rfl|rfl|rfl
    ·rw[if_pos rfl]
     have hR:=fun G=>ze5 W G x s bks rows N hD hO hN hf g who id0 o outs ⟨6,f0,f1,f2,f3,f4,f5⟩ (.inl rfl) hmw ⟨hw.1,by omega⟩ hbo
     try dsimp only at hR
     simp only[if_true]at hR
     generalize zcg s who ⟨6,f0,f1,f2,f3,f4,f5⟩=r at*
     unfold zai zae
     refine zaf Tryz.func75 rfl rfl Tryz.results75 Tryz.ntmps75 rfl rfl ?_
     repeat' (first|apply zah|apply zaa|apply zak|apply zam|apply zaj|apply zag|apply zac hT;iterate 4 exact rfl|apply zaC [107,108,109] [] hmix;decide+kernel|apply zaA;(iterate 5 exact rfl);intro g5|(apply zab;(iterate 7 exact rfl);exact(hAk.mono (by simp)))|(apply zab;(iterate 7 exact rfl);exact(hIs.mono (by simp)))|(apply zab;(iterate 7 exact rfl);exact(hMy.mono (zbp mX mX)))|(apply zau;(iterate 7 exact rfl);exact(zax.perm (hR _) pX);rintro _ _ ⟨rfl,y2,o2,bks2,rows2,id2,os2,rfl,hf2,hok2⟩)|(apply zad;(iterate 5 exact rfl);first|(apply zaq hT;exact rfl;exact rfl;exact mX;exact rfl;exact rfl)|(apply zaF hT;exact rfl;exact rfl;exact mX;exact rfl))|apply zas;iterate 2 exact rfl|apply zan;iterate 2 exact rfl)
     all_goals try omega
     all_goals(apply ret1;exact rfl;exact⟨zai g who id2 o2 os2 (zae (y2.at x.d) r.d bks2 rows2 F),by(unfold zai zae;exact dA),rfl,y2,o2,bks2,rows2,id2,os2,rfl,hf2,hok2⟩)
    ·have e:_=zbm s who 7 f0 f1 f2:=rfl
     rw[e]
     have hR:=fun G=>ze5 W G x s bks rows N hD hO hN hf g who id0 o outs ⟨7,f0,f1,f2,f3,f4,f5⟩ (.inr (.inl rfl)) hmw ⟨hw.1,by omega⟩ hbo
     try dsimp only at hR
     rw[show(if (7:Int)=6 then zcg s who ⟨7,f0,f1,f2,f3,f4,f5⟩else zbm s who 7 f0 f1 f2)=zbm s who 7 f0 f1 f2 from rfl]at hR
     generalize zbm s who 7 f0 f1 f2=r at*
     unfold zai zae
     refine zaf Tryz.func75 rfl rfl Tryz.results75 Tryz.ntmps75 rfl rfl ?_
     repeat' (first|apply zah|apply zaa|apply zak|apply zam|apply zaj|apply zag|apply zac hT;iterate 4 exact rfl|apply zaC [107,108,109] [] hmix;decide+kernel|apply zaA;(iterate 5 exact rfl);intro g5|(apply zab;(iterate 7 exact rfl);exact(hAk.mono (by simp)))|(apply zab;(iterate 7 exact rfl);exact(hIs.mono (by simp)))|(apply zab;(iterate 7 exact rfl);exact(hMy.mono (zbp mX mX)))|(apply zau;(iterate 7 exact rfl);exact(zax.perm (hR _) pX);rintro _ _ ⟨rfl,y2,o2,bks2,rows2,id2,os2,rfl,hf2,hok2⟩)|(apply zad;(iterate 5 exact rfl);first|(apply zaq hT;exact rfl;exact rfl;exact mX;exact rfl;exact rfl)|(apply zaF hT;exact rfl;exact rfl;exact mX;exact rfl))|apply zas;iterate 2 exact rfl|apply zan;iterate 2 exact rfl)
     all_goals try omega
     all_goals(apply ret1;exact rfl;exact⟨zai g who id2 o2 os2 (zae (y2.at x.d) r.d bks2 rows2 F),by(unfold zai zae;exact dA),rfl,y2,o2,bks2,rows2,id2,os2,rfl,hf2,hok2⟩)
    ·have e:_=zbm s who 8 f0 f1 f2:=rfl
     rw[e]
     have hR:=fun G=>ze5 W G x s bks rows N hD hO hN hf g who id0 o outs ⟨8,f0,f1,f2,f3,f4,f5⟩ (.inr (.inr rfl)) hmw ⟨hw.1,by omega⟩ hbo
     try dsimp only at hR
     rw[show(if (8:Int)=6 then zcg s who ⟨8,f0,f1,f2,f3,f4,f5⟩else zbm s who 8 f0 f1 f2)=zbm s who 8 f0 f1 f2 from rfl]at hR
     generalize zbm s who 8 f0 f1 f2=r at*
     unfold zai zae
     refine zaf Tryz.func75 rfl rfl Tryz.results75 Tryz.ntmps75 rfl rfl ?_
     repeat' (first|apply zah|apply zaa|apply zak|apply zam|apply zaj|apply zag|apply zac hT;iterate 4 exact rfl|apply zaC [107,108,109] [] hmix;decide+kernel|apply zaA;(iterate 5 exact rfl);intro g5|(apply zab;(iterate 7 exact rfl);exact(hAk.mono (by simp)))|(apply zab;(iterate 7 exact rfl);exact(hIs.mono (by simp)))|(apply zab;(iterate 7 exact rfl);exact(hMy.mono (zbp mX mX)))|(apply zau;(iterate 7 exact rfl);exact(zax.perm (hR _) pX);rintro _ _ ⟨rfl,y2,o2,bks2,rows2,id2,os2,rfl,hf2,hok2⟩)|(apply zad;(iterate 5 exact rfl);first|(apply zaq hT;exact rfl;exact rfl;exact mX;exact rfl;exact rfl)|(apply zaF hT;exact rfl;exact rfl;exact mX;exact rfl))|apply zas;iterate 2 exact rfl|apply zan;iterate 2 exact rfl)
     all_goals try omega
     all_goals(apply ret1;exact rfl;exact⟨zai g who id2 o2 os2 (zae (y2.at x.d) r.d bks2 rows2 F),by(unfold zai zae;exact dA),rfl,y2,o2,bks2,rows2,id2,os2,rfl,hf2,hok2⟩)
    ·have e:_=askD s who ⟨9,f0,f1,f2,f3,f4,f5⟩:=rfl
     rw[e]
     have hR:=fun G=>zjY W G x s bks rows N hD hN hf g who id0 o outs ⟨9,f0,f1,f2,f3,f4,f5⟩ rfl hmw hbo
     try dsimp only at hR
     skip
     generalize askD s who ⟨9,f0,f1,f2,f3,f4,f5⟩=r at*
     unfold zai zae
     refine zaf Tryz.func75 rfl rfl Tryz.results75 Tryz.ntmps75 rfl rfl ?_
     repeat' (first|apply zah|apply zaa|apply zak|apply zam|apply zaj|apply zag|apply zac hT;iterate 4 exact rfl|apply zaC [107,108,109] [] hmix;decide+kernel|apply zaA;(iterate 5 exact rfl);intro g5|(apply zab;(iterate 7 exact rfl);exact(hAk.mono (by simp)))|(apply zab;(iterate 7 exact rfl);exact(hIs.mono (by simp)))|(apply zab;(iterate 7 exact rfl);exact(hMy.mono (zbp mX mX)))|(apply zau;(iterate 7 exact rfl);exact(zax.perm (hR _) pX);rintro _ _ ⟨rfl,y2,o2,bks2,rows2,id2,os2,rfl,hf2,hok2⟩)|(apply zad;(iterate 5 exact rfl);first|(apply zaq hT;exact rfl;exact rfl;exact mX;exact rfl;exact rfl)|(apply zaF hT;exact rfl;exact rfl;exact mX;exact rfl))|apply zas;iterate 2 exact rfl|apply zan;iterate 2 exact rfl)
     all_goals try omega
     all_goals(apply ret1;exact rfl;exact⟨zai g who id2 o2 os2 (zae (y2.at x.d) r.d bks2 rows2 F),by(unfold zai zae;exact dA),rfl,y2,o2,bks2,rows2,id2,os2,rfl,hf2,hok2⟩)
    ·have e:_=zcZ false s who ⟨10,f0,f1,f2,f3,f4,f5⟩:=rfl
     rw[e]
     have hR:=fun G=>zmp W G x s bks rows N hD hN hf g who id0 o outs ⟨10,f0,f1,f2,f3,f4,f5⟩ rfl hmw ⟨hw.1,by omega⟩ hbo2
     try dsimp only at hR
     skip
     generalize zcZ false s who ⟨10,f0,f1,f2,f3,f4,f5⟩=r at*
     unfold zai zae
     refine zaf Tryz.func75 rfl rfl Tryz.results75 Tryz.ntmps75 rfl rfl ?_
     repeat' (first|apply zah|apply zaa|apply zak|apply zam|apply zaj|apply zag|apply zac hT;iterate 4 exact rfl|apply zaC [107,108,109] [] hmix;decide+kernel|apply zaA;(iterate 5 exact rfl);intro g5|(apply zab;(iterate 7 exact rfl);exact(hAk.mono (by simp)))|(apply zab;(iterate 7 exact rfl);exact(hIs.mono (by simp)))|(apply zab;(iterate 7 exact rfl);exact(hMy.mono (zbp mX mX)))|(apply zau;(iterate 7 exact rfl);exact(zax.perm (hR _) pX);rintro _ _ ⟨rfl,y2,o2,bks2,rows2,id2,os2,rfl,hf2,hok2⟩)|(apply zad;(iterate 5 exact rfl);first|(apply zaq hT;exact rfl;exact rfl;exact mX;exact rfl;exact rfl)|(apply zaF hT;exact rfl;exact rfl;exact mX;exact rfl))|apply zas;iterate 2 exact rfl|apply zan;iterate 2 exact rfl)
     all_goals try omega
     all_goals(apply ret1;exact rfl;exact⟨zai g who id2 o2 os2 (zae (y2.at x.d) r.d bks2 rows2 F),by(unfold zai zae;exact dA),rfl,y2,o2,bks2,rows2,id2,os2,rfl,hf2,hok2⟩)
    ·have e:_=zc4 false s who f0:=rfl
     rw[e]
     have hR:=fun G=>zmy W G x s bks rows hf hD.upa hD.upq hla hlq g who id0 o outs ⟨11,f0,f1,f2,f3,f4,f5⟩ rfl
     try dsimp only at hR
     skip
     generalize zc4 false s who f0=r at*
     unfold zai zae
     refine zaf Tryz.func75 rfl rfl Tryz.results75 Tryz.ntmps75 rfl rfl ?_
     repeat' (first|apply zah|apply zaa|apply zak|apply zam|apply zaj|apply zag|apply zac hT;iterate 4 exact rfl|apply zaC [107,108,109] [] hmix;decide+kernel|apply zaA;(iterate 5 exact rfl);intro g5|(apply zab;(iterate 7 exact rfl);exact(hAk.mono (by simp)))|(apply zab;(iterate 7 exact rfl);exact(hIs.mono (by simp)))|(apply zab;(iterate 7 exact rfl);exact(hMy.mono (zbp mX mX)))|(apply zau;(iterate 7 exact rfl);exact(zax.perm (hR _) pX);rintro _ _ ⟨rfl,y2,o2,bks2,rows2,id2,os2,rfl,hf2,hok2⟩)|(apply zad;(iterate 5 exact rfl);first|(apply zaq hT;exact rfl;exact rfl;exact mX;exact rfl;exact rfl)|(apply zaF hT;exact rfl;exact rfl;exact mX;exact rfl))|apply zas;iterate 2 exact rfl|apply zan;iterate 2 exact rfl)
     all_goals try omega
     all_goals(apply ret1;exact rfl;exact⟨zai g who id2 o2 os2 (zae (y2.at x.d) r.d bks2 rows2 F),by(unfold zai zae;exact dA),rfl,y2,o2,bks2,rows2,id2,os2,rfl,hf2,hok2⟩)
    ·have e:_=hitD s who f0:=rfl
     rw[e]
     have hR:=fun G=>zom W G x s bks rows N hD hN hf g who id0 o outs ⟨12,f0,f1,f2,f3,f4,f5⟩ rfl hbo2
     try dsimp only at hR
     skip
     generalize hitD s who f0=r at*
     unfold zai zae
     refine zaf Tryz.func75 rfl rfl Tryz.results75 Tryz.ntmps75 rfl rfl ?_
     repeat' (first|apply zah|apply zaa|apply zak|apply zam|apply zaj|apply zag|apply zac hT;iterate 4 exact rfl|apply zaC [107,108,109] [] hmix;decide+kernel|apply zaA;(iterate 5 exact rfl);intro g5|(apply zab;(iterate 7 exact rfl);exact(hAk.mono (by simp)))|(apply zab;(iterate 7 exact rfl);exact(hIs.mono (by simp)))|(apply zab;(iterate 7 exact rfl);exact(hMy.mono (zbp mX mX)))|(apply zau;(iterate 7 exact rfl);exact(zax.perm (hR _) pX);rintro _ _ ⟨rfl,y2,o2,bks2,rows2,id2,os2,rfl,hf2,hok2⟩)|(apply zad;(iterate 5 exact rfl);first|(apply zaq hT;exact rfl;exact rfl;exact mX;exact rfl;exact rfl)|(apply zaF hT;exact rfl;exact rfl;exact mX;exact rfl))|apply zas;iterate 2 exact rfl|apply zan;iterate 2 exact rfl)
     all_goals try omega
     all_goals(apply ret1;exact rfl;exact⟨zai g who id2 o2 os2 (zae (y2.at x.d) r.d bks2 rows2 F),by(unfold zai zae;exact dA),rfl,y2,o2,bks2,rows2,id2,os2,rfl,hf2,hok2⟩)
    ·have e:_=zfq s who f0:=rfl
     rw[e]
     have hR:=fun G=>zmt W G x s bks rows N hD hN hf g who id0 o outs ⟨13,f0,f1,f2,f3,f4,f5⟩ rfl hbo2
     try dsimp only at hR
     skip
     generalize zfq s who f0=r at*
     unfold zai zae
     refine zaf Tryz.func75 rfl rfl Tryz.results75 Tryz.ntmps75 rfl rfl ?_
     repeat' (first|apply zah|apply zaa|apply zak|apply zam|apply zaj|apply zag|apply zac hT;iterate 4 exact rfl|apply zaC [107,108,109] [] hmix;decide+kernel|apply zaA;(iterate 5 exact rfl);intro g5|(apply zab;(iterate 7 exact rfl);exact(hAk.mono (by simp)))|(apply zab;(iterate 7 exact rfl);exact(hIs.mono (by simp)))|(apply zab;(iterate 7 exact rfl);exact(hMy.mono (zbp mX mX)))|(apply zau;(iterate 7 exact rfl);exact(zax.perm (hR _) pX);rintro _ _ ⟨rfl,y2,o2,bks2,rows2,id2,os2,rfl,hf2,hok2⟩)|(apply zad;(iterate 5 exact rfl);first|(apply zaq hT;exact rfl;exact rfl;exact mX;exact rfl;exact rfl)|(apply zaF hT;exact rfl;exact rfl;exact mX;exact rfl))|apply zas;iterate 2 exact rfl|apply zan;iterate 2 exact rfl)
     all_goals try omega
     all_goals(apply ret1;exact rfl;exact⟨zai g who id2 o2 os2 (zae (y2.at x.d) r.d bks2 rows2 F),by(unfold zai zae;exact dA),rfl,y2,o2,bks2,rows2,id2,os2,rfl,hf2,hok2⟩)
    ·have e:_=zc1 false s who 14 f0:=rfl
     rw[e]
     have hR:=fun G=>zid W G x s bks rows N hD hN hf g who id0 o outs ⟨14,f0,f1,f2,f3,f4,f5⟩ (.inl rfl) hbo
     try dsimp only at hR
     skip
     generalize zc1 false s who 14 f0=r at*
     unfold zai zae
     refine zaf Tryz.func75 rfl rfl Tryz.results75 Tryz.ntmps75 rfl rfl ?_
     repeat' (first|apply zah|apply zaa|apply zak|apply zam|apply zaj|apply zag|apply zac hT;iterate 4 exact rfl|apply zaC [107,108,109] [] hmix;decide+kernel|apply zaA;(iterate 5 exact rfl);intro g5|(apply zab;(iterate 7 exact rfl);exact(hAk.mono (by simp)))|(apply zab;(iterate 7 exact rfl);exact(hIs.mono (by simp)))|(apply zab;(iterate 7 exact rfl);exact(hMy.mono (zbp mX mX)))|(apply zau;(iterate 7 exact rfl);exact(zax.perm (hR _) pX);rintro _ _ ⟨rfl,y2,o2,bks2,rows2,id2,os2,rfl,hf2,hok2⟩)|(apply zad;(iterate 5 exact rfl);first|(apply zaq hT;exact rfl;exact rfl;exact mX;exact rfl;exact rfl)|(apply zaF hT;exact rfl;exact rfl;exact mX;exact rfl))|apply zas;iterate 2 exact rfl|apply zan;iterate 2 exact rfl)
     all_goals try omega
     all_goals(apply ret1;exact rfl;exact⟨zai g who id2 o2 os2 (zae (y2.at x.d) r.d bks2 rows2 F),by(unfold zai zae;exact dA),rfl,y2,o2,bks2,rows2,id2,os2,rfl,hf2,hok2⟩)
    ·have e:_=zc1 false s who 15 f0:=rfl
     rw[e]
     have hR:=fun G=>zid W G x s bks rows N hD hN hf g who id0 o outs ⟨15,f0,f1,f2,f3,f4,f5⟩ (.inr rfl) hbo
     try dsimp only at hR
     skip
     generalize zc1 false s who 15 f0=r at*
     unfold zai zae
     refine zaf Tryz.func75 rfl rfl Tryz.results75 Tryz.ntmps75 rfl rfl ?_
     repeat' (first|apply zah|apply zaa|apply zak|apply zam|apply zaj|apply zag|apply zac hT;iterate 4 exact rfl|apply zaC [107,108,109] [] hmix;decide+kernel|apply zaA;(iterate 5 exact rfl);intro g5|(apply zab;(iterate 7 exact rfl);exact(hAk.mono (by simp)))|(apply zab;(iterate 7 exact rfl);exact(hIs.mono (by simp)))|(apply zab;(iterate 7 exact rfl);exact(hMy.mono (zbp mX mX)))|(apply zau;(iterate 7 exact rfl);exact(zax.perm (hR _) pX);rintro _ _ ⟨rfl,y2,o2,bks2,rows2,id2,os2,rfl,hf2,hok2⟩)|(apply zad;(iterate 5 exact rfl);first|(apply zaq hT;exact rfl;exact rfl;exact mX;exact rfl;exact rfl)|(apply zaF hT;exact rfl;exact rfl;exact mX;exact rfl))|apply zas;iterate 2 exact rfl|apply zan;iterate 2 exact rfl)
     all_goals try omega
     all_goals(apply ret1;exact rfl;exact⟨zai g who id2 o2 os2 (zae (y2.at x.d) r.d bks2 rows2 F),by(unfold zai zae;exact dA),rfl,y2,o2,bks2,rows2,id2,os2,rfl,hf2,hok2⟩)
    ·have e:_=zbE s who f0:=rfl
     rw[e]
     have hR:=fun G=>zob W G x s bks rows g who id0 f0 o outs hf hD.upa hla hlq hld hbo2
     try dsimp only at hR
     skip
     generalize zbE s who f0=r at*
     unfold zai zae
     refine zaf Tryz.func75 rfl rfl Tryz.results75 Tryz.ntmps75 rfl rfl ?_
     repeat' (first|apply zah|apply zaa|apply zak|apply zam|apply zaj|apply zag|apply zac hT;iterate 4 exact rfl|apply zaC [107,108,109] [] hmix;decide+kernel|apply zaA;(iterate 5 exact rfl);intro g5|apply zaS hT;(iterate 9 exact rfl);(iterate 2 omega)|(apply zab;(iterate 7 exact rfl);exact(hAk.mono (by simp)))|(apply zab;(iterate 7 exact rfl);exact(hIs.mono (by simp)))|(apply zab;(iterate 7 exact rfl);exact(hMy.mono (zbp mX mX)))|(apply zau;(iterate 7 exact rfl);exact(zax.perm (hR _) pX);rintro _ _ ⟨rfl,y2,o2,bks2,rows2,id2,os2,rfl,hf2,hok2⟩)|(apply zad;(iterate 5 exact rfl);first|(apply zaq hT;exact rfl;exact rfl;exact mX;exact rfl;exact rfl)|(apply zaF hT;exact rfl;exact rfl;exact mX;exact rfl))|apply zas;iterate 2 exact rfl|apply zan;iterate 2 exact rfl)
     all_goals try omega
     all_goals(apply ret1;exact rfl;exact⟨zai g who id2 o2 os2 (zae (y2.at x.d) r.d bks2 rows2 F),by(unfold zai zae;exact dA),rfl,y2,o2,bks2,rows2,id2,os2,rfl,hf2,hok2⟩)
    ·have e:_=zdJ s f0 f1:=rfl
     rw[e]
     have hR:=fun G=>zoe W G x s bks rows N hD hf g who id0 f0 f1 o outs
     try dsimp only at hR
     skip
     generalize zdJ s f0 f1=r at*
     unfold zai zae
     refine zaf Tryz.func75 rfl rfl Tryz.results75 Tryz.ntmps75 rfl rfl ?_
     repeat' (first|apply zah|apply zaa|apply zak|apply zam|apply zaj|apply zag|apply zac hT;iterate 4 exact rfl|apply zaC [107,108,109] [] hmix;decide+kernel|apply zaA;(iterate 5 exact rfl);intro g5|apply zaS hT;(iterate 9 exact rfl);(iterate 2 omega)|(apply zab;(iterate 7 exact rfl);exact(hAk.mono (by simp)))|(apply zab;(iterate 7 exact rfl);exact(hIs.mono (by simp)))|(apply zab;(iterate 7 exact rfl);exact(hMy.mono (zbp mX mX)))|(apply zau;(iterate 7 exact rfl);exact(zax.perm (hR _) pX);rintro _ _ ⟨rfl,y2,o2,bks2,rows2,id2,os2,rfl,hf2,hok2⟩)|(apply zad;(iterate 5 exact rfl);first|(apply zaq hT;exact rfl;exact rfl;exact mX;exact rfl;exact rfl)|(apply zaF hT;exact rfl;exact rfl;exact mX;exact rfl))|apply zan;iterate 2 exact rfl)
     all_goals try omega
     all_goals(apply ret1;exact rfl;exact⟨zai g who id2 o2 os2 (zae (y2.at x.d) r.d bks2 rows2 F),by(unfold zai zae;exact dA),rfl,y2,o2,bks2,rows2,id2,os2,rfl,hf2,hok2⟩)
theorem zii {N:Nat}{s:Dk}(hD:DOK N s){who:Int}{n:Nat}{o:zap}{how:Int}:(zby s who n o how).outs.length≤400:=by
 unfold zby
 dsimp only
 split
 ·exact Nat.zero_le _
 ·have h1:=zfs (how:=how) (o:={o with seq:=s.seq+1}) (hD.bookB n)
  have h2:=zf4 (who:=who) (o:=o) (n:=n) (doV how {o with seq:=s.seq+1} (za8 s n)).fills ⟨{s with seq:=s.seq+1,books:=s.books.set n (doV how {o with seq:=s.seq+1} (za8 s n)).bk},(doV how {o with seq:=s.seq+1} (za8 s n)).gones.map fun g=>outM who 21 [g.id,g.left],o.left⟩
  dsimp only at h2
  rw[llm]at h2
  split
  ·rw[lla,h2];show _+1≤_;omega
  ·rw[h2];omega
theorem zor {N:Nat}{s:Dk}(hD:DOK N s){who:Int}{m:MsgR}:(zcL false s who m).outs.length≤1000000:=by
 have hH:∀a q,(hitQ s a q).outs.length≤1000000:=fun a q=>by
  unfold hitQ
  repeat' split
  all_goals(first|exact Nat.zero_le _|show 1≤_;omega)
 have h8:=hD.few
 unfold zcL
 split
 ·exact Nat.zero_le _
 split
 ·unfold zcg
  dsimp only
  split
  ·exact Nat.zero_le _
  split
  ·exact Nat.zero_le _
  split
  ·exact Nat.zero_le _
  have:=zii hD (who:=who) (n:=m.f0.toNat) (o:=⟨s.order+1,0,who,m.f1,m.f2,m.f3⟩) (how:=m.f4)
  split
  ·dsimp only;omega
  ·omega
 split
 ·unfold zbm
  dsimp only
  split
  ·exact Nat.zero_le _
  split
  ·exact Nat.zero_le _
  split
  ·exact Nat.zero_le _
  split
  ·split
   ·exact Nat.zero_le _
   split
   ·exact Nat.zero_le _
   ·rename_i o _ _ _ _ _
    have:=zii (hD.setDrop (zcx s.books m.f0).toNat o.id) (who:=who) (n:=(zcx s.books m.f0).toNat) (o:={o with price:=m.f1,left:=m.f2}) (how:=0)
    dsimp only
    omega
  ·show 1≤_;omega
 split
 ·unfold zcZ
  split
  ·exact Nat.zero_le _
  repeat' split
  all_goals first
   |exact Nat.zero_le _
   |(dsimp only;split<;>first|exact Nat.zero_le _|show 1≤_;omega)
 split
 ·unfold zc4
  repeat' split
  all_goals exact Nat.zero_le _
 split
 ·unfold hitD
  repeat' split
  all_goals first|exact Nat.zero_le _|exact hH _ _
 split
 ·unfold zfq
  repeat' split
  all_goals first|exact Nat.zero_le _|exact hH _ _
 split
 ·unfold zc1
  split
  ·exact Nat.zero_le _
  split
  ·exact Nat.zero_le _
  dsimp only
  split
  ·exact Nat.zero_le _
  split
  ·unfold zaU
   dsimp only
   split<;>(show 1≤_;omega)
  ·split
   ·exact Nat.zero_le _
   split
   ·exact Nat.zero_le _
   ·show 3≤_;omega
 split
 ·unfold zbE
  repeat' split
  all_goals(first|exact Nat.zero_le _|show 1≤_;omega)
 split
 ·unfold askD
  dsimp only
  repeat' split
  all_goals first
   |exact Nat.zero_le _
   |(refine Nat.le_trans (List.length_filterMap_le _ _) ?_;rw[List.length_range];omega)
 ·unfold zdJ
  repeat' split
  all_goals exact Nat.zero_le _
def zi2 (x:DAd)(F:List zao)(r:Dk×List OutR)(v:Value)(h':List zao):Prop:=
 ∃(y:DAd) (bks:List BAd) (rows:List PRow) (A:Option Addr) (c:Nat),v=.slice A r.2.length c∧h'=.own A r.2.length c 44 8 (r.2.flatMap OutR.enc)::zae (y.at x.d) r.1 bks rows F∧zaY r.1 bks rows∧OwnF A r.2.length c 8 (r.2.flatMap OutR.enc)
theorem zq0 (W:World)(F:List zao)(x:DAd)(s:Dk)(bks:List BAd)(rows:List PRow)(N:Nat)(hD:DOK N s)(hO:OwnI s)(hN:N≤10000)(hf:zaY s bks rows)(who seq:Int)(m:MsgR)(hmw:MsgW m):
 zax Tryz.prog W 53 [ptrV x.d,.int .i64 who,.int .i64 seq,.agg m.enc.toArray] (zae x s bks rows F) (zi2 x F (doD false s who seq m)):=by
 refine zax.dropF ?_
 have hDs:=fun G g=>zoq W G x s bks rows N hD hO hN hf g who 0 ⟨none,0⟩ [] m hmw (Nat.zero_le _)
 have hos:(zcL false s who m).outs.length≤1000000:=zor hD
 unfold doD
 generalize zcL false s who m=r at*
 have hOu:=fun h A to kind (ns:List Int) (hm:zao.own A ns.length ns.length 2 1 (ns.map (Value.int .i64))∈h) (hl:ns.length≤6)=>zlF W h A ns.length to kind ns (zaz.ints hm rfl) hl
 dsimp only
 refine zaf Tryz.func53 rfl rfl Tryz.results53 Tryz.ntmps53 rfl rfl ?_
 refine zbI (fun w hw=>⟨_,hw.own_nil 44 8,?_⟩)
 unfold zae
 by_cases he:r.err≠0
 ·rw[if_pos he]
  repeat' (first|apply zah|apply zaa|apply zak|apply zam|apply zag|apply zac hT;iterate 4 exact rfl|(apply zaA;(iterate 5 exact rfl);first|(fail_if_success (have q:=g7));intro g7|intro g15)|(apply zaE hT (cs:=[.int .i64 who,.int .i64 0,.slice none 0 0]);iterate 4 exact rfl)|(apply zau;(iterate 7 exact rfl);exact(zax.perm (hDs _ g15) (by unfold zai zae;exact pX));rintro _ _ ⟨rfl,y2,o2,bks2,rows2,id2,os2,rfl,hf2,hok2⟩)|(apply zaB (cs:=[.int .i64 seq,.int .i64 r.err]) hT;(iterate 12 exact rfl);intro g25)|(apply zaB (cs:=(outM who 19 [seq,r.err]).enc) hT;(iterate 12 exact rfl);intro g27)|(apply zab;(iterate 7 exact rfl);exact(hOu _ (some ⟨g25,0,none⟩) who 19 [seq,r.err] mX (Nat.le_of_ble_eq_true rfl)))|(apply zad;(iterate 5 exact rfl);first|(apply zaF hT;exact rfl;exact rfl;exact mX;exact rfl))|(apply zan;iterate 2 exact rfl)|(apply zal;exact rfl;all_goals(intro hb;(try dsimp only at hb);(try simp only[hb]);(first|replace hb:=zbc hb|replace hb:=zbd hb);(try omega))))
  all_goals try omega
  all_goals(apply ret1;exact rfl;exact⟨.own (some ⟨g27,0,none⟩) 1 1 44 8 ([outM who 19 [seq,r.err]].flatMap OutR.enc)::zae (y2.at x.d) r.d bks2 rows2 F,by(unfold zai zae;exact dA),fun w hw=>⟨y2,bks2,rows2,_,_,rfl,rfl,hf2,hw.ownF mem0⟩⟩)
 ·rw[if_neg he]
  have he:=Decidable.not_not.1 he
  repeat' (first|apply zah|apply zaa|apply zak|apply zam|apply zag|apply zac hT;iterate 4 exact rfl|(apply zbZ [76] [] (.step 0 <| .step 1 <| .step 2 <| .step 3 <| .step 4 <| .step 5 <| .step 9 <| .step 10 <| .step 11 <| .step 12 <| .step 6 <| .step 7 <| .step 8 <| .step 13 <| .step 14 <| .nil) hmix;decide+kernel)|apply zcJ|apply zb7;exact rfl|(apply zaA;(iterate 5 exact rfl);first|(fail_if_success (have q:=g7));intro g7|intro g15)|(apply zaE hT (cs:=[.int .i64 who,.int .i64 0,.slice none 0 0]);iterate 4 exact rfl)|(apply zau;(iterate 7 exact rfl);exact(zax.perm (hDs _ g15) (by unfold zai zae;exact pX));(rintro _ _ ⟨rfl,y2,o2,bks2,rows2,id2,os2,rfl,hf2,hok2⟩;rw[he];obtain⟨rfl,rfl⟩:=hok2 he))|(apply zaB (cs:=[.int .i64 seq,.int .i64 r.id]) hT;(iterate 12 exact rfl);intro g34)|(apply zaB (cs:=(outM who 18 [seq,r.id]).enc) hT;(iterate 12 exact rfl);intro g36)|(apply zab;(iterate 7 exact rfl);exact(hOu _ (some ⟨g34,0,none⟩) who 18 [seq,r.id] mX (Nat.le_of_ble_eq_true rfl)))|(apply zbb hT;(iterate 10 exact rfl);exact sX;exact(zaz.enc (l:=[]++r.outs) OutR.enc_len OutR.enc_one mX rfl);(rw[List.nil_append];omega);((show(1+(([]:List OutR)++r.outs).length)*64≤_);rw[List.nil_append];omega);intro A' c')|(apply zad;(iterate 5 exact rfl);first|(apply zaq hT;exact rfl;exact rfl;exact mX;exact rfl;exact rfl)|(apply zaF hT;exact rfl;exact rfl;exact mX;exact rfl))|(apply zan;iterate 2 exact rfl))
  all_goals try omega
  all_goals
   apply ret1
   exact rfl
   refine⟨.own A' (1+([]++r.outs:List OutR).length) c' 44 8 ((outM who 18 [seq,r.id]::r.outs).flatMap OutR.enc)::zae (y2.at x.d) r.d bks2 rows2 F,by(unfold zai zae;exact dA),fun w hw=> ?_⟩
   have e:1+([]++r.outs:List OutR).length=(outM who 18 [seq,r.id]::r.outs).length:=by simp[Nat.add_comm]
   rw[e]at hw ⊢
   exact⟨y2,bks2,rows2,_,_,rfl,rfl,hf2,hw.ownF mem0⟩
theorem DOK.tick0 {N:Nat}{s:Dk}(h:DOK N s):DOK (N+1) ({s with now:=s.now+1,due:=s.due.drop (zb4 s.due (s.now+1))}:Dk):=by
 have h':=h.up
 have hn:=h.now
 exact⟨h'.rules,h'.nbk,h'.bks,h'.bid,h'.order,h'.seq,⟨by show 0≤s.now+1;omega,by show s.now+1≤((N+1:Nat):Int);omega⟩,h'.quote,h'.ask,h'.nus,h'.us,h'.upq,h'.nq,
  fun q hq=>(h'.qs q hq).mono (Int.le_refl _) rfl (by show s.now≤s.now+1;omega),h'.upa,h'.na,fun a ha=>(h'.as_ a ha).mono (Int.le_refl _) rfl rfl (by show s.now≤s.now+1;omega),
  h'.row.sub (List.drop_sublist _ _),Nat.le_trans (List.drop_sublist _ _).length_le h'.nd,h'.ncash,h'.cash,h'.npos,h'.pos,h'.nt,h'.head⟩
theorem zkW {xs:List Due}{k:Nat}{d:Due}{s:Dk×List OutR}(h:xs[k]? =some d):(xs.take (k+1)).foldl (dueD false) s=dueD false ((xs.take k).foldl (dueD false) s) d:=by
 rw[List.take_add_one,h,List.foldl_append];rfl
theorem ze6 :∀(xs:List Due) (s:Dk×List OutR),(xs.foldl (dueD false) s).2.length≤s.2.length+xs.length
 |[],s=>by simp
 |x::xs,s=>by
  rw[List.foldl_cons]
  have h1:=ze6 xs (dueD false s x)
  have h2:(dueD false s x).2.length≤s.2.length+1:=by
   unfold dueD
   split
   ·dsimp only;omega
   ·split
    ·omega
    ·split
     ·dsimp only
      unfold zaU
      dsimp only
      split<;>(rw[lla];show _+1≤_;omega)
     ·split
      ·dsimp only;rw[lla];show _+1≤_;omega
      ·omega
  rw[List.length_cons];omega
theorem zj1 (s:Dk×List OutR)(x:Due):(dueD false s x).1.books=s.1.books∧(dueD false s x).1.pos=s.1.pos:=by
 unfold dueD
 split
 ·exact⟨rfl,rfl⟩
 ·split
  ·exact⟨rfl,rfl⟩
  ·split
   ·dsimp only
    unfold zaU
    dsimp only
    split<;>exact⟨rfl,rfl⟩
   ·split<;>exact⟨rfl,rfl⟩
theorem zgd :∀(xs:List Due) (s:Dk×List OutR),(xs.foldl (dueD false) s).1.books=s.1.books∧(xs.foldl (dueD false) s).1.pos=s.1.pos
 |[],s=>⟨rfl,rfl⟩
 |x::xs,s=>by
  rw[List.foldl_cons]
  have h1:=zgd xs (dueD false s x)
  have h2:=zj1 s x
  exact⟨h1.1.trans h2.1,h1.2.trans h2.2⟩
theorem zj2 (W:World)(F:List zao)(x:DAd)(s:Dk)(bks:List BAd)(rows:List PRow)(N:Nat)(hD:DOK N s)(hN:N≤10000)(hf:zaY s bks rows):
 zax Tryz.prog W 54 [ptrV x.d] (zae x s bks rows F) (zi2 x F (zc5 false s)):=by
 refine zax.dropF ?_
 have hld:s.due.length≤1000000:=by have:=hD.nd;omega
 have hnw:=hD.now
 have hnd:=hD.nd
 have hTk:=fun G=>znH W G x.u x.due.A x.due.c s.due (s.now+1) hld
 have hD0:DOK (N+1) ({s with now:=s.now+1,due:=s.due.drop (zb4 s.due (s.now+1))}:Dk):=hD.tick0
 unfold zc5
 have hxe:(s.due.take (zb4 s.due (s.now+1))).length=zb4 s.due (s.now+1):=by
  rw[llt]
  exact Nat.min_eq_left (List.takeWhile_sublist _).length_le
 have hxl:zb4 s.due (s.now+1)≤N:=Nat.le_trans (List.takeWhile_sublist _).length_le hnd
 generalize zb4 s.due (s.now+1)=k0 at*
 generalize s.due.take k0=xs at*
 generalize s.due.drop k0=ds at*
 subst hxe
 generalize hs0:(({s with now:=s.now+1,due:=ds}:Dk),([]:List OutR))=s0 at*
 have hf0:zaY s0.1 bks rows:=by rw[←hs0];exact hf
 have hD0':DOK (N+1) s0.1:=by rw[←hs0];exact hD0
 have ho0:s0.2=[]:=by rw[←hs0]
 refine zaf Tryz.func54 rfl rfl Tryz.results54 Tryz.ntmps54 rfl rfl ?_
 refine zbI (fun w hw=>⟨_,hw.own_nil 44 8,?_⟩)
 unfold zae
 repeat' (first|apply zah|apply zaa|apply zam|apply zaj|apply zag|apply zac hT;iterate 4 exact rfl|(apply zaM hT;(iterate 4 exact rfl);(iterate 2 (first|omega)))|apply zaA;(iterate 5 exact rfl);intro g11|apply zaE hT (cs:=[.int .i64 0,.int .i64 0,.slice none 0 0]);iterate 4 exact rfl|(apply zar hT;(iterate 6 exact rfl);exact sX;(iterate 3 exact rfl);exact nle rfl)|(apply zbZ [] [] (.step 0 <| .step 1 <| .step 2 <| .step 3 <| .step 4 <| .step 5 <| .step 6 <| .step 7 <| .step 10 <| .step 8 <| .step 9 <| .nil) hmix;decide+kernel)|apply zcJ|apply zb7;exact rfl|(apply zau;(iterate 7 exact rfl);exact(zax.perm (hTk _) pX);rintro _ _ ⟨A1,c1,A2,c2,rfl,rfl,hod⟩)|(apply zad;(iterate 5 exact rfl);first|(apply zaq hT;exact rfl;exact rfl;exact mX;exact rfl;exact rfl))|apply zan;iterate 2 exact rfl)
 all_goals try omega
 all_goals
  refine za1 (α:=Nat×Sp×DAd) (E:=fun z=>[(0,ptrV x.d),(3,ptrV g11),(27,.slice A1 xs.length c1),(28,.int .i64 xs.length),(29,.int .i64 z.1)])
   (H:=fun z=>.own A1 xs.length c1 160 3 (xs.flatMap Due.enc)::zai g11 0 0 z.2.1 ((xs.take z.1).foldl (dueD false) s0).2 (zae (z.2.2.at x.d) ((xs.take z.1).foldl (dueD false) s0).1 bks rows F)) (μ:=fun z=>xs.length - z.1)
   (S:=fun z=>z.1≤xs.length) (0,⟨none,0⟩,{x with due:=⟨A2,c2⟩}) (Nat.zero_le _) ⟨rfl,rfl,rfl,rfl,rfl,trivial⟩ ?_ ?_
  ·dsimp only
   show za7 _ (.own A1 xs.length c1 160 3 (xs.flatMap Due.enc)::zai g11 0 0 ⟨none,0⟩ s0.2 (zae (({x with due:=⟨A2,c2⟩}:DAd).at x.d) s0.1 bks rows F))
   subst hs0
   unfold zai zae
   exact dX
  ·rintro⟨k,o2,y⟩ hkk
   dsimp only at hkk ⊢
   by_cases hlt:k<xs.length
   ·obtain⟨d,hd1⟩:∃d,xs[k]? =some d:=⟨xs[k]'hlt,gge hlt⟩
    have hd2:xs[(k:Int).toNat]? =some d:=by simpa using hd1
    have hdc:decide ((k:Int)<(xs.length:Int))=true:=by simp;omega
    have hstp:=zkW (s:=s0) hd1
    have hDk:DOK (N+1) ((xs.take k).foldl (dueD false) s0).1:=DOK.dueAll (s:=s0) _ hD0'
    have hol:=ze6 (xs.take k) s0
    rw[ho0,llt]at hol
    have hbo:((xs.take k).foldl (dueD false) s0).2.length≤1000000:=by
     have:min k xs.length≤N:=by omega
     simp only[List.length_nil]at hol
     omega
    generalize (xs.take k).foldl (dueD false) s0=st at*
    generalize hst2:(xs.take (k+1)).foldl (dueD false) s0=st2 at*
    have hla:st.1.asks.length≤1000000:=by have:=hDk.na;omega
    have hlq:st.1.quotes.length≤1000000:=by have:=hDk.nq;omega
    have hlu:st.1.due.length≤1000000:=by have:=hDk.nd;omega
    have hG:=zgS W y.a y.asks.A y.asks.c st.1.asks d.id hla hDk.upa
    unfold dueD at hstp
    refine zaI (hod.reads mem0) rfl (fun hDi=> ?_)
    have hDA:=hDi (by omega)
    by_cases h3:d.kind=3
    ·rw[if_pos h3]at hstp
     have hK:=fun G=>zgn W G y.q y.quotes.A y.quotes.c st.1.quotes d.id hlq hDk.upq
     rcases hga:getA d.id st.1.asks with _|a
     all_goals
      rw[hga]at hG
      unfold gotA at hG
      dsimp only at hG
      unfold zai zae
      repeat' (first|apply zah|apply zaa|apply zam|apply zaj|apply zag|apply zac hT;iterate 4 exact rfl|(apply zaM hT;(iterate 4 exact rfl);(iterate 2 (first|omega)))|apply zaC [78] [] hmix;decide+kernel|apply zaJ hT;(iterate 8 exact rfl);(iterate 2 omega);exact hDA|(apply zad;(iterate 5 exact rfl);exact zaO hT rfl rfl (hod.reads mX) Due.enc_len rfl hd2 rfl)|(apply zay hT;(iterate 5 exact rfl);first|(fail_if_success (have q:=g5));intro g5|(fail_if_success (have q:=g6));intro g6)|(apply zar hT;(iterate 6 exact rfl);exact sX;(iterate 3 exact rfl);exact nle rfl)|(apply zab;(iterate 7 exact rfl);exact(hG.mono (zbp mX mX)))|(apply zau;(iterate 7 exact rfl);exact(zax.perm (hK _) pX);rintro _ _ ⟨rfl,rfl⟩)|(apply zad;(iterate 5 exact rfl);first|(apply zaq hT;exact rfl;exact rfl;exact mX;exact rfl;exact rfl))|(apply zal;exact rfl;all_goals(intro hb;(try dsimp only at hb);(try simp only[hb]);(first|replace hb:=odt hb|replace hb:=odf hb);(try omega))))
      all_goals try omega
      all_goals exact zaD (k+1,o2,y) (by(try dsimp only);omega) (by(try dsimp only);omega) ⟨rfl,rfl,rfl,rfl,rfl,trivial⟩ (by dsimp only;rw[hst2,hstp];exact dA)
    ·rw[if_neg h3]at hstp
     rcases hga:getA d.id st.1.asks with _|a
     ·rw[hga]at hG hstp
      unfold gotA at hG
      dsimp only at hG hstp
      unfold zai zae
      repeat' (first|apply zah|apply zaa|apply zam|apply zaj|apply zag|apply zac hT;iterate 4 exact rfl|apply zaK;iterate 3 exact rfl|(apply zaM hT;(iterate 4 exact rfl);(iterate 2 (first|omega)))|apply zaC [78] [] hmix;decide+kernel|apply zaJ hT;(iterate 8 exact rfl);(iterate 2 omega);exact hDA|(apply zad;(iterate 5 exact rfl);exact zaO hT rfl rfl (hod.reads mX) Due.enc_len rfl hd2 rfl)|(apply zay hT;(iterate 5 exact rfl);first|(fail_if_success (have q:=g5));intro g5|(fail_if_success (have q:=g6));intro g6)|(apply zar hT;(iterate 6 exact rfl);exact sX;(iterate 3 exact rfl);exact nle rfl)|(apply zab;(iterate 7 exact rfl);exact(hG.mono (zbp mX mX)))|(apply zad;(iterate 5 exact rfl);first|(apply zaq hT;exact rfl;exact rfl;exact mX;exact rfl;exact rfl))|(apply zan;iterate 2 exact rfl)|(apply zaH;exact rfl;all_goals(intro hb;(fail_if_success (change true=true at hb));(fail_if_success (change false=false at hb));(try dsimp only at hb);(try simp only[hb]);(first|replace hb:=odt hb|replace hb:=odf hb);(try omega)))|(apply zal;exact rfl;all_goals(intro hb;(try dsimp only at hb);(try simp only[hb]);(first|replace hb:=odt hb|replace hb:=odf hb);(try omega))))
      all_goals try omega
      all_goals exact zaD (k+1,o2,y) (by(try dsimp only);omega) (by(try dsimp only);omega) ⟨rfl,rfl,rfl,rfl,rfl,trivial⟩ (by dsimp only;rw[hst2,hstp];exact dA)
     ·rw[hga]at hG hstp
      unfold gotA at hG
      dsimp only at hG hstp
      by_cases h2:d.kind=2∧a.state=2
      ·rw[if_pos h2]at hstp
       have hLE:=fun G=>zfB W G (y.at x.d) st.1 bks rows g11 0 0 o2 st.2 a hDk.upa hDk.upq hla hlq hlu hbo
       generalize zaU false st.1 a=r at*
       obtain⟨h2a,h2b⟩:=h2
       unfold zai zae
       repeat' (first|apply zah|apply zaa|apply zam|apply zaj|apply zag|apply zac hT;iterate 4 exact rfl|(apply zaM hT;(iterate 4 exact rfl);(iterate 2 (first|omega)))|apply zaC [78] [] hmix;decide+kernel|apply zaJ hT;(iterate 8 exact rfl);(iterate 2 omega);exact hDA|(apply zad;(iterate 5 exact rfl);exact zaO hT rfl rfl (hod.reads mX) Due.enc_len rfl hd2 rfl)|(apply zay hT;(iterate 5 exact rfl);first|(fail_if_success (have q:=g5));intro g5|(fail_if_success (have q:=g6));intro g6)|(apply zar hT;(iterate 6 exact rfl);exact sX;(iterate 3 exact rfl);exact nle rfl)|(apply zab;(iterate 7 exact rfl);exact(hG.mono (zbp mX mX)))|(apply zau;(iterate 7 exact rfl);exact(zax.perm (hLE _) pX);rintro _ _ ⟨rfl,y2,o3,rfl⟩)|(apply zad;(iterate 5 exact rfl);first|(apply zaq hT;exact rfl;exact rfl;exact mX;exact rfl;exact rfl)|(apply zaF hT;exact rfl;exact rfl;exact mX;exact rfl))|(apply zaH;exact rfl;all_goals(intro hb;(fail_if_success (change true=true at hb));(fail_if_success (change false=false at hb));(try dsimp only at hb);(try simp only[hb]);(first|replace hb:=odt hb|replace hb:=odf hb);(try omega)))|(apply zal;exact rfl;all_goals(intro hb;(try dsimp only at hb);(try simp only[hb]);(first|replace hb:=odt hb|replace hb:=odf hb);(try omega))))
       all_goals try omega
       all_goals exact zaD (k+1,o3,y2) (by(try dsimp only);omega) (by(try dsimp only);omega) ⟨rfl,rfl,rfl,rfl,rfl,trivial⟩ (by dsimp only;rw[hst2,hstp];exact dA)
      ·rw[if_neg h2]at hstp
       by_cases h1:d.kind=1∧a.state=1
       ·rw[if_pos h1]at hstp
        have hDi:=fun G=>zhe W G (y.at x.d) st.1 bks rows g11 0 0 o2 st.2 a hDk.upa hla hlq hlu hbo
        obtain⟨h1a,h1b⟩:=h1
        unfold zai zae
        repeat' (first|apply zah|apply zaa|apply zam|apply zaj|apply zag|apply zac hT;iterate 4 exact rfl|apply zaK;iterate 3 exact rfl|(apply zaM hT;(iterate 4 exact rfl);(iterate 2 (first|omega)))|apply zaC [78] [] hmix;decide+kernel|apply zaJ hT;(iterate 8 exact rfl);(iterate 2 omega);exact hDA|(apply zad;(iterate 5 exact rfl);exact zaO hT rfl rfl (hod.reads mX) Due.enc_len rfl hd2 rfl)|(apply zay hT;(iterate 5 exact rfl);first|(fail_if_success (have q:=g5));intro g5|(fail_if_success (have q:=g6));intro g6)|(apply zar hT;(iterate 6 exact rfl);exact sX;(iterate 3 exact rfl);exact nle rfl)|(apply zab;(iterate 7 exact rfl);exact(hG.mono (zbp mX mX)))|(apply zau;(iterate 7 exact rfl);exact(zax.perm (hDi _) pX);rintro _ _ ⟨rfl,y2,o3,rfl⟩)|(apply zad;(iterate 5 exact rfl);first|(apply zaq hT;exact rfl;exact rfl;exact mX;exact rfl;exact rfl)|(apply zaF hT;exact rfl;exact rfl;exact mX;exact rfl))|(apply zan;iterate 2 exact rfl)|(apply zaH;exact rfl;all_goals(intro hb;(fail_if_success (change true=true at hb));(fail_if_success (change false=false at hb));(try dsimp only at hb);(try simp only[hb]);(first|replace hb:=odt hb|replace hb:=odf hb);(try omega)))|(apply zal;exact rfl;all_goals(intro hb;(try dsimp only at hb);(try simp only[hb]);(first|replace hb:=odt hb|replace hb:=odf hb);(try omega))))
        all_goals try omega
        all_goals exact zaD (k+1,o3,y2) (by(try dsimp only);omega) (by(try dsimp only);omega) ⟨rfl,rfl,rfl,rfl,rfl,trivial⟩ (by dsimp only;rw[hst2,hstp];exact dA)
       ·rw[if_neg h1]at hstp
        unfold zai zae
        repeat' (first|apply zah|apply zaa|apply zam|apply zaj|apply zag|apply zac hT;iterate 4 exact rfl|apply zaK;iterate 3 exact rfl|(apply zaM hT;(iterate 4 exact rfl);(iterate 2 (first|omega)))|apply zaC [78] [] hmix;decide+kernel|apply zaJ hT;(iterate 8 exact rfl);(iterate 2 omega);exact hDA|(apply zad;(iterate 5 exact rfl);exact zaO hT rfl rfl (hod.reads mX) Due.enc_len rfl hd2 rfl)|(apply zay hT;(iterate 5 exact rfl);first|(fail_if_success (have q:=g5));intro g5|(fail_if_success (have q:=g6));intro g6)|(apply zar hT;(iterate 6 exact rfl);exact sX;(iterate 3 exact rfl);exact nle rfl)|(apply zab;(iterate 7 exact rfl);exact(hG.mono (zbp mX mX)))|(apply zad;(iterate 5 exact rfl);first|(apply zaq hT;exact rfl;exact rfl;exact mX;exact rfl;exact rfl))|(apply zan;iterate 2 exact rfl)|(apply zaH;exact rfl;all_goals(intro hb;(fail_if_success (change true=true at hb));(fail_if_success (change false=false at hb));(try dsimp only at hb);(try simp only[hb]);(first|replace hb:=odt hb|replace hb:=odf hb);(try omega)))|(apply zal;exact rfl;all_goals(intro hb;(try dsimp only at hb);(try simp only[hb]);(first|replace hb:=odt hb|replace hb:=odf hb);(try omega))))
        all_goals try omega
        all_goals exact zaD (k+1,o2,y) (by(try dsimp only);omega) (by(try dsimp only);omega) ⟨rfl,rfl,rfl,rfl,rfl,trivial⟩ (by dsimp only;rw[hst2,hstp];exact dA)
   ·obtain rfl:k=xs.length:=by omega
    have hdc:decide ((xs.length:Int)<(xs.length:Int))=false:=by simp
    rw[List.take_length]at*
    have hfe:=zgd xs s0
    generalize xs.foldl (dueD false) s0=st at*
    have hf2:zaY st.1 bks rows:=⟨by rw[hfe.1];exact hf0.1,by rw[hfe.2];exact hf0.2⟩
    unfold zai zae
    repeat' (first|apply zah|apply zaa|apply zak|apply zaN|apply zag|apply zac hT;iterate 4 exact rfl|(apply zad;(iterate 5 exact rfl);first|(apply zaq hT;exact rfl;exact rfl;exact mX;exact rfl;exact rfl))|(apply zal;exact rfl;all_goals(intro hb;(try dsimp only at hb);(try simp only[hb]);(first|replace hb:=odt hb|replace hb:=odf hb);(try omega))))
    all_goals try omega
    all_goals(apply ret1;exact rfl;exact⟨.own o2.A st.2.length o2.c 44 8 (st.2.flatMap OutR.enc)::zae (y.at x.d) st.1 bks rows F,by(unfold zae;exact dA),fun w hw=>⟨y,bks,rows,_,_,rfl,rfl,hf2,hw.ownF mem0⟩⟩)
/-! ### in plain words, order by order -/
def zi3 (who:Int)(st:List zap×List OutR)(o:zap):List zap×List OutR:=if o.owner=who then(zbf o.id st.1,st.2++[outM who 21 [o.id,o.left]])else st
def zmz (who:Int)(st:List zap×List OutR)(s:Int):List zap×List OutR:=(za3 s st.1).foldl (zi3 who) st
def gBk (who:Int)(l:List zap)(outs:List OutR):List zap×List OutR:=[1,2].foldl (zmz who) (l,outs)
theorem zeB (who:Int):∀(os:List zap) (l:List zap) (outs:List OutR),os.foldl (zi3 who) (l,outs)=((os.filter fun o=>o.owner==who).foldl (fun l o=>zbf o.id l) l,outs++(os.filter fun o=>o.owner==who).map fun o=>outM who 21 [o.id,o.left])
 |[],l,outs=>by simp
 |o::os,l,outs=>by
  rw[List.foldl_cons,List.filter_cons]
  unfold zi3
  dsimp only
  by_cases h:o.owner=who
  ·rw[if_pos h,if_pos (by simpa using h)]
   have:=zeB who os (zbf o.id l) (outs++[outM who 21 [o.id,o.left]])
   unfold zi3 at this
   rw[this,List.foldl_cons,List.map_cons]
   simp
  ·rw[if_neg h,if_neg (by simpa using h)]
   have:=zeB who os l outs
   unfold zi3 at this
   exact this
theorem zkX {p:zap→Bool}{id:Int}{l:List zap}(h:∀y∈l,y.id=id→p y=false):(zbf id l).filter p=l.filter p:=by
 rcases zc3 (p:=hasO id) l with ⟨hi,hf⟩|⟨i,y,hi,hy,hp,hf⟩
 ·unfold zbf
  rw[if_pos (by omega)]
 ·have hyi:y.id=id:=by simpa [hasO]using hp
  obtain⟨hil,hie⟩:=gsi.1 hy
  have e:zbf id l=l.take i++l.drop (i+1):=by
   unfold zbf
   rw[hi,if_neg (by omega)];simp
  rw[e,List.filter_append]
  have hsp:l.filter p=(l.take i++y::l.drop (i+1)).filter p:=by
   rw[←hie,List.getElem_cons_drop,List.take_append_drop]
  rw[hsp,List.filter_append,List.filter_cons,if_neg (by rw[h y (mog hy) hyi];decide)]
theorem zge {p:zap→Bool}:∀(os l:List zap),za6 l→(∀o∈os,∀y∈l,y.id=o.id→p y=false)→(os.foldl (fun l o=>zbf o.id l) l).filter p=l.filter p
 |[],l,_,_=>rfl
 |o::os,l,hB,h=>by
  rw[List.foldl_cons,zge os (zbf o.id l) (hB.drop _) (fun o' ho' y hy=>h o' (mcm _ ho') y (zb5 hy)),zkX (h o mcs)]
theorem zmA {who:Int}{l:List zap}(hB:za6 l):za3 2 ((zea who 1 l).foldl (fun l o=>zbf o.id l) l)=za3 2 l:=by
 unfold za3
 rw[zge _ _ hB]
 intro o ho y hy he
 have hom:=zbX (List.mem_filter.1 ho).1
 have:y=o:=by
  obtain⟨i,hi⟩:=List.getElem?_of_mem hy
  obtain⟨j,hj⟩:=List.getElem?_of_mem hom.1
  obtain⟨hil,hie⟩:=gsi.1 hi
  obtain⟨hjl,hje⟩:=gsi.1 hj
  rcases Nat.lt_trichotomy i j with h|h|h
  ·have:=List.pairwise_iff_getElem.1 hB.id i j hil hjl h
   rw[hie,hje]at this;exact absurd he this
  ·subst h;rw[hi]at hj;cases hj;rfl
  ·have:=List.pairwise_iff_getElem.1 hB.id j i hjl hil h
   rw[hie,hje]at this;exact absurd he.symm this
 rw[this]
 simp[zbB,hom.2]
theorem zrI {who:Int}{l:List zap}{outs:List OutR}(hB:za6 l):gBk who l outs=(zgg who l,outs++(zea who 1 l++zea who 2 l).map fun o=>outM who 21 [o.id,o.left]):=by
 unfold gBk
 rw[List.foldl_cons,List.foldl_cons,List.foldl_nil]
 unfold zmz
 rw[zeB who (za3 1 l) l outs]
 dsimp only
 have h2:=zmA (who:=who) hB
 unfold zea at h2
 rw[h2,zeB]
 unfold zgg zea
 rw[List.map_append,List.append_assoc]
def bksN (who:Int)(bs:List (List zap))(i:Nat):List (List zap):=(bs.take i).map (zgg who)++bs.drop i
def zf5 (who:Int)(bs:List (List zap))(i:Nat):List OutR:=(bs.take i).flatMap fun l=>(zea who 1 l++zea who 2 l).map fun o=>outM who 21 [o.id,o.left]
theorem zos {who:Int}{bs:List (List zap)}{i:Nat}{l:List zap}(h:bs[i]? =some l):(bksN who bs i)[i]? =some l:=by
 unfold bksN
 have hi:=(gsi.1 h).1
 rw[List.getElem?_append_right (by simp;omega),llm,llt,List.getElem?_drop,show i+(i - min i bs.length)=i by omega,h]
theorem zpV {who:Int}{bs:List (List zap)}{i:Nat}{l:List zap}(h:bs[i]? =some l):(bksN who bs i).set i (zgg who l)=bksN who bs (i+1):=by
 unfold bksN
 obtain⟨hi,hie⟩:=gsi.1 h
 rw[List.take_add_one,h,List.map_append,List.append_assoc,List.set_append_right _ _ (by simp;omega),llm,llt,show i - min i bs.length=0 by omega,List.drop_eq_getElem_cons hi]
 rfl
theorem zmB {who:Int}{bs:List (List zap)}{i:Nat}{l:List zap}(h:bs[i]? =some l):zf5 who bs (i+1)=zf5 who bs i++(zea who 1 l++zea who 2 l).map fun o=>outM who 21 [o.id,o.left]:=by
 unfold zf5
 rw[List.take_add_one,h,List.flatMap_append]
 simp
theorem zpW {who:Int}{bs:List (List zap)}{i:Nat}:(bksN who bs i).length=bs.length:=by
 unfold bksN;simp;omega
theorem zhl :∀(qs:List zat) (s:Dk),(qs.foldl (zct false) s).books=s.books∧(qs.foldl (zct false) s).pos=s.pos
 |[],s=>⟨rfl,rfl⟩
 |q::qs,s=>by
  rw[List.foldl_cons]
  have h1:=zhl qs (zct false s q)
  have h2:(zct false s q).books=s.books∧(zct false s q).pos=s.pos:=by
   unfold zct
   split<;>exact⟨rfl,rfl⟩
  exact⟨h1.1.trans h2.1,h1.2.trans h2.2⟩
/-! ### the walk -/
theorem zot (W:World)(h:List zao)(bd:BAd)(s:Int)(hB:za6 bd.l)(m1:zao.blk bd.p 152 [bd.s.sl bd.l.length]∈h)(m2:bd.s.own bd.l.length 168 6 (bd.l.flatMap zap.enc)∈h):
 zax Tryz.prog W 82 [ptrV bd.p,.int .i64 s] h (fun v h'=>∃A' c',v=.slice A' (za3 s bd.l).length c'∧h'=.own A' (za3 s bd.l).length c' 168 6 ((za3 s bd.l).flatMap zap.enc)::h∧OwnF A' (za3 s bd.l).length c' 6 ((za3 s bd.l).flatMap zap.enc)):=
 zfl W h bd.p bd.s.A bd.s.c bd.l s m1 m2 hB.le hB.seq hB.side
theorem getB {bks:List BAd}{L:List (List zap)}{P:List Value}{i:Nat}{l:List zap}{v:Value}(h1:bks.map BAd.l=L)(h2:bks.map BAd.ptr=P)(hl:L[i]? =some l)(hv:P[i]? =some v):∃bd,bks[i]? =some bd∧bd.l=l∧BAd.ptr bd=v:=by
 subst h1
 subst h2
 rw[List.getElem?_map]at hl hv
 rcases hb:bks[i]? with _|bd
 ·rw[hb]at hl;cases hl
 ·rw[hb]at hl hv
  exact⟨bd,rfl,Option.some.inj hl,Option.some.inj hv⟩
theorem zou (W:World)(F:List zao)(x:DAd)(s:Dk)(bks:List BAd)(rows:List PRow)(N:Nat)(hD:DOK N s)(hN:N≤10000)(hf:zaY s bks rows)(who:Int):
 zax Tryz.prog W 55 [ptrV x.d,.int .i64 who] (zae x s bks rows F) (zi2 x F (zeb false s who)):=by
 refine zax.dropF ?_
 have hla:s.asks.length≤1000000:=by have:=hD.na;omega
 have hlq:s.quotes.length≤1000000:=by have:=hD.nq;omega
 have hld:s.due.length≤1000000:=by have:=hD.nd;omega
 have h4:=hD.few
 have hl:=zfC hf
 refine zaf Tryz.func55 rfl rfl Tryz.results55 Tryz.ntmps55 rfl rfl ?_
 refine zbI (fun w hw=>⟨_,hw.own_nil 44 8,?_⟩)
 have hrd:zaz W (zae x s bks rows F) x.books.A s.books.length 1 (bks.map BAd.ptr):=zcO (c:=x.books.c) (t:= 113) (by unfold zae;exact mX) hl
 refine zaI (hrd.mono (h':=.own none 0 0 44 8 []::zae x s bks rows F) kX) rfl (fun hAi=> ?_)
 unfold zae
 repeat' (first|apply zah|apply zaa|apply zam|apply zaj|apply zag|apply zac hT;iterate 4 exact rfl|apply zaA;(iterate 5 exact rfl);intro g17|apply zaE hT (cs:=[.int .i64 0,.int .i64 0,.slice none 0 0]);iterate 4 exact rfl|(apply zad;(iterate 5 exact rfl);first|(apply zaq hT;exact rfl;exact rfl;exact mX;exact rfl;exact rfl))|apply zan;iterate 2 exact rfl)
 all_goals try omega
 all_goals
  refine za1 (α:=Nat×Sp×List BAd) (E:=fun z=>[(0,ptrV x.d),(1,.int .i64 who),(5,ptrV g17),(21,x.books.sl s.books.length),(22,.int .i64 s.books.length),(23,.int .i64 z.1)])
   (H:=fun z=>zai g17 0 0 z.2.1 (zf5 who s.books z.1) (zae x {s with books:=bksN who s.books z.1} z.2.2 rows F)) (μ:=fun z=>s.books.length - z.1)
   (S:=fun z=>z.1≤s.books.length∧z.2.2.map BAd.l=bksN who s.books z.1∧z.2.2.map BAd.ptr=bks.map BAd.ptr∧(zf5 who s.books z.1).length≤200*z.1) (0,⟨none,0⟩,bks) ⟨Nat.zero_le _,hf.1,rfl,Nat.zero_le _⟩ ⟨rfl,rfl,rfl,rfl,rfl,rfl,trivial⟩ ?_ ?_
  ·show za7 _ (zai g17 0 0 ⟨none,0⟩ [] (zae x s bks rows F))
   unfold zai zae
   exact dX
  ·rintro⟨i,o2,bks2⟩ ⟨hi,hb2,hp2,ho2⟩
   dsimp only at hi hb2 hp2 ho2 ⊢
   by_cases hlt:i<s.books.length
   ·obtain⟨l,hl1⟩:∃l,s.books[i]? =some l:=⟨s.books[i]'hlt,gge hlt⟩
    have hBl:za6 l:=hD.bks l (mog hl1)
    have hlc:decide ((i:Int)<(s.books.length:Int))=true:=by simp;omega
    obtain⟨pv,hpv⟩:∃pv,(bks.map BAd.ptr)[i]? =some pv:=⟨(bks.map BAd.ptr)[i]'(by simp;omega),gge (by simp;omega)⟩
    obtain⟨bd,hbd1,hbd2,hbd3⟩:=getB hb2 hp2 (zos hl1) hpv
    have hpt:pv=ptrV bd.p:=hbd3.symm
    subst hpt
    have hix:(bks.map BAd.ptr)[(i:Int).toNat*1]? =some (ptrV bd.p):=by rw[Int.toNat_natCast,Nat.mul_one];exact hpv
    have hbl2:(bksN who s.books i).length=s.books.length:=zpW
    have hrd2:zaz W (zai g17 0 0 o2 (zf5 who s.books i) (zae x {s with books:=bksN who s.books i} bks2 rows F)) x.books.A s.books.length 1 (bks.map BAd.ptr):=by
     rw[←hp2]
     refine zcO (c:=x.books.c) (t:= 113) (h:=zai g17 0 0 o2 (zf5 who s.books i) (zae x {s with books:=bksN who s.books i} bks2 rows F)) ?_ ?_
     ·unfold zai zae
      rw[←hbl2]
      exact mX
     ·have:=congrArg List.length hb2
      rw[llm,hbl2]at this
      exact this
    have hA:=hAi (by omega)
    repeat' (first|apply zah|apply zaa|apply zam|apply zaj|apply zag|apply zac hT;iterate 4 exact rfl|apply zaJ hT;(iterate 8 exact rfl);(iterate 2 omega);exact hA|apply zad;(iterate 5 exact rfl);exact zbe hT rfl rfl hrd2 rfl hix|apply zaB (cs:=[.int .i64 1,.int .i64 2]) hT;(iterate 12 exact rfl);intro g27|(apply zal;exact rfl;all_goals(intro hb;(try dsimp only at hb);(try simp only[hb]);(first|replace hb:=odt hb|replace hb:=odf hb);(try omega))))
    all_goals try omega
    all_goals
     have hbs:=zpV (who:=who) hl1
     have hos:=zmB (who:=who) hl1
     have hBi:=zos (who:=who) hl1
     have hsf:(bksN who s.books i).set i l=bksN who s.books i:=zcC hBi
     have hgk:=zrI (who:=who) (outs:=zf5 who s.books i) hBl
     unfold gBk at hgk
     generalize bksN who s.books i=B at*
     generalize zf5 who s.books i=O at*
     generalize hnx:bksN who s.books (i+1)=B' at*
     generalize hno:zf5 who s.books (i+1)=O' at*
     have hiB:i<B.length:=by rw[hbl2];exact hlt
     refine za1 (α:=Nat×Sp×List BAd×List zap×List OutR) (E:=fun y=>[(0,ptrV x.d),(1,.int .i64 who),(5,ptrV g17),(7,ptrV bd.p),(21,x.books.sl s.books.length),(22,.int .i64 s.books.length),(23,.int .i64 i),(27,.slice (some ⟨g27,0,none⟩) 2 2),(28,.int .i64 2),(29,.int .i64 y.1)])
      (H:=fun y=>.own (some ⟨g27,0,none⟩) 2 2 3 1 [.int .i64 1,.int .i64 2]::zai g17 0 0 y.2.1 y.2.2.2.2 (zae x {s with books:=B.set i y.2.2.2.1} y.2.2.1 rows F)) (μ:=fun y=>2 - y.1)
      (S:=fun y=>y.1≤2∧(y.2.2.2.1,y.2.2.2.2)=(([1,2]:List Int).take y.1).foldl (zmz who) (l,O)∧y.2.2.1.map BAd.l=B.set i y.2.2.2.1∧y.2.2.1.map BAd.ptr=bks.map BAd.ptr∧za6 y.2.2.2.1∧y.2.2.2.2.length≤200*i+70*y.1)
      (0,o2,bks2,l,O) ⟨Nat.zero_le _,rfl,by dsimp only;rw[hsf];exact hb2,hp2,hBl,by dsimp only;omega⟩ ⟨rfl,rfl,rfl,rfl,rfl,rfl,rfl,rfl,rfl,rfl,trivial⟩ ?_ ?_
     ·dsimp only
      rw[hsf]
      unfold zai zae
      exact dX
     ·rintro⟨j,o3,bks3,lc,oc⟩ ⟨hj,hje,hb3,hp3,hBc,hoc⟩
      dsimp only at hj hje hb3 hp3 hBc hoc ⊢
      by_cases hj2:j<2
      ·obtain⟨sd,hsd⟩:∃sd,([1,2]:List Int)[j]? =some sd:=⟨([1,2]:List Int)[j]'hj2,gge hj2⟩
       have hjc:decide ((j:Int)<2)=true:=by simp;omega
       have hjx:([.int .i64 1,.int .i64 2]:List Value)[(j:Int).toNat*1]? =some (.int .i64 sd):=by
        have:j=0∨j=1:=by omega
        rcases this with rfl|rfl<;>(cases hsd;rfl)
       have hstj:(([1,2]:List Int).take (j+1)).foldl (zmz who) (l,O)=zmz who (lc,oc) sd:=by
        rw[List.take_add_one,hsd,List.foldl_append,←hje];rfl
       obtain⟨⟨p3,sp3,l3⟩,hq1,hq2,hq3⟩:=getB hb3 hp3 (show(B.set i lc)[i]? =some lc by rw[List.getElem?_set,if_pos rfl,if_pos hiB]) hpv
       dsimp only at hq2
       subst hq2
       obtain rfl:p3=bd.p:=by
        unfold BAd.ptr ptrV at hq3
        injection hq3 with hq3
        injection hq3 with hq3
        injection hq3
       have hSd:=fun h m1 m2=>zot W h ⟨bd.p,sp3,l3⟩ sd hBc m1 m2
       have hol:(za3 sd l3).length≤64:=by
        rw[(zbW sd l3).length_eq]
        exact Nat.le_trans (List.length_filter_le _ _) hBc.len
       unfold zmz at hstj
       dsimp only at hstj
       generalize za3 sd l3=os at*
       have hr27:zaz W (.own (some ⟨g27,0,none⟩) 2 2 3 1 [.int .i64 1,.int .i64 2]::zai g17 0 0 o3 oc (zae x {s with books:=B.set i l3} bks3 rows F)) (some ⟨g27,0,none⟩) 2 1 [.int .i64 1,.int .i64 2]:=zaz.own mem0 rfl (List.all_eq_true.1 rfl)
       repeat' (first|apply zah|apply zaa|apply zam|apply zaj|apply zag|apply zac hT;iterate 4 exact rfl|apply zaJ hT;(iterate 8 exact rfl);(iterate 2 omega);exact rfl|apply zad;(iterate 5 exact rfl);exact zbe hT rfl rfl hr27 rfl hjx|(apply zau;(iterate 7 exact rfl);exact(hSd _ (mcm _ (zih (mog hq1) _ (by unfold BAd.ck;exact mem0))) (mcm _ (zih (mog hq1) _ (by unfold BAd.ck;exact mem1))));rintro _ _ ⟨A5,c5,rfl,rfl,hof⟩)|(apply zal;exact rfl;all_goals(intro hb;(try dsimp only at hb);(try simp only[hb]);(first|replace hb:=odt hb|replace hb:=odf hb);(try omega))))
       all_goals try omega
       all_goals
        refine zaI (hof.reads mem0) rfl (fun hOi=> ?_)
        refine za1 (α:=Nat×Sp×List BAd×List zap×List OutR) (E:=fun u=>[(0,ptrV x.d),(1,.int .i64 who),(5,ptrV g17),(7,ptrV bd.p),(21,x.books.sl s.books.length),(22,.int .i64 s.books.length),(23,.int .i64 i),(27,.slice (some ⟨g27,0,none⟩) 2 2),(28,.int .i64 2),(29,.int .i64 j),(35,.slice A5 os.length c5),(36,.int .i64 os.length),(37,.int .i64 u.1)])
         (H:=fun u=>.own A5 os.length c5 168 6 (os.flatMap zap.enc)::.own (some ⟨g27,0,none⟩) 2 2 3 1 [.int .i64 1,.int .i64 2]::zai g17 0 0 u.2.1 u.2.2.2.2 (zae x {s with books:=B.set i u.2.2.2.1} u.2.2.1 rows F)) (μ:=fun u=>os.length - u.1)
         (S:=fun u=>u.1≤os.length∧(u.2.2.2.1,u.2.2.2.2)=(os.take u.1).foldl (zi3 who) (l3,oc)∧u.2.2.1.map BAd.l=B.set i u.2.2.2.1∧u.2.2.1.map BAd.ptr=bks.map BAd.ptr∧za6 u.2.2.2.1∧u.2.2.2.2.length≤200*i+70*j+u.1)
         (0,o3,bks3,l3,oc) ⟨Nat.zero_le _,rfl,hb3,hp3,hBc,by dsimp only;omega⟩ ⟨rfl,rfl,rfl,rfl,rfl,rfl,rfl,rfl,rfl,rfl,rfl,rfl,rfl,trivial⟩ ?_ ?_
        ·dsimp only
         unfold zai zae
         exact dX
        ·rintro⟨k,o4,bks4,l1,o1⟩ ⟨hk,hke,hb4,hp4,hB1,ho1⟩
         dsimp only at hk hke hb4 hp4 hB1 ho1 ⊢
         by_cases hk2:k<os.length
         ·obtain⟨od,hod⟩:∃od,os[k]? =some od:=⟨os[k]'hk2,gge hk2⟩
          have hod2:os[(k:Int).toNat]? =some od:=by simpa using hod
          have hkc:decide ((k:Int)<(os.length:Int))=true:=by simp;omega
          have hOA:=hOi (by omega)
          have hstk:(os.take (k+1)).foldl (zi3 who) (l3,oc)=zi3 who (l1,o1) od:=by
           rw[List.take_add_one,hod,List.foldl_append,←hke];rfl
          obtain⟨⟨p4,sp4,l4⟩,hr1,hr2,hr3⟩:=getB hb4 hp4 (show(B.set i l1)[i]? =some l1 by rw[List.getElem?_set,if_pos rfl,if_pos hiB]) hpv
          dsimp only at hr2
          subst hr2
          obtain rfl:p4=bd.p:=by
           unfold BAd.ptr ptrV at hr3
           injection hr3 with hr3
           injection hr3 with hr3
           injection hr3
          have hbo:o1.length≤1000000:=by omega
          unfold zi3 at hstk
          dsimp only at hstk
          by_cases hwo:od.owner=who
          ·rw[if_pos hwo]at hstk
           have hDr:=fun G=>zj0 W G x {s with books:=B.set i l4} bks4 rows g17 0 0 o4 o1 i ⟨bd.p,sp4,l4⟩ od.id hr1 hB1.le
           dsimp only at hDr
           simp only[List.set_set]at hDr
           unfold zai
           repeat' (first|apply zah|apply zaa|apply zam|apply zaj|apply zag|apply zac hT;iterate 4 exact rfl|(apply zaM hT;(iterate 4 exact rfl);(iterate 2 (first|omega)))|apply zaJ hT;(iterate 8 exact rfl);(iterate 2 omega);exact hOA|(apply zad;(iterate 5 exact rfl);exact zaO hT rfl rfl (hof.reads mX) zap.enc_len rfl hod2 rfl)|(apply zay hT;(iterate 5 exact rfl);first|(fail_if_success (have q:=g11));intro g11)|(apply zar hT;(iterate 6 exact rfl);exact sX;(iterate 3 exact rfl);exact nle rfl)|(apply zau;(iterate 7 exact rfl);exact(zax.perm (hDr _) (by unfold zai;exact pX));rintro _ _ ⟨rfl,sp5,rfl⟩)|(apply zaB (cs:=[.int .i64 od.id,.int .i64 od.left]) hT;(iterate 12 exact rfl);intro g55)|(apply zau;(iterate 7 exact rfl);exact(zbY W _ g17 0 0 o4 o1 _ (some ⟨g55,0,none⟩) 2 who 21 [od.id,od.left] pX mX (Nat.le_of_ble_eq_true rfl) hbo);rintro _ _ ⟨rfl,o5,rfl⟩)|(apply zad;(iterate 5 exact rfl);first|(apply zaq hT;exact rfl;exact rfl;exact mX;exact rfl;exact rfl))|(apply zal;exact rfl;all_goals(intro hb;(try dsimp only at hb);(try simp only[hb]);(first|replace hb:=odt hb|replace hb:=odf hb);(try omega))))
           all_goals try omega
           all_goals
            refine zaD (k+1,o5,bks4.set i ⟨bd.p,sp5,zbf od.id l4⟩,zbf od.id l4,o1++[outM who 21 [od.id,od.left]]) (by(try dsimp only);omega) ⟨by(try dsimp only);omega,hstk.symm,by dsimp only;rw[List.map_set,hb4,List.set_set],by dsimp only;rw[zf3 (b':=⟨bd.p,sp5,zbf od.id l4⟩) hr1 rfl];exact hp4,hB1.drop _,by dsimp only;rw[lla];show o1.length+1≤_;omega⟩ ⟨rfl,rfl,rfl,rfl,rfl,rfl,rfl,rfl,rfl,rfl,rfl,rfl,rfl,trivial⟩ ?_
            dsimp only
            unfold zai zae
            exact dA
          ·rw[if_neg hwo]at hstk
           unfold zai zae
           repeat' (first|apply zah|apply zaa|apply zam|apply zaj|apply zag|apply zac hT;iterate 4 exact rfl|(apply zaM hT;(iterate 4 exact rfl);(iterate 2 (first|omega)))|apply zaJ hT;(iterate 8 exact rfl);(iterate 2 omega);exact hOA|(apply zad;(iterate 5 exact rfl);exact zaO hT rfl rfl (hof.reads mX) zap.enc_len rfl hod2 rfl)|(apply zay hT;(iterate 5 exact rfl);first|(fail_if_success (have q:=g11));intro g11)|(apply zar hT;(iterate 6 exact rfl);exact sX;(iterate 3 exact rfl);exact nle rfl)|(apply zad;(iterate 5 exact rfl);first|(apply zaq hT;exact rfl;exact rfl;exact mX;exact rfl;exact rfl))|(apply zal;exact rfl;all_goals(intro hb;(try dsimp only at hb);(try simp only[hb]);(first|replace hb:=odt hb|replace hb:=odf hb);(try omega))))
           all_goals try omega
           all_goals exact zaD (k+1,o4,bks4,l4,o1) (by(try dsimp only);omega) ⟨by(try dsimp only);omega,hstk.symm,hb4,hp4,hB1,by dsimp only;omega⟩ ⟨rfl,rfl,rfl,rfl,rfl,rfl,rfl,rfl,rfl,rfl,rfl,rfl,rfl,trivial⟩ (by dsimp only;exact dA)
         ·obtain rfl:k=os.length:=by omega
          have hkc:decide ((os.length:Int)<(os.length:Int))=false:=by simp
          rw[List.take_length,←hstj]at hke
          unfold zai zae
          repeat' (first|apply zah|apply zaa|apply zaN|apply zag|apply zac hT;iterate 4 exact rfl|(apply zaM hT;(iterate 4 exact rfl);(iterate 2 (first|omega)))|(apply zal;exact rfl;all_goals(intro hb;(try dsimp only at hb);(try simp only[hb]);(first|replace hb:=odt hb|replace hb:=odf hb);(try omega))))
          all_goals try omega
          all_goals exact zaD (j+1,o4,bks4,l1,o1) (by(try dsimp only);omega) ⟨by(try dsimp only);omega,hke,hb4,hp4,hB1,by dsimp only;omega⟩ ⟨rfl,rfl,rfl,rfl,rfl,rfl,rfl,rfl,rfl,rfl,trivial⟩ (by dsimp only;exact dA)
      ·obtain rfl:j=2:=by omega
       have hjc:decide ((2:Int)<2)=false:=by decide
       rw[show([1,2]:List Int).take 2=[1,2]from rfl,hgk,←hos]at hje
       obtain⟨rfl,rfl⟩:=Prod.mk.inj hje
       rw[hbs]at hb3
       unfold zai zae
       repeat' (first|apply zah|apply zaa|apply zaN|apply zag|apply zac hT;iterate 4 exact rfl|(apply zaM hT;(iterate 4 exact rfl);(iterate 2 (first|omega)))|apply zan;iterate 2 exact rfl)
       all_goals try omega
       all_goals exact zaD (i+1,o3,bks3) (by(try dsimp only);omega) ⟨by(try dsimp only);omega,by dsimp only;rw[hnx];exact hb3,hp3,by dsimp only;rw[hno];omega⟩ ⟨rfl,rfl,rfl,rfl,rfl,rfl,trivial⟩ (by dsimp only;rw[hnx,hno,←hbs];exact dA)
   ·obtain rfl:i=s.books.length:=by omega
    have hlc:decide ((s.books.length:Int)<(s.books.length:Int))=false:=by simp
    have hB0:bksN who s.books s.books.length=s.books.map (zgg who):=by unfold bksN;rw[List.take_length,List.drop_length,List.append_nil]
    have hO0:zf5 who s.books s.books.length=s.books.flatMap fun l=>(zea who 1 l++zea who 2 l).map fun o=>outM who 21 [o.id,o.left]:=by unfold zf5;rw[List.take_length]
    unfold zeb
    rw[←hO0]
    have hD1:DOK N {s with books:=s.books.map (zgg who)}:=hD.books (by simp) (fun l hl=>by
     obtain⟨m,hm,rfl⟩:=lmm.1 hl
     exact zdm.2 (hD.bks m hm)) (fun l hl o ho=>by
     obtain⟨m,hm,rfl⟩:=lmm.1 hl
     exact hD.bid m hm o (zdm.1 o ho))
    rw[←hB0]at hD1 ⊢
    have hOf:=fun G=>zrw W G x.q x.quotes.A x.quotes.c s.quotes who hlq
    have hql:(s.quotes.filter (isOf who)).length≤1000000:=Nat.le_trans (List.length_filter_le _ _) hlq
    generalize zf5 who s.books s.books.length=O at*
    generalize s.quotes.filter (isOf who)=qs at*
    generalize bksN who s.books s.books.length=B at*
    have hf1:zaY ({s with books:=B}:Dk) bks2 rows:=⟨hb2,hf.2⟩
    unfold zai zae
    repeat' (first|apply zah|apply zaa|apply zaN|apply zaj|apply zag|apply zac hT;iterate 4 exact rfl|(apply zau;(iterate 7 exact rfl);exact(zax.perm (hOf _) pX);rintro _ _ ⟨A6,c6,rfl,rfl,hof⟩)|(apply zad;(iterate 5 exact rfl);first|(apply zaq hT;exact rfl;exact rfl;exact mX;exact rfl;exact rfl))|(apply zal;exact rfl;all_goals(intro hb;(try dsimp only at hb);(try simp only[hb]);(first|replace hb:=odt hb|replace hb:=odf hb);(try omega))))
    all_goals try omega
    all_goals
     refine za1 (α:=Nat×Sp) (E:=fun z=>[(0,ptrV x.d),(5,ptrV g17),(65,.slice A6 qs.length c6),(66,.int .i64 qs.length),(67,.int .i64 z.1)])
      (H:=fun z=>.own A6 qs.length c6 174 6 (qs.flatMap zat.enc)::zai g17 0 0 o2 O (zae {x with due:=z.2} ((qs.take z.1).foldl (zct false) {s with books:=B}) bks2 rows F)) (μ:=fun z=>qs.length - z.1)
      (S:=fun z=>z.1≤qs.length) (0,x.due) (Nat.zero_le _) ⟨rfl,rfl,rfl,rfl,rfl,trivial⟩ ?_ ?_
     ·show za7 _ (.own A6 qs.length c6 174 6 (qs.flatMap zat.enc)::zai g17 0 0 o2 O (zae x {s with books:=B} bks2 rows F))
      unfold zai zae
      exact dX
     ·rintro⟨k,u⟩ hk
      dsimp only at hk ⊢
      have hDk:DOK N ((qs.take k).foldl (zct false) {s with books:=B}):=DOK.goneAll (qs.take k) (s:={s with books:=B}) hD1
      by_cases hk2:k<qs.length
      ·obtain⟨q,hq⟩:∃q,qs[k]? =some q:=⟨qs[k]'hk2,gge hk2⟩
       have hq2:qs[(k:Int).toNat]? =some q:=by simpa using hq
       have hkc:decide ((k:Int)<(qs.length:Int))=true:=by simp;omega
       have hst:(qs.take (k+1)).foldl (zct false) {s with books:=B}=zct false ((qs.take k).foldl (zct false) {s with books:=B}) q:=by
        rw[List.take_add_one,hq,List.foldl_append];rfl
       generalize (qs.take k).foldl (zct false) ({s with books:=B}:Dk)=st at*
       generalize hst2:(qs.take (k+1)).foldl (zct false) ({s with books:=B}:Dk)=st2 at*
       have hla2:st.asks.length≤1000000:=by have:=hDk.na;omega
       have hlq2:st.quotes.length≤1000000:=by have:=hDk.nq;omega
       have hld2:st.due.length≤1000000:=by have:=hDk.nd;omega
       have hLk:=zfA W ({x with due:=u}:DAd) st q hDk.upa hla2
       have hKl:=fun G=>zgn W G x.q x.quotes.A x.quotes.c st.quotes q.id hlq2 hDk.upq
       have hDr:=fun G=>zfp W G x.u u.A u.c st.due 3 q.id hld2
       unfold zct at hst
       refine zaI (hof.reads mem0) rfl (fun hQi=> ?_)
       have hQA:=hQi (by omega)
       cases hlk:zev st q
       ·rw[hlk]at hLk hst
        rw[if_neg (by decide)]at hst
        unfold zai zae
        repeat' (first|apply zah|apply zaa|apply zam|apply zaj|apply zag|apply zac hT;iterate 4 exact rfl|(apply zaM hT;(iterate 4 exact rfl);(iterate 2 (first|omega)))|apply zaC [] [] hmix;decide+kernel|apply zaJ hT;(iterate 8 exact rfl);(iterate 2 omega);exact hQA|(apply zad;(iterate 5 exact rfl);exact zaO hT rfl rfl (hof.reads mX) zat.enc_len rfl hq2 rfl)|(apply zay hT;(iterate 5 exact rfl);first|(fail_if_success (have q:=g13));intro g13)|(apply zar hT;(iterate 6 exact rfl);exact sX;(iterate 3 exact rfl);exact nle rfl)|(apply zab;(iterate 7 exact rfl);exact(hLk.mono (zd4 mX mX mX)))|(apply zau;(iterate 7 exact rfl);exact(zax.perm (hKl _) pX);rintro _ _ ⟨rfl,rfl⟩)|(apply zau;(iterate 7 exact rfl);exact(zax.perm (hDr _) pX);rintro _ _ ⟨rfl,A7,c7,rfl⟩)|(apply zad;(iterate 5 exact rfl);first|(apply zaq hT;exact rfl;exact rfl;exact mX;exact rfl;exact rfl)|(apply zaF hT;exact rfl;exact rfl;exact mX;exact rfl))|(apply zas;iterate 2 exact rfl)|(apply zal;exact rfl;all_goals(intro hb;(try dsimp only at hb);(try simp only[hb]);(first|replace hb:=odt hb|replace hb:=odf hb);(try omega))))
        all_goals try omega
        all_goals exact zaD (k+1,⟨A7,c7⟩) (by(try dsimp only);omega) (by(try dsimp only);omega) ⟨rfl,rfl,rfl,rfl,rfl,trivial⟩ (by dsimp only;rw[hst2,hst];exact dA)
       ·rw[hlk]at hLk hst
        rw[if_pos rfl]at hst
        unfold zai zae
        repeat' (first|apply zah|apply zaa|apply zam|apply zaj|apply zag|apply zac hT;iterate 4 exact rfl|(apply zaM hT;(iterate 4 exact rfl);(iterate 2 (first|omega)))|apply zaJ hT;(iterate 8 exact rfl);(iterate 2 omega);exact hQA|(apply zad;(iterate 5 exact rfl);exact zaO hT rfl rfl (hof.reads mX) zat.enc_len rfl hq2 rfl)|(apply zay hT;(iterate 5 exact rfl);first|(fail_if_success (have q:=g13));intro g13)|(apply zar hT;(iterate 6 exact rfl);exact sX;(iterate 3 exact rfl);exact nle rfl)|(apply zab;(iterate 7 exact rfl);exact(hLk.mono (zd4 mX mX mX)))|(apply zad;(iterate 5 exact rfl);first|(apply zaF hT;exact rfl;exact rfl;exact mX;exact rfl))|(apply zan;iterate 2 exact rfl)|(apply zal;exact rfl;all_goals(intro hb;(try dsimp only at hb);(try simp only[hb]);(first|replace hb:=odt hb|replace hb:=odf hb);(try omega))))
        all_goals try omega
        all_goals exact zaD (k+1,u) (by(try dsimp only);omega) (by(try dsimp only);omega) ⟨rfl,rfl,rfl,rfl,rfl,trivial⟩ (by dsimp only;rw[hst2,hst];exact dA)
      ·obtain rfl:k=qs.length:=by omega
       have hkc:decide ((qs.length:Int)<(qs.length:Int))=false:=by simp
       rw[List.take_length]at*
       have hbk:=zhl qs ({s with books:=B}:Dk)
       generalize qs.foldl (zct false) ({s with books:=B}:Dk)=st at*
       have hf2:zaY st bks2 rows:=⟨by rw[hbk.1];exact hf1.1,by rw[hbk.2];exact hf1.2⟩
       unfold zai zae
       repeat' (first|apply zah|apply zaa|apply zak|apply zaN|apply zag|apply zac hT;iterate 4 exact rfl|(apply zad;(iterate 5 exact rfl);first|(apply zaq hT;exact rfl;exact rfl;exact mX;exact rfl;exact rfl))|(apply zal;exact rfl;all_goals(intro hb;(try dsimp only at hb);(try simp only[hb]);(first|replace hb:=odt hb|replace hb:=odf hb);(try omega))))
       all_goals try omega
       all_goals(apply ret1;exact rfl;exact⟨.own o2.A O.length o2.c 44 8 (O.flatMap OutR.enc)::zae (({x with due:=u}:DAd).at x.d) st bks2 rows F,by(unfold zae;exact dA),fun w hw=>⟨{x with due:=u},bks2,rows,_,_,rfl,rfl,hf2,hw.ownF mem0⟩⟩)
end Go.Proofs.YteocfhdocpeokaaGreat
namespace Go.Proofs.YteocfhdocpeokaaGreat
open Go Go.Sl
def uncr (l:List zap):Prop:=∀a∈l,∀b∈l,a.side=1→b.side=2→a.price<b.price
def sumG (g:List zcw):Int:=(g.map zcw.left).sum
theorem zpX (a b:List zcw):sumG (a++b)=sumG a+sumG b:=by simp only[sumG,List.map_append];exact zeu _ _
theorem zen (x:zap)(l:List zap):sumL (x::l)=x.left+sumL l:=by simp[sumL]
theorem zpY {l:List zap}{i:Nat}{x y:zap}(h:l[i]? =some x):sumL (l.set i y)=sumL l - x.left+y.left:=by
 induction l generalizing i with
 |nil=>simp at h
 |cons z l ih=>
  cases i with
  |zero=>simp only[List.getElem?_cons_zero,Option.some.injEq]at h;subst h;rw[List.set_cons_zero,zen,zen];omega
  |succ i=>rw[List.set_cons_succ,zen,zen,ih (by simpa using h)];omega
theorem zlM {l:List zap}(hB:za6 l){x:zap}(hx:x∈l):sumL (zbf x.id l)=sumL l - x.left:=by
 have:=znk (zjt hB.id hx)
 rw[zen]at this;omega
theorem zpZ {l:List zap}(hB:za6 l){x:zap}(hx:x∈l){left:Int}(h1:1≤left)(h2:left≤x.left):sumL (zb2 x.id left l)=sumL l - x.left+left:=by
 have hg:=zps hB.id hx
 rcases zc3 (p:=hasO x.id) l with ⟨hi,hf⟩|⟨i,y,hi,hy,hp,hf⟩
 ·have:getO x.id l=none:=hf
  rw[hg]at this;cases this
 ·have hyx:y=x:=by have:getO x.id l=some y:=hf;rw[hg]at this;exact(Option.some.inj this).symm
  subst hyx
  have hE:zdp y.id left l=0:=by simp[zdp,hg];omega
  have hL:zb2 y.id left l=l.set i {y with left:=left}:=by simp[zb2,hg,hE,hi]
  rw[hL,zpY hy]
theorem zq1 {how:Int}{o:zap}{l:List zap}(hB:za6 l)(hs:isB o.side=true)(ho:0≤o.left):∀k,k≤(zaV how o l).length→
 sumL (runX o l ((zaV how o l).take k)).bk=sumL l - sumQ (runX o l ((zaV how o l).take k)).fills - sumG (runX o l ((zaV how o l).take k)).gones∧∀g∈(runX o l ((zaV how o l).take k)).gones,1≤g.left:=by
 intro k
 induction k with
 |zero=>intro _;exact⟨by show sumL l=sumL l - 0 - 0;omega,fun g hg=>(by cases hg)⟩
 |succ k ih=>
  intro hk
  obtain⟨x,hx⟩:∃x,(zaV how o l)[k]? =some x:=⟨(zaV how o l)[k]'(by omega),gge (by omega)⟩
  obtain⟨ih1,ih2⟩:=ih (by omega)
  have hrm:=zju (how:=how) hs hB k (by omega)
  have hBk:za6 (runX o l ((zaV how o l).take k)).bk:=zhX hB
  have hfc:=(zdK (o:=o) (l:=l) (ms:=zaV how o l) (fun y hy=>(hB.left y (zcG hy).1).1) ho k (by omega)).1
  have hxl:=(hB.left x (zcG (mog hx)).1)
  rw[zfr hx]
  have hmem:(runX o l ((zaV how o l).take k)).left≠0→x∈(runX o l ((zaV how o l).take k)).bk:=fun h0=>by
   have:x∈zaV how o (runX o l ((zaV how o l).take k)).bk:=by
    rw[hrm h0]
    obtain⟨hkl,hke⟩:=gsi.1 hx
    rw[←hke,←List.getElem_cons_drop hkl];exact mcs
   exact(zcG this).1
  generalize runX o l ((zaV how o l).take k)=s at ih1 ih2 hmem hBk hfc ⊢
  unfold zdy
  split
  ·exact⟨ih1,ih2⟩
  ·rename_i h0
   have hxm:=hmem h0
   split
   ·refine⟨?_,fun g hg=> ?_⟩
    ·dsimp only
     rw[zlM hBk hxm,zpX,ih1];simp[sumG];omega
    ·dsimp only at hg
     rcases lma.1 hg with hg|hg
     ·exact ih2 g hg
     ·rw[lms.1 hg];exact hxl.1
   ·refine⟨?_,ih2⟩
    dsimp only
    rw[zls]
    have e:sumQ [⟨x.id,o.id,x.owner,o.owner,x.price,min s.left x.left,x.left - min s.left x.left⟩]=min s.left x.left:=by simp[sumQ]
    rw[e]
    split
    ·rename_i hm
     rw[zlM hBk hxm,ih1,hm];omega
    ·rename_i hm
     rw[zpZ hBk hxm (by omega) (by omega),ih1];omega
theorem zov {how:Int}{o:zap}{l:List zap}(hB:za6 l)(hu:uncr l)(h0:zbC how o l=0):
 uncr (doV how o l).bk∧sumL (doV how o l).bk=sumL l - sumQ (doV how o l).fills - sumG (doV how o l).gones+(if zb9 how then(doV how o l).left else 0)∧
 sumQ (doV how o l).fills=o.left - (doV how o l).left∧0≤(doV how o l).left∧(∀g∈(doV how o l).gones,1≤g.left)∧
 (∀f∈(doV how o l).fills,1≤f.qty∧f.mparty≠o.owner∧f.taker=o.id)∧sumQ (doV how o l).fills+sumG (doV how o l).gones≤sumL l:=by
 have hnb:=zdM h0
 have hol:=zdL hnb
 have hsd:=znK hnb
 have hw:=(zgV hB h0).1
 obtain⟨hs1,hs2⟩:=zq1 (how:=how) hB hsd (by omega) (zaV how o l).length (Nat.le_refl _)
 rw[List.take_length]at hs1 hs2
 have hfc:=(zdK (o:=o) (l:=l) (ms:=zaV how o l) (fun y hy=>(hB.left y (zcG hy).1).1) (by omega) (zaV how o l).length (Nat.le_refl _))
 rw[List.take_length]at hfc
 have hBs:za6 (runX o l (zaV how o l)).bk:=zhX hB
 have hrm:=zju (how:=how) hsd hB (zaV how o l).length (Nat.le_refl _)
 rw[List.take_length,List.drop_length]at hrm
 have hus:uncr (runX o l (zaV how o l)).bk:=fun a ha b hb ea eb=>by
  obtain⟨a',ha',_,_,a3,a4,_⟩:=hw.sub a ha
  obtain⟨b',hb',_,_,b3,b4,_⟩:=hw.sub b hb
  rw[a4,b4];exact hu a' ha' b' hb' (by rw[←a3];exact ea) (by rw[←b3];exact eb)
 have hd:doV how o l=⟨(runX o l (zaV how o l)).fills,(runX o l (zaV how o l)).gones,(runX o l (zaV how o l)).left,0,zdz how o (runX o l (zaV how o l))⟩:=by unfold doV;rw[if_pos h0]
 have hfl:∀f∈(runX o l (zaV how o l)).fills,1≤f.qty∧f.mparty≠o.owner∧f.taker=o.id:=fun f hf=>by
  obtain⟨xs,h1,h2,h3⟩:=hw.mks
  obtain⟨i,hi⟩:=List.getElem?_of_mem hf
  have hlt:=(gsi.1 hi).1
  have k:=(h3 i f (xs[i]'(by omega)) hi (gge (by omega))).1
  exact⟨k.qty,by rw[k.mparty];exact k.own,k.taker⟩
 have hpos:0≤sumL (runX o l (zaV how o l)).bk:=(zns hBs.left).1
 have hsub:=hw.sub
 have hlen:=hw.len
 have hsum:=hw.sum
 rw[hd]
 dsimp only
 generalize runX o l (zaV how o l)=s at*
 refine⟨?_,?_,hsum,hfc.1,hs2,hfl,by omega⟩
 ·unfold zdz
  split
  ·rename_i hst
   have hm:zaV how o s.bk=[]:=hrm (by omega)
   rw[zjC hsd hBs]at hm
   have hno:∀y∈s.bk,y.side=zbS o.side→zcX how o y=false:=fun y hy hys=>by
    have hmem:y∈za3 (zbS o.side) s.bk:=(zbW _ _).mem_iff.2 (List.mem_filter.2 ⟨hy,by simp[zbB,hys]⟩)
    cases h:zcX how o y
    ·rfl
    ·have:=List.mem_filter.2 ⟨hmem,h⟩
     rw[hm]at this;cases this
   have hh4:how≠4:=by intro e;rw[e]at hst;exact absurd hst.1 (by decide)
   have hlim:∀y∈s.bk,y.side=zbS o.side→zbG o.side y.price o.price=true:=fun y hy hys=>by
    have:=hno y hy hys
    unfold zcX at this
    rw[show(how==4)=false by simpa using hh4,hsd]at this
    simpa using this
   intro a ha b hb ea eb
   have hmem:∀z∈addO {o with left:=s.left} s.bk,z∈s.bk∨z={o with left:=s.left}:=fun z hz=>by
    unfold addO at hz
    split at hz
    ·rcases lma.1 hz with h|h
     ·exact .inl h
     ·exact .inr (lms.1 h)
    ·exact .inl hz
   rcases hmem a ha with ha|ha<;>rcases hmem b hb with hb|hb
   ·exact hus a ha b hb ea eb
   ·have hos:o.side=2:=by rw[hb]at eb;exact eb
    have:=hlim a ha (by rw[hos];exact ea)
    rw[hos]at this
    rw[hb];simp[zbG]at this;exact this
   ·have hos:o.side=1:=by rw[ha]at ea;exact ea
    have:=hlim b hb (by rw[hos];exact eb)
    rw[hos]at this
    rw[ha];simp[zbG]at this;exact this
   ·rw[ha]at ea;rw[hb]at eb;simp only at ea eb;omega
  ·exact hus
 ·unfold zdz
  cases hst:zb9 how
  ·simp;omega
  ·have hh4:how≠4:=by intro e;rw[e]at hst;exact absurd hst (by decide)
   by_cases hl0:s.left>0
   ·rw[if_pos ⟨rfl,hl0⟩,if_pos rfl]
    have hok:okO {o with left:=s.left}=true:=by
     have:okO o=true:=by
      unfold newB at hnb
      simp only[Bool.and_eq_true]at hnb
      have h:=hnb.2.2.2.1
      unfold asX at h
      rw[if_neg hh4]at h;exact h
     simp only[okO,Bool.and_eq_true,decide_eq_true_eq]at this ⊢
     obtain⟨⟨⟨⟨⟨⟨⟨a1,a2⟩,a3⟩,a4⟩,a5⟩,a6⟩,a7⟩,a8⟩:=this
     exact⟨⟨⟨⟨⟨⟨⟨a1,a2⟩,a3⟩,a4⟩,by omega⟩,by omega⟩,a7⟩,a8⟩
    have hcl:zaT (zbj {o with left:=s.left}) s.bk<0:=by
     rw[zbV]
     intro y hy
     obtain⟨x,hx,e1,e2,_⟩:=hsub y hy
     have hcl0:zaT (zbj o) l<0:=by
      unfold newB at hnb
      simp only[Bool.and_eq_true,decide_eq_true_eq]at hnb
      exact hnb.2.2.2.2
     have:=zbV.1 hcl0 x hx
     unfold zbj at this ⊢
     rw[e1,e2];exact this
    have hln:¬s.bk.length≥64:=by
     intro hge
     have:l.length≥64:=by omega
     unfold zbC at h0
     rw[if_neg (by rw[hnb];decide),if_pos ⟨hst,this⟩]at h0
     omega
    have hadd:addO {o with left:=s.left} s.bk=s.bk++[{o with left:=s.left}]:=by
     unfold addO
     have:zeR {o with left:=s.left} s.bk=0:=by
      unfold zeR
      rw[if_neg (by rw[hok];simp;omega),if_neg hln]
     rw[if_pos this]
    rw[hadd,zeS,hs1];simp[sumL]
   ·rw[if_neg (fun h=>hl0 h.2),if_pos rfl];omega
end Go.Proofs.YteocfhdocpeokaaGreat
namespace Go.Sl
open Go Go.RowKit Go.MapKept
def mapI (l:List (Int×Value)):List (Value×Value):=l.map fun e=>(.int .i64 e.1,e.2)
def getI :List (Int×Value)→Int→Option Value
 |[],_=>none
 |(m,u)::l,n=>if n==m then some u else getI l n
def updI :List (Int×Value)→Int→Value→List (Int×Value)
 |[],n,v=>[(n,v)]
 |(m,u)::l,n,v=>if n==m then(m,v)::l else(m,u)::updI l n v
def posI :List (Int×Value)→Int→Nat→Option (Nat×Value)
 |[],_,_=>none
 |(m,u)::l,n,i=>if n==m then some (i,u)else posI l n (i+1)
theorem zlN :∀(l:List (Int×Value)) (n:Int) (i:Nat),(posI l n i).map (·.2)=getI l n
 |[],n,i=>rfl
 |(m,u)::l,n,i=>by
  unfold posI getI
  split
  ·rfl
  ·exact zlN l n (i+1)
theorem zhm :∀(es:List MapEntry) (l:List (Int×Value)) (n:Int) (i:Nat),es.map (fun e=>(e.key,e.val))=mapI l→Instr.findNow (.int .i64) (.int .i64 n) es i=some (posI l n i)
 |[],[],n,i,_=>rfl
 |[],_::_,n,i,h=>by simp[mapI]at h
 |_::_,[],n,i,h=>by simp[mapI]at h
 |e::es,(m,u)::l,n,i,h=>by
  simp only[mapI,List.map_cons,List.cons.injEq,Prod.mk.injEq]at h
  obtain⟨⟨hk,hv⟩,ht⟩:=h
  unfold Instr.findNow posI
  rw[hk,hv]
  simp only[Instr.sameNow,if_true]
  cases hn:(n==m)
  ·exact zhm es l n (i+1) ht
  ·rfl
theorem zj3 :∀(l:List (Int×Value)) (n:Int) (v:Value) (i:Nat),posI l n i=none→updI l n v=l++[(n,v)]
 |[],n,v,i,_=>rfl
 |(m,u)::l,n,v,i,h=>by
  unfold posI at h
  unfold updI
  split at h
  ·cases h
  ·rename_i hn
   rw[if_neg hn,zj3 l n v (i+1) h];rfl
theorem zj4 :∀(l:List (Int×Value)) (n:Int) (v:Value) (i j:Nat) (u:Value),posI l n i=some (j,u)→∃k,j=i+k∧l[k]? =some (n,u)∧updI l n v=l.set k (n,v)
 |[],n,v,i,j,u,h=>by cases h
 |(m,u')::l,n,v,i,j,u,h=>by
  unfold posI at h
  unfold updI
  split at h
  ·rename_i hn
   injection h with h
   injection h with h1 h2
   have:n=m:=by simpa using hn
   subst this h1 h2
   exact⟨0,rfl,rfl,by rw[if_pos hn];rfl⟩
  ·rename_i hn
   obtain⟨k,h1,h2,h3⟩:=zj4 l n v (i+1) j u h
   exact⟨k+1,by omega,by simpa using h2,by rw[if_neg hn,h3];rfl⟩
section
variable {P : Program} {W : World} {T : Tab} {N : Nat} {env : Env} {h h' : List zao} {kf : KF} {ops : Array Oper} {K : Env → List zao → Prop} {o : Oper} {rest : List Oper}
theorem zij {b:Bool}{d:Tmp}{ty pos af g}{t:TypeId}(hg:zbw ops env g=some b)(hb:b=true)(hd:Nat.blt d N=true)(hk:(kf.kd ⟨some d,.makeMap t none,ty,pos,af,g⟩).wr=true)
 (hK:∀g',ES P W N kf ops rest ((d,(.map (some g')))::env) (.map g' []::h) K):ES P W N kf ops (⟨some d,.makeMap t none,ty,pos,af,g⟩::rest) env h K:=fun a ha=>by
 subst hb
 refine zbt (it:=zbs kf ops ⟨some d,.makeMap t none,ty,pos,af,g⟩) (zbq ha hg) (zfK hk) (fun w hw=> ?_)
 have e:(execOp a.eval ⟨some d,.makeMap t none,ty,pos,af,g⟩).run P w=.ok (.value (.map (some w.heap.size))) (w.alloc (.map #[] 0)):=rfl
 unfold Oper.wp
 show Oper.upon P _ a _ _ ((execOp a.eval ⟨some d,.makeMap t none,ty,pos,af,g⟩).run P w)
 rw[e]
 refine⟨.map w.heap.size []::h,?_,hK w.heap.size _ (ha.put (d:=some d) hd)⟩
 exact hw.add (World.grownBy_alloc w _ none) ⟨hw.below.size,#[],0,heap_alloc_new w _,rfl⟩ (fun g hg=>by simp[zao.keys]at hg;omega)
theorem zow (hT:zbA P T){b:Bool}{d:Tmp}{ty pos af g}{t kt et:TypeId}{ti ke te:TI}{x ix:Operand}{gm:Nat}{n:Int}{l:List (Int×Value)}{ok:Bool}(hg:zbw ops env g=some b)(hb:b=true)(hd:Nat.blt d N=true)(hk:(kf.kd ⟨some d,.lookup t x ix ok,ty,pos,af,g⟩).wr=true)
 (ht:T.lookup t=some ti) (htd:ti.desc=.map kt et) (hke:T.lookup kt=some ke) (hkd:ke.desc=.int .i64) (hte:T.lookup et=some te) (hx:za0 env x=some (.map (some gm))) (hi:za0 env ix=some (.int .i64 n)) (hm:zao.map gm (mapI l)∈h)
 (hK:ES P W N kf ops rest ((d,if ok then .tuple #[(getI l n).getD te.zero,.bool (getI l n).isSome]else(getI l n).getD te.zero)::env) h K):ES P W N kf ops (⟨some d,.lookup t x ix ok,ty,pos,af,g⟩::rest) env h K:=fun a ha=>by
 subst hb
 refine zbt (it:=zbs kf ops ⟨some d,.lookup t x ix ok,ty,pos,af,g⟩) (zbq ha hg) (zfK hk) (fun w hw=> ?_)
 obtain⟨_,es,clock,h2,h3⟩:=hw.holds _ hm
 have g1:=(hT _ _ ht).1
 have g2:=(hT _ _ hke).1
 rw[htd]at g1
 rw[hkd]at g2
 have hf:=zhm es.toList l n 0 h3
 have e:(execOp a.eval ⟨some d,.lookup t x ix ok,ty,pos,af,g⟩).run P w=.ok (.value (if ok then .tuple #[(getI l n).getD te.zero,.bool (getI l n).isSome]else(getI l n).getD te.zero)) w:=by
  have hgd:=hT _ _ hte
  have hpg:=zlN l n 0
  simp only[execOp,ha.eval hx,ha.eval hi,Instr.lookup,Sem.run_bind,run_underlying g1,Result.andThen_ok,Go.MapKept.run_getObj_map h2,Sem.run_pure,Go.MapKept.run_checkKey g2 (show IsKey (.int .i64) (.int .i64 n)from rfl) es.isEmpty 9999,Go.MapKept.run_findKey g2 hf]
  rcases hp:posI l n 0 with _|⟨j,u⟩
  ·rw[hp]at hpg
   rw[←hpg]
   simp[hgd.zv]
  ·rw[hp]at hpg
   rw[←hpg]
   simp
 unfold Oper.wp
 show Oper.upon P _ a _ _ ((execOp a.eval ⟨some d,.lookup t x ix ok,ty,pos,af,g⟩).run P w)
 rw[e]
 exact⟨h,hw,hK _ (ha.put (d:=some d) hd)⟩
theorem zgf (hT:zbA P T){b:Bool}{ty pos af g}{t kt et:TypeId}{ti ke:TI}{x ix y:Operand}{gm:Nat}{n:Int}{v:Value}{l:List (Int×Value)}(hg:zbw ops env g=some b)(hb:b=true)(hk:(kf.kd ⟨none,.mapUpdate t x ix y,ty,pos,af,g⟩).wr=true)
 (ht:T.lookup t=some ti) (htd:ti.desc=.map kt et) (hke:T.lookup kt=some ke) (hkd:ke.desc=.int .i64) (hx:za0 env x=some (.map (some gm))) (hi:za0 env ix=some (.int .i64 n)) (hy:za0 env y=some v) (hp:h.Perm (.map gm (mapI l)::h'))
 (hK:ES P W N kf ops rest env (.map gm (mapI (updI l n v))::h') K):ES P W N kf ops (⟨none,.mapUpdate t x ix y,ty,pos,af,g⟩::rest) env h K:=fun a ha=>by
 subst hb
 refine zbt (it:=zbs kf ops ⟨none,.mapUpdate t x ix y,ty,pos,af,g⟩) (zbq ha hg) (zfK hk) (fun w hw=> ?_)
 have hw':=hw.perm hp
 obtain⟨hB,es,clock,h2,h3⟩:=hw'.holds (.map gm (mapI l)) (by simp)
 have g1:=(hT _ _ ht).1
 have g2:=(hT _ _ hke).1
 rw[htd]at g1
 rw[hkd]at g2
 have hf:=zhm es.toList l n 0 h3
 have hlt:=(Array.getElem?_eq_some_iff.1 h2).1
 have key:∀(es':Array MapEntry) (c':Nat),es'.toList.map (fun e=>(e.key,e.val))=mapI (updI l n v)→Rep W (.map gm (mapI (updI l n v))::h') {w with heap:=w.heap.setIfInBounds gm (.map es' c')}:=fun es' c' he=>by
  refine hw'.change (row:=some gm) ⟨rfl,rfl,rfl,by simp,fun k hk1 hk2=> ?_⟩ (fun g' e=>by simp[zao.keys];exact(Option.some.inj e).symm) ⟨hB,es',c',?_,he⟩ (fun g' hg'=>.inl (by simpa [zao.keys]using hg'))
  ·have hne:gm≠k:=fun e=>hk2 (by rw[e])
   simp[Array.getElem?_setIfInBounds,hne]
  ·simp[Array.getElem?_setIfInBounds,hlt]
 rcases hpos:posI l n 0 with _|⟨j,u⟩
 ·rw[hpos]at hf
  have e:(execOp a.eval ⟨none,.mapUpdate t x ix y,ty,pos,af,g⟩).run P w=.ok .skip {w with heap:=w.heap.setIfInBounds gm (.map (es.push {key:=.int .i64 n,val:=v,born:=clock}) (clock+1))}:=by
   simp only[execOp,ha.eval hx,ha.eval hi,ha.eval hy,Instr.mapUpdate,Sem.run_bind,run_underlying g1,Result.andThen_ok,Go.MapKept.run_getObj_map h2,Sem.run_pure,Go.MapKept.run_checkKey g2 (show IsKey (.int .i64) (.int .i64 n)from rfl) false 9999,Go.MapKept.run_findKey g2 hf,Go.MapKept.run_setObj_map _ h2]
  unfold Oper.wp
  show Oper.upon P _ a _ _ ((execOp a.eval ⟨none,.mapUpdate t x ix y,ty,pos,af,g⟩).run P w)
  rw[e]
  refine⟨_,key _ _ ?_,hK _ ha⟩
  rw[zj3 l n v 0 hpos,Array.toList_push,List.map_append,h3]
  simp[mapI]
 ·rw[hpos]at hf
  obtain⟨k,hjk,hlk,hupd⟩:=zj4 l n v 0 j u hpos
  have hjk:j=k:=by omega
  subst hjk
  have hkey:(es[j]?).map (·.key)=some (.int .i64 n):=by
   have:(es.toList.map (fun e=>(e.key,e.val)))[j]? =some (.int .i64 n,u):=by rw[h3];simp[mapI,hlk]
   simp only[List.getElem?_map,Array.getElem?_toList]at this
   rcases hes:es[j]? with _|en
   ·rw[hes]at this;cases this
   ·rw[hes]at this;simp at this;simp[this.1]
  have hks:∀w:World,(Instr.keyThatStays (.int .i64 n) (.int .i64 n)).run P w=.ok (.int .i64 n) w:=fun w=>by
   have:Instr.sameBits 10000 (.int .i64 n) (.int .i64 n)=true:=by simp[Instr.sameBits]
   simp[Instr.keyThatStays,this]
  have e:(execOp a.eval ⟨none,.mapUpdate t x ix y,ty,pos,af,g⟩).run P w=.ok .skip {w with heap:=w.heap.setIfInBounds gm (.map (es.modify j fun e=>{e with key:=.int .i64 n,val:=v}) clock)}:=by
   simp only[execOp,ha.eval hx,ha.eval hi,ha.eval hy,Instr.mapUpdate,Sem.run_bind,run_underlying g1,Result.andThen_ok,Go.MapKept.run_getObj_map h2,Sem.run_pure,Go.MapKept.run_checkKey g2 (show IsKey (.int .i64) (.int .i64 n)from rfl) false 9999,Go.MapKept.run_findKey g2 hf,hkey,Option.getD_some,hks,Go.MapKept.run_setObj_map _ h2]
  unfold Oper.wp
  show Oper.upon P _ a _ _ ((execOp a.eval ⟨none,.mapUpdate t x ix y,ty,pos,af,g⟩).run P w)
  rw[e]
  refine⟨_,key _ _ ?_,hK _ ha⟩
  rw[hupd]
  apply List.ext_getElem?
  intro i
  have h3i:∀i:Nat,(es[i]?).map (fun e=>(e.key,e.val))=(mapI l)[i]? :=fun i=>by rw[←h3];simp
  have hi3:=h3i i
  simp only[List.getElem?_map,Array.getElem?_toList,Array.getElem?_modify,mapI,List.getElem?_set]at hi3 ⊢
  by_cases hij:j=i
  ·subst hij
   have hjl:=(gsi.1 hlk).1
   rcases hes:es[j]? with _|en
   ·rw[hes]at hkey;cases hkey
   ·simp[hjl]
  ·simp[hij]
   simpa using hi3
end
end Go.Sl
namespace Go.Proofs.YteocfhdocpeokaaGreat
open Go Go.Sl
/-! ### frames of one Seq are one -/
def oneF (a b:zeI):Prop:=b.seq≠0→b.seq=a.seq→b=a
instance (a b:zeI):Decidable (oneF a b):=by unfold oneF;infer_instance
theorem zlO :∀(m:List (Int×Value)) (n k:Int) (v:Value),getI (updI m n v) k=if k=n then some v else getI m k
 |[],n,k,v=>by
  show(if (k==n)=true then some v else none)=_
  by_cases h:k=n<;>simp[h,getI]
 |(a,u)::m,n,k,v=>by
  unfold updI
  by_cases h1:n=a
  ·subst h1
   rw[if_pos (by simp)]
   by_cases h2:k=n
   ·subst h2;simp[getI]
   ·simp[getI,h2]
  ·rw[if_neg (by simpa using h1)]
   show(if (k==a)=true then some u else getI (updI m n v) k)=if k=n then some v else(if (k==a)=true then some u else getI m k)
   rw[zlO m n k v]
   by_cases h2:k=a
   ·subst h2
    have h3:¬k=n:=fun e=>h1 e.symm
    simp[h3]
   ·simp[h2]
end Go.Proofs.YteocfhdocpeokaaGreat
namespace Go.Sl
open Go
theorem zik {P:Program}{W:World}{T:Tab}{N:Nat}{env:Env}{h:List zao}{kf:KF}{ops:Array Oper}{K:Env→List zao→Prop}{rest:List Oper}(hT:zbA P T){b:Bool}{d:Tmp}{ty pos af g}{t kt et:TypeId}{ti ke te:TI}{x ix:Operand}{gm:Nat}{n:Int}{l:List (Int×Value)}{ok:Bool}{r:Option Value}(hg:zbw ops env g=some b)(hb:b=true)(hd:Nat.blt d N=true)(hk:(kf.kd ⟨some d,.lookup t x ix ok,ty,pos,af,g⟩).wr=true)
 (ht:T.lookup t=some ti) (htd:ti.desc=.map kt et) (hke:T.lookup kt=some ke) (hkd:ke.desc=.int .i64) (hte:T.lookup et=some te) (hx:za0 env x=some (.map (some gm))) (hi:za0 env ix=some (.int .i64 n)) (hm:zao.map gm (mapI l)∈h) (hv:getI l n=r)
 (hK:ES P W N kf ops rest ((d,if ok then .tuple #[r.getD te.zero,.bool r.isSome]else r.getD te.zero)::env) h K):ES P W N kf ops (⟨some d,.lookup t x ix ok,ty,pos,af,g⟩::rest) env h K:=by
 subst hv
 exact zow hT hg hb hd hk ht htd hke hkd hte hx hi hm hK
end Go.Sl
namespace Go.Proofs.YteocfhdocpeokaaGreat
open Go Go.Sl
attribute [local irreducible] AW ES EP Ld RetQ
set_option maxRecDepth 100000
theorem zp0 (W:World)(a b:Int)(ha:inW a)(hb:inW b)(h:inW (a+b)):zaw Tryz.prog W 27 [.int .i64 a,.int .i64 b] [] (.tuple #[.int .i64 (a+b),.bool true]):=by
 unfold inW at*
 refine zaw.ofD (fun h' hs=> ?_)
 refine zaf Tryz.func27 rfl rfl Tryz.results27 Tryz.ntmps27 rfl rfl ?_
 repeat' (first|apply zah|apply zaa|apply zak|apply zam|apply zag|apply zac hT;iterate 4 exact rfl|apply zaK;iterate 3 exact rfl|(apply zaM hT;(iterate 4 exact rfl);(iterate 2 (first|omega)))|apply zan;iterate 2 exact rfl|(apply zaH;exact rfl;all_goals(intro hb;(fail_if_success (change true=true at hb));(fail_if_success (change false=false at hb));(try dsimp only at hb);(try simp only[hb]);(first|replace hb:=odt hb|replace hb:=odf hb);(try omega)))|(apply zal;exact rfl;all_goals(intro hb;(try dsimp only at hb);(try simp only[hb]);(first|replace hb:=odt hb|replace hb:=odf hb);(try omega))))
 all_goals first
  |(exfalso;omega)
  |(apply ret2;exact rfl;exact rfl;exact⟨rfl,dX⟩)
  |skip
theorem zil (W:World)(a b tick:Int)(ha:inW a)(hb:inW b)(h:inW (a+b)):zaw Tryz.prog W 71 [.int .i64 a,.int .i64 b,.int .i64 tick] [] (.bool (decide (a+b≤tick))):=by
 refine zaw.ofD (fun h' hs=> ?_)
 refine zaf Tryz.func71 rfl rfl Tryz.results71 Tryz.ntmps71 rfl rfl ?_
 repeat' (first|apply zah|apply zaa|apply zak|apply zag|apply zac hT;iterate 4 exact rfl|(apply zab (hs:=((zp0 W a b ha hb h).mono (by simp)));iterate 7 exact rfl)|apply zas;iterate 2 exact rfl)
 all_goals first
  |(exfalso;omega)
  |(apply ret1;exact rfl;exact⟨rfl,dX⟩)
  |skip
def zhn (tick look:Int)(a:AskR):Bool:= !(a.state != 3&&a.state != 4&&decide (a.ends+look≤tick))
def zj5 (l:List AskR)(tick look:Int):Bool:=l.all (zhn tick look)
theorem zq2 {α:Type}{q:α→Bool}{l:List α}{x:α}(hx:x∈l)(h:q x=false):l.all q=false:=by
 rw[List.all_eq_false]
 exact⟨x,hx,by rw[h];decide⟩
theorem zp1 {α:Type}{q:α→Bool}{l:List α}(h:∀(j:Nat) y,j<l.length→l[j]? =some y→q y=true):l.all q=true:=by
 rw[List.all_eq_true]
 intro x hx
 obtain⟨i,hi⟩:=List.getElem?_of_mem hx
 exact h i x (gsi.1 hi).1 hi
theorem ze7 (W:World)(h:List zao)(A:Option Addr)(c:Nat)(l:List AskR)(tick look:Int)(hr:zaz W h A l.length 10 (l.flatMap AskR.enc))(hb:l.length≤1000000)(hlk:inW look)(hok:∀a∈l,inW a.ends∧inW (a.ends+look)):
 zaw Tryz.prog W 39 [.slice A l.length c,.int .i64 tick,.int .i64 look] h (.bool (zj5 l tick look)):=by
 refine zaw.ofD (fun h' hs=> ?_)
 have hrd:=hr.mono hs
 refine zaf Tryz.func39 rfl rfl Tryz.results39 Tryz.ntmps39 rfl rfl ?_
 refine zaI hrd rfl (fun hA=> ?_)
 repeat' (first|apply zah|apply zaa|apply zaj|apply zag|apply zac hT;iterate 4 exact rfl)
 refine za1 (α:=Nat) (E:=fun k=>[(1,.int .i64 tick),(2,.int .i64 look),(10,.slice A l.length c),(11,.int .i64 l.length),(12,.int .i64 k)]) (H:=fun _=>h') (μ:=fun k=>l.length - k)
  (S:=fun k=>k≤l.length∧∀(j:Nat) y,j<k→l[j]? =some y→zhn tick look y=true) 0 ⟨Nat.zero_le _,fun j y hj=>absurd hj (Nat.not_lt_zero _)⟩ ⟨rfl,rfl,rfl,rfl,rfl,trivial⟩ dX ?_
 rintro k ⟨hk,hgd⟩
 by_cases hlt:k<l.length
 ·obtain⟨x,hx⟩:∃x,l[k]? =some x:=⟨l[k]'(by omega),gge (by omega)⟩
  have hx2:l[(k:Int).toNat]? =some x:=by simpa using hx
  have hA':=hA (by omega)
  have hd1:decide ((k:Int)<(l.length:Int))=true:=by simp;omega
  have hxm:=mog hx
  obtain⟨w1,w2⟩:=hok x hxm
  unfold inW at w1 w2
  cases he:zhn tick look x
  ·repeat' (first|apply zah|apply zaa|apply zak|apply zam|apply zaj|apply zag|apply zac hT;iterate 4 exact rfl|apply zaK;iterate 3 exact rfl|(apply zaM hT;(iterate 4 exact rfl);(iterate 2 (first|omega)))|apply zaJ hT;(iterate 8 exact rfl);(iterate 2 omega);exact hA'|(apply zad;(iterate 5 exact rfl);exact zaO hT rfl rfl (hrd.mono kX) AskR.enc_len rfl hx2 rfl)|(apply zar hT;(iterate 6 exact rfl);exact sX;(iterate 3 exact rfl);exact nle rfl)|(apply zab (hs:=((zil W x.ends look tick (by unfold inW;omega) hlk (by unfold inW;omega)).mono (by simp)));iterate 7 exact rfl)|(apply zad;(iterate 5 exact rfl);first|(apply zaq hT;exact rfl;exact rfl;exact mX;exact rfl;exact rfl))|apply zay hT;(iterate 5 exact rfl);intro _|apply zan;iterate 2 exact rfl|(apply zaH;exact rfl;all_goals(intro hb;(fail_if_success (change true=true at hb));(fail_if_success (change false=false at hb));(try dsimp only at hb);(try simp only[hb]);(first|replace hb:=zbc hb|replace hb:=zbd hb);(try omega)))|(apply zal;exact rfl;all_goals(intro hb;(try dsimp only at hb);(try simp only[hb]);(first|replace hb:=odt hb|replace hb:=odf hb);(try omega))))
   all_goals first
    |(exfalso;simp[zhn]at he;omega)
    |(apply ret1;exact rfl;exact⟨by rw[show zj5 l tick look=false from zq2 hxm he],dX⟩)
    |skip
  ·repeat' (first|apply zah|apply zaa|apply zak|apply zam|apply zaj|apply zag|apply zac hT;iterate 4 exact rfl|apply zaK;iterate 3 exact rfl|(apply zaM hT;(iterate 4 exact rfl);(iterate 2 (first|omega)))|apply zaJ hT;(iterate 8 exact rfl);(iterate 2 omega);exact hA'|(apply zad;(iterate 5 exact rfl);exact zaO hT rfl rfl (hrd.mono kX) AskR.enc_len rfl hx2 rfl)|(apply zar hT;(iterate 6 exact rfl);exact sX;(iterate 3 exact rfl);exact nle rfl)|(apply zab (hs:=((zil W x.ends look tick (by unfold inW;omega) hlk (by unfold inW;omega)).mono (by simp)));iterate 7 exact rfl)|(apply zad;(iterate 5 exact rfl);first|(apply zaq hT;exact rfl;exact rfl;exact mX;exact rfl;exact rfl))|apply zay hT;(iterate 5 exact rfl);intro _|apply zan;iterate 2 exact rfl|(apply zaH;exact rfl;all_goals(intro hb;(fail_if_success (change true=true at hb));(fail_if_success (change false=false at hb));(try dsimp only at hb);(try simp only[hb]);(first|replace hb:=zbc hb|replace hb:=zbd hb);(try omega)))|(apply zal;exact rfl;all_goals(intro hb;(try dsimp only at hb);(try simp only[hb]);(first|replace hb:=odt hb|replace hb:=odf hb);(try omega))))
   all_goals first
    |(exfalso;simp[zhn]at he;omega)
    |exact zaD (k+1) (by(try dsimp only);omega) ⟨by(try dsimp only);omega,fun j y hj hy=>by
      by_cases hjk:j=k
      ·rw[hjk,hx]at hy;cases hy;exact he
      ·exact hgd j y (by(try dsimp only at hj);omega) hy⟩ ⟨rfl,rfl,rfl,rfl,rfl,trivial⟩ dX
    |skip
 ·obtain rfl:k=l.length:=by omega
  have hd1:decide ((l.length:Int)<(l.length:Int))=false:=by simp
  repeat' (first|apply zah|apply zaa|apply zak|apply zaN|apply zag|apply zac hT;iterate 4 exact rfl|(apply zal;exact rfl;all_goals(intro hb;(try dsimp only at hb);(try simp only[hb]);(first|replace hb:=odt hb|replace hb:=odf hb);(try omega))))
  all_goals first
   |(exfalso;omega)
   |(apply ret1;exact rfl;exact⟨by rw[show zj5 l tick look=true from zp1 hgd],dX⟩)
   |skip
theorem zho {W:World}{h:List zao}{A:Option Addr}{k:Nat}:zaz W h A 0 k []:=⟨by simp,by simp,fun w hw j v hj=>by simp at hj⟩
theorem zkY (W:World)(A:Option Addr)(c:Nat):zaw Tryz.prog W 58 [.slice A 0 c] [] (.slice none 0 0):=by
 refine zaw.ofD (fun h' hs=> ?_)
 refine zaf Tryz.func58 rfl rfl Tryz.results58 Tryz.ntmps58 rfl rfl ?_
 repeat' (first|apply zah|apply zaa|apply zaj|apply zag|apply zac hT;iterate 4 exact rfl)
 refine za1 (α:=Unit) (E:=fun _=>[(3,.slice none 0 0),(8,.int .i64 0),(9,.int .i64 0)]) (H:=fun _=>h') (μ:=fun _=>0) (S:=fun _=>True) () trivial ⟨rfl,rfl,rfl,trivial⟩ dX ?_
 intro _ _
 have hd1:decide ((0:Int)<0)=false:=by decide
 repeat' (first|apply zah|apply zaa|apply zak|apply zaN|apply zag|apply zac hT;iterate 4 exact rfl|apply zan;iterate 2 exact rfl)
 all_goals first
  |(exfalso;omega)
  |(apply ret1;exact rfl;exact⟨rfl,dX⟩)
  |skip
theorem zkZ (W:World)(A:Option Addr)(c:Nat)(A2:Option Addr)(c2:Nat):zaw Tryz.prog W 21 [.slice A 0 c,.slice A2 0 c2] [] (.bool true):=by
 refine zaw.ofD (fun h' hs=> ?_)
 have hcf:=fun k (g:Nat)=>zc7 W k A 0 c [] rfl zho 65 [.pointer (some ⟨g,0,none⟩)] (fun _=>false) (fun x hx=>by cases hx) (by omega)
 refine zaf Tryz.func21 rfl rfl Tryz.results21 Tryz.ntmps21 rfl rfl ?_
 repeat' (first|apply zah|apply zaa|apply zaj|apply zag|apply zac hT;iterate 4 exact rfl|apply zij;(iterate 4 exact rfl);intro gm|(apply zay hT;(iterate 5 exact rfl);first|(fail_if_success (have q:=g5));intro g5)|(apply zar hT;(iterate 6 exact rfl);exact sX;(iterate 3 exact rfl);exact nle rfl))
 refine za1 (α:=Unit) (E:=fun _=>[(0,.slice A 0 c),(5,.pointer (some ⟨g5,0,none⟩)),(10,.int .i64 0),(11,.int .i64 0)]) (H:=fun _=>h') (μ:=fun _=>0) (S:=fun _=>True) () trivial ⟨rfl,rfl,rfl,rfl,trivial⟩ dX ?_
 intro _ _
 have hd1:decide ((0:Int)<0)=false:=by decide
 repeat' (first|apply zah|apply zaa|apply zak|apply zaN|apply zag|apply zac hT;iterate 4 exact rfl|apply zab (hs:=(hcf _ g5));iterate 7 exact rfl|apply zan;iterate 2 exact rfl)
 all_goals first
  |(exfalso;omega)
  |(apply ret1;exact rfl;exact⟨by simp[zaT],dX⟩)
  |skip
end Go.Proofs.YteocfhdocpeokaaGreat
namespace Go.Proofs.YteocfhdocpeokaaGreat
open Go Go.Sl
/-! ### books -/
def zp2 (l:List zap):Prop:=∀a∈l,∀b∈l,a.side=1→b.side=2→a.price<b.price
instance (l:List zap):Decidable (zp2 l):=by unfold zp2;infer_instance
theorem zlP (o:List zap):∀v∈za9 o,∃x∈o,v.price=x.price:=by
 have key:∀(o:List zap) (v:List Lvl) (P:Int→Prop),(∀w∈v,P w.price)→(∀x∈o,P x.price)→∀w∈o.foldl zcI v,P w.price:=by
  intro o
  induction o with
  |nil=>intro v P hv _ w hw;exact hv w hw
  |cons x o ih=>
   intro v P hv ho w hw
   rw[List.foldl_cons]at hw
   refine ih (zcI v x) P (fun u hu=> ?_) (fun y hy=>ho y (mcm _ hy)) w hw
   rcases ziE v x with ⟨u',w',rfl,hp,he⟩|he
   ·rw[he]at hu
    rcases lma.1 hu with h|h
    ·exact hv u (List.mem_append_left _ h)
    ·rw[lms.1 h];exact hv w' (by simp)
   ·rw[he]at hu
    rcases lma.1 hu with h|h
    ·exact hv u h
    ·rw[lms.1 h];exact ho x mcs
 intro v hv
 exact key o [] (fun p=>∃x∈o,p=x.price) (fun w hw=>(by cases hw)) (fun x hx=>⟨x,hx,rfl⟩) v hv
theorem zlQ :∀(o:List zap) (v:List Lvl) (p:Int),(∃w u,v=w::u∧w.price=p)→∃w u,o.foldl zcI v=w::u∧w.price=p
 |[],v,p,h=>h
 |x::o,v,p,⟨w,u,hv,hp⟩=>by
  rw[List.foldl_cons]
  refine zlQ o (zcI v x) p ?_
  rcases ziE v x with ⟨u',w',e,h1,he⟩|he
  ·rw[he]
   cases u' with
   |nil=>
    rw[hv]at e
    injection e with e1 e2
    exact⟨_,_,rfl,by rw[←e1];exact hp⟩
   |cons y ys=>
    rw[hv]at e
    injection e with e1 e2
    exact⟨y,_,rfl,by rw[←e1];exact hp⟩
  ·rw[he,hv];exact⟨w,_,rfl,hp⟩
theorem zk0 {x:zap}{o:List zap}:∃w u,za9 (x::o)=w::u∧w.price=x.price:=by
 show ∃w u,o.foldl zcI (zcI [] x)=w::u∧w.price=x.price
 exact zlQ o _ _ ⟨⟨x.price,x.left⟩,[],rfl,rfl⟩
def zox :List Lvl→List Lvl→Bool
 |v::_,w::_=>decide (v.price<w.price)
 |_,_=>true
theorem zoy {s:Int}{l:List zap}(hs:isB s=true)(hB:za6 l){w:Lvl}{u:List Lvl}(h:za9 (za3 s l)=w::u){a:zap}(ha:a∈l)(hsa:a.side=s):¬zbG s a.price w.price=true:=by
 have hup:=zfj hs hB.seq
 have ham:a∈za3 s l:=(zbW _ _).mem_iff.2 (List.mem_filter.2 ⟨ha,by simp[zbB,hsa]⟩)
 rcases hl:za3 s l with _|⟨x,o⟩
 ·rw[hl]at ham;cases ham
 ·rw[hl]at h ham hup
  obtain⟨w',u',e1,e2⟩:=zk0 (x:=x) (o:=o)
  rw[e1]at h
  injection h with h _
  rw[←h,e2]
  rcases List.mem_cons.1 ham with rfl|ham
  ·simp[zbG]
  ·have:=(List.pairwise_cons.1 hup).1 a ham
   unfold zcb at this
   split at this
   ·rename_i he;rw[he];simp[zbG]
   ·intro hb
    unfold zbG at this hb
    simp at this hb
    omega
theorem zmC {l:List zap}(hB:za6 l):decide (zp2 l)=zox (za9 (za3 1 l)) (za9 (za3 2 l)):=by
 rcases h1:za9 (za3 1 l)with _|⟨v,vs⟩
 ·show _=true
  rw[decide_eq_true_eq]
  intro a ha b hb ea eb
  have ham:a∈za3 1 l:=(zbW _ _).mem_iff.2 (List.mem_filter.2 ⟨ha,by simp[zbB,ea]⟩)
  rcases hl:za3 1 l with _|⟨x,o⟩
  ·rw[hl]at ham;cases ham
  ·obtain⟨w',u',e1,e2⟩:=zk0 (x:=x) (o:=o)
   rw[hl,e1]at h1;cases h1
 ·rcases h2:za9 (za3 2 l)with _|⟨w,ws⟩
  ·show _=true
   rw[decide_eq_true_eq]
   intro a ha b hb ea eb
   have hbm:b∈za3 2 l:=(zbW _ _).mem_iff.2 (List.mem_filter.2 ⟨hb,by simp[zbB,eb]⟩)
   rcases hl:za3 2 l with _|⟨x,o⟩
   ·rw[hl]at hbm;cases hbm
   ·obtain⟨w',u',e1,e2⟩:=zk0 (x:=x) (o:=o)
    rw[hl,e1]at h2;cases h2
  ·show decide _=decide (v.price<w.price)
   congr 1
   apply propext
   constructor
   ·intro hu
    obtain⟨x,hx,e1⟩:=zlP _ v (by rw[h1];exact mcs)
    obtain⟨y,hy,e2⟩:=zlP _ w (by rw[h2];exact mcs)
    rw[e1,e2]
    exact hu x (zbX hx).1 y (zbX hy).1 (zbX hx).2 (zbX hy).2
   ·intro hvw a ha b hb ea eb
    have k1:=zoy (by decide) hB h1 ha ea
    have k2:=zoy (by decide) hB h2 hb eb
    unfold zbG at k1 k2
    simp at k1 k2
    omega
end Go.Proofs.YteocfhdocpeokaaGreat
namespace Go.Proofs.YteocfhdocpeokaaGreat
open Go Go.Sl
attribute [local irreducible] AW ES EP Ld RetQ
set_option maxRecDepth 100000
theorem zoz {np nb:Nat}(h:(1≤np∧np≤8)∧1≤nb∧nb≤4):zfh np nb=true:=by
 unfold zfh;simp;omega
theorem zp3 (W:World)(h:List zao)(np nb:Nat)(hn:(1≤np∧np≤8)∧1≤nb∧nb≤4):zax Tryz.prog W 6 [.int .i64 np,.int .i64 nb] h
 (fun v h'=>∃p AC cC AR cR cash rs,v=.pointer (some ⟨p,0,none⟩)∧psOf cash rs=zeL np nb∧h'=zbo p AC cC AR cR cash rs h):=by
 refine(zm7 W h np nb).mono (fun v h' hh=> ?_)
 rcases hh with ⟨h1,_⟩|⟨_,p,AC,cC,AR,cR,rs,rfl,rfl,hrs⟩
 ·rw[zoz hn]at h1;cases h1
 ·exact⟨p,AC,cC,AR,cR,_,rs,rfl,by unfold psOf zeL;rw[hrs];rfl,rfl⟩
theorem zoA {np nb:Nat}{w p:Ps}{k:Nat}(h:∀j,j<k→ze2 nb w p j=true)(hk:ze2 nb w p k=true):∀j,j<k+1→ze2 nb w p j=true:=fun j hj=>by
 by_cases e:j=k
 ·rw[e];exact hk
 ·exact h j (by omega)
theorem zp4 {np nb:Nat}{w p:Ps}(h:∀j,j<np→ze2 nb w p j=true):eqPs np nb w p=true:=by
 unfold eqPs
 rw[List.all_eq_true]
 exact fun j hj=>h j (List.mem_range.1 hj)
theorem zoB {np nb:Nat}{w p:Ps}{k:Nat}(hk:k<np)(h:ze2 nb w p k=false):eqPs np nb w p=false:=by
 unfold eqPs
 rw[List.all_eq_false]
 exact⟨k,List.mem_range.2 hk,by rw[h];decide⟩
theorem zoC {nb:Nat}{w p:Ps}{k:Nat}(hc:zb1 w k=zb1 p k)(h:∀i:Nat,i<nb→zcv w k i=zcv p k i):ze2 nb w p k=true:=by
 unfold ze2
 simp only[Bool.and_eq_true,beq_iff_eq,List.all_eq_true]
 exact⟨hc,fun i hi=>h i (List.mem_range.1 hi)⟩
theorem zmD {nb:Nat}{w p:Ps}{k:Nat}(hc:¬zb1 w k=zb1 p k):ze2 nb w p k=false:=by
 unfold ze2
 rw[Bool.and_eq_false_iff]
 exact .inl (by simpa using hc)
theorem zoD {nb:Nat}{w p:Ps}{k i:Nat}(hi:i<nb)(hc:¬zcv w k i=zcv p k i):ze2 nb w p k=false:=by
 unfold ze2
 rw[Bool.and_eq_false_iff]
 refine .inr ?_
 rw[List.all_eq_false]
 exact⟨i,List.mem_range.2 hi,by simpa using hc⟩
theorem zim {p:Nat}{AC:Option Addr}{cC:Nat}{AR:Option Addr}{cR:Nat}{cash:List Int}{rs:List PRow}{F:List zao}:∀c∈zbo p AC cC AR cR cash rs [],c∈zbo p AC cC AR cR cash rs F:=fun c hc=>by
 unfold zbo at*
 rw[List.append_nil]at hc
 rcases List.mem_cons.1 hc with rfl|hc
 ·exact mem0
 rcases List.mem_cons.1 hc with rfl|hc
 ·exact mem1
 rcases List.mem_cons.1 hc with rfl|hc
 ·exact mem2
 exact mcm _ (mcm _ (mcm _ (List.mem_append_left _ hc)))
theorem zd5 {p:Nat}{AC:Option Addr}{cC:Nat}{AR:Option Addr}{cR:Nat}{cash:List Int}{rs:List PRow}{F:List zao}:∀c∈F,c∈zbo p AC cC AR cR cash rs F:=fun c hc=>by
 unfold zbo
 exact mcm _ (mcm _ (mcm _ (mar _ hc)))
theorem zhp {p:Nat}{AC:Option Addr}{cC:Nat}{AR:Option Addr}{cR:Nat}{cash:List Int}{rs:List PRow}{F:List zao}:za7 (zbo p AC cC AR cR cash rs F) F:=za5 (za5 (za5 (zlc zaX)))
theorem zj6 (W:World)(p:Nat)(AC:Option Addr)(cC:Nat)(AR:Option Addr)(cR:Nat)(cash:List Int)(rs:List PRow)(np nb:Nat)(h1:1≤nb)(hP:PsOK np nb (psOf cash rs))(who:Int):
 zaw Tryz.prog W 34 [.pointer (some ⟨p,0,none⟩),.int .i64 who] (zbo p AC cC AR cR cash rs []) (.int .i64 (zb1 (psOf cash rs) who)):=by
 have hnc:=hP.nc
 have hnp:=hP.np
 simp only[psOf,llm]at hnc hnp
 rw[←zpO]
 refine(zpN W p AC cC AR cR cash rs (by omega) (fun r hr=> ?_) who).mono (zd4 mem0 mem2 mem1)
 have:=hP.row r.l (lmm.2 ⟨r,hr,rfl⟩)
 omega
theorem zin (W:World)(h:List zao)(np nb:Nat)(hn:(1≤np∧np≤8)∧1≤nb∧nb≤4)(A:Option Addr)(c:Nat)(l:List zaL)(hr:zaz W h A l.length 8 (l.flatMap zaL.enc))(hb:l.length≤1000000)(hok:∀t∈l,inW t.price∧inW t.qty)
 (q:Nat)(AC:Option Addr)(cC:Nat)(AR:Option Addr)(cR:Nat)(cash:List Int)(rs:List PRow)(hP:PsOK np nb (psOf cash rs))(hq:∀c∈zbo q AC cC AR cR cash rs [],c∈h):
 zaw Tryz.prog W 10 [.int .i64 np,.int .i64 nb,.slice A l.length c,.pointer (some ⟨q,0,none⟩)] h (.bool (zn4 np nb l (psOf cash rs))):=by
 refine zaw.ofD (fun h' hs=> ?_)
 have hrd:=hr.mono hs
 have hq':∀c∈zbo q AC cC AR cR cash rs [],c∈h':=fun c hc=>hs c (hq c hc)
 have hBo:=fun who bond k (hk:∀c∈h',c∈k)=>(zjR W q AC cC AR cR cash rs np nb hP who bond).mono (h':=k) (fun c hc=>hk c (hq' c hc))
 have hCa:=fun who k (hk:∀c∈h',c∈k)=>(zj6 W q AC cC AR cR cash rs np nb (by omega) hP who).mono (h':=k) (fun c hc=>hk c (hq' c hc))
 have hNw:=fun k=>zp3 W k np nb hn
 unfold zn4
 refine zaf Tryz.func10 rfl rfl Tryz.results10 Tryz.ntmps10 rfl rfl ?_
 refine zaI hrd rfl (fun hA=> ?_)
 repeat' (first|apply zah|apply zaa|apply zam|apply zaj|apply zag|apply zac hT;iterate 4 exact rfl|apply zau (hs:=(hNw _));(iterate 7 exact rfl);rintro _ _ ⟨p,AC2,cC2,AR2,cR2,cash0,rs0,rfl,hz,rfl⟩|apply zan;iterate 2 exact rfl)
 all_goals try omega
 refine za1 (α:=Nat×List Int×List PRow) (E:=fun x=>[(0,.int .i64 np),(1,.int .i64 nb),(3,.pointer (some ⟨q,0,none⟩)),(9,.pointer (some ⟨p,0,none⟩)),(19,.slice A l.length c),(20,.int .i64 l.length),(21,.int .i64 x.1)]) (H:=fun x=>zbo p AC2 cC2 AR2 cR2 x.2.1 x.2.2 h') (μ:=fun x=>l.length - x.1)
  (S:=fun x=>x.1≤l.length∧PsOK np nb (psOf x.2.1 x.2.2)∧zc2 l (zeL np nb)=zc2 (l.drop x.1) (psOf x.2.1 x.2.2)) (0,cash0,rs0) ⟨Nat.zero_le _,by rw[hz];exact zfw np nb,by rw[hz];rfl⟩ ⟨rfl,rfl,rfl,rfl,rfl,rfl,rfl,trivial⟩ dX ?_
 rintro⟨k,cash1,rs1⟩ ⟨hk,hok1,hall⟩
 dsimp only at hk hok1 hall ⊢
 by_cases hlt:k<l.length
 ·obtain⟨t,ht⟩:∃t,l[k]? =some t:=⟨l[k]'(by omega),gge (by omega)⟩
  have ht2:l[(k:Int).toNat]? =some t:=by simpa using ht
  have hA':=hA (by omega)
  have hd1:decide ((k:Int)<(l.length:Int))=true:=by simp;omega
  obtain⟨w1,w2⟩:=hok t (mog ht)
  have hPut:=fun G=>zkT W G p AC2 cC2 AR2 cR2 cash1 rs1 np nb hok1 t w1 w2
  rw[zkR ht]at hall
  by_cases hE:putE (psOf cash1 rs1) t=0
  ·rw[hE]at hPut
   rw[if_pos hE]at hall
   repeat' (first|apply zah|apply zaa|apply zam|apply zaj|apply zag|apply zac hT;iterate 4 exact rfl|(apply zaM hT;(iterate 4 exact rfl);(iterate 2 (first|omega)))|apply zaJ hT;(iterate 8 exact rfl);(iterate 2 omega);exact hA'|(apply zad;(iterate 5 exact rfl);first|exact zaO hT rfl rfl (hrd.mono zd5) zaL.enc_len rfl ht2 rfl|(apply zaF hT;exact rfl;exact rfl;exact mX;exact rfl))|(apply zay hT;(iterate 5 exact rfl);first|(fail_if_success (have q:=g11));intro g11)|(apply zar hT;(iterate 6 exact rfl);exact sX;(iterate 3 exact rfl);exact nle rfl)|(apply zau (hs:=(zax.perm (hPut _) pX));(iterate 7 exact rfl);rintro _ _ ⟨rfl,cash2,rs2,hps,rfl⟩)|(apply zan;iterate 2 exact rfl)|(apply zal;exact rfl;all_goals(intro hb;(try dsimp only at hb);(try simp only[hb]);(first|replace hb:=odt hb|replace hb:=odf hb);(try omega))))
   all_goals first
    |(exfalso;omega)
    |exact zaD (k+1,cash2,rs2) (by dsimp only;omega) ⟨by dsimp only;omega,by dsimp only;rw[hps];exact zgq hok1 t,by dsimp only;rw[hps];exact hall⟩ ⟨rfl,rfl,rfl,rfl,rfl,rfl,rfl,trivial⟩ dX
    |skip
  ·rw[if_neg hE]at hall
   generalize putE (psOf cash1 rs1) t=e at hPut hE
   repeat' (first|apply zah|apply zaa|apply zak|apply zam|apply zaj|apply zag|apply zac hT;iterate 4 exact rfl|apply zaJ hT;(iterate 8 exact rfl);(iterate 2 omega);exact hA'|(apply zad;(iterate 5 exact rfl);first|exact zaO hT rfl rfl (hrd.mono zd5) zaL.enc_len rfl ht2 rfl|(apply zaF hT;exact rfl;exact rfl;exact mX;exact rfl))|(apply zay hT;(iterate 5 exact rfl);first|(fail_if_success (have q:=g11));intro g11)|(apply zar hT;(iterate 6 exact rfl);exact sX;(iterate 3 exact rfl);exact nle rfl)|(apply zau (hs:=(zax.perm (hPut _) pX));(iterate 7 exact rfl);rintro _ _ ⟨rfl,cash2,rs2,hps,rfl⟩)|(apply zal;exact rfl;all_goals(intro hb;(try dsimp only at hb);(try simp only[hb]);(first|replace hb:=odt hb|replace hb:=odf hb|replace hb:=zbc hb|replace hb:=zbd hb);(try omega))))
   all_goals first
    |(exfalso;omega)
    |(apply ret1;exact rfl;exact⟨by rw[hall],zcA (show za7 _ (zbo p AC2 cC2 AR2 cR2 cash2 rs2 h')from dX) zhp⟩)
    |skip
 ·obtain rfl:k=l.length:=by omega
  have hd1:decide ((l.length:Int)<(l.length:Int))=false:=by simp
  rw[List.drop_length]at hall
  rw[hall]
  dsimp only[zc2]
  have hBo1:=fun who bond k (hk:∀c∈zbo p AC2 cC2 AR2 cR2 cash1 rs1 h',c∈k)=>(zjR W p AC2 cC2 AR2 cR2 cash1 rs1 np nb hok1 who bond).mono (h':=k) (fun c hc=>hk c (zim c hc))
  have hCa1:=fun who k (hk:∀c∈zbo p AC2 cC2 AR2 cR2 cash1 rs1 h',c∈k)=>(zj6 W p AC2 cC2 AR2 cR2 cash1 rs1 np nb (by omega) hok1 who).mono (h':=k) (fun c hc=>hk c (zim c hc))
  have hBo2:=fun who bond=>hBo who bond (zbo p AC2 cC2 AR2 cR2 cash1 rs1 h') zd5
  have hCa2:=fun who=>hCa who (zbo p AC2 cC2 AR2 cR2 cash1 rs1 h') zd5
  have hdr:za7 (zbo p AC2 cC2 AR2 cR2 cash1 rs1 h') h':=zhp
  generalize zbo p AC2 cC2 AR2 cR2 cash1 rs1 h'=H1 at*
  generalize psOf cash1 rs1=w at*
  generalize psOf cash rs=v at*
  repeat' (first|apply zah|apply zaa|apply zaN|apply zaj|apply zag|apply zac hT;iterate 4 exact rfl|(apply zal;exact rfl;all_goals(intro hb;(try dsimp only at hb);(try simp only[hb]);(first|replace hb:=odt hb|replace hb:=odf hb);(try omega))))
  all_goals try omega
  refine za1 (α:=Nat) (E:=fun x=>[(0,.int .i64 np),(1,.int .i64 nb),(3,.pointer (some ⟨q,0,none⟩)),(9,.pointer (some ⟨p,0,none⟩)),(30,.int .i64 np),(31,.int .i64 x)]) (H:=fun x=>H1) (μ:=fun x=>np - x)
   (S:=fun x=>x≤np∧∀j,j<x→ze2 nb w v j=true) 0 ⟨Nat.zero_le _,fun j hj=>absurd hj (Nat.not_lt_zero _)⟩ ⟨rfl,rfl,rfl,rfl,rfl,rfl,trivial⟩ dX ?_
  rintro k ⟨hk,hgd⟩
  by_cases hlt:k<np
  ·have hd2:decide ((k:Int)<(np:Int))=true:=by simp;omega
   have c1:=hCa1 k
   have c2:=hCa2 k
   by_cases hc:zb1 w k=zb1 v k
   ·rw[hc]at c1
    generalize hcv:zb1 v k=cv at c1 c2 hc
    repeat' (first|apply zld hT;iterate 5 exact rfl|apply zah|apply zaa|apply zam|apply zaj|apply zag|apply zac hT;iterate 4 exact rfl|(apply zab (hs:=(c1 _ kX));iterate 7 exact rfl)|(apply zab (hs:=(c2.mono kX));iterate 7 exact rfl)|apply zan;iterate 2 exact rfl|(apply zal;exact rfl;all_goals(intro hb;(try dsimp only at hb);(try simp only[hb]);(first|replace hb:=odt hb|replace hb:=odf hb);(try omega))))
    all_goals try omega
    refine za1 (α:=Nat) (E:=fun x=>[(0,.int .i64 np),(1,.int .i64 nb),(3,.pointer (some ⟨q,0,none⟩)),(9,.pointer (some ⟨p,0,none⟩)),(12,.int .i64 k),(30,.int .i64 np),(31,.int .i64 k),(41,.int .i64 nb),(42,.int .i64 x)]) (H:=fun x=>H1) (μ:=fun x=>nb - x)
     (S:=fun x=>x≤nb∧∀i:Nat,i<x→zcv w k i=zcv v k i) 0 ⟨Nat.zero_le _,fun j hj=>absurd hj (Nat.not_lt_zero _)⟩ ⟨rfl,rfl,rfl,rfl,rfl,rfl,rfl,rfl,rfl,trivial⟩ dX ?_
    rintro m ⟨hm,hgm⟩
    by_cases hlm:m<nb
    ·have hd3:decide ((m:Int)<(nb:Int))=true:=by simp;omega
     have b1:=hBo1 k m
     have b2:=hBo2 k m
     by_cases hbq:zcv w k m=zcv v k m
     ·rw[hbq]at b1
      generalize hbv:zcv v k m=bv at b1 b2 hbq
      repeat' (first|apply zld hT;iterate 5 exact rfl|apply zah|apply zaa|apply zam|apply zaj|apply zag|apply zac hT;iterate 4 exact rfl|(apply zaM hT;(iterate 4 exact rfl);(iterate 2 (first|omega)))|(apply zab (hs:=(b1 _ kX));iterate 7 exact rfl)|(apply zab (hs:=(b2.mono kX));iterate 7 exact rfl)|apply zan;iterate 2 exact rfl|(apply zal;exact rfl;all_goals(intro hb;(try dsimp only at hb);(try simp only[hb]);(first|replace hb:=odt hb|replace hb:=odf hb);(try omega))))
      all_goals first
       |(exfalso;omega)
       |exact zaD (m+1) (by(try dsimp only);omega) ⟨by(try dsimp only);omega,fun i hi=>by
         by_cases e:i=m
         ·rw[e,hbq,hbv]
         ·exact hgm i (by(try dsimp only at hi);omega)⟩ ⟨rfl,rfl,rfl,rfl,rfl,rfl,rfl,rfl,rfl,trivial⟩ dX
       |skip
     ·have hno:eqPs np nb w v=false:=zoB hlt (zoD hlm hbq)
      generalize zcv w k m=bw at b1 hbq
      generalize zcv v k m=bv at b2 hbq
      repeat' (first|apply zah|apply zaa|apply zak|apply zam|apply zaj|apply zag|apply zac hT;iterate 4 exact rfl|(apply zab (hs:=(b1 _ kX));iterate 7 exact rfl)|(apply zab (hs:=(b2.mono kX));iterate 7 exact rfl)|(apply zal;exact rfl;all_goals(intro hb;(try dsimp only at hb);(try simp only[hb]);(first|replace hb:=odt hb|replace hb:=odf hb|replace hb:=zbc hb|replace hb:=zbd hb);(try omega))))
      all_goals first
       |(exfalso;omega)
       |(apply ret1;exact rfl;exact⟨by rw[hno],zcA (show za7 _ H1 from dX) hdr⟩)
       |skip
    ·obtain rfl:m=nb:=by omega
     have hd3:decide ((m:Int)<(m:Int))=false:=by simp
     have hone:ze2 m w v k=true:=zoC (by rw[hc,hcv]) hgm
     repeat' (first|apply zah|apply zaa|apply zaN|apply zag|apply zac hT;iterate 4 exact rfl|(apply zaM hT;(iterate 4 exact rfl);(iterate 2 (first|omega)))|(apply zal;exact rfl;all_goals(intro hb;(try dsimp only at hb);(try simp only[hb]);(first|replace hb:=odt hb|replace hb:=odf hb);(try omega))))
     all_goals first
      |(exfalso;omega)
      |exact zaD (k+1) (by(try dsimp only);omega) ⟨by(try dsimp only);omega,zoA (np:=np) hgd hone⟩ ⟨rfl,rfl,rfl,rfl,rfl,rfl,trivial⟩ dX
      |skip
   ·have hno:eqPs np nb w v=false:=zoB hlt (zmD hc)
    generalize zb1 w k=cw at c1 hc
    generalize zb1 v k=cv at c2 hc
    repeat' (first|apply zah|apply zaa|apply zak|apply zam|apply zaj|apply zag|apply zac hT;iterate 4 exact rfl|(apply zab (hs:=(c1 _ kX));iterate 7 exact rfl)|(apply zab (hs:=(c2.mono kX));iterate 7 exact rfl)|(apply zal;exact rfl;all_goals(intro hb;(try dsimp only at hb);(try simp only[hb]);(first|replace hb:=odt hb|replace hb:=odf hb|replace hb:=zbc hb|replace hb:=zbd hb);(try omega))))
    all_goals first
     |(exfalso;omega)
     |(apply ret1;exact rfl;exact⟨by rw[hno],zcA (show za7 _ H1 from dX) hdr⟩)
     |skip
  ·obtain rfl:k=np:=by omega
   have hd2:decide ((k:Int)<(k:Int))=false:=by simp
   repeat' (first|apply zah|apply zaa|apply zak|apply zaN|apply zag|apply zac hT;iterate 4 exact rfl|(apply zal;exact rfl;all_goals(intro hb;(try dsimp only at hb);(try simp only[hb]);(first|replace hb:=odt hb|replace hb:=odf hb);(try omega))))
   all_goals first
    |(exfalso;omega)
    |(apply ret1;exact rfl;exact⟨by rw[zp4 hgd],zcA (show za7 _ H1 from dX) hdr⟩)
    |skip
theorem zhC (W:World)(s:Int):zaw Tryz.prog W 70 [.pointer none,.int .i64 s] [] (.slice none 0 0):=by
 refine zaw.ofD (fun h' hs=> ?_)
 refine zaf Tryz.func70 rfl rfl Tryz.results70 Tryz.ntmps70 rfl rfl ?_
 repeat' (first|apply zah|apply zaa|apply zaj|apply zag|apply zac hT;iterate 4 exact rfl|(apply zab (hs:=((zjq W s).mono (by simp)));iterate 7 exact rfl))
 refine za1 (α:=Unit) (E:=fun _=>[(5,.slice none 0 0),(12,.int .i64 0),(13,.int .i64 0)]) (H:=fun _=>h') (μ:=fun _=>0) (S:=fun _=>True) () trivial ⟨rfl,rfl,rfl,trivial⟩ dX ?_
 intro _ _
 have hd1:decide ((0:Int)<0)=false:=by decide
 repeat' (first|apply zah|apply zaa|apply zak|apply zaN|apply zag|apply zac hT;iterate 4 exact rfl|apply zan;iterate 2 exact rfl)
 all_goals first
  |(exfalso;omega)
  |(apply ret1;exact rfl;exact⟨rfl,dX⟩)
  |skip
theorem zfG (W:World):zaw Tryz.prog W 38 [.pointer none] [] (.bool true):=by
 refine zaw.ofD (fun h' hs=> ?_)
 refine zaf Tryz.func38 rfl rfl Tryz.results38 Tryz.ntmps38 rfl rfl ?_
 repeat' (first|apply zah|apply zaa|apply zak|apply zag|apply zac hT;iterate 4 exact rfl|apply zaK;iterate 3 exact rfl|apply zaC [] [] hmix;decide+kernel|(apply zab (hs:=((zhC W _).mono (by simp)));iterate 7 exact rfl))
 all_goals first
  |(exfalso;omega)
  |(apply ret1;exact rfl;exact⟨rfl,dX⟩)
  |skip
theorem zoE {W:World}{h:List zao}{A:Option Addr}{c:Nat}{l:List Lvl}{n:Nat}(hm:zao.own A n c 134 2 (l.flatMap Lvl.enc)∈h)(hn:l.length=n):zaz W h A n 2 (l.flatMap Lvl.enc):=zaz.enc Lvl.enc_len Lvl.enc_one hm hn
theorem zeo (W:World)(p:Nat)(A:Option Addr)(c:Nat)(l:List zap)(hB:za6 l):
 zaw Tryz.prog W 38 [.pointer (some ⟨p,0,none⟩)] [.blk p 152 [.slice A l.length c],.own A l.length c 168 6 (l.flatMap zap.enc)] (.bool (zox (za9 (za3 1 l)) (za9 (za3 2 l)))):=by
 refine zaw.ofD (fun h' hs=> ?_)
 have m1:=hs _ mem0
 have m2:=hs _ mem1
 have hL1:=fun h m1 m2=>zdZ W h p A c l 1 m1 m2 hB.le hB.seq hB.side hB.left
 have hL2:=fun h m1 m2=>zdZ W h p A c l 2 m1 m2 hB.le hB.seq hB.side hB.left
 generalize za9 (za3 1 l)=v1 at*
 generalize za9 (za3 2 l)=v2 at*
 refine zaf Tryz.func38 rfl rfl Tryz.results38 Tryz.ntmps38 rfl rfl ?_
 rcases v1 with _|⟨x,v1⟩
 ·repeat' (first|apply zah|apply zaa|apply zak|apply zag|apply zac hT;iterate 4 exact rfl|apply zaK;iterate 3 exact rfl|apply zaC [] [] hmix;decide+kernel|apply zau (hs:=(hL1 _ m1 m2));(iterate 7 exact rfl);rintro _ _ ⟨A1,c1,rfl,rfl,ho1⟩|apply zau (hs:=(hL2 _ (.tail _ m1) (.tail _ m2)));(iterate 7 exact rfl);rintro _ _ ⟨A2,c2,rfl,rfl,ho2⟩)
  all_goals first
   |(exfalso;omega)
   |(apply ret1;exact rfl;exact⟨rfl,dX⟩)
   |skip
 ·rcases v2 with _|⟨y,v2⟩
  ·have hd0:decide ((((x::v1).length:Nat):Int)=0)=false:=by simp;omega
   repeat' (first|apply zah|apply zaa|apply zak|apply zag|apply zac hT;iterate 4 exact rfl|apply zaK;iterate 3 exact rfl|apply zaC [] [] hmix;decide+kernel|apply zau (hs:=(hL1 _ m1 m2));(iterate 7 exact rfl);rintro _ _ ⟨A1,c1,rfl,rfl,ho1⟩|apply zau (hs:=(hL2 _ (.tail _ m1) (.tail _ m2)));(iterate 7 exact rfl);rintro _ _ ⟨A2,c2,rfl,rfl,ho2⟩)
   all_goals first
    |(exfalso;simp only[List.length_cons]at *;omega)
    |(apply ret1;exact rfl;exact⟨rfl,dX⟩)
    |skip
  ·have hx:(x::v1)[(0:Int).toNat]? =some x:=rfl
   have hy:(y::v2)[(0:Int).toNat]? =some y:=rfl
   have hlx:0<(x::v1).length:=by simp
   have hly:0<(y::v2).length:=by simp
   repeat' (first|apply zah|apply zaa|apply zak|apply zag|apply zac hT;iterate 4 exact rfl|apply zaC [] [] hmix;decide+kernel|apply zau (hs:=(hL1 _ m1 m2));(iterate 7 exact rfl);rintro _ _ ⟨A1,c1,rfl,rfl,ho1⟩|apply zau (hs:=(hL2 _ (.tail _ m1) (.tail _ m2)));(iterate 7 exact rfl);rintro _ _ ⟨A2,c2,rfl,rfl,ho2⟩|(apply zaJ hT;(iterate 8 exact rfl);(iterate 2 omega);first|exact ho1.some_ hlx|exact ho2.some_ hly)|(apply zad;(iterate 5 exact rfl);first|exact zbx hT rfl rfl (zoE mX rfl) Lvl.enc_len (za4 _ _ _) hx (by decide) rfl|exact zbx hT rfl rfl (zoE mX rfl) Lvl.enc_len (za4 _ _ _) hy (by decide) rfl))
   all_goals first
    |(exfalso;simp only[List.length_cons]at *;omega)
    |(apply ret1;exact rfl;exact⟨by simp[zox, *],dX⟩)
    |skip
theorem zk1 {x:DAd}{s:Dk}{bks:List BAd}{rows:List PRow}{F:List zao}:∀c∈zae x s bks rows [],c∈zae x s bks rows F:=fun c hc=>by
 unfold zae at*
 iterate 18 refine(List.mem_cons.1 hc).elim (fun e=>e▸mcs) (fun hc=>mcm _ ?_)
 rw[List.append_nil]at hc
 rcases lma.1 hc with hc|hc
 ·exact List.mem_append_left _ hc
 ·exact mar _ (List.mem_append_left _ hc)
theorem zj7 {x:DAd}{s:Dk}{bks:List BAd}{rows:List PRow}{F:List zao}:za7 (zae x s bks rows F) F:=by
 unfold zae
 iterate 18 apply za5
 exact zlc (zlc zaX)
theorem zj8 (np nb:Nat)(p:Ps):eqPs np nb p p=true:=by
 unfold eqPs ze2
 simp
theorem zi4 (W:World)(AB:Option Addr)(nb cB:Nat)(AP:Option Addr)(np cP:Nat)(look beat:Int):zaw Tryz.prog W 20 [zdi AB nb cB AP np cP look beat,.pointer none] [] (.bool false):=by
 refine zaw.ofD (fun h' hs=> ?_)
 refine zaf Tryz.func20 rfl rfl Tryz.results20 Tryz.ntmps20 rfl rfl ?_
 repeat' (first|apply zah|apply zaa|apply zak|apply zag|apply zac hT;iterate 4 exact rfl|apply zaK;iterate 3 exact rfl|apply zaA;(iterate 5 exact rfl);intro g2|apply zas;iterate 2 exact rfl)
 all_goals first
  |(exfalso;omega)
  |(apply ret1;exact rfl;exact⟨rfl,dX⟩)
  |skip
theorem zk2 (W:World)(h:List zao)(AB:Option Addr)(cB:Nat)(bs:List zaP)(AP:Option Addr)(cP:Nat)(ps:List zaG)(look beat:Int)(hrB:zaz W h AB bs.length 7 (bs.flatMap zaP.enc))(hrP:zaz W h AP ps.length 3 (ps.flatMap zaG.enc))(hR:isR bs ps look beat=true)
 (x:DAd) (s:Dk) (bks:List BAd) (rows:List PRow) (h1:s.trades=[]) (h2:s.asks=[]) (h3:s.head=0) (h4:s.now=0) (hps:psOf s.cash rows=zeL ps.length bs.length) (hbk:∀b∈bks,b.l=[]) (hlb:bks.length=bs.length) (hls:s.books.length=bs.length)
 (hd:∀c∈zae x s bks rows [],c∈h):zaw Tryz.prog W 20 [zdi AB bs.length cB AP ps.length cP look beat,ptrV x.d] h (.bool true):=by
 refine zaw.ofD (fun h' hs=> ?_)
 have hd':∀c∈zae x s bks rows [],c∈h':=fun c hc=>hs c (hd c hc)
 have hrB':=hrB.mono hs
 have hrP':=hrP.mono hs
 obtain⟨⟨b1,b2⟩,⟨p1,p2⟩,lk1,lk2⟩:=zkM hR
 have hFI:=(zkq W h' AB cB bs AP cP ps look beat hrB' hrP' (by omega) (by omega)).cast (u:=.bool true) (by rw[hR])
 have md:zao.blk x.d 112 (zbD x s)∈h':=hd' _ (by unfold zae;exact mX)
 have mb:zao.blk x.b 149 [x.trades.sl s.trades.length,.int .u64 s.head]∈h':=hd' _ (by unfold zae;exact mX)
 have mt:x.trades.own s.trades.length 30 8 (s.trades.flatMap zaL.enc)∈h':=hd' _ (by unfold zae;exact mX)
 have ma:zao.blk x.a 144 [x.asks.sl s.asks.length]∈h':=hd' _ (by unfold zae;exact mX)
 have mas:x.asks.own s.asks.length 87 10 (s.asks.flatMap AskR.enc)∈h':=hd' _ (by unfold zae;exact mX)
 have mbk:x.books.own s.books.length 113 1 (bks.map BAd.ptr)∈h':=hd' _ (by unfold zae;exact mX)
 have mps:∀c∈zbo x.p x.cash.A x.cash.c x.pos.A x.pos.c s.cash rows [],c∈h':=fun c hc=>by
  refine hd' c ?_
  unfold zbo at hc
  rw[List.append_nil]at hc
  rcases List.mem_cons.1 hc with rfl|hc
  ·unfold zae;exact mX
  rcases List.mem_cons.1 hc with rfl|hc
  ·unfold zae;exact mX
  rcases List.mem_cons.1 hc with rfl|hc
  ·unfold zae;exact mX
  unfold zae
  iterate 18 refine mcm _ ?_
  exact mar _ (List.mem_append_left _ hc)
 have mck:∀b∈bks,∀c∈BAd.ck b,c∈h':=fun b hb c hc=>by
  refine hd' c ?_
  unfold zae
  iterate 18 refine mcm _ ?_
  exact List.mem_append_left _ (List.mem_flatMap.2 ⟨b,hb,hc⟩)
 have hPs:=hps
 have hTr:=fun k (hk:∀c∈h',c∈k)=>ze1 W k x s (hk _ md) (hk _ mb) (hk _ mt) (by rw[h1];simp)
 have hAs:=fun k (hk:∀c∈h',c∈k)=>zg8 W k x s (hk _ md) (hk _ ma) (hk _ mas) (by rw[h2];simp)
 have hHd:=fun k (hk:∀c∈h',c∈k)=>(zjN W x s _).mono (h':=k) (zbp (hk _ md) (hk _ mb))
 have hPo:=fun k (hk:∀c∈h',c∈k)=>(zlx W x s).mono (h':=k) (zdr (hk _ md))
 have hNo:=fun k (hk:∀c∈h',c∈k)=>(zlw W x s).mono (h':=k) (zdr (hk _ md))
 have hSu:=fun k (hk:∀c∈h',c∈k) A c=>(zin W k ps.length bs.length ⟨by omega,by omega⟩ A c [] zho (by simp) (fun t ht=>by cases ht) x.p x.cash.A x.cash.c x.pos.A x.pos.c s.cash rows (by rw[hPs];exact zfw _ _) (fun c hc=>hk _ (mps c hc))).cast (u:=.bool true) (by rw[hPs];unfold zn4;dsimp only[zc2];rw[zj8])
 have hEn:=fun k A c=>(ze7 W k A c [] s.now look zho (by simp) (by unfold inW;omega) (fun a ha=>by cases ha))
 have hBo:=fun i b hi k (hk:∀c∈h',c∈k)=>(zjO W x s bks i b (by omega) hi (by omega)).mono (h':=k) (zbp (hk _ md) (hk _ mbk))
 have hUn:=fun b (hb:b∈bks) k (hk:∀c∈h',c∈k)=>(zeo W b.p b.s.A b.s.c b.l (by rw[hbk b hb];exact za6.nil)).mono (h':=k) (fun c hc=>hk _ (mck b hb c hc))
 have hOn:=fun A c A2 c2=>zkZ W A c A2 c2
 have hHe:=fun A c=>zkY W A c
 rw[h1]at hTr
 rw[h2]at hAs
 rw[h3]at hHd
 rw[h4]at hNo hEn
 simp only[List.length_nil,List.flatMap_nil]at hTr hAs hSu hEn
 clear hd hd' md mb mt ma mas mbk mps mck hps
 refine zaf Tryz.func20 rfl rfl Tryz.results20 Tryz.ntmps20 rfl rfl ?_
 refine zaI hrB' rfl (fun hA=> ?_)
 repeat' (first|apply zah|apply zaa|apply zam|apply zaj|apply zag|apply zac hT;iterate 4 exact rfl|apply zaA;(iterate 5 exact rfl);intro g2|(apply zab (hs:=(hFI.mono kX));iterate 7 exact rfl)|(apply zad;(iterate 5 exact rfl);first|(apply zaq hT;exact rfl;exact rfl;exact mX;exact rfl;exact rfl)|(apply zaF hT;exact rfl;exact rfl;exact mX;exact rfl))|apply zan;iterate 2 exact rfl)
 all_goals try omega
 refine za1 (α:=Nat) (E:=fun k=>[(1,ptrV x.d),(2,.pointer (some ⟨g2,0,none⟩)),(18,.int .i64 bs.length),(19,.int .i64 k)]) (H:=fun _=>.blk g2 53 [.slice AB bs.length cB,.slice AP ps.length cP,.int .i64 look,.int .i64 beat]::h') (μ:=fun k=>bs.length - k)
  (S:=fun k=>k≤bs.length) 0 (Nat.zero_le _) ⟨rfl,rfl,rfl,rfl,trivial⟩ dX ?_
 intro k hk
 by_cases hlt:k<bs.length
 ·obtain⟨b,hbb⟩:∃b,bks[k]? =some b:=⟨bks[k]'(by omega),gge (by omega)⟩
  have hbm:=mog hbb
  have hU:=fun k hk=>(hUn b hbm k hk).cast (u:=.bool true) (by rw[hbk b hbm];rfl)
  have hd1:decide ((k:Int)<(bs.length:Int))=true:=by simp;omega
  repeat' (first|apply zah|apply zaa|apply zam|apply zaj|apply zag|apply zac hT;iterate 4 exact rfl|(apply zaM hT;(iterate 4 exact rfl);(iterate 2 (first|omega)))|(apply zab (hs:=(hBo k b hbb _ kX));iterate 7 exact rfl)|(apply zab (hs:=(hU _ kX));iterate 7 exact rfl)|apply zan;iterate 2 exact rfl|(apply zal;exact rfl;all_goals(intro hb;(try dsimp only at hb);(try simp only[hb]);(first|replace hb:=odt hb|replace hb:=odf hb);(try omega))))
  all_goals first
   |(exfalso;omega)
   |exact zaD (k+1) (by(try dsimp only);omega) (by(try dsimp only);omega) ⟨rfl,rfl,rfl,rfl,trivial⟩ dX
   |skip
 ·obtain rfl:k=bs.length:=by omega
  have hd1:decide ((bs.length:Int)<(bs.length:Int))=false:=by simp
  repeat' (first|apply zah|apply zaa|apply zak|apply zam|apply zaN|apply zag|apply zac hT;iterate 4 exact rfl|(apply zbZ [59,60,10,21,61,39] [22] (.step 0 <| .step 1 <| .step 2 <| .step 3 <| .step 4 <| .step 5 <| .step 6 <| .step 7 <| .step 8 <| .step 9 <| .step 10 <| .step 11 <| .step 12 <| .step 13 <| .step 14 <| .step 15 <| .step 16 <| .step 17 <| .step 19 <| .step 18 <| .step 20 <| .step 21 <| .step 22 <| .step 23 <| .step 25 <| .step 27 <| .step 28 <| .step 24 <| .step 26 <| .step 29 <| .step 30 <| .step 31 <| .nil) hmix;decide+kernel)|apply zcJ|apply zb7;exact rfl|(apply zau (hs:=(hTr _ kX));(iterate 7 exact rfl);rintro _ _ ⟨A6,c6,rfl,rfl⟩)|(apply zab (hs:=((hHe _ _).mono (by simp)));iterate 7 exact rfl)|(apply zab (hs:=(hHd _ kX));iterate 7 exact rfl)|(apply zab (hs:=(hPo _ kX));iterate 7 exact rfl)|(apply zab (hs:=(hSu _ kX _ _));iterate 7 exact rfl)|(apply zcz (hs:=(hAs _ kX));(iterate 7 exact rfl);(rintro _ _ ⟨A7,c7,rfl,rfl⟩;refine⟨[_],rfl,?_⟩))|(apply zab (hs:=((hOn _ _ _ _).mono (by simp)));iterate 7 exact rfl)|(apply zab (hs:=(hNo _ kX));iterate 7 exact rfl)|apply zab (hs:=(hEn _ _ _));iterate 7 exact rfl|(apply zad;(iterate 5 exact rfl);first|(apply zaq hT;exact rfl;exact rfl;exact mX;exact rfl;exact rfl))|apply zan;iterate 2 exact rfl|(apply zal;exact rfl;all_goals(intro hb;(try dsimp only at hb);(try simp only[hb]);(first|replace hb:=odt hb|replace hb:=odf hb);(try omega))))
  all_goals first
   |(exfalso;omega)
   |(apply ret1;exact rfl;exact⟨rfl,dX⟩)
   |skip
def ka27 :AskR:=⟨0,0,0,0,0,0,3,0,1,0⟩
theorem zq3 (W:World):zaw Tryz.prog W 12 [] [] (.bool true):=by
 refine zaw.ofD (fun h' hs=> ?_)
 have hR:isR [kb1,kb2] kps 3 50=true:=by decide+kernel
 have hr:=fun k=>zqB W k
 have hN:=fun k g1 g2 (m1:zao.own (some ⟨g1,0,none⟩) 2 2 95 7 ([kb1,kb2].flatMap zaP.enc)∈k) (m2:zao.own (some ⟨g2,0,none⟩) 5 5 97 3 (kps.flatMap zaG.enc)∈k)=>
  (zlv W k (some ⟨g1,0,none⟩) 2 [kb1,kb2] (some ⟨g2,0,none⟩) 5 kps 3 50 (zaz.enc zaP.enc_len zaP.enc_one m1 rfl) (zaz.enc zaG.enc_len zaG.enc_one m2 rfl) (by decide) (by decide)).mono (R':=fun v h'=>∃x bks rows,v=ptrV x.d∧h'=zae x (zcV [kb1,kb2] kps 3 50) bks rows k∧zaY (zcV [kb1,kb2] kps 3 50) bks rows) (fun v h' hh=>by
    rcases hh with ⟨a,_⟩|⟨_,a⟩
    ·rw[hR]at a;cases a
    ·exact a)
 have hD:=fun k g1 g2 (m1:zao.own (some ⟨g1,0,none⟩) 2 2 95 7 ([kb1,kb2].flatMap zaP.enc)∈k) (m2:zao.own (some ⟨g2,0,none⟩) 5 5 97 3 (kps.flatMap zaG.enc)∈k) x bks rows (hf:zaY (zcV [kb1,kb2] kps 3 50) bks rows) (hk:∀c∈zae x (zcV [kb1,kb2] kps 3 50) bks rows [],c∈k)=>
  zk2 W k (some ⟨g1,0,none⟩) 2 [kb1,kb2] (some ⟨g2,0,none⟩) 5 kps 3 50 (zaz.enc zaP.enc_len zaP.enc_one m1 rfl) (zaz.enc zaG.enc_len zaG.enc_one m2 rfl) hR x (zcV [kb1,kb2] kps 3 50) bks rows rfl rfl rfl rfl (by unfold psOf;rw[hf.2];rfl) (fun b hb=>by
   have h1:b.l∈bks.map BAd.l:=lmm.2 ⟨b,hb,rfl⟩
   rw[hf.1]at h1
   exact(List.mem_replicate.1 h1).2) (by have h9:=congrArg List.length hf.1;rw[llm]at h9;exact h9) rfl hk
 have hNil:=fun g1 g2=>zi4 W (some ⟨g1,0,none⟩) 2 2 (some ⟨g2,0,none⟩) 5 5 3 50
 have hE:=fun k g (m:zao.own (some ⟨g,0,none⟩) 1 1 87 10 (ka27.enc)∈k)=>(ze7 W k (some ⟨g,0,none⟩) 1 [ka27] 5 2 (zaz.enc AskR.enc_len AskR.enc_one m rfl) (by decide) (by unfold inW;omega) (fun a ha=>by
  rw[lms.1 ha]
  show inW 3∧inW (3+2)
  unfold inW;omega)).cast (u:=.bool false) (by rfl)
 refine zaf Tryz.func12 rfl rfl Tryz.results12 Tryz.ntmps12 rfl rfl ?_
 repeat' (first|apply zah|apply zaa|apply zak|apply zag|apply zac hT;iterate 4 exact rfl|(apply zau (hs:=(hr _));(iterate 7 exact rfl);first|(fail_if_success (have q:=ga1));rintro _ _ ⟨ga1,gb1,rfl,rfl⟩|(fail_if_success (have q:=ga2));rintro _ _ ⟨ga2,gb2,rfl,rfl⟩|rintro _ _ ⟨ga3,gb3,rfl,rfl⟩)|(apply zau (hs:=(hN _ ga2 gb2 mX mX));(iterate 7 exact rfl);rintro _ _ ⟨x,bks,rows,rfl,rfl,hf⟩)|(apply zab (hs:=(hD _ ga1 gb1 mX mX x bks rows hf (by intro c hc;(repeat(first|exact zk1 c hc|apply mcm)))));iterate 7 exact rfl)|(apply zab (hs:=((hNil _ _).mono (by simp)));iterate 7 exact rfl)|(apply zab (hs:=((zfG W).mono (by simp)));iterate 7 exact rfl)|(apply zaE hT (cs:=ka27.enc);iterate 4 exact rfl)|(apply zaB hT;(iterate 12 exact rfl);intro g15)|(apply zab (hs:=(hE _ g15 mX));iterate 7 exact rfl))
 all_goals first
  |(exfalso;omega)
  |(apply ret1;exact rfl;exact⟨rfl,by(refine zcA ?_ (zj7 (x:=x) (s:=zcV [kb1,kb2] kps 3 50) (bks:=bks) (rows:=rows));exact dX)⟩)
  |skip
/-! ### rules -/
def wayB (w:Int):List zaP:=if w=1 then [kb2]else if w=2 then [kb2,kb1]else [kb1,kb2]
def wayP (w:Int):List zaG:=if w=3 then kps++[⟨1,12,0⟩,⟨2,0,0⟩]else kps
def wayL (w:Int):Int:=if w=1 then 1 else 3
def zi5 (w:Int):Int:=if w=2 then 4 else 50
def wayD (w:Int):Dk:=zcV (wayB w) (wayP w) (wayL w) (zi5 w)
theorem and3 (way:Int):∃w,bitI .and .i64 way 3=w∧(w=0∨w=1∨w=2∨w=3):=by
 refine⟨_,rfl,?_⟩
 have e:bitI .and .i64 way 3=IntKind.wrap .i64 ((BitVec.ofInt 64 way &&& BitVec.ofInt 64 3).toNat:Int):=rfl
 rw[e]
 clear e
 have h:(BitVec.ofInt 64 way &&& BitVec.ofInt 64 3).toNat<4:=by
  rw[BitVec.toNat_and]
  have:(BitVec.ofInt 64 3).toNat=3:=by decide
  rw[this]
  exact Nat.lt_of_le_of_lt Nat.and_le_right (by decide)
 generalize (BitVec.ofInt 64 way &&& BitVec.ofInt 64 3).toNat=n at*
 have:n=0∨n=1∨n=2∨n=3:=by omega
 rcases this with rfl|rfl|rfl|rfl<;>decide
theorem wayR {w:Int}(hw:w=0∨w=1∨w=2∨w=3):isR (wayB w) (wayP w) (wayL w) (zi5 w)=true:=by
 rcases hw with rfl|rfl|rfl|rfl<;>decide+kernel
def zoF (h:List zao)(w:Int)(v:Value)(h':List zao):Prop:=
 ∃A1 c1 A2 c2,v=zdi A1 (wayB w).length c1 A2 (wayP w).length c2 (wayL w) (zi5 w)∧h'=.own A1 (wayB w).length c1 95 7 ((wayB w).flatMap zaP.enc)::.own A2 (wayP w).length c2 97 3 ((wayP w).flatMap zaG.enc)::h
theorem zq4 (W:World)(h:List zao)(way w:Int)(hw:bitI .and .i64 way 3=w)(hw4:w=0∨w=1∨w=2∨w=3):zax Tryz.prog W 17 [.int .i64 way] h (zoF h w):=by
 refine zax.dropTo ?_
 refine zaf Tryz.func17 rfl rfl Tryz.results17 Tryz.ntmps17 rfl rfl ?_
 rcases hw4 with rfl|rfl|rfl|rfl
 ·skip
  repeat' (first|apply zah|apply zaa|apply zak|apply zam|apply zaj|apply zag|apply zac hT;iterate 4 exact rfl|apply zaE hT (cs:=zaP.enc kb1);iterate 4 exact rfl|apply zaE hT (cs:=zaP.enc kb2);iterate 4 exact rfl|apply zaE hT (cs:=zaG.enc ⟨1,12,0⟩);iterate 4 exact rfl|apply zaE hT (cs:=zaG.enc ⟨1,4,0⟩);iterate 4 exact rfl|apply zaE hT (cs:=zaG.enc ⟨2,0,100000⟩);iterate 4 exact rfl|apply zaE hT (cs:=zaG.enc ⟨2,0,3000⟩);iterate 4 exact rfl|apply zaE hT (cs:=zaG.enc ⟨3,0,0⟩);iterate 4 exact rfl|(apply zaB hT;(iterate 12 exact rfl);first|(fail_if_success (have q:=g10));intro g10|(fail_if_success (have q:=g16));intro g16)|(apply zaE hT (cs:=(zdi (some ⟨g10,0,none⟩) 2 2 (some ⟨g16,0,none⟩) 5 5 3 50).cells.toList);iterate 4 exact rfl)|(apply zcR;(iterate 6 exact rfl);exact hw)|(apply zar hT;(iterate 6 exact rfl);exact sX;(iterate 3 exact rfl);exact nle rfl)|(apply zad;(iterate 5 exact rfl);first|(apply zaF hT;exact rfl;exact rfl;exact mX;exact rfl))|(apply zay hT;(iterate 5 exact rfl);intro _)|(apply zan;iterate 2 exact rfl))
  all_goals(apply zhv;exact rfl;(apply zaF hT;exact rfl;exact rfl;exact mX;exact rfl);exact⟨_,by show za7 _ (.own (some ⟨g10,0,none⟩) 2 2 95 7 ((wayB 0).flatMap zaP.enc)::.own (some ⟨g16,0,none⟩) 5 5 97 3 ((wayP 0).flatMap zaG.enc)::h);exact dX,_,_,_,_,rfl,rfl⟩)
 ·skip
  repeat' (first|apply zah|apply zaa|apply zak|apply zaj|apply zag|apply zac hT;iterate 4 exact rfl|apply zaE hT (cs:=zaP.enc kb1);iterate 4 exact rfl|apply zaE hT (cs:=zaP.enc kb2);iterate 4 exact rfl|apply zaE hT (cs:=zaG.enc ⟨1,12,0⟩);iterate 4 exact rfl|apply zaE hT (cs:=zaG.enc ⟨1,4,0⟩);iterate 4 exact rfl|apply zaE hT (cs:=zaG.enc ⟨2,0,100000⟩);iterate 4 exact rfl|apply zaE hT (cs:=zaG.enc ⟨2,0,3000⟩);iterate 4 exact rfl|apply zaE hT (cs:=zaG.enc ⟨3,0,0⟩);iterate 4 exact rfl|(apply zaB hT;(iterate 12 exact rfl);first|(fail_if_success (have q:=g10));intro g10|(fail_if_success (have q:=g16));intro g16|intro g39)|(apply zaE hT (cs:=(zdi (some ⟨g10,0,none⟩) 2 2 (some ⟨g16,0,none⟩) 5 5 3 50).cells.toList);iterate 4 exact rfl)|(apply zcR;(iterate 6 exact rfl);exact hw)|(apply zar hT;(iterate 6 exact rfl);exact sX;(iterate 3 exact rfl);exact nle rfl)|(apply zad;(iterate 5 exact rfl);first|(apply zaF hT;exact rfl;exact rfl;exact mX;exact rfl))|(apply zay hT;(iterate 5 exact rfl);intro _)|(apply zas;iterate 2 exact rfl))
  all_goals(apply zhv;exact rfl;(apply zaF hT;exact rfl;exact rfl;exact mX;exact rfl);exact⟨_,by show za7 _ (.own (some ⟨g39,0,none⟩) 1 1 95 7 ((wayB 1).flatMap zaP.enc)::.own (some ⟨g16,0,none⟩) 5 5 97 3 ((wayP 1).flatMap zaG.enc)::h);exact dX,_,_,_,_,rfl,rfl⟩)
 ·skip
  repeat' (first|apply zah|apply zaa|apply zak|apply zaj|apply zag|apply zac hT;iterate 4 exact rfl|apply zaE hT (cs:=zaP.enc kb1);iterate 4 exact rfl|apply zaE hT (cs:=zaP.enc kb2);iterate 4 exact rfl|apply zaE hT (cs:=zaG.enc ⟨1,12,0⟩);iterate 4 exact rfl|apply zaE hT (cs:=zaG.enc ⟨1,4,0⟩);iterate 4 exact rfl|apply zaE hT (cs:=zaG.enc ⟨2,0,100000⟩);iterate 4 exact rfl|apply zaE hT (cs:=zaG.enc ⟨2,0,3000⟩);iterate 4 exact rfl|apply zaE hT (cs:=zaG.enc ⟨3,0,0⟩);iterate 4 exact rfl|(apply zaB hT;(iterate 12 exact rfl);first|(fail_if_success (have q:=g10));intro g10|(fail_if_success (have q:=g16));intro g16|intro g39)|(apply zaE hT (cs:=(zdi (some ⟨g10,0,none⟩) 2 2 (some ⟨g16,0,none⟩) 5 5 3 50).cells.toList);iterate 4 exact rfl)|(apply zcR;(iterate 6 exact rfl);exact hw)|(apply zar hT;(iterate 6 exact rfl);exact sX;(iterate 3 exact rfl);exact nle rfl)|(apply zad;(iterate 5 exact rfl);first|(apply zaF hT;exact rfl;exact rfl;exact mX;exact rfl))|(apply zay hT;(iterate 5 exact rfl);intro _)|(apply zas;iterate 2 exact rfl)|(apply zan;iterate 2 exact rfl))
  all_goals(apply zhv;exact rfl;(apply zaF hT;exact rfl;exact rfl;exact mX;exact rfl);exact⟨_,by show za7 _ (.own (some ⟨g39,0,none⟩) 2 2 95 7 ((wayB 2).flatMap zaP.enc)::.own (some ⟨g16,0,none⟩) 5 5 97 3 ((wayP 2).flatMap zaG.enc)::h);exact dX,_,_,_,_,rfl,rfl⟩)
 ·skip
  repeat' (first|apply zah|apply zaa|apply zak|apply zaj|apply zag|apply zac hT;iterate 4 exact rfl|apply zaE hT (cs:=zaP.enc kb1);iterate 4 exact rfl|apply zaE hT (cs:=zaP.enc kb2);iterate 4 exact rfl|apply zaE hT (cs:=zaG.enc ⟨1,12,0⟩);iterate 4 exact rfl|apply zaE hT (cs:=zaG.enc ⟨1,4,0⟩);iterate 4 exact rfl|apply zaE hT (cs:=zaG.enc ⟨2,0,100000⟩);iterate 4 exact rfl|apply zaE hT (cs:=zaG.enc ⟨2,0,3000⟩);iterate 4 exact rfl|apply zaE hT (cs:=zaG.enc ⟨3,0,0⟩);iterate 4 exact rfl|apply zaE hT (cs:=zaG.enc ⟨2,0,0⟩);iterate 4 exact rfl|(apply zaB hT;(iterate 12 exact rfl);first|(fail_if_success (have q:=g10));intro g10|(fail_if_success (have q:=g16));intro g16|intro g39)|(apply zaE hT (cs:=(zdi (some ⟨g10,0,none⟩) 2 2 (some ⟨g16,0,none⟩) 5 5 3 50).cells.toList);iterate 4 exact rfl)|(apply zcR;(iterate 6 exact rfl);exact hw)|(apply zar hT;(iterate 6 exact rfl);exact sX;(iterate 3 exact rfl);exact nle rfl)|(apply zbb hT;(iterate 10 exact rfl);exact sX;exact zaz.own mem0 rfl (List.all_eq_true.1 rfl);exact nle rfl;exact nle rfl;intro A' c')|(apply zad;(iterate 5 exact rfl);first|(apply zaq hT;exact rfl;exact rfl;exact mX;exact rfl;exact rfl)|(apply zaF hT;exact rfl;exact rfl;exact mX;exact rfl))|(apply zay hT;(iterate 5 exact rfl);intro _)|(apply zas;iterate 2 exact rfl)|(apply zan;iterate 2 exact rfl))
  all_goals(apply zhv;exact rfl;(apply zaF hT;exact rfl;exact rfl;exact mX;exact rfl);exact⟨_,by show za7 _ (.own (some ⟨g10,0,none⟩) 2 2 95 7 ((wayB 3).flatMap zaP.enc)::.own A' 7 c' 97 3 ((wayP 3).flatMap zaG.enc)::h);exact dX,_,_,_,_,rfl,rfl⟩)
theorem zoG (W:World)(h:List zao)(w:Int)(hw4:w=0∨w=1∨w=2∨w=3)(A1 A2:Option Addr)(c1 c2:Nat)(m1:zao.own A1 (wayB w).length c1 95 7 ((wayB w).flatMap zaP.enc)∈h)(m2:zao.own A2 (wayP w).length c2 97 3 ((wayP w).flatMap zaG.enc)∈h):
 zax Tryz.prog W 18 [zdi A1 (wayB w).length c1 A2 (wayP w).length c2 (wayL w) (zi5 w)] h (fun v h'=>∃x bks rows,v=ptrV x.d∧h'=zae x (wayD w) bks rows h∧zaY (wayD w) bks rows):=by
 have hl:(wayB w).length≤1000000∧(wayP w).length≤1000000:=by rcases hw4 with rfl|rfl|rfl|rfl<;>exact⟨Nat.le_of_ble_eq_true rfl,Nat.le_of_ble_eq_true rfl⟩
 refine(zlv W h A1 c1 (wayB w) A2 c2 (wayP w) (wayL w) (zi5 w) (zaz.enc zaP.enc_len zaP.enc_one m1 rfl) (zaz.enc zaG.enc_len zaG.enc_one m2 rfl) hl.1 hl.2).mono ?_
 rintro v h' (⟨a,_⟩|⟨_,b⟩)
 ·rw[wayR hw4]at a;cases a
 ·exact b
/-! ### what is told first -/
end Go.Proofs.YteocfhdocpeokaaGreat
