/- The statements' walks, and what they stand on, joined into few texts: part 5. Conditions stand in each statement. -/
import Derived.Test.YteocfhdocpeokaaGreatBndG4
set_option maxHeartbeats 16000000
set_option linter.all false
namespace Go.Proofs.YteocfhdocpeokaaGreat
open Go Go.Sl
theorem TabQ.uq {l:List zat}(h:upQ l):uqQ l:=h.imp (fun{a b} hab=>by omega)
theorem zog {l r:List zat}(hp:r.Perm l)(h:uqQ l):uqQ r:=(hp.pairwise_iff (fun{a b} hab e=>hab e.symm)).2 h
theorem zoh {l r:List zat}(hp:r.Perm l)(hu:uqQ l)(id:Int):r.find? (hasI id)=l.find? (hasI id):=by
 have key:∀{l r:List zat},r.Perm l→uqQ l→∀x,l.find? (hasI id)=some x→r.find? (hasI id)=some x:=by
  intro l r hp hu x hx
  have hxl:=List.mem_of_find?_eq_some hx
  have hxp:=List.find?_some hx
  cases hr:r.find? (hasI id)with
  |none=>
   rw[List.find?_eq_none]at hr
   exact absurd hxp (hr x (hp.mem_iff.2 hxl))
  |some y=>
   have hyr:=List.mem_of_find?_eq_some hr
   have hyp:=List.find?_some hr
   have hyl:=hp.mem_iff.1 hyr
   by_cases hxy:x=y
   ·rw[hxy]
   ·exfalso
    have:∀a∈l,∀b∈l,a≠b→a.id≠b.id:=by
     intro a ha b hb hab
     obtain⟨i,hi⟩:=List.getElem?_of_mem ha
     obtain⟨j,hj⟩:=List.getElem?_of_mem hb
     obtain⟨hil,hie⟩:=gsi.1 hi
     obtain⟨hjl,hje⟩:=gsi.1 hj
     rcases Nat.lt_trichotomy i j with h|h|h
     ·have:=List.pairwise_iff_getElem.1 hu i j hil hjl h
      rw[hie,hje]at this;exact this
     ·subst h;rw[hie]at hje;exact absurd hje hab
     ·have:=List.pairwise_iff_getElem.1 hu j i hjl hil h
      rw[hie,hje]at this;exact fun e=>this e.symm
    have h2:=this x hxl y hyl hxy
    simp only[hasI,beq_iff_eq]at hxp hyp
    omega
 cases hl:l.find? (hasI id)with
 |some x=>exact key hp hu x hl
 |none=>
  cases hr:r.find? (hasI id)with
  |none=>rfl
  |some y=>
   have:=key hp.symm (zog hp hu) y hr
   rw[hl]at this;cases this
theorem zhf {l:List zat}(hup:upQ l)(id:Int):getQ id l=l.find? (hasI id):=by
 cases hB:bsB (cQ id) l
 ·rw[zdH hB]
  symm
  rw[List.find?_eq_none]
  intro x hx
  have:=zgY hup hB x hx
  simp[hasI,this]
 ·obtain⟨x,hx,hid,hg⟩:=zdk hB
  rw[hg]
  symm
  rw[List.find?_eq_some_iff_getElem]
  obtain⟨hlt,hxe⟩:=gsi.1 hx
  refine⟨by simp[hasI,hid],_,hlt,hxe,fun j hj=> ?_⟩
  have:=List.pairwise_iff_getElem.1 hup j (bsN (cQ id) l) (by omega) hlt hj
  rw[hxe]at this
  simp[hasI];omega
theorem zoi {l:List zat}(hup:upQ l)(id:Int):zb3 id l=ze3 id l:=by
 unfold zb3
 rw[zhf hup]
 cases hf:l.find? (hasI id)with
 |none=>rw[zmq hf]
 |some x=>
  dsimp only
  have hg:getQ id l=some x:=by rw[zhf hup,hf]
  cases hB:bsB (cQ id) l
  ·rw[zdH hB]at hg;cases hg
  ·obtain⟨y,hy,hid,hgy⟩:=zdk hB
   rw[hg]at hgy;cases hgy
   have hp:hasI id x=true:=by simp[hasI,hid]
   rw[zmr (TabQ.uq hup) hy hp];rfl
theorem zms {l r:List zat}(hp:r.Perm l)(id:Int):(ze3 id r).Perm (ze3 id l):=hp.map _
theorem zoj {id:Int}{l:List zat}:(ze3 id l).map zat.id=l.map zat.id:=by
 unfold ze3
 rw[List.map_map]
 exact List.map_congr_left (fun x _=>by simp only[Function.comp];split<;>rfl)
theorem zqZ {l m:List zat}(h:upQ l)(he:m.map zat.id=l.map zat.id):upQ m:=by
 unfold upQ at*
 rw[←List.pairwise_map (f:=zat.id) (R:=(·<·))]at h ⊢
 rw[he];exact h
theorem zok {id:Int}{l:List zat}(h:TabQ l):TabQ (ze3 id l):=by
 refine⟨zqZ h.up zoj,?_⟩
 unfold oneQ ze3
 rw[List.pairwise_map]
 refine h.one.imp (fun{a b} hab ha hb=> ?_)
 have e1:∀x:zat,(if hasI id x then zof x else x).live=true→x.live=true∧(if hasI id x then zof x else x)=x:=by
  intro x hx
  split at hx
  ·cases hx
  ·rename_i hn;exact⟨hx,by rw[if_neg hn]⟩
 rw[(e1 a ha).2,(e1 b hb).2]
 exact hab (e1 a ha).1 (e1 b hb).1
structure zcM (l r:List zat):Prop where
 tab:TabQ l
 perm:r.Perm l
 pos:∀x∈l,1≤x.id
theorem zcM.uq {l r:List zat}(h:zcM l r):uqQ r:=zog h.perm (TabQ.uq h.tab.up)
theorem zcM.kill {l r:List zat}(h:zcM l r)(id:Int):zcM (zb3 id l) (ze3 id r):=by
 rw[zoi h.tab.up]
 refine⟨zok h.tab,zms h.perm id,fun x hx=> ?_⟩
 obtain⟨y,hy,rfl⟩:=lmm.1 hx
 have:=h.pos y hy
 split<;>simp_all [zof]
theorem zcM.find {l r:List zat}(h:zcM l r)(id:Int):r.find? (hasI id)=getQ id l:=by
 rw[zoh h.perm (TabQ.uq h.tab.up),zhf h.tab.up]
theorem zcM.pullE {l r:List zat}(h:zcM l r)(id dealer:Int):zrF id dealer r=pullE id dealer l:=by
 unfold zrF Go.Proofs.YteocfhdocpeokaaGreat.pullE
 rw[h.find]
 cases getQ id l with
 |none=>rfl
 |some x=>dsimp only
/-! ### put -/
def badR (q:zat)(r:List zat):Bool:=(r.find? (hasI q.id)).isSome||decide (q.id<1)||decide (q.ask<1)||decide (q.price<1)||decide (q.dealer<0)|| !q.live
def zrG (q:zat)(r:List zat):List zat:=if badR q r then r else ze3 (oldQ q r) r++[q]
def zrH (q:zat)(r:List zat):Value:=if badR q r then .tuple #[.int .i64 0,.int .i64 1]else .tuple #[.int .i64 (oldQ q r),.int .i64 0]
theorem zcM.bad {l r:List zat}(h:zcM l r)(q:zat):badR q r=badQ q l:=by
 unfold badR badQ
 rw[h.find]
 congr 5
 cases hB:bsB (cQ q.id) l
 ·rw[zdH hB];rfl
 ·obtain⟨x,_,_,hg⟩:=zdk hB
  rw[hg];rfl
theorem zfZ {q:zat}:∀{r:List zat},r.Pairwise (fun a b=>¬(metQ q a=true∧metQ q b=true))→∀o:Int,(r.foldl (fun o x=>if metQ q x then x.id else o) o=o∧∀x∈r,metQ q x=false)∨(∃x∈r,metQ q x=true∧r.foldl (fun o x=>if metQ q x then x.id else o) o=x.id∧∀y∈r,metQ q y=true→y=x)
 |[],_,o=>.inl ⟨rfl,fun x hx=>by cases hx⟩
 |a::r,h,o=>by
  rw[List.pairwise_cons]at h
  rw[List.foldl_cons]
  cases ha:metQ q a
  ·simp only[Bool.false_eq_true,if_false]
   rcases zfZ h.2 o with ⟨h1,h2⟩|⟨x,hx,hm,h1,h2⟩
   ·exact .inl ⟨h1,fun x hx=>by
     rcases List.mem_cons.1 hx with rfl|hx
     ·exact ha
     ·exact h2 x hx⟩
   ·exact .inr ⟨x,mcm _ hx,hm,h1,fun y hy hym=>by
     rcases List.mem_cons.1 hy with rfl|hy
     ·rw[ha]at hym;cases hym
     ·exact h2 y hy hym⟩
  ·simp only[if_true]
   have hno:∀x∈r,metQ q x=false:=fun x hx=>by
    cases hx2:metQ q x
    ·rfl
    ·exact absurd ⟨ha,hx2⟩ (h.1 x hx)
   rcases zfZ h.2 a.id with ⟨h1,h2⟩|⟨x,hx,hm,h1,h2⟩
   ·exact .inr ⟨a,mcs,ha,h1,fun y hy hym=>by
     rcases List.mem_cons.1 hy with rfl|hy
     ·rfl
     ·rw[hno y hy]at hym;cases hym⟩
   ·rw[hno x hx]at hm;cases hm
theorem ziZ {q:zat}{l:List zat}(h:oneQ l):l.Pairwise (fun a b=>¬(metQ q a=true∧metQ q b=true)):=by
 refine h.imp (fun{a b} hab hm=> ?_)
 simp only[metQ,Bool.and_eq_true,beq_iff_eq]at hm
 obtain⟨⟨⟨a1,a2⟩,a3⟩,⟨b1,b2⟩,b3⟩:=hm
 exact hab a3 b3 ⟨a1.trans b1.symm,a2.trans b2.symm⟩
theorem zlG {q:zat}{l r:List zat}(hp:r.Perm l)(h:oneQ l):r.Pairwise (fun a b=>¬(metQ q a=true∧metQ q b=true)):=
 (hp.pairwise_iff (fun{a b} hab hm=>hab ⟨hm.2,hm.1⟩)).2 (ziZ h)
theorem zcM.old {l r:List zat}(h:zcM l r)(q:zat):oldQ q r=oldQ q l:=by
 unfold oldQ
 rcases zfZ (zlG (q:=q) h.perm h.tab.one) 0 with ⟨h1,h2⟩|⟨x,hx,hm,h1,h2⟩
 ·rcases zfZ (ziZ (q:=q) h.tab.one) 0 with ⟨k1,k2⟩|⟨y,hy,hym,k1,k2⟩
  ·rw[h1,k1]
  ·rw[h2 y (h.perm.mem_iff.2 hy)]at hym;cases hym
 ·rcases zfZ (ziZ (q:=q) h.tab.one) 0 with ⟨k1,k2⟩|⟨y,hy,hym,k1,k2⟩
  ·rw[k2 x (h.perm.mem_iff.1 hx)]at hm;cases hm
  ·rw[h1,k1,h2 y (h.perm.mem_iff.2 hy) hym]
theorem zcM.off {l r:List zat}(h:zcM l r)(q:zat):ze3 (oldQ q r) r=r.map (offQ q):=by
 unfold ze3
 refine List.map_congr_left (fun x hx=> ?_)
 unfold oldQ
 have hpos:=fun y (hy:y∈r)=>h.pos y (h.perm.mem_iff.1 hy)
 rcases zfZ (zlG (q:=q) h.perm h.tab.one) 0 with ⟨h1,h2⟩|⟨y,hy,hm,h1,h2⟩
 ·rw[h1]
  have:=hpos x hx
  rw[if_neg (by simp[hasI];omega),offQ,h2 x hx];rfl
 ·rw[h1]
  by_cases hxy:x=y
  ·subst hxy
   rw[if_pos (by simp[hasI]),offQ,hm];rfl
  ·have hne:x.id≠y.id:=by
    obtain⟨i,hi⟩:=List.getElem?_of_mem hx
    obtain⟨j,hj⟩:=List.getElem?_of_mem hy
    obtain⟨hil,hie⟩:=gsi.1 hi
    obtain⟨hjl,hje⟩:=gsi.1 hj
    rcases Nat.lt_trichotomy i j with h'|h'|h'
    ·have:=List.pairwise_iff_getElem.1 h.uq i j hil hjl h'
     rw[hie,hje]at this;exact this
    ·subst h';rw[hie]at hje;exact absurd hje hxy
    ·have:=List.pairwise_iff_getElem.1 h.uq j i hjl hil h'
     rw[hie,hje]at this;exact fun e=>this e.symm
   rw[if_neg (by simp[hasI];exact hne),offQ]
   have:metQ q x=false:=by
    cases hmx:metQ q x
    ·rfl
    ·exact absurd (h2 x hx hmx) hxy
   rw[this];rfl
theorem zcM.put {l r:List zat}(h:zcM l r)(q:zat):zcM (putQ q l) (zrG q r):=by
 refine⟨zpt h.tab,?_,?_⟩
 ·unfold putQ zrG
  rw[h.bad]
  split
  ·exact h.perm
  ·rw[h.off]
   have h1:=zgi (l.map (offQ q)) q (bsN (cQ q.id) l)
   have h2:(r.map (offQ q)++[q]).Perm (q::r.map (offQ q)):=List.perm_append_comm
   exact h2.trans ((List.Perm.cons q (h.perm.map _)).trans h1.symm)
 ·unfold putQ
  split
  ·exact h.pos
  ·rename_i hb
   have hbad:badQ q l=false:=by simpa using hb
   simp only[badQ,Bool.or_eq_false_iff,decide_eq_false_iff_not]at hbad
   intro x hx
   have hx2:=(zgi (l.map (offQ q)) q (bsN (cQ q.id) l)).mem_iff.1 hx
   rcases List.mem_cons.1 hx2 with rfl|hx2
   ·omega
   ·obtain⟨y,hy,rfl⟩:=lmm.1 hx2
    rw[zd3];exact h.pos y hy
theorem zcM.putV {l r:List zat}(h:zcM l r)(q:zat):zrH q r=putV q l:=by
 unfold zrH Go.Proofs.YteocfhdocpeokaaGreat.putV
 rw[h.bad,h.old]
/-! ### by number -/
theorem zcM.clear {l r:List zat}(h:zcM l r)(p:zat→Bool):zcM (l.filter p) (r.filter p):=
 ⟨⟨h.tab.up.sublist List.filter_sublist,h.tab.one.sublist List.filter_sublist⟩,h.perm.filter p,fun x hx=>h.pos x (List.mem_filter.1 hx).1⟩
theorem zcM.nil :zcM [] []:=⟨⟨List.Pairwise.nil,List.Pairwise.nil⟩,plr _,fun x hx=>by cases hx⟩
end Go.Proofs.YteocfhdocpeokaaGreat
namespace Go.Proofs.YteocfhdocpeokaaGreat
open Go Go.Sl
attribute [local irreducible] AW ES EP Ld RetQ
set_option maxRecDepth 100000
section
variable {P : Program} {W : World} {T : Tab} {N : Nat} {env : Env} {h : List zao} {kf : KF} {ops : Array Oper} {K : Env → List zao → Prop} {rest : List Oper}
theorem zs5 {c1 c2:zao}{h:List zao}(h1:c1∈h)(h2:c2∈h)(hne:c2≠c1):∃F,h.Perm (c1::c2::F):=by
 obtain⟨s,t,rfl⟩:=List.append_of_mem h1
 have h3:c2∈s++t:=by
  rcases lma.1 h2 with h|h
  ·exact List.mem_append_left _ h
  ·rcases List.mem_cons.1 h with h|h
   ·exact absurd h hne
   ·exact mar _ h
 obtain⟨u,v,he⟩:=List.append_of_mem h3
 refine⟨u++v,List.perm_middle.trans ?_⟩
 rw[he]
 exact List.Perm.cons _ List.perm_middle
end
theorem zol (W:World)(h:List zao)(p:Nat)(A:Option Addr)(c:Nat)(l:List zat)(ask tick:Int)(m1:zao.blk p 142 [.slice A l.length c]∈h)(m2:zao.own A l.length c 174 6 (l.flatMap zat.enc)∈h)(hb:l.length≤1000000):
 zax Tryz.prog W 152 [.pointer (some ⟨p,0,none⟩),.int .i64 ask,.int .i64 tick] h
  (fun v h'=>∃A' c',v=.slice A' (l.filter (zcu ask tick)).length c'∧h'=.own A' (l.filter (zcu ask tick)).length c' 174 6 ((l.filter (zcu ask tick)).flatMap zat.enc)::h∧OwnF A' (l.filter (zcu ask tick)).length c' 6 ((l.filter (zcu ask tick)).flatMap zat.enc)):=by
 obtain⟨F,hp⟩:=zs5 m1 m2 (by intro e;cases e)
 exact((zph W F p A c l ask tick hb).perm hp).conv (by
  rintro v h' ⟨A',c',rfl,rfl,hf⟩ w hw
  exact⟨_,hw.perm (hp.symm.cons _),A',c',rfl,rfl,hf⟩)
structure zpS where
 kind:Int
 quote:zat
def zpS.enc (a:zpS):List Value:=.int .i64 a.kind::a.quote.enc
theorem zpS.enc_len (a:zpS):a.enc.length=7:=rfl
theorem zcM.len {l r:List zat}(h:zcM l r):r.length=l.length:=h.perm.length_eq
end Go.Proofs.YteocfhdocpeokaaGreat
namespace Go.Proofs.YteocfhdocpeokaaGreat
open Go Go.Sl
attribute [local irreducible] AW ES EP Ld RetQ
set_option maxRecDepth 100000
theorem zlH (W:World)(F:List zao)(x:DAd)(s:Dk)(bks:List BAd)(rows:List PRow)(N:Nat)(hD:DOK N s)(hN:N≤10000)(hf:zaY s bks rows)(g:Nat)(who id0:Int)(o:Sp)(outs:List OutR)(a:AskR)(q:zat)(haO:zhA s a)(hqO:zc6 s q)(hbo:outs.length≤1000000):
 zax Tryz.prog W 150 [ptrV x.d,ptrV g,.agg a.enc.toArray,.agg q.enc.toArray] (zai g who id0 o outs (zae x s bks rows F)) (zaZ x g who outs F (hitQ s a q)):=by
 refine zax.dropTo ?_
 have hla:s.asks.length≤1000000:=by have:=hD.na;omega
 have hld:s.due.length≤1000000:=by have:=hD.nd;omega
 have hnw:=hD.now
 have hlk:=(zbO hD.rules).2.2.1
 have hTr:=zfD W F x s bks rows N hD hf a q haO hqO.2.2.1.2
 obtain⟨_,⟨b0,b1⟩,_,⟨q0,q1⟩,⟨c0,c1⟩,⟨d0,d1⟩,⟨e0,e1⟩⟩:=haO
 obtain⟨_,_,⟨p0,p1⟩,_⟩:=hqO
 have hRk:=zn8 W x.f x.fparties.A x.fparties.c x.used.A x.used.c s.parties s.used q.dealer q.price a.qty hD.nus hD.us (by unfold inW;omega) (by unfold inW;omega)
 have hLk:=fun G=>zpl W G x.a x.asks.A x.asks.c s.asks a.id q.id (s.now+s.look) hla hD.upa
 have hAdd:=fun G=>zkA W G x.u x.due.A x.due.c s.due ⟨s.now+s.look,2,a.id⟩ hld hD.row.mono
 unfold hitQ
 rcases q with ⟨qi,qa,qd,qp,qe,ql⟩
 dsimp only at*
 by_cases h1:ql=false∨qe≤s.now
 ·rw[if_pos h1]
  cases ql
  ·skip
   unfold zae
   unfold zai
   refine zaf Tryz.func150 rfl rfl Tryz.results150 Tryz.ntmps150 rfl rfl ?_
   repeat' (first|apply zah|apply zaa|apply zak|apply zag|apply zac hT;iterate 4 exact rfl|apply zaK;iterate 3 exact rfl|apply zaC [] [] hmix;decide+kernel|(apply zaA;(iterate 5 exact rfl);first|(fail_if_success (have q:=g6));intro g6|intro g7)|(apply zad;(iterate 5 exact rfl);first|(apply zaq hT;exact rfl;exact rfl;exact mX;exact rfl;exact rfl))|(apply zas;iterate 2 exact rfl))
   all_goals first
    |(exfalso;omega)
    |(apply ret1;exact rfl;exact⟨zai g who id0 o outs (zae x s bks rows F),by(unfold zai zae;exact dX),zaZ.bad' (by decide) hf⟩)
    |skip
  ·have h1:qe≤s.now:=by simpa using h1
   unfold zae
   unfold zai
   refine zaf Tryz.func150 rfl rfl Tryz.results150 Tryz.ntmps150 rfl rfl ?_
   repeat' (first|apply zah|apply zaa|apply zak|apply zag|apply zac hT;iterate 4 exact rfl|apply zaC [] [] hmix;decide+kernel|(apply zaA;(iterate 5 exact rfl);first|(fail_if_success (have q:=g6));intro g6|intro g7)|(apply zad;(iterate 5 exact rfl);first|(apply zaq hT;exact rfl;exact rfl;exact mX;exact rfl;exact rfl))|(apply zal;exact rfl;all_goals(intro hb;(try dsimp only at hb);(try simp only[hb]);(first|replace hb:=odt hb|replace hb:=odf hb);(try omega))))
   all_goals first
    |(exfalso;omega)
    |(apply ret1;exact rfl;exact⟨zai g who id0 o outs (zae x s bks rows F),by(unfold zai zae;exact dX),zaZ.bad' (by decide) hf⟩)
    |skip
 ·rw[if_neg h1]
  have hl:ql=true:=by cases ql<;>simp_all
  subst hl
  have h1:¬qe≤s.now:=by simpa using h1
  by_cases h2:zcF s a ⟨qi,qa,qd,qp,qe,true⟩≠0
  ·rw[if_pos h2]
   generalize zcF s a ⟨qi,qa,qd,qp,qe,true⟩=er at*
   unfold zae
   unfold zai
   refine zaf Tryz.func150 rfl rfl Tryz.results150 Tryz.ntmps150 rfl rfl ?_
   repeat' (first|apply zah|apply zaa|apply zak|apply zam|apply zag|apply zac hT;iterate 4 exact rfl|apply zaC [] [] hmix;decide+kernel|(apply zaA;(iterate 5 exact rfl);first|(fail_if_success (have q:=g6));intro g6|intro g7)|(apply zab (hs:=(hTr.mono kX));iterate 7 exact rfl)|(apply zad;(iterate 5 exact rfl);first|(apply zaq hT;exact rfl;exact rfl;exact mX;exact rfl;exact rfl)|(apply zaF hT;exact rfl;exact rfl;exact mX;exact rfl))|(apply zal;exact rfl;all_goals(intro hb;(try dsimp only at hb);(try simp only[hb]);(first|replace hb:=odt hb|replace hb:=odf hb|replace hb:=zbc hb|replace hb:=zbd hb);(try omega))))
   all_goals first
    |(exfalso;omega)
    |(apply ret1;exact rfl;exact⟨zai g who id0 o outs (zae x s bks rows F),by(unfold zai zae;exact dX),zaZ.bad' h2 hf⟩)
    |skip
  ·rw[if_neg h2]
   have h2:=Decidable.not_not.1 h2
   rw[h2]at hTr
   by_cases h3:zdb s.parties s.used qd qp a.qty≠0
   ·rw[if_pos h3]
    generalize zdb s.parties s.used qd qp a.qty=er at*
    unfold zae
    unfold zai
    refine zaf Tryz.func150 rfl rfl Tryz.results150 Tryz.ntmps150 rfl rfl ?_
    repeat' (first|apply zah|apply zaa|apply zak|apply zam|apply zag|apply zac hT;iterate 4 exact rfl|apply zaC [] [] hmix;decide+kernel|(apply zaA;(iterate 5 exact rfl);first|(fail_if_success (have q:=g6));intro g6|intro g7)|(apply zab (hs:=(hTr.mono kX));iterate 7 exact rfl)|(apply zab (hs:=(hRk.mono (zd4 mX mX mX)));iterate 7 exact rfl)|(apply zad;(iterate 5 exact rfl);first|(apply zaq hT;exact rfl;exact rfl;exact mX;exact rfl;exact rfl)|(apply zaF hT;exact rfl;exact rfl;exact mX;exact rfl))|(apply zan;iterate 2 exact rfl)|(apply zal;exact rfl;all_goals(intro hb;(try dsimp only at hb);(try simp only[hb]);(first|replace hb:=odt hb|replace hb:=odf hb|replace hb:=zbc hb|replace hb:=zbd hb);(try omega))))
    all_goals first
     |(exfalso;omega)
     |(apply ret1;exact rfl;exact⟨zai g who id0 o outs (zae x s bks rows F),by(unfold zai zae;exact dX),zaZ.bad' h3 hf⟩)
     |skip
   ·rw[if_neg h3]
    have h3:=Decidable.not_not.1 h3
    rw[h3]at hRk
    by_cases h4:zeU a.id qi (s.now+s.look) s.asks≠0
    ·rw[if_pos h4]
     have hsame:zdA a.id qi (s.now+s.look) s.asks=s.asks:=by
      unfold zdA
      split
      ·rfl
      ·rw[if_neg h4]
     rw[hsame]at hLk
     generalize zeU a.id qi (s.now+s.look) s.asks=er at*
     unfold zae
     unfold zai
     refine zaf Tryz.func150 rfl rfl Tryz.results150 Tryz.ntmps150 rfl rfl ?_
     repeat' (first|apply zah|apply zaa|apply zak|apply zam|apply zag|apply zac hT;iterate 4 exact rfl|(apply zaM hT;(iterate 4 exact rfl);(iterate 2 (first|omega)))|apply zaC [] [] hmix;decide+kernel|(apply zaA;(iterate 5 exact rfl);first|(fail_if_success (have q:=g6));intro g6|intro g7)|(apply zab (hs:=(hTr.mono kX));iterate 7 exact rfl)|(apply zab (hs:=(hRk.mono (zd4 mX mX mX)));iterate 7 exact rfl)|(apply zau (hs:=(zax.perm (hLk _) pX));(iterate 7 exact rfl);rintro _ _ ⟨rfl,rfl⟩)|(apply zad;(iterate 5 exact rfl);first|(apply zaq hT;exact rfl;exact rfl;exact mX;exact rfl;exact rfl)|(apply zaF hT;exact rfl;exact rfl;exact mX;exact rfl))|(apply zan;iterate 2 exact rfl)|(apply zal;exact rfl;all_goals(intro hb;(try dsimp only at hb);(try simp only[hb]);(first|replace hb:=odt hb|replace hb:=odf hb|replace hb:=zbc hb|replace hb:=zbd hb);(try omega))))
     all_goals first
      |(exfalso;omega)
      |(apply ret1;exact rfl;exact⟨zai g who id0 o outs (zae x s bks rows F),by(unfold zai zae;exact dX),zaZ.bad' h4 hf⟩)
      |skip
    ·rw[if_neg h4]
     have h4:=Decidable.not_not.1 h4
     rw[h4]at hLk
     generalize hds:addD s.due ⟨s.now+s.look,2,a.id⟩=ds at*
     generalize has:zdA a.id qi (s.now+s.look) s.asks=as' at*
     unfold zae
     unfold zai
     refine zaf Tryz.func150 rfl rfl Tryz.results150 Tryz.ntmps150 rfl rfl ?_
     repeat' (first|apply zah|apply zaa|apply zak|apply zam|apply zag|apply zac hT;iterate 4 exact rfl|(apply zaM hT;(iterate 4 exact rfl);(iterate 2 (first|omega)))|apply zaC [] [] hmix;decide+kernel|(apply zaA;(iterate 5 exact rfl);first|(fail_if_success (have q:=g6));intro g6|intro g7)|(apply zab (hs:=(hTr.mono kX));iterate 7 exact rfl)|(apply zab (hs:=(hRk.mono (zd4 mX mX mX)));iterate 7 exact rfl)|(apply zaE hT (cs:=Due.enc ⟨s.now+s.look,2,a.id⟩);iterate 4 exact rfl)|(apply zar hT;(iterate 6 exact rfl);exact sX;(iterate 3 exact rfl);exact nle rfl)|(apply zau (hs:=(zax.perm (hLk _) pX));(iterate 7 exact rfl);rintro _ _ ⟨rfl,rfl⟩)|(apply zau (hs:=(zax.perm (hAdd _) pX));(iterate 7 exact rfl);rintro _ _ ⟨rfl,A4,c4,rfl⟩)|(apply zaB (cs:=[.int .i64 a.id,.int .i64 qi,.int .i64 (s.now+s.look)]) hT;(iterate 12 exact rfl);intro g91)|(apply zau (hs:=(zbY W _ g who a.id o outs _ (some ⟨g91,0,none⟩) 3 qd 24 [a.id,qi,s.now+s.look] pX mX (Nat.le_of_ble_eq_true rfl) hbo));(iterate 7 exact rfl);rintro _ _ ⟨rfl,o2,rfl⟩)|(apply zad;(iterate 5 exact rfl);first|(apply zaq hT;exact rfl;exact rfl;exact mX;exact rfl;exact rfl)|(apply zaF hT;exact rfl;exact rfl;exact mX;exact rfl))|(apply zan;iterate 2 exact rfl)|(apply zal;exact rfl;all_goals(intro hb;(try dsimp only at hb);(try simp only[hb]);(first|replace hb:=odt hb|replace hb:=odf hb);(try omega))))
     all_goals first
      |(exfalso;omega)
      |(apply ret1;exact rfl;exact⟨zai g who a.id o2 (outs++[outM qd 24 [a.id,qi,s.now+s.look]]) (zae (({x with due:=⟨A4,c4⟩}:DAd).at x.d) {s with asks:=as',due:=ds} bks rows F),by(unfold zai zae;exact dX),zaZ.ok' hf⟩)
      |skip
theorem zom (W:World)(F:List zao)(x:DAd)(s:Dk)(bks:List BAd)(rows:List PRow)(N:Nat)(hD:DOK N s)(hN:N≤10000)(hf:zaY s bks rows)(g:Nat)(who id0:Int)(o:Sp)(outs:List OutR)(m:MsgR)(hk:m.kind=12)(hbo:outs.length≤1000000):
 zax Tryz.prog W 112 [ptrV x.d,ptrV g,.agg m.enc.toArray] (zai g who id0 o outs (zae x s bks rows F)) (zaZ x g who outs F (hitD s who m.f0)):=by
 refine zax.dropTo ?_
 have hla:s.asks.length≤1000000:=by have:=hD.na;omega
 have hlq:s.quotes.length≤1000000:=by have:=hD.nq;omega
 have hG:=ziL W x.q x.quotes.A x.quotes.c s.quotes m.f0 hlq hD.upq
 unfold hitD
 rcases hg:getQ m.f0 s.quotes with _|q
 ·rw[hg]at hG
  have hM:=hG
  unfold zae
  unfold zai
  refine zaf Tryz.func112 rfl rfl Tryz.results112 Tryz.ntmps112 rfl rfl ?_
  repeat' (first|apply zah|apply zaa|apply zak|apply zag|apply zac hT;iterate 4 exact rfl|apply zaC [148,151] [152] hmix;decide+kernel|apply zaA;(iterate 5 exact rfl);intro g5|(apply zay hT;(iterate 5 exact rfl);first|(fail_if_success (have q:=g7));intro g7)|(apply zar hT;(iterate 6 exact rfl);exact sX;(iterate 3 exact rfl);exact nle rfl)|(apply zaS hT;(iterate 9 exact rfl);(iterate 2 omega))|(apply zab (hs:=(hG.mono (zbp mX mX)));iterate 7 exact rfl)|(apply zad;(iterate 5 exact rfl);first|(apply zaq hT;exact rfl;exact rfl;exact mX;exact rfl;exact rfl))|(apply zas;iterate 2 exact rfl)|(apply zal;exact rfl;all_goals(intro hb;(try dsimp only at hb);(try simp only[hb]);(first|replace hb:=odt hb|replace hb:=odf hb);(try omega))))
  all_goals first
   |(exfalso;omega)
   |(apply ret1;exact rfl;exact⟨zai g who id0 o outs (zae x s bks rows F),by(unfold zai zae;exact dX),zaZ.bad' (by decide) hf⟩)
   |skip
 ·rw[hg]at hG
  dsimp only
  have hqO:=hD.qs q (zft hg).1
  have hM:=zhd W x s g who id0 q.ask (o.sl outs.length) hD.upa hla
  unfold zoa at hM
  by_cases h1:zc0 s who q.ask≠0
  ·rw[if_pos h1]
   rcases hga:getA q.ask s.asks with _|a
   ·rw[hga]at hM
    dsimp only at hM
    have h4:zc0 s who q.ask=4:=by unfold zc0;rw[hga]
    rw[h4]
    unfold zae
    unfold zai
    refine zaf Tryz.func112 rfl rfl Tryz.results112 Tryz.ntmps112 rfl rfl ?_
    repeat' (first|apply zah|apply zaa|apply zak|apply zam|apply zag|apply zac hT;iterate 4 exact rfl|apply zaC [148,151] [152] hmix;decide+kernel|apply zaA;(iterate 5 exact rfl);intro g5|(apply zay hT;(iterate 5 exact rfl);first|(fail_if_success (have q:=g7));intro g7|(fail_if_success (have q:=g9));intro g9)|(apply zar hT;(iterate 6 exact rfl);exact sX;(iterate 3 exact rfl);exact nle rfl)|(apply zaS hT;(iterate 9 exact rfl);(iterate 2 omega))|(apply zab (hs:=(hG.mono (zbp mX mX)));iterate 7 exact rfl)|(apply zab (hs:=(hM.mono (zhB mX mX mX mX)));iterate 7 exact rfl)|(apply zad;(iterate 5 exact rfl);first|(apply zaq hT;exact rfl;exact rfl;exact mX;exact rfl;exact rfl))|(apply zas;iterate 2 exact rfl)|(apply zan;iterate 2 exact rfl)|(apply zal;exact rfl;all_goals(intro hb;(try dsimp only at hb);(try simp only[hb]);(first|replace hb:=odt hb|replace hb:=odf hb);(try omega))))
    all_goals first
     |(exfalso;omega)
     |(apply ret1;exact rfl;exact⟨zai g who id0 o outs (zae x s bks rows F),by(unfold zai zae;exact dX),zaZ.bad' (by decide) hf⟩)
     |skip
   ·rw[hga]at hM
    dsimp only at hM
    generalize zc0 s who q.ask=er at*
    unfold zae
    unfold zai
    refine zaf Tryz.func112 rfl rfl Tryz.results112 Tryz.ntmps112 rfl rfl ?_
    repeat' (first|apply zah|apply zaa|apply zak|apply zam|apply zag|apply zac hT;iterate 4 exact rfl|apply zaC [148,151] [152] hmix;decide+kernel|apply zaA;(iterate 5 exact rfl);intro g5|(apply zay hT;(iterate 5 exact rfl);first|(fail_if_success (have q:=g7));intro g7|(fail_if_success (have q:=g9));intro g9)|(apply zar hT;(iterate 6 exact rfl);exact sX;(iterate 3 exact rfl);exact nle rfl)|(apply zaS hT;(iterate 9 exact rfl);(iterate 2 omega))|(apply zab (hs:=(hG.mono (zbp mX mX)));iterate 7 exact rfl)|(apply zab (hs:=(hM.mono (zhB mX mX mX mX)));iterate 7 exact rfl)|(apply zad;(iterate 5 exact rfl);first|(apply zaq hT;exact rfl;exact rfl;exact mX;exact rfl;exact rfl))|(apply zan;iterate 2 exact rfl)|(apply zal;exact rfl;all_goals(intro hb;(try dsimp only at hb);(try simp only[hb]);(first|replace hb:=odt hb|replace hb:=odf hb|replace hb:=zbc hb|replace hb:=zbd hb);(try omega))))
    all_goals first
     |(exfalso;omega)
     |(apply ret1;exact rfl;exact⟨zai g who id0 o outs (zae x s bks rows F),by(unfold zai zae;exact dX),zaZ.bad' h1 hf⟩)
     |skip
  ·rw[if_neg h1]
   have h1:=Decidable.not_not.1 h1
   rcases hga:getA q.ask s.asks with _|a
   ·exfalso
    unfold zc0 at h1
    rw[hga]at h1
    simp at h1
   ·rw[hga]at hM
    dsimp only at hM ⊢
    rw[h1]at hM
    have haO:=hD.as_ a (zbh hga).1
    have hH:=fun G=>zlH W G x s bks rows N hD hN hf g who id0 o outs a q haO hqO hbo
    generalize hitQ s a q=r at*
    unfold zae
    unfold zai
    refine zaf Tryz.func112 rfl rfl Tryz.results112 Tryz.ntmps112 rfl rfl ?_
    repeat' (first|apply zah|apply zaa|apply zak|apply zam|apply zag|apply zac hT;iterate 4 exact rfl|apply zaC [148,151] [152] hmix;decide+kernel|apply zaA;(iterate 5 exact rfl);intro g5|(apply zay hT;(iterate 5 exact rfl);first|(fail_if_success (have q:=g7));intro g7|(fail_if_success (have q:=g9));intro g9)|(apply zar hT;(iterate 6 exact rfl);exact sX;(iterate 3 exact rfl);exact nle rfl)|(apply zaS hT;(iterate 9 exact rfl);(iterate 2 omega))|(apply zab (hs:=(hG.mono (zbp mX mX)));iterate 7 exact rfl)|(apply zab (hs:=(hM.mono (zhB mX mX mX mX)));iterate 7 exact rfl)|(apply zau (hs:=(zax.perm (hH _) pX));(iterate 7 exact rfl);rintro _ _ ⟨rfl,y2,o2,bks2,rows2,id2,os2,rfl,hf2,hok2⟩)|(apply zad;(iterate 5 exact rfl);first|(apply zaq hT;exact rfl;exact rfl;exact mX;exact rfl;exact rfl)|(apply zaF hT;exact rfl;exact rfl;exact mX;exact rfl))|(apply zan;iterate 2 exact rfl)|(apply zal;exact rfl;all_goals(intro hb;(try dsimp only at hb);(try simp only[hb]);(first|replace hb:=odt hb|replace hb:=odf hb);(try omega))))
    all_goals first
     |(exfalso;omega)
     |(apply ret1;exact rfl;exact⟨zai g who id2 o2 os2 (zae (y2.at x.d) r.d bks2 rows2 F),by(unfold zai zae;exact dX),rfl,y2,o2,bks2,rows2,id2,os2,rfl,hf2,hok2⟩)
     |skip
theorem zjX {s:Int}:∀(l:List zat) (x:zat),l.foldl (ziG s) x=x∨l.foldl (ziG s) x∈l
 |[],x=>.inl rfl
 |y::l,x=>by
  rw[List.foldl_cons]
  have hq:ziG s x y=x∨ziG s x y=y:=by unfold ziG;split<;>simp
  rcases zjX l (ziG s x y)with h|h
  ·rw[h]
   rcases hq with h|h<;>rw[h]
   ·exact .inl rfl
   ·exact .inr mcs
  ·exact .inr (mcm _ h)
theorem zlI {s:Int}{l:List zat}{q:zat}(h:ziI s l=some q):q∈l:=by
 unfold ziI at h
 split at h
 ·split at h
  ·cases h
  ·rename_i x r
   cases h
   unfold ziH
   rcases zjX (s:=s) (x::r) x with h|h
   ·rw[h];exact mcs
   ·exact h
 ·cases h
theorem zmt (W:World)(F:List zao)(x:DAd)(s:Dk)(bks:List BAd)(rows:List PRow)(N:Nat)(hD:DOK N s)(hN:N≤10000)(hf:zaY s bks rows)(g:Nat)(who id0:Int)(o:Sp)(outs:List OutR)(m:MsgR)(hk:m.kind=13)(hbo:outs.length≤1000000):
 zax Tryz.prog W 112 [ptrV x.d,ptrV g,.agg m.enc.toArray] (zai g who id0 o outs (zae x s bks rows F)) (zaZ x g who outs F (zfq s who m.f0)):=by
 refine zax.dropTo ?_
 have hla:s.asks.length≤1000000:=by have:=hD.na;omega
 have hlq:s.quotes.length≤1000000:=by have:=hD.nq;omega
 have hM:=zhd W x s g who id0 m.f0 (o.sl outs.length) hD.upa hla
 have hG:=hM
 unfold zoa at hM
 unfold zfq
 by_cases h1:zc0 s who m.f0≠0
 ·rw[if_pos h1]
  rcases hga:getA m.f0 s.asks with _|a
  ·rw[hga]at hM
   dsimp only at hM
   have h4:zc0 s who m.f0=4:=by unfold zc0;rw[hga]
   rw[h4]
   unfold zae
   unfold zai
   refine zaf Tryz.func112 rfl rfl Tryz.results112 Tryz.ntmps112 rfl rfl ?_
   repeat' (first|apply zah|apply zaa|apply zak|apply zam|apply zag|apply zac hT;iterate 4 exact rfl|apply zaA;(iterate 5 exact rfl);intro g5|(apply zay hT;(iterate 5 exact rfl);first|(fail_if_success (have q:=g7));intro g7)|(apply zar hT;(iterate 6 exact rfl);exact sX;(iterate 3 exact rfl);exact nle rfl)|(apply zaS hT;(iterate 9 exact rfl);(iterate 2 omega))|(apply zab (hs:=(hM.mono (zhB mX mX mX mX)));iterate 7 exact rfl)|(apply zad;(iterate 5 exact rfl);first|(apply zaq hT;exact rfl;exact rfl;exact mX;exact rfl;exact rfl))|(apply zas;iterate 2 exact rfl)|(apply zal;exact rfl;all_goals(intro hb;(try dsimp only at hb);(try simp only[hb]);(first|replace hb:=odt hb|replace hb:=odf hb);(try omega))))
   all_goals first
    |(exfalso;omega)
    |(apply ret1;exact rfl;exact⟨zai g who id0 o outs (zae x s bks rows F),by(unfold zai zae;exact dX),zaZ.bad' (by decide) hf⟩)
    |skip
  ·rw[hga]at hM
   dsimp only at hM
   generalize zc0 s who m.f0=er at*
   unfold zae
   unfold zai
   refine zaf Tryz.func112 rfl rfl Tryz.results112 Tryz.ntmps112 rfl rfl ?_
   repeat' (first|apply zah|apply zaa|apply zak|apply zam|apply zag|apply zac hT;iterate 4 exact rfl|apply zaA;(iterate 5 exact rfl);intro g5|(apply zay hT;(iterate 5 exact rfl);first|(fail_if_success (have q:=g7));intro g7)|(apply zar hT;(iterate 6 exact rfl);exact sX;(iterate 3 exact rfl);exact nle rfl)|(apply zaS hT;(iterate 9 exact rfl);(iterate 2 omega))|(apply zab (hs:=(hM.mono (zhB mX mX mX mX)));iterate 7 exact rfl)|(apply zad;(iterate 5 exact rfl);first|(apply zaq hT;exact rfl;exact rfl;exact mX;exact rfl;exact rfl))|(apply zal;exact rfl;all_goals(intro hb;(try dsimp only at hb);(try simp only[hb]);(first|replace hb:=odt hb|replace hb:=odf hb|replace hb:=zbc hb|replace hb:=zbd hb);(try omega))))
   all_goals first
    |(exfalso;omega)
    |(apply ret1;exact rfl;exact⟨zai g who id0 o outs (zae x s bks rows F),by(unfold zai zae;exact dX),zaZ.bad' h1 hf⟩)
    |skip
 ·rw[if_neg h1]
  have h1:=Decidable.not_not.1 h1
  rcases hga:getA m.f0 s.asks with _|a
  ·exfalso
   unfold zc0 at h1
   rw[hga]at h1
   simp at h1
  ·rw[hga]at hM
   dsimp only at hM ⊢
   rw[h1]at hM
   have haO:=hD.as_ a (zbh hga).1
   have hLv:=fun h m1 m2=>zol W h x.q x.quotes.A x.quotes.c s.quotes a.id s.now m1 m2 hlq
   have hmemL:∀q∈s.quotes.filter (zcu a.id s.now),zc6 s q:=fun q hq=>hD.qs q ((List.mem_filter.1 hq).1)
   have hlen:(s.quotes.filter (zcu a.id s.now)).length≤1000000:=Nat.le_trans (List.length_filter_le _ _) hlq
   generalize s.quotes.filter (zcu a.id s.now)=lv at*
   have hBs:=fun h A c hr=>znv W h A c lv a.side hr hlen
   rcases hbv:ziI a.side lv with _|q
   ·rw[hbv]at hBs
    dsimp only
    unfold zae
    unfold zai
    refine zaf Tryz.func112 rfl rfl Tryz.results112 Tryz.ntmps112 rfl rfl ?_
    repeat' (first|apply zah|apply zaa|apply zak|apply zam|apply zag|apply zac hT;iterate 4 exact rfl|(apply zbZ [151] [152] (.step 0 <| .step 1 <| .step 2 <| .step 3 <| .step 4 <| .step 5 <| .step 6 <| .step 7 <| .step 8 <| .step 9 <| .step 10 <| .step 11 <| .alt (.step 12 <| .step 13 <| .step 14 <| .step 15 <| .step 16 <| .step 17 <| .step 18 <| .step 19 <| .nil) ((.step 17 <| .step 12 <| .step 13 <| .step 14 <| .step 15 <| .step 16 <| .step 18 <| .step 19 <| .nil))) hmix;decide+kernel)|apply zcJ|apply zf7|apply zb7;exact rfl|apply zaA;(iterate 5 exact rfl);intro g5|(apply zay hT;(iterate 5 exact rfl);first|(fail_if_success (have q:=g7));intro g7|(fail_if_success (have q:=g9));intro g9)|(apply zar hT;(iterate 6 exact rfl);exact sX;(iterate 3 exact rfl);exact nle rfl)|(apply zaS hT;(iterate 9 exact rfl);(iterate 2 omega))|(apply zab (hs:=(hM.mono (zhB mX mX mX mX)));iterate 7 exact rfl)|(apply zcz (hs:=(hLv _ mX mX));(iterate 7 exact rfl);(rintro _ _ ⟨A9,c9,rfl,rfl,hf9⟩;refine⟨[_],rfl,?_⟩))|(apply zab (hs:=((hBs _ A9 c9 (hf9.reads mem0)).mono kX));iterate 7 exact rfl)|(apply zad;(iterate 5 exact rfl);first|(apply zaq hT;exact rfl;exact rfl;exact mX;exact rfl;exact rfl))|(apply zas;iterate 2 exact rfl)|(apply zan;iterate 2 exact rfl)|(apply zal;exact rfl;all_goals(intro hb;(try dsimp only at hb);(try simp only[hb]);(first|replace hb:=odt hb|replace hb:=odf hb);(try omega))))
    all_goals first
     |(exfalso;omega)
     |(apply ret1;exact rfl;exact⟨zai g who id0 o outs (zae x s bks rows F),by(unfold zai zae;exact dX),zaZ.bad' (by decide) hf⟩)
     |skip
   ·rw[hbv]at hBs
    dsimp only
    have hqO:=hmemL q (zlI hbv)
    have hH:=fun G=>zlH W G x s bks rows N hD hN hf g who id0 o outs a q haO hqO hbo
    generalize hitQ s a q=r at*
    unfold zae
    unfold zai
    refine zaf Tryz.func112 rfl rfl Tryz.results112 Tryz.ntmps112 rfl rfl ?_
    repeat' (first|apply zah|apply zaa|apply zak|apply zam|apply zag|apply zac hT;iterate 4 exact rfl|(apply zbZ [151] [152] (.step 0 <| .step 1 <| .step 2 <| .step 3 <| .step 4 <| .step 5 <| .step 6 <| .step 7 <| .step 8 <| .step 9 <| .step 10 <| .step 11 <| .alt (.step 12 <| .step 13 <| .step 14 <| .step 15 <| .step 16 <| .step 17 <| .step 18 <| .step 19 <| .nil) ((.step 17 <| .step 12 <| .step 13 <| .step 14 <| .step 15 <| .step 16 <| .step 18 <| .step 19 <| .nil))) hmix;decide+kernel)|apply zcJ|apply zf7|apply zb7;exact rfl|apply zaA;(iterate 5 exact rfl);intro g5|(apply zay hT;(iterate 5 exact rfl);first|(fail_if_success (have q:=g7));intro g7|(fail_if_success (have q:=g9));intro g9)|(apply zar hT;(iterate 6 exact rfl);exact sX;(iterate 3 exact rfl);exact nle rfl)|(apply zaS hT;(iterate 9 exact rfl);(iterate 2 omega))|(apply zab (hs:=(hM.mono (zhB mX mX mX mX)));iterate 7 exact rfl)|(apply zcz (hs:=(hLv _ mX mX));(iterate 7 exact rfl);(rintro _ _ ⟨A9,c9,rfl,rfl,hf9⟩;refine⟨[_],rfl,?_⟩))|(apply zab (hs:=((hBs _ A9 c9 (hf9.reads mem0)).mono kX));iterate 7 exact rfl)|(apply zau (hs:=(zax.perm (hH _) pX));(iterate 7 exact rfl);rintro _ _ ⟨rfl,y2,o2,bks2,rows2,id2,os2,rfl,hf2,hok2⟩)|(apply zad;(iterate 5 exact rfl);first|(apply zaq hT;exact rfl;exact rfl;exact mX;exact rfl;exact rfl)|(apply zaF hT;exact rfl;exact rfl;exact mX;exact rfl))|(apply zan;iterate 2 exact rfl)|(apply zal;exact rfl;all_goals(intro hb;(try dsimp only at hb);(try simp only[hb]);(first|replace hb:=odt hb|replace hb:=odf hb);(try omega))))
    all_goals first
     |(exfalso;omega)
     |(apply ret1;exact rfl;exact⟨zai g who id2 o2 os2 (zae (y2.at x.d) r.d bks2 rows2 F),by(unfold zai zae;exact dX),rfl,y2,o2,bks2,rows2,id2,os2,rfl,hf2,hok2⟩)
     |skip
theorem zlJ {h L h2 h':List zao}(hp:h.Perm (L++h2))(hd:za7 h2 h'):za7 h (L++h'):=by
 obtain⟨J,hJ⟩:=hd
 refine⟨J,hp.trans ((hJ.append_left L).trans ?_)⟩
 rw[←List.append_assoc,←List.append_assoc]
 exact List.perm_append_comm.append_right h'
theorem zkT (W:World)(F:List zao)(p:Nat)(AC:Option Addr)(cC:Nat)(AR:Option Addr)(cR:Nat)(cash:List Int)(rs:List PRow)(np nb:Nat)(hP:PsOK np nb (psOf cash rs))(t:zaL)(hpr:inW t.price)(hqt:inW t.qty):
 zax Tryz.prog W 8 [.pointer (some ⟨p,0,none⟩),.agg t.enc.toArray] (zbo p AC cC AR cR cash rs F) (fun v h'=>v=.int .i64 (putE (psOf cash rs) t)∧∃cash' rs',psOf cash' rs'=putP (psOf cash rs) t∧h'=zbo p AC cC AR cR cash' rs' F):=by
 by_cases hbad:zdo (psOf cash rs) t.buyer t.bond=false∨zdo (psOf cash rs) t.seller t.bond=false∨t.buyer=t.seller∨t.price<1∨t.qty<1
 ·refine(zmn W F p AC cC AR cR cash rs np nb hP t hbad).mono ?_
  rintro v h' ⟨rfl,rfl⟩
  have he:putE (psOf cash rs) t=1:=by unfold putE;rw[if_pos hbad]
  exact⟨by rw[he],cash,rs,by unfold putP;rw[if_neg (by rw[he];decide)],rfl⟩
 ·exact zn7 W F p AC cC AR cR cash rs np nb hP t hpr hqt hbad
theorem zhg (W:World)(F:List zao)(x:DAd)(s:Dk)(bks:List BAd)(rows:List PRow)(g:Nat)(cw id0:Int)(o:Sp)(outs:List OutR)(sd who other bond price qty ask:Int)(np nb:Nat)(hf:zaY s bks rows)(hP0:PsOK np nb ⟨s.cash,s.pos⟩)(hh:0≤s.head∧s.head≤18446744073709551615)(ht:s.trades.length≤900000)
 (hW:zeK (zbr s sd who other bond price qty ask))(hbo:outs.length≤1000000):
 zax Tryz.prog W 155 [ptrV x.d,ptrV g,.int .i64 sd,.int .i64 who,.int .i64 other,.agg (zaL.enc ⟨0,bond,0,0,price,qty,ask,0⟩).toArray] (zai g cw id0 o outs (zae x s bks rows F))
  (fun v h'=>v=.tuple #[]∧∃(y:DAd) (o':Sp) (rows':List PRow),h'=zai g cw id0 o' (outs++zdE (zbr s sd who other bond price qty ask)) (zae (y.at x.d) (zcY s (zbr s sd who other bond price qty ask)) bks rows' F)∧zaY (zcY s (zbr s sd who other bond price qty ask)) bks rows'):=by
 refine zax.dropTo ?_
 obtain⟨hn,hhn⟩:=Int.eq_ofNat_of_zero_le hh.1
 have hx:hn<2^64:=by show hn<18446744073709551616;omega
 have hP:PsOK np nb (psOf s.cash rows):=by unfold psOf;rw[hf.2];exact hP0
 have hpr:inW price:=by
  unfold zbr at hW
  split at hW<;>exact hW _ (by simp)
 have hqt:inW qty:=by
  unfold zbr at hW
  split at hW<;>exact hW _ (by simp)
 unfold zbr at hW ⊢
 by_cases hs:sd=2
 ·rw[if_pos hs]at hW ⊢
  subst hs
  have hPut:=fun G=>zkT W G x.p x.cash.A x.cash.c x.pos.A x.pos.c s.cash rows np nb hP ⟨0,bond,other,who,price,qty,ask,s.now⟩ hpr hqt
  have hAdd:=fun G=>zlB W G x.b x.trades.A x.trades.c s.trades hn ⟨0,bond,other,who,price,qty,ask,s.now⟩ ⟨s.trades.length+1,bond,other,who,price,qty,ask,s.now⟩ hx (by omega) rfl hW
  have hCf:=fun h=>zn3 W h ⟨s.trades.length+1,bond,other,who,price,qty,ask,s.now⟩
  unfold zae
  unfold zai
  rw[hhn]
  refine zaf Tryz.func155 rfl rfl Tryz.results155 Tryz.ntmps155 rfl rfl ?_
  repeat' (first|apply zah|apply zaa|apply zag|apply zac hT;iterate 4 exact rfl|(apply zbZ [] [] (.step 0 <| .step 1 <| .step 2 <| .step 3 <| .step 4 <| .step 6 <| .alt (.step 5 <| .step 7 <| .step 8 <| .step 9 <| .step 10 <| .step 11 <| .nil) ((.step 7 <| .step 8 <| .alt (.step 5 <| .step 9 <| .step 10 <| .step 11 <| .nil) ((.step 9 <| .step 5 <| .step 10 <| .step 11 <| .nil))))) hmix;decide+kernel)|apply zcJ|apply zf7|apply zb7;exact rfl|(apply zes [.blk g 155 [.int .i64 cw,.int .i64 id0,o.sl outs.length],.blk g11 30 (zaL.enc ⟨0,bond,other,who,price,qty,ask,s.now⟩),.blk x.d 112 (zbD x s)] [] [189,73] (.step 0 <| .step 1 <| .step 2 <| .step 3 <| .step 4 <| .step 5 <| .step 6 <| .step 7 <| .step 8 <| .step 9 <| .step 10 <| .step 11 <| .step 12 <| .step 13 <| .step 14 <| .step 15 <| .nil) hmix;decide+kernel)|apply zaC [] [] hmix;decide+kernel|apply zaA;(iterate 5 exact rfl);intro g11|(apply zar hT;(iterate 6 exact rfl);exact sX;(iterate 3 exact rfl);exact nle rfl)|(apply zau (hs:=(zax.perm (hPut _) pX));(iterate 7 exact rfl);rintro _ _ ⟨rfl,cash2,rows2,hps2,rfl⟩)|(apply zcp (hs:=(zax.perm (hAdd _) pX));(iterate 7 exact rfl);(rintro _ _ ⟨rfl,A4,c4,rfl⟩;refine⟨zd4 mX mX mX,?_⟩))|(apply zcp (hs:=(hCf _));(iterate 7 exact rfl);(rintro _ _ ⟨gc,rfl,rfl⟩;refine⟨zd4 mX mX mX,?_⟩))|(apply zhM hT;(iterate 10 exact rfl);exact sX;exact zaz.enc OutR.enc_len OutR.enc_one mem0 rfl;exact zd4 mX mX mX;omega;(show(_:Nat)*64≤_;omega);intro A' c')|((first|apply zad;iterate 5 exact rfl|(apply zeq;(iterate 5 exact rfl);first|exact zd4 mX mX mX));first|(apply zaq hT;exact rfl;exact rfl;exact mX;exact rfl;exact rfl)|(apply zaF hT;exact rfl;exact rfl;exact mX;exact rfl))|(apply zas;iterate 2 exact rfl))
  all_goals
   unfold psOf at hps2
   rw[hf.2]at hps2
   obtain rfl:cash2=(zcY s ⟨s.trades.length+1,bond,other,who,price,qty,ask,s.now⟩).cash:=congrArg Ps.cash hps2
   have hch:(zcY s ⟨s.trades.length+1,bond,other,who,price,qty,ask,s.now⟩).head=((zcf hn (zbR ⟨s.trades.length+1,bond,other,who,price,qty,ask,s.now⟩):Nat):Int):=by
    show((zcf s.head.toNat (zbR ⟨s.trades.length+1,bond,other,who,price,qty,ask,s.now⟩):Nat):Int)=_
    rw[hhn];rfl
   apply zl0
   refine⟨zai g cw id0 ⟨A',c'⟩ (outs++zdE ⟨s.trades.length+1,bond,other,who,price,qty,ask,s.now⟩) (zae (({x with trades:=⟨A4,c4⟩}:DAd).at x.d) (zcY s ⟨s.trades.length+1,bond,other,who,price,qty,ask,s.now⟩) bks rows2 F),?_,rfl,{x with trades:=⟨A4,c4⟩},⟨A',c'⟩,rows2,rfl,hf.1,congrArg Ps.pos hps2⟩
   unfold zai zae
   rw[hch,show(outs++zdE ⟨s.trades.length+1,bond,other,who,price,qty,ask,s.now⟩).length=outs.length+2 from lla,show(outs++zdE ⟨s.trades.length+1,bond,other,who,price,qty,ask,s.now⟩).flatMap OutR.enc=outs.flatMap OutR.enc++(zdE ⟨s.trades.length+1,bond,other,who,price,qty,ask,s.now⟩).flatMap OutR.enc from List.flatMap_append]
   exact dA
 ·rw[if_neg hs]at hW ⊢
  have hPut:=fun G=>zkT W G x.p x.cash.A x.cash.c x.pos.A x.pos.c s.cash rows np nb hP ⟨0,bond,who,other,price,qty,ask,s.now⟩ hpr hqt
  have hAdd:=fun G=>zlB W G x.b x.trades.A x.trades.c s.trades hn ⟨0,bond,who,other,price,qty,ask,s.now⟩ ⟨s.trades.length+1,bond,who,other,price,qty,ask,s.now⟩ hx (by omega) rfl hW
  have hCf:=fun h=>zn3 W h ⟨s.trades.length+1,bond,who,other,price,qty,ask,s.now⟩
  unfold zae
  unfold zai
  rw[hhn]
  refine zaf Tryz.func155 rfl rfl Tryz.results155 Tryz.ntmps155 rfl rfl ?_
  repeat' (first|apply zah|apply zaa|apply zam|apply zag|apply zac hT;iterate 4 exact rfl|(apply zbZ [] [] (.step 0 <| .step 1 <| .step 2 <| .step 3 <| .step 4 <| .step 6 <| .alt (.step 5 <| .step 7 <| .step 8 <| .step 9 <| .step 10 <| .step 11 <| .nil) ((.step 7 <| .step 8 <| .alt (.step 5 <| .step 9 <| .step 10 <| .step 11 <| .nil) ((.step 9 <| .step 5 <| .step 10 <| .step 11 <| .nil))))) hmix;decide+kernel)|apply zcJ|apply zf7|apply zb7;exact rfl|(apply zes [.blk g 155 [.int .i64 cw,.int .i64 id0,o.sl outs.length],.blk g11 30 (zaL.enc ⟨0,bond,who,other,price,qty,ask,s.now⟩),.blk x.d 112 (zbD x s)] [] [189,73] (.step 0 <| .step 1 <| .step 2 <| .step 3 <| .step 4 <| .step 5 <| .step 6 <| .step 7 <| .step 8 <| .step 9 <| .step 10 <| .step 11 <| .step 12 <| .step 13 <| .step 14 <| .step 15 <| .nil) hmix;decide+kernel)|apply zaC [] [] hmix;decide+kernel|apply zaA;(iterate 5 exact rfl);intro g11|(apply zar hT;(iterate 6 exact rfl);exact sX;(iterate 3 exact rfl);exact nle rfl)|(apply zau (hs:=(zax.perm (hPut _) pX));(iterate 7 exact rfl);rintro _ _ ⟨rfl,cash2,rows2,hps2,rfl⟩)|(apply zcp (hs:=(zax.perm (hAdd _) pX));(iterate 7 exact rfl);(rintro _ _ ⟨rfl,A4,c4,rfl⟩;refine⟨zd4 mX mX mX,?_⟩))|(apply zcp (hs:=(hCf _));(iterate 7 exact rfl);(rintro _ _ ⟨gc,rfl,rfl⟩;refine⟨zd4 mX mX mX,?_⟩))|(apply zhM hT;(iterate 10 exact rfl);exact sX;exact zaz.enc OutR.enc_len OutR.enc_one mem0 rfl;exact zd4 mX mX mX;omega;(show(_:Nat)*64≤_;omega);intro A' c')|((first|apply zad;iterate 5 exact rfl|(apply zeq;(iterate 5 exact rfl);first|exact zd4 mX mX mX));first|(apply zaq hT;exact rfl;exact rfl;exact mX;exact rfl;exact rfl)|(apply zaF hT;exact rfl;exact rfl;exact mX;exact rfl))|(apply zal;exact rfl;all_goals(intro hb;(try dsimp only at hb);(try simp only[hb]);(first|replace hb:=odt hb|replace hb:=odf hb);(try omega))))
  all_goals
   unfold psOf at hps2
   rw[hf.2]at hps2
   obtain rfl:cash2=(zcY s ⟨s.trades.length+1,bond,who,other,price,qty,ask,s.now⟩).cash:=congrArg Ps.cash hps2
   have hch:(zcY s ⟨s.trades.length+1,bond,who,other,price,qty,ask,s.now⟩).head=((zcf hn (zbR ⟨s.trades.length+1,bond,who,other,price,qty,ask,s.now⟩):Nat):Int):=by
    show((zcf s.head.toNat (zbR ⟨s.trades.length+1,bond,who,other,price,qty,ask,s.now⟩):Nat):Int)=_
    rw[hhn];rfl
   apply zl0
   refine⟨zai g cw id0 ⟨A',c'⟩ (outs++zdE ⟨s.trades.length+1,bond,who,other,price,qty,ask,s.now⟩) (zae (({x with trades:=⟨A4,c4⟩}:DAd).at x.d) (zcY s ⟨s.trades.length+1,bond,who,other,price,qty,ask,s.now⟩) bks rows2 F),?_,rfl,{x with trades:=⟨A4,c4⟩},⟨A',c'⟩,rows2,rfl,hf.1,congrArg Ps.pos hps2⟩
   unfold zai zae
   rw[hch,show(outs++zdE ⟨s.trades.length+1,bond,who,other,price,qty,ask,s.now⟩).length=outs.length+2 from lla,show(outs++zdE ⟨s.trades.length+1,bond,who,other,price,qty,ask,s.now⟩).flatMap OutR.enc=outs.flatMap OutR.enc++(zdE ⟨s.trades.length+1,bond,who,other,price,qty,ask,s.now⟩).flatMap OutR.enc from List.flatMap_append]
   exact dA
theorem DOK.psok {N:Nat}{s:Dk}(h:DOK N s):PsOK s.parties.length s.bonds.length ⟨s.cash,s.pos⟩:=⟨h.ncash,h.npos,fun r hr=>(h.pos r hr).1,h.cash,fun r hr=>(h.pos r hr).2⟩
theorem zfE {d:Dk}{s who other bond price qty ask:Int}(h1:d.trades.length≤900000)(h2:inW who)(h3:inW other)(h4:inW bond)(h5:inW price)(h6:inW qty)(h7:inW ask)(h8:inW d.now):zeK (zbr d s who other bond price qty ask):=by
 have h0:inW ((d.trades.length:Int)+1):=by unfold inW;omega
 unfold zeK zbr
 split<;>(intro n hn;simp only[List.mem_cons,List.not_mem_nil,or_false]at hn;rcases hn with rfl|rfl|rfl|rfl|rfl|rfl|rfl|rfl<;>assumption)
theorem zpT {s:Dk}{id:Int}:getV (getQ id s.quotes)=.tuple #[.agg (qOf s id).enc.toArray,.bool (getQ id s.quotes).isSome]:=by
 unfold qOf
 rcases getQ id s.quotes with _|q
 ·rfl
 ·rfl
theorem zon {N:Nat}{s:Dk}(hD:DOK N s)(id:Int):(0≤(qOf s id).price∧(qOf s id).price≤1000000)∧0≤(qOf s id).dealer∧(qOf s id).dealer≤8:=by
 have h8:=hD.few
 unfold qOf
 rcases hg:getQ id s.quotes with _|q
 ·exact⟨⟨Int.le_refl _,by decide⟩,Int.le_refl _,by decide⟩
 ·obtain⟨_,⟨d0,d1⟩,⟨p0,p1⟩,_⟩:=hD.qs q (zft hg).1
  dsimp only[Option.getD_some]
  omega
theorem zid (W:World)(F:List zao)(x:DAd)(s:Dk)(bks:List BAd)(rows:List PRow)(N:Nat)(hD:DOK N s)(hN:N≤10000)(hf:zaY s bks rows)(g:Nat)(who id0:Int)(o:Sp)(outs:List OutR)(m:MsgR)(hk:m.kind=14∨m.kind=15)(hbo:outs.length≤900000):
 zax Tryz.prog W 113 [ptrV x.d,ptrV g,.agg m.enc.toArray] (zai g who id0 o outs (zae x s bks rows F)) (zaZ x g who outs F (zc1 false s who m.kind m.f0)):=by
 refine zax.dropTo ?_
 have hla:s.asks.length≤1000000:=by have:=hD.na;omega
 have hlq:s.quotes.length≤1000000:=by have:=hD.nq;omega
 have hld:s.due.length≤1000000:=by have:=hD.nd;omega
 have hbo2:outs.length≤1000000:=by omega
 have hnw:=hD.now
 have h8:=hD.few
 have hG:=zgS W x.a x.asks.A x.asks.c s.asks m.f0 hla hD.upa
 unfold zc1
 rcases hg:getA m.f0 s.asks with _|a
 ·rw[hg]at hG
  dsimp only
  unfold zae
  unfold zai
  refine zaf Tryz.func113 rfl rfl Tryz.results113 Tryz.ntmps113 rfl rfl ?_
  repeat' (first|apply zah|apply zaa|apply zak|apply zaj|apply zag|apply zac hT;iterate 4 exact rfl|apply zaC [78,148] [] hmix;decide+kernel|apply zaA;(iterate 5 exact rfl);intro g5|(apply zay hT;(iterate 5 exact rfl);first|(fail_if_success (have q:=g7));intro g7)|(apply zar hT;(iterate 6 exact rfl);exact sX;(iterate 3 exact rfl);exact nle rfl)|(apply zaS hT;(iterate 9 exact rfl);(iterate 2 omega))|(apply zab;(iterate 7 exact rfl);exact((hG.mono (zbp mX mX))))|(apply zad;(iterate 5 exact rfl);first|(apply zaq hT;exact rfl;exact rfl;exact mX;exact rfl;exact rfl))|(apply zas;iterate 2 exact rfl))
  all_goals first
   |(exfalso;omega)
   |(apply ret1;exact rfl;exact⟨zai g who id0 o outs (zae x s bks rows F),by(unfold zai zae;exact dX),zaZ.bad' (by decide) hf⟩)
   |skip
 ·rw[hg]at hG
  dsimp only
  have ham:=zbh hg
  have haO:=hD.as_ a ham.1
  obtain⟨⟨i0,i1⟩,⟨b0,b1⟩,_,⟨q0,q1⟩,⟨c0,c1⟩,⟨d0,d1⟩,⟨e0,e1⟩⟩:=haO
  by_cases hst:a.state≠2
  ·rw[if_pos hst]
   unfold zae
   unfold zai
   refine zaf Tryz.func113 rfl rfl Tryz.results113 Tryz.ntmps113 rfl rfl ?_
   repeat' (first|apply zah|apply zaa|apply zak|apply zaj|apply zag|apply zac hT;iterate 4 exact rfl|apply zaC [78,148] [] hmix;decide+kernel|apply zaA;(iterate 5 exact rfl);intro g5|(apply zay hT;(iterate 5 exact rfl);first|(fail_if_success (have q:=g7));intro g7)|(apply zar hT;(iterate 6 exact rfl);exact sX;(iterate 3 exact rfl);exact nle rfl)|(apply zaS hT;(iterate 9 exact rfl);(iterate 2 omega))|(apply zab;(iterate 7 exact rfl);exact((hG.mono (zbp mX mX))))|(apply zad;(iterate 5 exact rfl);first|(apply zaq hT;exact rfl;exact rfl;exact mX;exact rfl;exact rfl))|(apply zan;iterate 2 exact rfl)|(apply zal;exact rfl;all_goals(intro hb;(try dsimp only at hb);(try simp only[hb]);(first|replace hb:=zbc hb|replace hb:=zbd hb);(try omega))))
   all_goals first
    |(exfalso;omega)
    |(apply ret1;exact rfl;exact⟨zai g who id0 o outs (zae x s bks rows F),by(unfold zai zae;exact dX),zaZ.bad' (by decide) hf⟩)
    |skip
  ·rw[if_neg hst]
   have hQ:=(ziL W x.q x.quotes.A x.quotes.c s.quotes a.hit hlq hD.upq).cast (zpT (s:=s))
   obtain⟨⟨p0,p1⟩,dl0,dl1⟩:=zon hD a.hit
   have hTr:=zfD W F x s bks rows N hD hf a (qOf s a.hit) (hD.as_ a ham.1) p1
   generalize hqe:qOf s a.hit=q at*
   by_cases hdl:q.dealer≠who
   ·rw[if_pos hdl]
    unfold zae
    unfold zai
    refine zaf Tryz.func113 rfl rfl Tryz.results113 Tryz.ntmps113 rfl rfl ?_
    repeat' (first|apply zah|apply zaa|apply zak|apply zam|apply zaj|apply zag|apply zac hT;iterate 4 exact rfl|apply zaC [78,148] [] hmix;decide+kernel|apply zaA;(iterate 5 exact rfl);intro g5|(apply zay hT;(iterate 5 exact rfl);first|(fail_if_success (have q:=g7));intro g7|(fail_if_success (have q:=g9));intro g9)|(apply zar hT;(iterate 6 exact rfl);exact sX;(iterate 3 exact rfl);exact nle rfl)|(apply zaS hT;(iterate 9 exact rfl);(iterate 2 omega))|(apply zab;(iterate 7 exact rfl);exact((hG.mono (zbp mX mX))))|(apply zab;(iterate 7 exact rfl);exact((hQ.mono (zbp mX mX))))|(apply zad;(iterate 5 exact rfl);first|(apply zaq hT;exact rfl;exact rfl;exact mX;exact rfl;exact rfl))|(apply zan;iterate 2 exact rfl)|(apply zal;exact rfl;all_goals(intro hb;(try dsimp only at hb);(try simp only[hb]);(first|replace hb:=zbc hb|replace hb:=zbd hb);(try omega))))
    all_goals first
     |(exfalso;omega)
     |(apply ret1;exact rfl;exact⟨zai g who id0 o outs (zae x s bks rows F),by(unfold zai zae;exact dX),zaZ.bad' (by decide) hf⟩)
     |skip
   ·rw[if_neg hdl]
    have hdl:=Decidable.not_not.1 hdl
    by_cases hk15:m.kind=15
    ·rw[if_pos hk15]
     have hDr:=fun G=>zfp W G x.u x.due.A x.due.c s.due 2 a.id hld
     have hdl2:(zbg s.due 2 a.id).length≤1000000:=Nat.le_trans (zcH _ _ _) hld
     have hLE:=fun G A c=>zfB W G ({x with due:=⟨A,c⟩}:DAd) {s with due:=zbg s.due 2 a.id} bks rows g who a.id o outs a hD.upa hD.upq hla hlq hdl2 hbo2
     have hbk:(zaU false {s with due:=zbg s.due 2 a.id} a).1.books=s.books:=by unfold zaU;dsimp only;split<;>rfl
     have hps:(zaU false {s with due:=zbg s.due 2 a.id} a).1.pos=s.pos:=by unfold zaU;dsimp only;split<;>rfl
     generalize zaU false {s with due:=zbg s.due 2 a.id} a=r at*
     have hf2:zaY r.1 bks rows:=⟨by rw[hbk];exact hf.1,by rw[hps];exact hf.2⟩
     unfold zae
     unfold zai
     refine zaf Tryz.func113 rfl rfl Tryz.results113 Tryz.ntmps113 rfl rfl ?_
     repeat' (first|apply zah|apply zaa|apply zak|apply zam|apply zaj|apply zag|apply zac hT;iterate 4 exact rfl|apply zaC [78,148] [] hmix;decide+kernel|apply zaA;(iterate 5 exact rfl);intro g5|(apply zay hT;(iterate 5 exact rfl);first|(fail_if_success (have q:=g7));intro g7|(fail_if_success (have q:=g9));intro g9)|(apply zar hT;(iterate 6 exact rfl);exact sX;(iterate 3 exact rfl);exact nle rfl)|(apply zaS hT;(iterate 9 exact rfl);(iterate 2 omega))|(apply zab;(iterate 7 exact rfl);exact((hG.mono (zbp mX mX))))|(apply zab;(iterate 7 exact rfl);exact((hQ.mono (zbp mX mX))))|(apply zau;(iterate 7 exact rfl);exact((zax.perm (hDr _) pX));rintro _ _ ⟨rfl,A3,c3,rfl⟩)|(apply zau;(iterate 7 exact rfl);exact((zax.perm (hLE _ A3 c3) pX));rintro _ _ ⟨rfl,y,o2,rfl⟩)|(apply zad;(iterate 5 exact rfl);first|(apply zaq hT;exact rfl;exact rfl;exact mX;exact rfl;exact rfl)|(apply zaF hT;exact rfl;exact rfl;exact mX;exact rfl))|(apply zan;iterate 2 exact rfl)|(apply zal;exact rfl;all_goals(intro hb;(try dsimp only at hb);(try simp only[hb]);(first|replace hb:=odt hb|replace hb:=odf hb|replace hb:=zbc hb|replace hb:=zbd hb);(try omega))))
     all_goals first
      |(exfalso;omega)
      |(apply ret1;exact rfl;exact⟨zai g who a.id o2 (outs++r.2) (zae (y.at x.d) r.1 bks rows F),by(unfold zai zae;exact dX),zaZ.ok' hf2⟩)
      |skip
    ·rw[if_neg hk15]
     by_cases h2:zcF s a q≠0
     ·rw[if_pos h2]
      generalize zcF s a q=er at*
      unfold zae
      unfold zai
      refine zaf Tryz.func113 rfl rfl Tryz.results113 Tryz.ntmps113 rfl rfl ?_
      repeat' (first|apply zah|apply zaa|apply zak|apply zam|apply zaj|apply zag|apply zac hT;iterate 4 exact rfl|apply zaC [78,148] [] hmix;decide+kernel|apply zaA;(iterate 5 exact rfl);intro g5|(apply zay hT;(iterate 5 exact rfl);first|(fail_if_success (have q:=g7));intro g7|(fail_if_success (have q:=g9));intro g9)|(apply zar hT;(iterate 6 exact rfl);exact sX;(iterate 3 exact rfl);exact nle rfl)|(apply zaS hT;(iterate 9 exact rfl);(iterate 2 omega))|(apply zab;(iterate 7 exact rfl);exact((hG.mono (zbp mX mX))))|(apply zab;(iterate 7 exact rfl);exact((hQ.mono (zbp mX mX))))|(apply zab;(iterate 7 exact rfl);exact((hTr.mono kX)))|(apply zad;(iterate 5 exact rfl);first|(apply zaq hT;exact rfl;exact rfl;exact mX;exact rfl;exact rfl)|(apply zaF hT;exact rfl;exact rfl;exact mX;exact rfl))|(apply zan;iterate 2 exact rfl)|(apply zal;exact rfl;all_goals(intro hb;(try dsimp only at hb);(try simp only[hb]);(first|replace hb:=odt hb|replace hb:=odf hb|replace hb:=zbc hb|replace hb:=zbd hb);(try omega))))
      all_goals first
       |(exfalso;omega)
       |(apply ret1;exact rfl;exact⟨zai g who a.id o outs (zae x s bks rows F),by(unfold zai zae;exact dX),zaZ.bad' h2 hf⟩)
       |skip
     ·rw[if_neg h2]
      have h2:=Decidable.not_not.1 h2
      rw[h2]at hTr
      have hUse:=fun G=>zpQ W G x.f x.fparties.A x.fparties.c x.used.A x.used.c s.parties s.used q.dealer q.price a.qty hD.nus hD.us (by unfold inW;omega) (by unfold inW;omega)
      by_cases h3:zdb s.parties s.used q.dealer q.price a.qty≠0
      ·rw[if_pos h3]
       simp only[if_neg h3]at hUse
       generalize zdb s.parties s.used q.dealer q.price a.qty=er at*
       unfold zae
       unfold zai
       refine zaf Tryz.func113 rfl rfl Tryz.results113 Tryz.ntmps113 rfl rfl ?_
       repeat' (first|apply zah|apply zaa|apply zak|apply zam|apply zaj|apply zag|apply zac hT;iterate 4 exact rfl|apply zaC [78,148] [] hmix;decide+kernel|apply zaA;(iterate 5 exact rfl);intro g5|(apply zay hT;(iterate 5 exact rfl);first|(fail_if_success (have q:=g7));intro g7|(fail_if_success (have q:=g9));intro g9)|(apply zar hT;(iterate 6 exact rfl);exact sX;(iterate 3 exact rfl);exact nle rfl)|(apply zaS hT;(iterate 9 exact rfl);(iterate 2 omega))|(apply zab;(iterate 7 exact rfl);exact((hG.mono (zbp mX mX))))|(apply zab;(iterate 7 exact rfl);exact((hQ.mono (zbp mX mX))))|(apply zab;(iterate 7 exact rfl);exact((hTr.mono kX)))|(apply zau;(iterate 7 exact rfl);exact((zax.perm (hUse _) pX));rintro _ _ ⟨rfl,rfl⟩)|(apply zad;(iterate 5 exact rfl);first|(apply zaq hT;exact rfl;exact rfl;exact mX;exact rfl;exact rfl)|(apply zaF hT;exact rfl;exact rfl;exact mX;exact rfl))|(apply zan;iterate 2 exact rfl)|(apply zal;exact rfl;all_goals(intro hb;(try dsimp only at hb);(try simp only[hb]);(first|replace hb:=odt hb|replace hb:=odf hb|replace hb:=zbc hb|replace hb:=zbd hb);(try omega))))
       all_goals first
        |(exfalso;omega)
        |(apply ret1;exact rfl;exact⟨zai g who a.id o outs (zae x s bks rows F),by(unfold zai zae;exact dX),zaZ.bad' h3 hf⟩)
        |skip
      ·rw[if_neg h3]
       have h3:=Decidable.not_not.1 h3
       simp only[h3,if_true]at hUse
       obtain⟨_,_,_,hu4⟩:=zkL h3
       have hu5:=znS hD.us q.dealer
       have hprod:0≤q.price*a.qty:=Int.mul_nonneg (by omega) (by omega)
       generalize hue:s.used.set q.dealer.toNat (zdY s.used q.dealer+q.price*a.qty)=us at*
       have hD1:DOK N (zc8 {s with used:=us,asks:=endA a.id 3 s.asks} a.id):=by
        rw[←hue]
        exact((hD.usedSet (i:=q.dealer.toNat) (n:=zdY s.used q.dealer+q.price*a.qty) ⟨by omega,by omega⟩).asks (zfW hD.upa) (fun y hy=>zdP hy)).clear a.id
       have hE:=fun G=>znD W G x.a x.asks.A x.asks.c s.asks a.id 3 hla hD.upa
       have hC:=fun G=>zic W G x {s with used:=us,asks:=endA a.id 3 s.asks} bks rows a.id hlq hld
       have hf1:zaY (zc8 {s with used:=us,asks:=endA a.id 3 s.asks} a.id) bks rows:=hf
       have hnow1:(zc8 {s with used:=us,asks:=endA a.id 3 s.asks} a.id).now=s.now:=rfl
       generalize zc8 {s with used:=us,asks:=endA a.id 3 s.asks} a.id=d1 at*
       have hnt:d1.trades.length≤900000:=by have:=hD1.nt;omega
       have hnk:=hD.ask
       have hTd:=fun G (y:DAd) o2=>zhg W G (y.at x.d) d1 bks rows g who a.id o2 (outs++[outM a.client 26 [a.id,q.price]]) a.side a.client q.dealer a.bond q.price a.qty a.id _ _ hf1 hD1.psok hD1.head hnt (zfE hnt (by unfold inW;omega) (by unfold inW;omega) (by unfold inW;omega) (by unfold inW;omega) (by unfold inW;omega) (by unfold inW;omega) (by rw[hnow1];unfold inW;omega)) (by rw[lla];show outs.length+1≤1000000;omega)
       generalize ht1:zbr d1 a.side a.client q.dealer a.bond q.price a.qty a.id=t1 at*
       rw[show outM a.client 26 [a.id,q.price]::zdE t1=[outM a.client 26 [a.id,q.price]]++zdE t1 from rfl]
       unfold zae
       unfold zai
       refine zaf Tryz.func113 rfl rfl Tryz.results113 Tryz.ntmps113 rfl rfl ?_
       repeat' (first|apply zah|apply zaa|apply zak|apply zam|apply zaj|apply zag|apply zac hT;iterate 4 exact rfl|apply zaC [78,148] [] hmix;decide+kernel|apply zaA;(iterate 5 exact rfl);intro g5|(apply zay hT;(iterate 5 exact rfl);first|(fail_if_success (have q:=g7));intro g7|(fail_if_success (have q:=g9));intro g9)|(apply zar hT;(iterate 6 exact rfl);exact sX;(iterate 3 exact rfl);exact nle rfl)|(apply zaS hT;(iterate 9 exact rfl);(iterate 2 omega))|(apply zab;(iterate 7 exact rfl);exact((hG.mono (zbp mX mX))))|(apply zab;(iterate 7 exact rfl);exact((hQ.mono (zbp mX mX))))|(apply zab;(iterate 7 exact rfl);exact((hTr.mono kX)))|(apply zau;(iterate 7 exact rfl);exact((zax.perm (hUse _) pX));rintro _ _ ⟨rfl,rfl⟩)|(apply zau;(iterate 7 exact rfl);exact((zax.perm (hE _) pX));rintro _ _ ⟨rfl,rfl⟩)|(apply zau;(iterate 7 exact rfl);exact((zax.perm (hC _) pX));rintro _ _ ⟨rfl,y,rfl⟩)|(apply zaB (cs:=[.int .i64 a.id,.int .i64 q.price]) hT;(iterate 12 exact rfl);intro g106)|(apply zau;(iterate 7 exact rfl);exact((zbY W _ g who a.id o outs _ (some ⟨g106,0,none⟩) 2 a.client 26 [a.id,q.price] pX mX (Nat.le_of_ble_eq_true rfl) hbo2));rintro _ _ ⟨rfl,o2,rfl⟩)|(apply zaE hT (cs:=zaL.enc ⟨0,a.bond,0,0,q.price,a.qty,a.id,0⟩);iterate 4 exact rfl)|(apply zau;(iterate 7 exact rfl);exact((zax.perm (hTd _ y o2) pX));rintro _ _ ⟨rfl,y2,o3,rows3,rfl,hf3⟩)|(apply zad;(iterate 5 exact rfl);first|(apply zaq hT;exact rfl;exact rfl;exact mX;exact rfl;exact rfl)|(apply zaF hT;exact rfl;exact rfl;exact mX;exact rfl))|(apply zan;iterate 2 exact rfl)|(apply zal;exact rfl;all_goals(intro hb;(try dsimp only at hb);(try simp only[hb]);(first|replace hb:=odt hb|replace hb:=odf hb|replace hb:=zbc hb|replace hb:=zbd hb);(try omega))))
       all_goals first
        |(exfalso;omega)
        |(apply ret1;exact rfl;exact⟨zai g who a.id o3 (outs++([outM a.client 26 [a.id,q.price]]++zdE t1)) (zae (y2.at x.d) (zcY d1 t1) bks rows3 F),by(rw[←List.append_assoc];unfold zai zae;exact dA),zaZ.ok' hf3⟩)
        |skip
def zem (d:Dk)(dealers id f0 f1 f2 ends:Int)(k:Nat):List OutR:=(List.range k).filterMap fun(i:Nat)=>if zgJ dealers i then some (outM i 22 [id,f0,f1,f2,ends])else none
theorem zhh {d:Dk}{dealers id f0 f1 f2 ends:Int}{k:Nat}:zem d dealers id f0 f1 f2 ends (k+1)=zem d dealers id f0 f1 f2 ends k++(if zgJ dealers k then [outM k 22 [id,f0,f1,f2,ends]]else []):=by
 unfold zem
 rw[List.range_succ,List.filterMap_append]
 congr 1
 simp only[List.filterMap_cons,List.filterMap_nil]
 split
 ·rename_i h;split at h
  ·cases h
  ·rename_i h2;rw[if_neg h2]
 ·rename_i h;split at h
  ·rename_i h2;cases h;rw[if_pos h2]
  ·cases h
theorem zie {d:Dk}{dealers id f0 f1 f2 ends:Int}:∀k,(zem d dealers id f0 f1 f2 ends k).length≤k
 |0=>by simp[zem]
 |k+1=>by
  rw[zhh,lla]
  have:=zie (d:=d) (dealers:=dealers) (id:=id) (f0:=f0) (f1:=f1) (f2:=f2) (ends:=ends) k
  split<;>simp<;>omega
theorem zjY (W:World)(F:List zao)(x:DAd)(s:Dk)(bks:List BAd)(rows:List PRow)(N:Nat)(hD:DOK N s)(hN:N≤10000)(hf:zaY s bks rows)(g:Nat)(who id0:Int)(o:Sp)(outs:List OutR)(m:MsgR)(hk:m.kind=9)(hmw:MsgW m)(hbo:outs.length≤900000):
 zax Tryz.prog W 115 [ptrV x.d,ptrV g,.agg m.enc.toArray] (zai g who id0 o outs (zae x s bks rows F)) (zaZ x g who outs F (askD s who m)):=by
 refine zax.dropTo ?_
 have hla:s.asks.length≤1000000:=by have:=hD.na;omega
 have hld:s.due.length≤1000000:=by have:=hD.nd;omega
 have hnw:=hD.now
 have hnk:=hD.ask
 have h8:=hD.few
 have hI:=zel W x s m.f0
 have hS:=zdx W m.f1
 have hcv:IntKind.wrap .u64 m.f3=m.f3%18446744073709551616:=rfl
 unfold askD
 dsimp only
 cases hn:zcE s m.f0
 ·rw[hn]at hI
  rw[if_pos rfl]
  refine zaf Tryz.func115 rfl rfl Tryz.results115 Tryz.ntmps115 rfl rfl ?_
  unfold zae
  unfold zai
  repeat' (first|apply zah|apply zaa|apply zak|apply zaj|apply zag|apply zac hT;iterate 4 exact rfl|apply zaC [] [] hmix;decide+kernel|apply zaA;(iterate 5 exact rfl);intro g5|apply zaS hT;(iterate 9 exact rfl);(iterate 2 omega)|apply zcQ hT;(iterate 4 exact rfl);rw[hcv]|(apply zab;(iterate 7 exact rfl);exact(hI.mono (zdr mX)))|(apply zad;(iterate 5 exact rfl);first|(apply zaq hT;exact rfl;exact rfl;exact mX;exact rfl;exact rfl))|apply zas;iterate 2 exact rfl)
  all_goals first
   |(exfalso;omega)
   |(apply ret1;exact rfl;exact⟨zai g who id0 o outs (zae x s bks rows F),by(unfold zai zae;exact dX),zaZ.bad' (by decide) hf⟩)
   |skip
 ·rw[hn]at hI
  rw[if_neg (by decide)]
  cases hs:isB m.f1
  ·rw[hs]at hS
   rw[if_pos rfl]
   refine zaf Tryz.func115 rfl rfl Tryz.results115 Tryz.ntmps115 rfl rfl ?_
   unfold zae
   unfold zai
   repeat' (first|apply zah|apply zaa|apply zak|apply zaj|apply zag|apply zac hT;iterate 4 exact rfl|apply zaC [] [] hmix;decide+kernel|apply zaA;(iterate 5 exact rfl);intro g5|apply zaS hT;(iterate 9 exact rfl);(iterate 2 omega)|apply zcQ hT;(iterate 4 exact rfl);rw[hcv]|(apply zab;(iterate 7 exact rfl);exact(hI.mono (zdr mX)))|(apply zab;(iterate 7 exact rfl);exact(hS.mono (by simp)))|(apply zad;(iterate 5 exact rfl);first|(apply zaq hT;exact rfl;exact rfl;exact mX;exact rfl;exact rfl))|apply zas;iterate 2 exact rfl|apply zan;iterate 2 exact rfl)
   all_goals first
    |(exfalso;omega)
    |(apply ret1;exact rfl;exact⟨zai g who id0 o outs (zae x s bks rows F),by(unfold zai zae;exact dX),zaZ.bad' (by decide) hf⟩)
    |skip
  ·rw[hs]at hS
   rw[if_neg (by decide)]
   obtain⟨⟨n0,n1⟩,hbn,hbm⟩:=zdn hD.nbk hn
   have hbl:=(gsi.1 hbn).1
   have hbI:=(zbO hD.rules).2.2.2.1 _ hbm
   have hrb:zaz W (zai g who id0 o outs (zae x s bks rows F)) x.bonds.A s.bonds.length 7 (s.bonds.flatMap zaP.enc):=zaz.enc (c:=x.bonds.c) zaP.enc_len zaP.enc_one (by unfold zai zae;exact mX) rfl
   have hQt:=ziY W (zbv s m.f0) m.f2 hbI
   have hWn:=zfz W m.f4
   have hRc:=zmo W x.f x.fparties.A x.fparties.c (x.used.sl s.parties.length) s.parties who (m.f3%18446744073709551616)
   generalize hbb:zbv s m.f0=b at*
   cases hh:b.halted
   ·have hhal:(zaP.enc b)[6]? =some (.bool false):=by rw[←hh];rfl
    rw[if_neg (by decide)]
    by_cases hq:qtyE b m.f2≠0
    ·rw[if_pos hq]
     generalize qtyE b m.f2=er at*
     refine zaf Tryz.func115 rfl rfl Tryz.results115 Tryz.ntmps115 rfl rfl ?_
     refine zaI hrb rfl (fun hAi=> ?_);have hA:=hAi (by omega)
     unfold zae
     unfold zai
     repeat' (first|apply zah|apply zaa|apply zak|apply zam|apply zaj|apply zag|apply zac hT;iterate 4 exact rfl|apply zaC [] [] hmix;decide+kernel|apply zaA;(iterate 5 exact rfl);intro g5|apply zaS hT;(iterate 9 exact rfl);(iterate 2 omega)|apply zcQ hT;(iterate 4 exact rfl);rw[hcv]|(apply zab;(iterate 7 exact rfl);exact(hI.mono (zdr mX)))|(apply zab;(iterate 7 exact rfl);exact(hS.mono (by simp)))|apply zaJ hT;(iterate 8 exact rfl);(iterate 2 omega);exact hA|(apply zad;(iterate 5 exact rfl);first|exact zbx hT rfl rfl (hrb.mono kX) zaP.enc_len (za4 _ _ _) hbn (by decide) hhal|exact zaO hT rfl rfl (hrb.mono kX) zaP.enc_len rfl hbn rfl)|(apply zab;(iterate 7 exact rfl);exact(hQt.mono (by simp)))|(apply zad;(iterate 5 exact rfl);first|(apply zaq hT;exact rfl;exact rfl;exact mX;exact rfl;exact rfl))|apply zan;iterate 2 exact rfl|(apply zal;exact rfl;all_goals(intro hb;(try dsimp only at hb);(try simp only[hb]);(first|replace hb:=zbc hb|replace hb:=zbd hb);(try omega))))
     all_goals first
      |(exfalso;omega)
      |(apply ret1;exact rfl;exact⟨zai g who id0 o outs (zae x s bks rows F),by(unfold zai zae;exact dX),zaZ.bad' hq hf⟩)
      |skip
    ·rw[if_neg hq]
     have hq:=Decidable.not_not.1 hq
     rw[hq]at hQt
     by_cases hr:zf9 s.parties who (m.f3%18446744073709551616)≠0
     ·rw[if_pos hr]
      generalize zf9 s.parties who (m.f3%18446744073709551616)=er at*
      refine zaf Tryz.func115 rfl rfl Tryz.results115 Tryz.ntmps115 rfl rfl ?_
      refine zaI hrb rfl (fun hAi=> ?_);have hA:=hAi (by omega)
      unfold zae
      unfold zai
      repeat' (first|apply zah|apply zaa|apply zak|apply zam|apply zaj|apply zag|apply zac hT;iterate 4 exact rfl|apply zaC [] [] hmix;decide+kernel|apply zaA;(iterate 5 exact rfl);intro g5|apply zaS hT;(iterate 9 exact rfl);(iterate 2 omega)|apply zcQ hT;(iterate 4 exact rfl);rw[hcv]|(apply zab;(iterate 7 exact rfl);exact(hI.mono (zdr mX)))|(apply zab;(iterate 7 exact rfl);exact(hS.mono (by simp)))|apply zaJ hT;(iterate 8 exact rfl);(iterate 2 omega);exact hA|(apply zad;(iterate 5 exact rfl);first|exact zbx hT rfl rfl (hrb.mono kX) zaP.enc_len (za4 _ _ _) hbn (by decide) hhal|exact zaO hT rfl rfl (hrb.mono kX) zaP.enc_len rfl hbn rfl)|(apply zab;(iterate 7 exact rfl);exact(hQt.mono (by simp)))|(apply zab;(iterate 7 exact rfl);exact(hRc.mono (zbp mX mX)))|(apply zad;(iterate 5 exact rfl);first|(apply zaq hT;exact rfl;exact rfl;exact mX;exact rfl;exact rfl))|apply zan;iterate 2 exact rfl|(apply zal;exact rfl;all_goals(intro hb;(try dsimp only at hb);(try simp only[hb]);(first|replace hb:=zbc hb|replace hb:=zbd hb);(try omega))))
      all_goals first
       |(exfalso;omega)
       |(apply ret1;exact rfl;exact⟨zai g who id0 o outs (zae x s bks rows F),by(unfold zai zae;exact dX),zaZ.bad' hr hf⟩)
       |skip
     ·rw[if_neg hr]
      have hr:=Decidable.not_not.1 hr
      rw[hr]at hRc
      cases hw:zeV m.f4
      ·rw[hw]at hWn
       rw[if_pos rfl]
       refine zaf Tryz.func115 rfl rfl Tryz.results115 Tryz.ntmps115 rfl rfl ?_
       refine zaI hrb rfl (fun hAi=> ?_);have hA:=hAi (by omega)
       unfold zae
       unfold zai
       repeat' (first|apply zah|apply zaa|apply zak|apply zam|apply zaj|apply zag|apply zac hT;iterate 4 exact rfl|apply zaC [] [] hmix;decide+kernel|apply zaA;(iterate 5 exact rfl);intro g5|apply zaS hT;(iterate 9 exact rfl);(iterate 2 omega)|apply zcQ hT;(iterate 4 exact rfl);rw[hcv]|(apply zab;(iterate 7 exact rfl);exact(hI.mono (zdr mX)))|(apply zab;(iterate 7 exact rfl);exact(hS.mono (by simp)))|apply zaJ hT;(iterate 8 exact rfl);(iterate 2 omega);exact hA|(apply zad;(iterate 5 exact rfl);first|exact zbx hT rfl rfl (hrb.mono kX) zaP.enc_len (za4 _ _ _) hbn (by decide) hhal|exact zaO hT rfl rfl (hrb.mono kX) zaP.enc_len rfl hbn rfl)|(apply zab;(iterate 7 exact rfl);exact(hQt.mono (by simp)))|(apply zab;(iterate 7 exact rfl);exact(hRc.mono (zbp mX mX)))|(apply zab;(iterate 7 exact rfl);exact(hWn.mono (by simp)))|(apply zad;(iterate 5 exact rfl);first|(apply zaq hT;exact rfl;exact rfl;exact mX;exact rfl;exact rfl))|apply zas;iterate 2 exact rfl|apply zan;iterate 2 exact rfl)
       all_goals first
        |(exfalso;omega)
        |(apply ret1;exact rfl;exact⟨zai g who id0 o outs (zae x s bks rows F),by(unfold zai zae;exact dX),zaZ.bad' (by decide) hf⟩)
        |skip
      ·rw[hw]at hWn
       rw[if_neg (by decide)]
       have hwin:1≤m.f4∧m.f4≤1000:=zck hw
       have hAk:=fun G=>zqO W G x.a x.asks.A x.asks.c s.asks ⟨s.ask+1,who,m.f0,m.f1,m.f2,m.f3%18446744073709551616,s.now+m.f4,0,1,0⟩ hla hD.upa
       have hDu:=fun G=>zkA W G x.u x.due.A x.due.c s.due ⟨s.now+m.f4,1,s.ask+1⟩ hld hD.row.mono
       have hdm:0≤m.f3%18446744073709551616∧m.f3%18446744073709551616≤18446744073709551615:=by omega
       generalize hdl:m.f3%18446744073709551616=dl at*
       by_cases he:addE ⟨s.ask+1,who,m.f0,m.f1,m.f2,dl,s.now+m.f4,0,1,0⟩ s.asks≠0
       ·rw[if_pos he]
        have hsame:addA ⟨s.ask+1,who,m.f0,m.f1,m.f2,dl,s.now+m.f4,0,1,0⟩ s.asks=s.asks:=by unfold addA;rw[if_neg he]
        rw[hsame]at hAk
        generalize addE ⟨s.ask+1,who,m.f0,m.f1,m.f2,dl,s.now+m.f4,0,1,0⟩ s.asks=er at*
        subst hdl
        refine zaf Tryz.func115 rfl rfl Tryz.results115 Tryz.ntmps115 rfl rfl ?_
        refine zaI hrb rfl (fun hAi=> ?_);have hA:=hAi (by omega)
        unfold zae
        unfold zai
        repeat' (first|apply zah|apply zaa|apply zak|apply zam|apply zaj|apply zag|apply zac hT;iterate 4 exact rfl|(apply zaM hT;(iterate 4 exact rfl);(iterate 2 (first|omega)))|apply zaC [] [] hmix;decide+kernel|apply zaA;(iterate 5 exact rfl);intro g5|(apply zay hT;(iterate 5 exact rfl);first|(fail_if_success (have q:=g14));intro g14)|(apply zar hT;(iterate 6 exact rfl);exact sX;(iterate 3 exact rfl);exact nle rfl)|(apply zaS hT;(iterate 9 exact rfl);(iterate 2 omega))|(apply zcQ hT;(iterate 4 exact rfl);rw[hcv])|(apply zab;(iterate 7 exact rfl);exact(hI.mono (zdr mX)))|(apply zab;(iterate 7 exact rfl);exact(hS.mono (by simp)))|(apply zaJ hT;(iterate 8 exact rfl);(iterate 2 omega);exact hA)|(apply zad;(iterate 5 exact rfl);first|exact zbx hT rfl rfl (hrb.mono kX) zaP.enc_len (za4 _ _ _) hbn (by decide) hhal|exact zaO hT rfl rfl (hrb.mono kX) zaP.enc_len rfl hbn rfl)|(apply zab;(iterate 7 exact rfl);exact(hQt.mono (by simp)))|(apply zab;(iterate 7 exact rfl);exact(hRc.mono (zbp mX mX)))|(apply zab;(iterate 7 exact rfl);exact(hWn.mono (by simp)))|(apply zaE hT (cs:=AskR.enc ⟨s.ask+1,who,m.f0,m.f1,m.f2,m.f3%18446744073709551616,s.now+m.f4,0,1,0⟩);iterate 4 exact rfl)|(apply zau;(iterate 7 exact rfl);exact(zax.perm (hAk _) pX);rintro _ _ ⟨rfl,A3,c3,rfl⟩)|(apply zad;(iterate 5 exact rfl);first|(apply zaq hT;exact rfl;exact rfl;exact mX;exact rfl;exact rfl)|(apply zaF hT;exact rfl;exact rfl;exact mX;exact rfl))|(apply zan;iterate 2 exact rfl)|(apply zal;exact rfl;all_goals(intro hb;(try dsimp only at hb);(try simp only[hb]);(first|replace hb:=zbc hb|replace hb:=zbd hb);(try omega))))
        all_goals first
         |(exfalso;omega)
         |(apply ret1;exact rfl;exact⟨zai g who id0 o outs (zae ({x with asks:=⟨A3,c3⟩}:DAd) s bks rows F),by(unfold zai zae;exact dX),⟨rfl,{x with asks:=⟨A3,c3⟩},o,bks,rows,id0,outs,rfl,hf,fun h=>absurd h (by simpa [bad]using he)⟩⟩)
         |skip
       ·rw[if_neg he]
        have he:=Decidable.not_not.1 he
        rw[he]at hAk
        generalize has:addA ⟨s.ask+1,who,m.f0,m.f1,m.f2,dl,s.now+m.f4,0,1,0⟩ s.asks=as' at*
        generalize hds:addD s.due ⟨s.now+m.f4,1,s.ask+1⟩=ds at*
        subst hdl
        refine zaf Tryz.func115 rfl rfl Tryz.results115 Tryz.ntmps115 rfl rfl ?_
        refine zaI hrb rfl (fun hAi=> ?_);have hA:=hAi (by omega)
        unfold zae
        unfold zai
        repeat' (first|apply zah|apply zaa|apply zam|apply zaj|apply zag|apply zac hT;iterate 4 exact rfl|(apply zaM hT;(iterate 4 exact rfl);(iterate 2 (first|omega)))|apply zaC [] [] hmix;decide+kernel|apply zaA;(iterate 5 exact rfl);intro g5|(apply zay hT;(iterate 5 exact rfl);first|(fail_if_success (have q:=g14));intro g14)|(apply zar hT;(iterate 6 exact rfl);exact sX;(iterate 3 exact rfl);exact nle rfl)|(apply zaS hT;(iterate 9 exact rfl);(iterate 2 omega))|(apply zcQ hT;(iterate 4 exact rfl);rw[hcv])|(apply zab;(iterate 7 exact rfl);exact(hI.mono (zdr mX)))|(apply zab;(iterate 7 exact rfl);exact(hS.mono (by simp)))|(apply zaJ hT;(iterate 8 exact rfl);(iterate 2 omega);exact hA)|(apply zad;(iterate 5 exact rfl);first|exact zbx hT rfl rfl (hrb.mono kX) zaP.enc_len (za4 _ _ _) hbn (by decide) hhal|exact zaO hT rfl rfl (hrb.mono kX) zaP.enc_len rfl hbn rfl)|(apply zab;(iterate 7 exact rfl);exact(hQt.mono (by simp)))|(apply zab;(iterate 7 exact rfl);exact(hRc.mono (zbp mX mX)))|(apply zab;(iterate 7 exact rfl);exact(hWn.mono (by simp)))|(apply zaE hT (cs:=AskR.enc ⟨s.ask+1,who,m.f0,m.f1,m.f2,m.f3%18446744073709551616,s.now+m.f4,0,1,0⟩);iterate 4 exact rfl)|(apply zaE hT (cs:=Due.enc ⟨s.now+m.f4,1,s.ask+1⟩);iterate 4 exact rfl)|(apply zau;(iterate 7 exact rfl);exact(zax.perm (hAk _) pX);rintro _ _ ⟨rfl,A3,c3,rfl⟩)|(apply zau;(iterate 7 exact rfl);exact(zax.perm (hDu _) pX);rintro _ _ ⟨rfl,A4,c4,rfl⟩)|(apply zad;(iterate 5 exact rfl);first|(apply zaq hT;exact rfl;exact rfl;exact mX;exact rfl;exact rfl)|(apply zaF hT;exact rfl;exact rfl;exact mX;exact rfl))|(apply zan;iterate 2 exact rfl))
        all_goals try omega
        all_goals
         generalize hdl:m.f3%18446744073709551616=dl at*
         show AW _ _ _ _ _ _ _
         refine za1 (α:=Nat×Sp) (E:=fun z=>[(1,ptrV g),(7,.int .i64 m.f0),(8,.int .i64 m.f1),(9,.int .i64 m.f2),(10,.int .u64 dl),(14,.pointer (some ⟨g14,0,none⟩)),(139,.int .i64 s.parties.length),(140,.int .i64 z.1)])
          (H:=fun z=>.blk g14 87 (AskR.enc ⟨s.ask+1,who,m.f0,m.f1,m.f2,dl,s.now+m.f4,0,1,0⟩)::zai g who (s.ask+1) z.2 (outs++zem s dl (s.ask+1) m.f0 m.f1 m.f2 (s.now+m.f4) z.1) (zae ({x with asks:=⟨A3,c3⟩,due:=⟨A4,c4⟩}:DAd) {s with asks:=as',ask:=s.ask+1,due:=ds} bks rows F)) (μ:=fun z=>s.parties.length - z.1)
          (S:=fun z=>z.1≤s.parties.length) (0,o) (Nat.zero_le _) ⟨rfl,rfl,rfl,rfl,rfl,rfl,rfl,rfl,trivial⟩ ?_ ?_
         ·dsimp only
          rw[show outs++zem s dl (s.ask+1) m.f0 m.f1 m.f2 (s.now+m.f4) 0=outs from List.append_nil _]
          unfold zai zae
          exact dX
         ·rintro⟨k,o2⟩ hkk
          dsimp only at hkk ⊢
          have hlen:=zie (d:=s) (dealers:=dl) (id:=s.ask+1) (f0:=m.f0) (f1:=m.f1) (f2:=m.f2) (ends:=s.now+m.f4) k
          have hbok:(outs++zem s dl (s.ask+1) m.f0 m.f1 m.f2 (s.now+m.f4) k).length≤1000000:=by rw[lla];omega
          have hstep:=zhh (d:=s) (dealers:=dl) (id:=s.ask+1) (f0:=m.f0) (f1:=m.f1) (f2:=m.f2) (ends:=s.now+m.f4) (k:=k)
          by_cases hlt:k<s.parties.length
          ·have hd1:decide ((k:Int)<(s.parties.length:Int))=true:=by simp;omega
           have hbit0:=zgr (x:=dl) (i:=(k:Int)) hdm.1 hdm.2 (by omega)
           cases hb64:zgJ dl k
           ·rw[hb64,if_neg (by decide),List.append_nil]at hstep
            rw[hb64]at hbit0
            have hbit:bitI .and .u64 (Int.fdiv dl (2^(min (k:Int).toNat (IntKind.bits .u64)))) 1=0:=hbit0
            unfold zai zae
            repeat' (first|apply zah|apply zaa|apply zam|apply zaj|apply zag|apply zac hT;iterate 4 exact rfl|(apply zaM hT;(iterate 4 exact rfl);(iterate 2 (first|omega)))|apply zdg;(iterate 5 exact rfl);omega|apply zcr;(iterate 6 exact rfl);rw[hbit]|apply zan;iterate 2 exact rfl|(apply zal;exact rfl;all_goals(intro hb;(try dsimp only at hb);(try simp only[hb]);(first|replace hb:=odt hb|replace hb:=odf hb);(try omega))))
            all_goals first
             |(exfalso;omega)
             |exact zaD (k+1,o2) (by(try dsimp only);omega) (by(try dsimp only);omega) ⟨rfl,rfl,rfl,rfl,rfl,rfl,rfl,rfl,trivial⟩ (by dsimp only;rw[hstep];exact dX)
             |skip
           ·rw[hb64,if_pos rfl]at hstep
            rw[hb64]at hbit0
            have hbit:bitI .and .u64 (Int.fdiv dl (2^(min (k:Int).toNat (IntKind.bits .u64)))) 1=1:=hbit0
            generalize zem s dl (s.ask+1) m.f0 m.f1 m.f2 (s.now+m.f4) k=l1 at*
            generalize hl2:zem s dl (s.ask+1) m.f0 m.f1 m.f2 (s.now+m.f4) (k+1)=l2 at*
            have hst2:outs++l2=outs++l1++[outM k 22 [s.ask+1,m.f0,m.f1,m.f2,s.now+m.f4]]:=by rw[hstep,List.append_assoc]
            unfold zai zae
            repeat' (first|apply zah|apply zaa|apply zam|apply zaj|apply zag|apply zac hT;iterate 4 exact rfl|(apply zaM hT;(iterate 4 exact rfl);(iterate 2 (first|omega)))|apply zdg;(iterate 5 exact rfl);omega|apply zcr;(iterate 6 exact rfl);rw[hbit]|apply zaB (cs:=[.int .i64 (s.ask+1),.int .i64 m.f0,.int .i64 m.f1,.int .i64 m.f2,.int .i64 (s.now+m.f4)]) hT;(iterate 12 exact rfl);intro g157|(apply zau;(iterate 7 exact rfl);exact(zbY W _ g who (s.ask+1) o2 (outs++l1) _ (some ⟨g157,0,none⟩) 5 k 22 [s.ask+1,m.f0,m.f1,m.f2,s.now+m.f4] pX mX (Nat.le_of_ble_eq_true rfl) hbok);rintro _ _ ⟨rfl,o3,rfl⟩)|(apply zad;(iterate 5 exact rfl);first|(apply zaq hT;exact rfl;exact rfl;exact mX;exact rfl;exact rfl))|apply zas;iterate 2 exact rfl|(apply zal;exact rfl;all_goals(intro hb;(try dsimp only at hb);(try simp only[hb]);(first|replace hb:=odt hb|replace hb:=odf hb);(try omega))))
            all_goals first
             |(exfalso;omega)
             |exact zaD (k+1,o3) (by(try dsimp only);omega) (by(try dsimp only);omega) ⟨rfl,rfl,rfl,rfl,rfl,rfl,rfl,rfl,trivial⟩ (by dsimp only;rw[hl2,hst2];exact dX)
             |skip
          ·obtain rfl:k=s.parties.length:=by omega
           have hd1:decide ((s.parties.length:Int)<(s.parties.length:Int))=false:=by simp
           generalize hl1:zem s dl (s.ask+1) m.f0 m.f1 m.f2 (s.now+m.f4) s.parties.length=l1 at*
           unfold zai zae
           repeat' (first|apply zah|apply zaa|apply zak|apply zaN|apply zag|apply zac hT;iterate 4 exact rfl|(apply zal;exact rfl;all_goals(intro hb;(try dsimp only at hb);(try simp only[hb]);(first|replace hb:=odt hb|replace hb:=odf hb);(try omega))))
           all_goals first
            |(exfalso;omega)
            |(apply ret1;exact rfl;exact⟨zai g who (s.ask+1) o2 (outs++l1) (zae (({x with asks:=⟨A3,c3⟩,due:=⟨A4,c4⟩}:DAd).at x.d) {s with asks:=as',ask:=s.ask+1,due:=ds} bks rows F),by(unfold zai zae;exact dX),by(rw[←hl1];exact zaZ.ok' hf)⟩)
            |skip
   ·have hhal:(zaP.enc b)[6]? =some (.bool true):=by rw[←hh];rfl
    rw[if_pos rfl]
    refine zaf Tryz.func115 rfl rfl Tryz.results115 Tryz.ntmps115 rfl rfl ?_
    refine zaI hrb rfl (fun hAi=> ?_);have hA:=hAi (by omega)
    unfold zae
    unfold zai
    repeat' (first|apply zah|apply zaa|apply zak|apply zaj|apply zag|apply zac hT;iterate 4 exact rfl|apply zaC [] [] hmix;decide+kernel|apply zaA;(iterate 5 exact rfl);intro g5|apply zaS hT;(iterate 9 exact rfl);(iterate 2 omega)|apply zcQ hT;(iterate 4 exact rfl);rw[hcv]|(apply zab;(iterate 7 exact rfl);exact(hI.mono (zdr mX)))|(apply zab;(iterate 7 exact rfl);exact(hS.mono (by simp)))|apply zaJ hT;(iterate 8 exact rfl);(iterate 2 omega);exact hA|(apply zad;(iterate 5 exact rfl);first|exact zbx hT rfl rfl (hrb.mono kX) zaP.enc_len (za4 _ _ _) hbn (by decide) hhal)|(apply zad;(iterate 5 exact rfl);first|(apply zaq hT;exact rfl;exact rfl;exact mX;exact rfl;exact rfl))|apply zas;iterate 2 exact rfl|apply zan;iterate 2 exact rfl)
    all_goals first
     |(exfalso;omega)
     |(apply ret1;exact rfl;exact⟨zai g who id0 o outs (zae x s bks rows F),by(unfold zai zae;exact dX),zaZ.bad' (by decide) hf⟩)
     |skip
end Go.Proofs.YteocfhdocpeokaaGreat
namespace Go.Proofs.YteocfhdocpeokaaGreat
open Go Go.Sl
/-! ### rows of what is due -/
theorem zcN {l:List Due}{kind id:Int}{x:Due}(hx:x∈l)(hn:¬(x.kind=kind∧x.id=id)):x∈zbg l kind id:=by
 unfold zbg
 split
 ·exact hx
 ·rename_i hi
  obtain⟨j,hj⟩:=List.getElem?_of_mem hx
  obtain⟨i,hie⟩:=Int.eq_ofNat_of_zero_le (show 0≤zaT (hasD kind id) l by omega)
  obtain⟨y,hy,hp⟩:=zg0 hie
  rw[hie,Int.toNat_natCast,List.mem_eraseIdx_iff_getElem?]
  refine⟨j,?_,hj⟩
  rintro rfl
  rw[hj]at hy
  cases hy
  exact hn (zgo.1 hp)
theorem zez {l:List Due}{kind id:Int}{x:Due}(hx:x∈zbg l kind id):x∈l:=zcm.subset hx
theorem ze4 :∀(qs:List zat) {l:List Due} {x:Due},x∈l→x.kind≠3→x∈qs.foldl (fun l q=>zbg l 3 q.id) l
 |[],_,_,h,_=>h
 |q::qs,l,x,h,hn=>ze4 qs (zcN h (fun e=>hn e.1)) hn
theorem zhi :∀(qs:List zat) {l:List Due} {x:Due},x∈qs.foldl (fun l q=>zbg l 3 q.id) l→x∈l
 |[],_,_,h=>h
 |q::qs,l,x,h=>zez (zhi qs h)
theorem zlK {l:List Due}{d:Due}(hn:∀x∈l,¬keyD x d):d∈addD l d:=by
 obtain⟨x,hx,hk⟩:=zpz (l:=l) (d:=d)
 rcases zdO hx with rfl|hx'
 ·exact hx
 ·exact absurd hk (hn x hx')
theorem zmu {l:List Due}(hr:RowD l){tick:Int}:∀{x:Due},x∈l.drop (zb4 l tick)→tick<x.tick:=by
 have hup:=hr.up
 clear hr
 induction l with
 |nil=>intro x hx;simp at hx
 |cons y l ih=>
  rw[List.pairwise_cons]at hup
  intro x hx
  unfold zb4 at hx
  rw[List.takeWhile_cons]at hx
  split at hx
  ·exact ih hup.2 (by unfold zb4;simpa using hx)
  ·rename_i hy
   simp only[decide_eq_true_eq]at hy
   rcases List.mem_cons.1 (by simpa using hx)with rfl|hx
   ·omega
   ·have:=hup.1 x hx
    unfold ltD at this
    omega
/-! ### requests -/
theorem zdB {l:List AskR}(hup:upA l){x y:AskR}(hx:x∈l)(hy:y∈l)(he:x.id=y.id):x=y:=by
 obtain⟨i,hi⟩:=List.getElem?_of_mem hx
 obtain⟨j,hj⟩:=List.getElem?_of_mem hy
 obtain⟨hil,hie⟩:=gsi.1 hi
 obtain⟨hjl,hje⟩:=gsi.1 hj
 rcases Nat.lt_trichotomy i j with h|h|h
 ·have:=List.pairwise_iff_getElem.1 hup i j hil hjl h
  rw[hie,hje]at this;omega
 ·subst h;rw[hi]at hj;cases hj;rfl
 ·have:=List.pairwise_iff_getElem.1 hup j i hjl hil h
  rw[hie,hje]at this;omega
theorem zf0 {l:List AskR}(hup:upA l){x:AskR}(hx:x∈l):getA x.id l=some x:=by
 have hB:bsB (cA x.id) l=true:=by
  unfold bsB
  have hm:∀(l:List AskR),upA l→x∈l→∃y,l[bsN (cA x.id) l]? =some y∧cA x.id y=0:=by
   intro l
   induction l with
   |nil=>intro _ h;cases h
   |cons z l ih=>
    intro hu hm
    have hu':=hu
    unfold upA at hu'
    rw[List.pairwise_cons]at hu'
    rcases List.mem_cons.1 hm with rfl|hm
    ·refine⟨x,?_,by simp[cA,cmpI]⟩
     have:bsN (cA x.id) (x::l)=0:=by unfold bsN;simp[cA,cmpI]
     rw[this];rfl
    ·obtain⟨y,hy,hc⟩:=ih hu'.2 hm
     have hz:z.id<x.id:=hu'.1 x hm
     have hz2:cA x.id z<0:=by
      unfold cA cmpI
      split<;>omega
     have:bsN (cA x.id) (z::l)=bsN (cA x.id) l+1:=by
      unfold bsN
      rw[List.takeWhile_cons,if_pos (by simpa using hz2)];rfl
     exact⟨y,by rw[this];simpa using hy,hc⟩
  obtain⟨y,hy,hc⟩:=hm l hup hx
  rw[hy];simp[hc]
 obtain⟨y,hy,hi,hg⟩:=zdI hB
 rw[hg,zdB hup (mog hy) hx hi]
theorem zdd {id:Int}{l:List AskR}{x z y:AskR}(hup:upA l)(hx:getA id l=some x)(h:y∈setA id z l):y=z∨(y∈l∧y.id≠id):=by
 unfold setA at h
 obtain⟨j,hj⟩:=List.getElem?_of_mem h
 have hi:=gotX hx
 have hxm:=zbh hx
 rw[List.getElem?_set]at hj
 split at hj
 ·split at hj
  ·cases hj;exact .inl rfl
  ·cases hj
 ·rename_i hne
  refine .inr ⟨mog hj,fun he=> ?_⟩
  obtain⟨hil,hie⟩:=gsi.1 hi
  obtain⟨hjl,hje⟩:=gsi.1 hj
  rcases Nat.lt_trichotomy (bsN (cA id) l) j with h|h|h
  ·have:=List.pairwise_iff_getElem.1 hup _ j hil hjl h
   rw[hie,hje]at this;omega
  ·exact hne h
  ·have:=List.pairwise_iff_getElem.1 hup j _ hjl hil h
   rw[hie,hje]at this;omega
theorem zgs {id:Int}{l:List AskR}{x z:AskR}(hx:getA id l=some x):z∈setA id z l:=by
 have hi:=gotX hx
 unfold setA
 exact List.mem_iff_getElem?.2 ⟨bsN (cA id) l,by rw[List.getElem?_set,if_pos rfl,if_pos (gsi.1 hi).1]⟩
theorem zfF {id:Int}{l:List AskR}{x z y:AskR}(hx:getA id l=some x)(hy:y∈l)(hn:y.id≠id):y∈setA id z l:=by
 have hi:=gotX hx
 have hxm:=zbh hx
 obtain⟨j,hj⟩:=List.getElem?_of_mem hy
 unfold setA
 refine List.mem_iff_getElem?.2 ⟨j,?_⟩
 rw[List.getElem?_set,if_neg,hj]
 rintro rfl
 rw[hi]at hj
 cases hj
 exact hn hxm.2
/-! ### what stays so; 'xs' is yet to be looked at in a tick -/
structure EndI (s:Dk)(xs:List Due):Prop where
 up:∀x∈s.due,s.now<x.tick
 px:∀x∈xs,x.tick≤s.now
 ky:(xs++s.due).Pairwise fun a b=>¬keyD a b
 d1:∀x∈xs++s.due,x.kind=1→x.id≤s.ask
 d2:∀x∈xs++s.due,x.kind=2→∃a∈s.asks,a.id=x.id∧a.state=2
 st:∀a∈s.asks,a.state=1∨a.state=2∨a.state=3∨a.state=4
 op:∀a∈s.asks,a.state=1→(⟨a.ends,1,a.id⟩:Due)∈xs++s.due
 lk:∀a∈s.asks,a.state=2→a.until_<a.ends+s.look∧(⟨a.until_,2,a.id⟩:Due)∈xs++s.due∧(s.now<a.ends→(⟨a.ends,1,a.id⟩:Due)∈xs++s.due)
theorem EndI.same {s t:Dk}{xs:List Due}(h:EndI s xs)(h1:t.asks=s.asks)(h2:t.due=s.due)(h3:t.now=s.now)(h4:t.look=s.look)(h5:t.ask=s.ask):EndI t xs:=by
 obtain⟨a,b,c,d,e,f,g,i⟩:=h
 exact⟨by rw[h2,h3];exact a,by rw[h3];exact b,by rw[h2];exact c,by rw[h2,h5];exact d,by rw[h1,h2];exact e,by rw[h1];exact f,by rw[h1,h2];exact g,by rw[h1,h2,h3,h4];exact i⟩
theorem EndI.due3 {s t:Dk}{xs:List Due}(h:EndI s xs)(h1:t.asks=s.asks)(h3:t.now=s.now)(h4:t.look=s.look)(h5:t.ask=s.ask)
 (hk:(xs++t.due).Pairwise fun a b=>¬keyD a b) (hs:∀x∈t.due,x∈s.due∨(x.kind=3∧s.now<x.tick)) (hkp:∀x∈s.due,x.kind≠3→x∈t.due):EndI t xs:=by
 obtain⟨a,b,c,d,e,f,g,i⟩:=h
 have hin:∀x∈xs++s.due,x.kind≠3→x∈xs++t.due:=fun x hx hn=>by
  rcases lma.1 hx with hx|hx
  ·exact List.mem_append_left _ hx
  ·exact mar _ (hkp x hx hn)
 have hout:∀x∈xs++t.due,x.kind≠3→x∈xs++s.due:=fun x hx hn=>by
  rcases lma.1 hx with hx|hx
  ·exact List.mem_append_left _ hx
  ·rcases hs x hx with hx|hx
   ·exact mar _ hx
   ·exact absurd hx.1 hn
 refine⟨fun x hx=> ?_,by rw[h3];exact b,hk,fun x hx hk1=> ?_,fun x hx hk2=> ?_,by rw[h1];exact f,fun y hy hy1=> ?_,fun y hy hy2=> ?_⟩
 ·rw[h3]
  rcases hs x hx with hx|hx
  ·exact a x hx
  ·exact hx.2
 ·rw[h5];exact d x (hout x hx (by omega)) hk1
 ·rw[h1];exact e x (hout x hx (by omega)) hk2
 ·rw[h1]at hy;exact hin _ (g y hy hy1) (by simp)
 ·rw[h1]at hy
  obtain⟨i1,i2,i3⟩:=i y hy hy2
  rw[h3,h4]
  exact⟨i1,hin _ i2 (by simp),fun hn=>hin _ (i3 hn) (by simp)⟩
theorem EndI.set {s t:Dk}{xs ys:List Due}{id:Int}{x z:AskR}(h:EndI s xs)(hup:upA s.asks)(hx:getA id s.asks=some x)(hz:z.id=id)
 (ha:t.asks=setA id z s.asks) (hn:t.now=s.now) (hl:t.look=s.look) (hk:s.ask=t.ask)
 (hs1:∀y∈t.due,y∈s.due∨(s.now<y.tick∧y.kind=2∧y.id=id)) (hs2:∀y∈ys,y∈xs)
 (hky:(ys++t.due).Pairwise fun a b=>¬keyD a b)
 (hkp:∀y∈xs++s.due,(y.kind=1∨y.kind=2)→y.id≠id→y∈ys++t.due)
 (h2:z.state=2∨∀y∈ys++t.due,y.kind=2→y.id≠id)
 (hst:z.state=1∨z.state=2∨z.state=3∨z.state=4)
 (hop:z.state=1→(⟨z.ends,1,z.id⟩:Due)∈ys++t.due)
 (hlk:z.state=2→z.until_<z.ends+s.look∧(⟨z.until_,2,z.id⟩:Due)∈ys++t.due∧(s.now<z.ends→(⟨z.ends,1,z.id⟩:Due)∈ys++t.due)):EndI t ys:=by
 obtain⟨a,b,c,d,e,f,g,i⟩:=h
 have hout:∀y∈ys++t.due,y∈xs++s.due∨(s.now<y.tick∧y.kind=2∧y.id=id):=fun y hy=>by
  rcases lma.1 hy with hy|hy
  ·exact .inl (List.mem_append_left _ (hs2 y hy))
  ·rcases hs1 y hy with hy|hy
   ·exact .inl (mar _ hy)
   ·exact .inr hy
 refine⟨fun y hy=> ?_,fun y hy=>by rw[hn];exact b y (hs2 y hy),hky,fun y hy hk1=> ?_,fun y hy hk2=> ?_,fun y hy=> ?_,fun y hy hy1=> ?_,fun y hy hy2=> ?_⟩
 ·rw[hn]
  rcases hs1 y hy with hy|hy
  ·exact a y hy
  ·exact hy.1
 ·rcases hout y hy with hy|hy
  ·rw[←hk];exact d y hy hk1
  ·omega
 ·rw[ha]
  by_cases hid:y.id=id
  ·rcases h2 with h2|h2
   ·exact⟨z,zgs hx,by rw[hz,hid],h2⟩
   ·exact absurd hid (h2 y hy hk2)
  ·rcases hout y hy with hy|hy
   ·obtain⟨u,hu,hu1,hu2⟩:=e y hy hk2
    exact⟨u,zfF hx hu (by rw[hu1];exact hid),hu1,hu2⟩
   ·exact absurd hy.2.2 hid
 ·rw[ha]at hy
  rcases zdd hup hx hy with rfl|hy
  ·exact hst
  ·exact f y hy.1
 ·rw[ha]at hy
  rcases zdd hup hx hy with rfl|hy
  ·exact hop hy1
  ·exact hkp _ (g y hy.1 hy1) (.inl rfl) hy.2
 ·rw[ha]at hy
  rw[hn,hl]
  rcases zdd hup hx hy with rfl|hy
  ·exact hlk hy2
  ·obtain⟨i1,i2,i3⟩:=i y hy.1 hy2
   exact⟨i1,hkp _ i2 (.inr rfl) hy.2,fun hn=>hkp _ (i3 hn) (.inl rfl) hy.2⟩
theorem EndI.skip {s:Dk}{x:Due}{xs:List Due}(h:EndI s (x::xs))(h1:∀a∈s.asks,a.state=1→a.id=x.id→x.kind≠1)(h2:∀a∈s.asks,a.state=2→a.id=x.id→x.kind≠2):EndI s xs:=by
 obtain⟨a,b,c,d,e,f,g,i⟩:=h
 rw[List.cons_append]at c d e
 simp only[List.cons_append]at g i
 have hx:=b x (by simp)
 refine⟨a,fun y hy=>b y (mcm _ hy),(List.pairwise_cons.1 c).2,fun y hy=>d y (mcm _ hy),fun y hy=>e y (mcm _ hy),f,fun y hy hy1=> ?_,fun y hy hy2=> ?_⟩
 ·rcases List.mem_cons.1 (g y hy hy1)with he|he
  ·exact absurd (by rw[←he]) (h1 y hy hy1 (by rw[←he]))
  ·exact he
 ·obtain⟨i1,i2,i3⟩:=i y hy hy2
  refine⟨i1,?_,fun hn=> ?_⟩
  ·rcases List.mem_cons.1 i2 with he|he
   ·exact absurd (by rw[←he]) (h2 y hy hy2 (by rw[←he]))
   ·exact he
  ·rcases List.mem_cons.1 (i3 hn)with he|he
   ·rw[←he]at hx
    dsimp only at hx
    omega
   ·exact he
/-! ### the end of a request, the end of a look -/
theorem zce (state:Int)(x:AskR):(endX state x).state=state∧(endX state x).id=x.id:=by unfold endX;split<;>exact⟨rfl,rfl⟩
theorem EndI.ended {s t:Dk}{xs:List Due}{id:Int}{x:AskR}{state:Int}(h:EndI s xs)(hup:upA s.asks)(hx:getA id s.asks=some x)(h34:state=3∨state=4)(hxs:x.state=1∨x.state=2)(h32:state=3→x.state=2)
 (hpn:∀y∈xs,y.kind=2→y.id≠id) (ha:t.asks=endA id state s.asks) (hn:t.now=s.now) (hl:t.look=s.look) (hk:t.ask=s.ask)
 (hrow:RowD s.due) {qs:List zat} (hd:t.due=zbg (zbg (qs.foldl (fun l q=>zbg l 3 q.id) s.due) 1 id) 2 id):EndI t xs:=by
 have he:endE id state s.asks=0:=by
  unfold endE
  rw[hx]
  dsimp only
  rw[if_neg (by omega),if_neg (by omega)]
 have hid:=(zbh hx).2
 have hrow2:RowD (zbg (qs.foldl (fun l q=>zbg l 3 q.id) s.due) 1 id):=zbH (zdQ qs hrow)
 refine h.set (id:=id) (z:=endX state x) hup hx ((zce _ _).2.trans hid) ?_ hn hl hk.symm (fun y hy=>.inl ?_) (fun y hy=>hy) ?_ (fun y hy hk12 hne=> ?_) (.inr (fun y hy hk2=> ?_)) ?_ ?_ ?_
 ·rw[ha];unfold endA;rw[hx];dsimp only;rw[if_pos he]
 ·rw[hd]at hy;exact zhi qs (zez (zez hy))
 ·rw[hd]
  have hsub:(zbg (zbg (qs.foldl (fun l q=>zbg l 3 q.id) s.due) 1 id) 2 id).Sublist s.due:=by
   refine zcm.trans (zcm.trans ?_)
   clear hd hrow2 hrow
   generalize s.due=l
   induction qs generalizing l with
   |nil=>exact List.Sublist.refl _
   |cons q qs ih=>exact(ih _).trans zcm
  exact h.ky.sublist (List.Sublist.append (List.Sublist.refl _) hsub)
 ·rcases lma.1 hy with hy|hy
  ·exact List.mem_append_left _ hy
  ·refine mar _ ?_
   rw[hd]
   exact zcN (zcN (ze4 qs hy (by omega)) (fun e=>hne e.2)) (fun e=>hne e.2)
 ·intro hyid
  rcases lma.1 hy with hy|hy
  ·exact hpn y hy hk2 hyid
  ·rw[hd]at hy
   exact zh0 hrow2 y hy ⟨hk2,hyid⟩
 ·rw[(zce _ _).1];omega
 ·rw[(zce _ _).1];omega
 ·rw[(zce _ _).1];omega
theorem EndI.dies {s:Dk}{xs:List Due}{x:AskR}(h:EndI s xs)(hup:upA s.asks)(hrow:RowD s.due)(hx:getA x.id s.asks=some x)(hxs:x.state=1∨x.state=2)(hpn:∀y∈xs,y.kind=2→y.id≠x.id):EndI (zeF s x) xs:=
 h.ended (t:=zeF s x) (id:=x.id) (x:=x) (state:=4) (qs:=s.quotes.filter (zdq x.id)) hup hx (.inr rfl) hxs (by omega) hpn rfl rfl rfl rfl hrow rfl
theorem EndI.lookEnds {s:Dk}{xs:List Due}{x:AskR}{ds:List Due}(h:EndI s xs)(hup:upA s.asks)(hrow:RowD s.due)(hx:getA x.id s.asks=some x)(hxs:x.state=2)
 {ys:List Due} (hsub:ds.Sublist s.due) (hys:ys.Sublist xs) (hkp:∀y∈xs++s.due,¬(y.kind=2∧y.id=x.id)→y∈ys++ds) (hno:∀y∈ys++ds,¬(y.kind=2∧y.id=x.id)):EndI (zaU false {s with due:=ds} x).1 ys:=by
 have hky:(ys++ds).Pairwise fun a b=>¬keyD a b:=h.ky.sublist (List.Sublist.append hys hsub)
 have hid:=(zbh hx).2
 have hxm:=(zbh hx).1
 have hlk:=h.lk x hxm hxs
 unfold zaU
 dsimp only
 split
 ·rename_i hnow
  have he:endE x.id 4 s.asks=0:=by
   unfold endE
   rw[hx]
   dsimp only
   rw[if_neg (by omega),if_neg (by omega)]
  have hrow1:RowD ds:=hrow.sub hsub
  have hin:=fun(qs:List zat)=>(show ∀y,y∈zbg (zbg (qs.foldl (fun l q=>zbg l 3 q.id) ds) 1 x.id) 2 x.id→y∈ds from fun y hy=>zhi qs (zez (zez hy)))
  have hkd:=fun(qs:List zat)=>(show ∀y,y∈ds→(y.kind=1∨y.kind=2)→y.id≠x.id→y∈zbg (zbg (qs.foldl (fun l q=>zbg l 3 q.id) ds) 1 x.id) 2 x.id from fun y hy hk hne=>zcN (zcN (ze4 qs hy (by omega)) (fun e=>hne e.2)) (fun e=>hne e.2))
  have hsb:=fun(qs:List zat)=>(show(zbg (zbg (qs.foldl (fun l q=>zbg l 3 q.id) ds) 1 x.id) 2 x.id).Sublist ds from by
   refine zcm.trans (zcm.trans ?_)
   generalize ds=l
   induction qs generalizing l with
   |nil=>exact List.Sublist.refl _
   |cons q qs ih=>exact(ih _).trans zcm)
  refine h.set (id:=x.id) (z:=endX 4 x) hup hx (zce _ _).2 ?_ rfl rfl rfl (fun y hy=>.inl (hsub.subset (hin ((zb3 x.hit s.quotes).filter (zdq x.id)) y hy))) (fun y hy=>hys.subset hy) ?_ (fun y hy hk12 hne=> ?_) (.inr (fun y hy hk2 hyid=> ?_)) (by rw[(zce _ _).1];omega) (by rw[(zce _ _).1];omega) (by rw[(zce _ _).1];omega)
  ·show endA x.id 4 s.asks=_
   unfold endA;rw[hx];dsimp only;rw[if_pos he]
  ·exact hky.sublist (List.Sublist.append (List.Sublist.refl _) (hsb _))
  ·rcases lma.1 (hkp y hy (fun e=>hne e.2))with h1|h1
   ·exact List.mem_append_left _ h1
   ·exact mar _ (hkd _ y h1 hk12 hne)
  ·refine hno y ?_ ⟨hk2,hyid⟩
   rcases lma.1 hy with hy|hy
   ·exact List.mem_append_left _ hy
   ·exact mar _ (hin _ y hy)
 ·rename_i hnow
  have he:zhz x.id s.asks=0:=by
   unfold zhz
   rw[hx]
   dsimp only
   rw[if_pos hxs]
  refine h.set (id:=x.id) (z:={x with state:=1,hit:=0,until_:=0}) hup hx rfl ?_ rfl rfl rfl (fun y hy=>.inl (hsub.subset hy)) (fun y hy=>hys.subset hy) hky (fun y hy hk12 hne=>hkp y hy (fun e=>hne e.2)) (.inr (fun y hy hk2 hyid=>hno y hy ⟨hk2,hyid⟩)) (.inl rfl) (fun _=> ?_) (fun h=>absurd h (by simp))
  ·show zd2 x.id s.asks=_
   unfold zd2;rw[hx];dsimp only;rw[if_pos he]
  ·have h1:=hlk.2.2 (by omega)
   exact hkp _ h1 (fun e=>absurd e.1 (by simp))
/-! ### ticks -/
theorem zmv {s:Dk×List OutR}(hu:upA s.1.asks)(x:Due):upA (dueD false s x).1.asks:=by
 unfold dueD
 split
 ·exact hu
 ·split
  ·exact hu
  ·rename_i a _
   split
   ·show upA (zaU false s.1 a).1.asks
    unfold zaU
    dsimp only
    split
    ·exact(zfW hu).1
    ·exact(zlt hu).1
   ·split
    ·exact(zfW hu).1
    ·exact hu
theorem zmw {s:Dk×List OutR}(hu:RowD s.1.due)(x:Due):RowD (dueD false s x).1.due:=by
 unfold dueD
 split
 ·exact hu
 ·split
  ·exact hu
  ·rename_i a _
   split
   ·show RowD (zaU false s.1 a).1.due
    unfold zaU
    dsimp only
    split
    ·exact zbH (zbH (zdQ _ hu))
    ·exact hu
   ·split
    ·exact zbH (zbH (zdQ _ hu))
    ·exact hu
theorem EndI.dueOne {s:Dk×List OutR}{x:Due}{xs:List Due}(h:EndI s.1 (x::xs))(hup:upA s.1.asks)(hrow:RowD s.1.due):EndI (dueD false s x).1 xs:=by
 have hky:=h.ky
 rw[List.cons_append,List.pairwise_cons]at hky
 unfold dueD
 split
 ·rename_i h3
  exact(h.skip (fun a _ _ _=>by omega) (fun a _ _ _=>by omega)).same rfl rfl rfl rfl rfl
 ·rename_i h3
  split
  ·rename_i hg
   refine h.skip (fun a ha _ he=> ?_) (fun a ha _ he=> ?_)
   all_goals
    have:=zf0 hup ha
    rw[he,hg]at this
    cases this
  ·rename_i a hg
   have hid:=(zbh hg).2
   have hga:getA a.id s.1.asks=some a:=by rw[hid];exact hg
   split
   ·rename_i h2
    refine h.lookEnds (x:=a) (ds:=s.1.due) hup hrow hga h2.2 (ys:=xs) (List.Sublist.refl _) (List.sublist_cons_self _ _) (fun y hy hn=> ?_) (fun y hy hn=> ?_)
    ·rcases List.mem_cons.1 hy with rfl|hy
     ·exact absurd ⟨h2.1,hid.symm⟩ hn
     ·exact hy
    ·exact hky.1 y hy ⟨by rw[hn.1];exact h2.1,by rw[hn.2];exact hid.symm⟩
   ·rename_i h2
    split
    ·rename_i h1
     refine(h.dies hup hrow hga (.inl h1.2) (fun y hy hk2=> ?_)).skip ?_ ?_
     ·intro hyid
      obtain⟨u,hu,hu1,hu2⟩:=h.d2 y (List.mem_append_left _ hy) hk2
      have:=zdB hup hu (zbh hg).1 (by omega)
      rw[this]at hu2
      omega
     all_goals
      intro b hb hb1 hbid
      rw[show(zeF s.1 a).asks=endA a.id 4 s.1.asks from rfl]at hb
      unfold endA at hb
      rw[hga]at hb
      dsimp only at hb
      rw[if_pos (by unfold endE;rw[hga];dsimp only;rw[if_neg (by omega),if_neg (by omega)])]at hb
      rcases zdd hup hga hb with rfl|hb
      ·rw[(zce _ _).1]at hb1;omega
      ·omega
    ·rename_i h1
     refine h.skip (fun b hb hb1 hbid hk=> ?_) (fun b hb hb2 hbid hk=> ?_)
     ·have:=zdB hup hb (zbh hg).1 (by omega)
      subst this
      exact h1 ⟨hk,hb1⟩
     ·have:=zdB hup hb (zbh hg).1 (by omega)
      subst this
      exact h2 ⟨hk,hb2⟩
theorem EndI.dueAll :∀(xs:List Due) {s:Dk×List OutR},EndI s.1 xs→upA s.1.asks→RowD s.1.due→EndI (xs.foldl (dueD false) s).1 []
 |[],s,h,_,_=>h
 |x::xs,s,h,hu,hr=>EndI.dueAll xs (h.dueOne hu hr) (zmv hu x) (zmw hr x)
theorem EndI.tick {N:Nat}{s:Dk}(h:EndI s [])(hD:DOK N s):EndI (zc5 false s).1 []:=by
 unfold zc5
 refine EndI.dueAll _ (s:=({s with now:=s.now+1,due:=s.due.drop (zb4 s.due (s.now+1))},[])) ?_ hD.upa (hD.row.sub (List.drop_sublist _ _))
 obtain⟨a,b,c,d,e,f,g,i⟩:=h
 simp only[List.nil_append]at c d e g i
 have hta:s.due.take (zb4 s.due (s.now+1))++s.due.drop (zb4 s.due (s.now+1))=s.due:=List.take_append_drop _ _
 refine⟨fun x hx=>zmu hD.row hx,fun x hx=>zml hx,?_,?_,?_,f,?_,?_⟩
 all_goals(show _;dsimp only;rw[hta])
 ·exact c
 ·exact d
 ·exact e
 ·exact g
 ·intro y hy hy2
  obtain⟨i1,i2,i3⟩:=i y hy hy2
  exact⟨i1,i2,fun hn=>i3 (by omega)⟩
/-! ### what is asked -/
theorem EndI.add3 {s:Dk}(h:EndI s []){d:Due}(hd:d.kind=3)(ht:s.now<d.tick)(hrow:RowD s.due){t:Dk}(h1:t.asks=s.asks)(h2:t.due=addD s.due d)(h3:t.now=s.now)(h4:t.look=s.look)(h5:t.ask=s.ask):EndI t []:=by
 refine h.due3 h1 h3 h4 h5 ?_ (fun x hx=> ?_) (fun x hx _=> ?_)
 ·rw[h2];exact(zew hrow).once
 ·rw[h2]at hx
  rcases zdO hx with rfl|hx
  ·exact .inr ⟨hd,ht⟩
  ·exact .inl hx
 ·rw[h2];exact zdN hx
theorem EndI.ask' {N:Nat}{s:Dk}(h:EndI s [])(hD:DOK N s)(who:Int)(m:MsgR):EndI (askD s who m).d []:=by
 unfold askD
 dsimp only
 split<;>first|exact h|skip
 split<;>first|exact h|skip
 split<;>first|exact h|skip
 split<;>first|exact h|skip
 split<;>first|exact h|skip
 split<;>first|exact h|skip
 rename_i hw
 split<;>first|exact h|skip
 rename_i he
 have hw1:1≤m.f4:=by
  have hw2:zeV m.f4=true:=by cases hh:zeV m.f4<;>simp_all
  unfold zeV at hw2
  exact(zck hw2).1
 have hadd:∀(a:AskR),addE a s.asks=0→∀y,y∈addA a s.asks↔y=a∨y∈s.asks:=fun a hz y=>by
  unfold addA
  rw[if_pos hz]
  conv=>rhs;rw[←List.take_append_drop (bsN (cA a.id) s.asks) s.asks]
  simp only[lma,lms]
  constructor
  ·rintro((h|h)|h)
   ·exact .inr (.inl h)
   ·exact .inl h
   ·exact .inr (.inr h)
  ·rintro(h|h|h)
   ·exact .inl (.inr h)
   ·exact .inl (.inl h)
   ·exact .inr h
 have hA:=hadd _ (Decidable.not_not.1 he)
 obtain⟨a,b,c,d,e,f,g,i⟩:=h
 simp only[List.nil_append]at c d e g i
 have hno:∀x∈s.due,¬keyD x ⟨s.now+m.f4,1,s.ask+1⟩:=fun x hx hk=>by
  have:=d x hx hk.1
  have:=hk.2
  dsimp only at this
  omega
 have hnew:=zlK hno
 refine⟨fun x hx=> ?_,by simp,(zew hD.row).once,fun x hx hk1=> ?_,fun x hx hk2=> ?_,fun y hy=> ?_,fun y hy hy1=> ?_,fun y hy hy2=> ?_⟩
 ·rcases zdO hx with rfl|hx
  ·show s.now<s.now+m.f4
   omega
  ·exact a x hx
 ·show x.id≤s.ask+1
  rcases zdO hx with rfl|hx
  ·exact Int.le_refl _
  ·have:=d x hx hk1;omega
 ·rcases zdO hx with rfl|hx
  ·exact absurd hk2 (by simp)
  ·obtain⟨u,hu,hu1⟩:=e x hx hk2
   exact⟨u,(hA u).2 (.inr hu),hu1⟩
 ·rcases(hA y).1 hy with rfl|hy
  ·exact .inl rfl
  ·exact f y hy
 ·rcases(hA y).1 hy with rfl|hy
  ·exact hnew
  ·exact zdN (g y hy hy1)
 ·rcases(hA y).1 hy with rfl|hy
  ·exact absurd hy2 (by simp)
  ·obtain⟨i1,i2,i3⟩:=i y hy hy2
   exact⟨i1,zdN i2,fun hn=>zdN (i3 hn)⟩
theorem EndI.quote' {N:Nat}{s:Dk}(h:EndI s [])(hD:DOK N s)(who:Int)(m:MsgR):EndI (zcZ false s who m).d []:=by
 unfold zcZ
 split
 ·exact h
 ·split<;>first|exact h|skip
  split<;>first|exact h|skip
  split<;>first|exact h|skip
  split<;>first|exact h|skip
  split<;>first|exact h|skip
  rename_i hw
  dsimp only
  split<;>first|exact h|skip
  have hw1:1≤m.f2:=by
   have hw2:zeV m.f2=true:=by cases hh:zeV m.f2<;>simp_all
   unfold zeV at hw2
   exact(zck hw2).1
  exact h.add3 (d:=⟨s.now+m.f2,3,s.quote+1⟩) rfl (by dsimp only;omega) hD.row rfl rfl rfl rfl rfl
theorem EndI.hitq {N:Nat}{s:Dk}(h:EndI s [])(hD:DOK N s){a:AskR}(ha:getA a.id s.asks=some a)(q:zat):EndI (hitQ s a q).d []:=by
 unfold hitQ
 split<;>first|exact h|skip
 split<;>first|exact h|skip
 split<;>first|exact h|skip
 split<;>first|exact h|skip
 rename_i he
 have he:=Decidable.not_not.1 he
 have hlk:=(zbO hD.rules).2.2.1
 have h1:a.state=1:=by
  unfold zeU at he
  rw[ha]at he
  dsimp only at he
  split at he
  ·assumption
  ·omega
 have hop:=h.op a (zbh ha).1 h1
 rw[List.nil_append]at hop
 have hnow:=h.up _ hop
 dsimp only at hnow
 have hno:∀x∈s.due,¬keyD x ⟨s.now+s.look,2,a.id⟩:=fun x hx hk=>by
  obtain⟨u,hu,hu1,hu2⟩:=h.d2 x (by simpa using hx) hk.1
  have:=zdB hD.upa hu (zbh ha).1 (by rw[hu1];exact hk.2)
  rw[this]at hu2
  omega
 have hnew:=zlK hno
 refine h.set (id:=a.id) (z:={a with state:=2,hit:=q.id,until_:=s.now+s.look}) hD.upa ha rfl ?_ rfl rfl rfl (fun y hy=> ?_) (fun y hy=>hy) (zew hD.row).once (fun y hy _ _=> ?_) (.inl rfl) (.inr (.inl rfl)) (fun h=>absurd h (by simp)) (fun _=> ?_)
 ·show zdA a.id q.id (s.now+s.look) s.asks=_
  unfold zdA;rw[ha];dsimp only;rw[if_pos he]
 ·rcases zdO hy with rfl|hy
  ·exact .inr ⟨by dsimp only;omega,rfl,rfl⟩
  ·exact .inl hy
 ·rw[List.nil_append]at hy ⊢
  exact zdN hy
 ·rw[List.nil_append]
  exact⟨by dsimp only;omega,hnew,fun _=>zdN hop⟩
theorem EndI.looks' {N:Nat}{s:Dk}(h:EndI s [])(hD:DOK N s)(who kind id:Int):EndI (zc1 false s who kind id).d []:=by
 unfold zc1
 split
 ·exact h
 ·rename_i a hg
  have hid:=(zbh hg).2
  have hga:getA a.id s.asks=some a:=by rw[hid];exact hg
  split<;>first|exact h|skip
  rename_i hs
  have hs:=Decidable.not_not.1 hs
  dsimp only
  split<;>first|exact h|skip
  split
  ·exact h.lookEnds (x:=a) (ds:=zbg s.due 2 a.id) hD.upa hD.row hga hs (ys:=[]) zcm (List.Sublist.refl _) (fun y hy hn=>by rw[List.nil_append]at hy ⊢;exact zcN hy hn) (fun y hy hn=>by rw[List.nil_append]at hy;exact zh0 hD.row y hy hn)
  ·split<;>first|exact h|skip
   split<;>first|exact h|skip
   refine EndI.same (s:=zc8 {s with used:=s.used.set (qOf s a.hit).dealer.toNat (zdY s.used (qOf s a.hit).dealer+(qOf s a.hit).price*a.qty),asks:=endA a.id 3 s.asks} a.id) ?_ rfl rfl rfl rfl rfl
   exact h.ended (id:=a.id) (x:=a) (state:=3) (qs:=s.quotes.filter (zdq a.id)) hD.upa hga (.inl rfl) (.inr hs) (fun _=>hs) (by simp) rfl rfl rfl rfl hD.row rfl
theorem EndI.dropA {N:Nat}{s:Dk}(h:EndI s [])(hD:DOK N s)(who id:Int):EndI (zbE s who id).d []:=by
 unfold zbE
 split<;>first|exact h|skip
 rename_i hm
 have hm:=Decidable.not_not.1 hm
 split
 ·exact h
 ·rename_i a hg
  have hid:=(zbh hg).2
  have hga:getA a.id s.asks=some a:=by rw[hid];exact hg
  have h1:a.state=1:=by
   unfold zc0 at hm
   rw[hg]at hm
   dsimp only at hm
   split at hm
   ·omega
   ·split at hm
    ·omega
    ·omega
  exact h.dies hD.upa hD.row hga (.inl h1) (by simp)
theorem zf1 {who:Int}{o:zap}{n:Nat}:∀(fs:List zbM) (s:FSt),(fs.foldl (zbN who o n) s).d.asks=s.d.asks∧(fs.foldl (zbN who o n) s).d.due=s.d.due∧(fs.foldl (zbN who o n) s).d.now=s.d.now∧(fs.foldl (zbN who o n) s).d.look=s.d.look∧(fs.foldl (zbN who o n) s).d.ask=s.d.ask
 |[],s=>⟨rfl,rfl,rfl,rfl,rfl⟩
 |f::fs,s=>by rw[List.foldl_cons];exact zf1 fs (zbN who o n s f)
theorem zf2 {s:Dk}{who:Int}{n:Nat}{o:zap}{how:Int}:(zby s who n o how).d.asks=s.asks∧(zby s who n o how).d.due=s.due∧(zby s who n o how).d.now=s.now∧(zby s who n o how).d.look=s.look∧(zby s who n o how).d.ask=s.ask:=by
 unfold zby
 dsimp only
 split
 ·exact⟨rfl,rfl,rfl,rfl,rfl⟩
 ·exact zf1 _ _
theorem zif {s:Dk}{who:Int}{m:MsgR}:(zcg s who m).d.asks=s.asks∧(zcg s who m).d.due=s.due∧(zcg s who m).d.now=s.now∧(zcg s who m).d.look=s.look∧(zcg s who m).d.ask=s.ask:=by
 unfold zcg
 dsimp only
 split
 ·exact⟨rfl,rfl,rfl,rfl,rfl⟩
 ·split
  ·exact⟨rfl,rfl,rfl,rfl,rfl⟩
  ·split
   ·exact⟨rfl,rfl,rfl,rfl,rfl⟩
   ·split
    ·exact zf2
    ·exact zf2
theorem zgc {s:Dk}{who kind id price qty:Int}:(zbm s who kind id price qty).d.asks=s.asks∧(zbm s who kind id price qty).d.due=s.due∧(zbm s who kind id price qty).d.now=s.now∧(zbm s who kind id price qty).d.look=s.look∧(zbm s who kind id price qty).d.ask=s.ask:=by
 unfold zbm
 dsimp only
 split
 ·exact⟨rfl,rfl,rfl,rfl,rfl⟩
 ·split
  ·exact⟨rfl,rfl,rfl,rfl,rfl⟩
  ·split
   ·exact⟨rfl,rfl,rfl,rfl,rfl⟩
   ·split
    ·split
     ·exact⟨rfl,rfl,rfl,rfl,rfl⟩
     ·split
      ·exact⟨rfl,rfl,rfl,rfl,rfl⟩
      ·exact zf2 (s:={s with books:=_})
    ·exact⟨rfl,rfl,rfl,rfl,rfl⟩
theorem EndI.does {N:Nat}{s:Dk}(h:EndI s [])(hD:DOK N s)(who:Int)(m:MsgR):EndI (zcL false s who m).d []:=by
 have e5:∀{t:Dk},(t.asks=s.asks∧t.due=s.due∧t.now=s.now∧t.look=s.look∧t.ask=s.ask)→EndI t []:=fun⟨a,b,c,d,e⟩=>h.same a b c d e
 have hmine:∀{id:Int} {a:AskR},getA id s.asks=some a→getA a.id s.asks=some a:=fun hg=>by rw[(zbh hg).2];exact hg
 unfold zcL
 split<;>first|exact h|skip
 split
 ·exact e5 zif
 split
 ·exact e5 zgc
 split
 ·exact h.quote' hD who m
 split
 ·unfold zc4
  split
  ·exact h
  ·split<;>first|exact h|skip
   split<;>first|exact h|skip
   split<;>first|exact h|skip
   exact h.same rfl rfl rfl rfl rfl
 split
 ·unfold hitD
  split
  ·exact h
  ·split<;>first|exact h|skip
   split
   ·exact h
   ·rename_i hg
    exact h.hitq hD (hmine hg) _
 split
 ·unfold zfq
  split<;>first|exact h|skip
  split
  ·exact h
  ·rename_i hg
   split
   ·exact h
   ·exact h.hitq hD (hmine hg) _
 split
 ·exact h.looks' hD who m.kind m.f0
 split
 ·exact h.dropA hD who m.f0
 split
 ·exact h.ask' hD who m
 ·unfold zdJ
  split<;>first|exact h|skip
  split<;>first|exact h|skip
  exact h.same rfl rfl rfl rfl rfl
theorem EndI.do' {N:Nat}{s:Dk}(h:EndI s [])(hD:DOK N s)(who seq:Int)(m:MsgR):EndI (doD false s who seq m).1 []:=h.does hD who m
theorem EndI.goneAll :∀(qs:List zat) {s:Dk},EndI s []→RowD s.due→EndI (qs.foldl (zct false) s) []
 |[],s,h,_=>h
 |q::qs,s,h,hr=>by
  rw[List.foldl_cons]
  unfold zct
  split
  ·exact EndI.goneAll qs h hr
  ·refine EndI.goneAll qs (h.due3 (t:={s with quotes:=zb3 q.id s.quotes,due:=zbg s.due 3 q.id}) rfl rfl rfl rfl (zbH hr).once (fun x hx=>.inl (zez hx)) (fun x hx hn=>zcN hx (fun e=>hn e.1))) (zbH hr)
theorem EndI.gone {N:Nat}{s:Dk}(h:EndI s [])(hD:DOK N s)(who:Int):EndI (zeb false s who).1 []:=by
 unfold zeb
 exact EndI.goneAll _ (h.same (t:={s with books:=s.books.map (zgg who)}) rfl rfl rfl rfl rfl) hD.row
theorem EndI.new {bs:List zaP}{ps:List zaG}{look beat:Int}:EndI (zcV bs ps look beat) []:=by
 refine⟨?_,?_,?_,?_,?_,?_,?_,?_⟩<;>simp[zcV]
theorem EndI.said {s:Dk}(h:EndI s []){a:AskR}(ha:a∈s.asks)(he:a.ends≤s.now - s.look)(hl:0≤s.look):a.state=3∨a.state=4:=by
 rcases h.st a ha with h1|h2|h3|h4
 ·have:=h.up _ (by simpa using h.op a ha h1)
  dsimp only at this
  omega
 ·obtain⟨i1,i2,_⟩:=h.lk a ha h2
  have:=h.up _ (by simpa using i2)
  dsimp only at this
  omega
 ·exact .inl h3
 ·exact .inr h4
def OwnI (s:Dk):Prop:=∀l∈s.books,∀o∈l,o.owner≤8
theorem OwnI.same {s t:Dk}(h:OwnI s)(e:t.books=s.books):OwnI t:=by unfold OwnI;rw[e];exact h
theorem OwnI.set {s t:Dk}(h:OwnI s){n:Nat}{m:List zap}(e:t.books=s.books.set n m)(hm:∀o∈m,o.owner≤8):OwnI t:=by
 intro l hl
 rw[e]at hl
 rcases zbF hl with rfl|hl
 ·exact hm
 ·exact h l hl
theorem OwnI.book {s:Dk}(h:OwnI s)(n:Nat):∀o∈za8 s n,o.owner≤8:=by
 unfold za8
 intro o ho
 rw[List.getD_eq_getElem?_getD]at ho
 rcases hb:s.books[n]? with _|l
 ·rw[hb]at ho;cases ho
 ·rw[hb]at ho
  exact h l (mog hb) o ho
theorem DOK.bookB {N:Nat}{s:Dk}(h:DOK N s)(n:Nat):za6 (za8 s n):=by
 unfold za8
 rw[List.getD_eq_getElem?_getD]
 rcases hb:s.books[n]? with _|l
 ·exact za6.nil
 ·exact h.bks l (mog hb)
theorem zoo {how:Int}{o:zap}{l:List zap}(hB:za6 l):∀f∈(doV how o l).fills,∃x∈l,f.mparty=x.owner∧f.price=x.price:=by
 by_cases h0:zbC how o l=0
 ·obtain⟨hw,e1,e2,_⟩:=zgV hB h0
  rw[e1]
  obtain⟨xs,hsub,hlen,hf⟩:=hw.mks
  intro f hfm
  obtain⟨i,hi⟩:=List.getElem?_of_mem hfm
  have hil:=(gsi.1 hi).1
  have hF:=(hf i f (xs[i]'(by omega)) hi (gge _)).1
  exact⟨xs[i]'(by omega),(zcG (hsub.subset (List.getElem_mem _))).1,hF.mparty,hF.price⟩
 ·rw[zgW h0]
  intro f hf;cases hf
theorem zhj {who:Int}{o:zap}{n:Nat}:∀(fs:List zbM) (s:FSt),(fs.foldl (zbN who o n) s).d.books=s.d.books
 |[],s=>rfl
 |f::fs,s=>by rw[List.foldl_cons];exact zhj fs (zbN who o n s f)
theorem OwnI.meets {N:Nat}{s:Dk}(h:OwnI s)(hD:DOK N s){who:Int}{n:Nat}{o:zap}{how:Int}(ho:o.owner≤8):OwnI (zby s who n o how).d:=by
 unfold zby
 dsimp only
 split
 ·exact h
 ·refine h.set (zhj _ _) (fun y hy=> ?_)
  rcases zkH (hD.bookB n) hy with ⟨x,hx,_,_,he⟩|⟨_,_,he⟩
  ·rw[he];exact h.book n x hx
  ·rw[he];exact ho
theorem OwnI.does {N:Nat}{rf:Bool}{s:Dk}(h:OwnI s)(hD:DOK N s)(who:Int)(m:MsgR):OwnI (zcL rf s who m).d:=by
 have hH:∀a q,OwnI (hitQ s a q).d:=fun a q=>by
  unfold hitQ
  repeat' split
  all_goals exact h
 unfold zcL
 split<;>first|exact h|skip
 rename_i hc
 split
 ·rename_i h6
  have hw:who≤8:=by
   have hmay:mayV s.parties who m.kind=true:=by cases hh:mayV s.parties who m.kind<;>simp_all
   rw[h6]at hmay
   unfold mayV at hmay
   rw[if_pos (.inl rfl)]at hmay
   have hr:zcs s.parties who≠0:=by
    intro e
    rw[e]at hmay
    exact absurd hmay (by decide)
   obtain⟨_,hlt,_⟩:=zcD hr
   have:=(zbO hD.rules).2.1
   omega
  unfold zcg
  dsimp only
  split<;>first|exact h|skip
  split<;>first|exact h|skip
  split<;>first|exact h|skip
  have hm:=h.meets hD (who:=who) (n:=m.f0.toNat) (o:=⟨s.order+1,0,who,m.f1,m.f2,m.f3⟩) (how:=m.f4) hw
  split
  ·exact hm.same rfl
  ·exact hm
 split
 ·unfold zbm
  dsimp only
  split<;>first|exact h|skip
  split<;>first|exact h|skip
  rename_i o ho
  have hom:=ziU ho
  split<;>first|exact h|skip
  rename_i hown
  have hown:=Decidable.not_not.1 hown
  have how8:o.owner≤8:=h.book _ o hom.1
  have hdr:∀id,∀y∈zbf id (za8 s (zcx s.books m.f0).toNat),y.owner≤8:=fun id y hy=>h.book _ y (zb5 hy)
  have hBd:DOK N {s with books:=s.books.set (zcx s.books m.f0).toNat (zbf o.id (za8 s (zcx s.books m.f0).toNat))}:=by
   by_cases hi:(zcx s.books m.f0).toNat<s.books.length
   ·refine hD.setBook (l:=s.books[(zcx s.books m.f0).toNat]) (gge hi) ((hD.bookB _).drop _) (fun y hy=> ?_)
    have hy:=zb5 hy
    unfold za8 at hy
    rw[List.getD_eq_getElem?_getD,gge hi]at hy
    exact⟨y,hy,rfl,rfl⟩
   ·have e:s.books.set (zcx s.books m.f0).toNat (zbf o.id (za8 s (zcx s.books m.f0).toNat))=s.books:=List.set_eq_of_length_le (by omega)
    rw[e];exact hD
  split
  ·split<;>first|exact h|skip
   split
   ·refine h.set (n:=(zcx s.books m.f0).toNat) (m:=zb2 o.id m.f2 (za8 s (zcx s.books m.f0).toNat)) rfl (fun y hy=> ?_)
    obtain⟨x,hx,_,_,_,_,he⟩:=zej hy
    rw[he];exact h.book _ x hx
   ·have h1:OwnI {s with books:=s.books.set (zcx s.books m.f0).toNat (zbf o.id (za8 s (zcx s.books m.f0).toNat))}:=h.set rfl (hdr _)
    exact(h1.meets hBd (who:=who) (n:=(zcx s.books m.f0).toNat) (o:={o with price:=m.f1,left:=m.f2}) (how:=0) how8).same rfl
  ·exact h.set (n:=(zcx s.books m.f0).toNat) (m:=zbf m.f0 (za8 s (zcx s.books m.f0).toNat)) rfl (hdr _)
 split
 ·unfold zcZ
  repeat' split
  all_goals first
   |exact h
   |(dsimp only;split<;>exact h)
 split
 ·unfold zc4
  repeat' split
  all_goals exact h
 split
 ·unfold hitD
  repeat' split
  all_goals first|exact h|exact hH _ _
 split
 ·unfold zfq
  repeat' split
  all_goals first|exact h|exact hH _ _
 split
 ·unfold zc1
  split<;>first|exact h|skip
  split<;>first|exact h|skip
  dsimp only
  split<;>first|exact h|skip
  split
  ·unfold zaU
   dsimp only
   split<;>exact h
  ·split<;>first|exact h|skip
   split<;>first|exact h|skip
 split
 ·unfold zbE
  repeat' split
  all_goals exact h
 split
 ·unfold askD
  dsimp only
  repeat' split
  all_goals exact h
 ·unfold zdJ
  repeat' split
  all_goals exact h
theorem OwnI.do' {N:Nat}{rf:Bool}{s:Dk}(h:OwnI s)(hD:DOK N s)(who seq:Int)(m:MsgR):OwnI (doD rf s who seq m).1:=h.does hD who m
theorem OwnI.tick {rf:Bool}{s:Dk}(h:OwnI s):OwnI (zc5 rf s).1:=by
 have key:∀(xs:List Due) (t:Dk×List OutR),t.1.books=s.books→(xs.foldl (dueD rf) t).1.books=s.books:=by
  intro xs
  induction xs with
  |nil=>intro t e;exact e
  |cons x xs ih=>
   intro t e
   rw[List.foldl_cons]
   refine ih _ ?_
   unfold dueD
   split
   ·exact e
   ·split
    ·exact e
    ·split
     ·dsimp only
      unfold zaU
      dsimp only
      split<;>exact e
     ·split<;>exact e
 exact h.same (key _ _ rfl)
theorem OwnI.gone {rf:Bool}{s:Dk}(h:OwnI s)(who:Int):OwnI (zeb rf s who).1:=by
 have key:∀(qs:List zat) (t:Dk),(qs.foldl (zct rf) t).books=t.books:=by
  intro qs
  induction qs with
  |nil=>intro t;rfl
  |cons q qs ih=>
   intro t
   rw[List.foldl_cons,ih]
   unfold zct
   split<;>rfl
 unfold zeb
 intro l hl
 dsimp only at hl
 rw[key]at hl
 obtain⟨m,hm,rfl⟩:=lmm.1 hl
 intro o ho
 exact h m hm o (zdm.1 o ho)
theorem OwnI.new {bs:List zaP}{ps:List zaG}{look beat:Int}:OwnI (zcV bs ps look beat):=by
 intro l hl o ho
 have:l=[]:=by
  have:=List.eq_of_mem_replicate hl
  exact this
 rw[this]at ho
 cases ho
end Go.Proofs.YteocfhdocpeokaaGreat
namespace Go.Proofs.YteocfhdocpeokaaGreat
open Go Go.Sl
attribute [local irreducible] AW ES EP Ld RetQ
set_option maxRecDepth 100000
/-! ### a book by itself -/
def zba (x:DAd)(s:Dk)(ptrs:List Value)(R:List zao)(rows:List PRow)(F:List zao):List zao:=
 .blk x.d 112 (zbD x s)::x.bonds.own s.bonds.length 95 7 (s.bonds.flatMap zaP.enc)::x.parties.own s.parties.length 97 3 (s.parties.flatMap zaG.enc)
  ::x.books.own s.books.length 113 1 ptrs
  ::.blk x.f 139 [x.fparties.sl s.parties.length,x.used.sl s.parties.length]::x.fparties.own s.parties.length 97 3 (s.parties.flatMap zaG.enc)::x.used.own s.parties.length 2 1 (s.used.map (Value.int .i64))
  ::.blk x.q 142 [x.quotes.sl s.quotes.length]::x.quotes.own s.quotes.length 174 6 (s.quotes.flatMap zat.enc)
  ::.blk x.a 144 [x.asks.sl s.asks.length]::x.asks.own s.asks.length 87 10 (s.asks.flatMap AskR.enc)
  ::.blk x.u 147 [x.due.sl s.due.length]::x.due.own s.due.length 160 3 (s.due.flatMap Due.enc)
  ::.blk x.p 69 [x.pos.sl rows.length,x.cash.sl s.cash.length]::x.cash.own s.cash.length 2 1 (s.cash.map (Value.int .i64))::x.pos.own rows.length 66 1 (rows.map PRow.hd)
  ::.blk x.b 149 [x.trades.sl s.trades.length,.int .u64 s.head]::x.trades.own s.trades.length 30 8 (s.trades.flatMap zaL.enc)
  ::(R++(rows.map PRow.ck++F))
theorem zeA {g:Nat}{who id:Int}{o:Sp}{outs:List OutR}{x:DAd}{s:Dk}{bks:List BAd}{rows:List PRow}{F:List zao}{bd:BAd}{R:List zao}(hp:(bks.flatMap BAd.ck).Perm (BAd.ck bd++R)):
 (zai g who id o outs (zae x s bks rows F)).Perm (BAd.ck bd++zai g who id o outs (zba x s (bks.map BAd.ptr) R rows F)):=by
 have h1:∀R',(zai g who id o outs (zba x s (bks.map BAd.ptr) R' rows F)).Perm (R'++zai g who id o outs (zba x s (bks.map BAd.ptr) [] rows F)):=fun R'=>by
  unfold zai zba
  (repeat(first|exact zly|apply znY))
 exact(h1 (bks.flatMap BAd.ck)).trans ((hp.append_right _).trans (by rw[List.append_assoc];exact(h1 R).symm.append_left _))
theorem zi0 {bks:List BAd}{n:Nat}{bd:BAd}(h:bks[n]? =some bd):∃R,∀b':BAd,((bks.set n b').flatMap BAd.ck).Perm (BAd.ck b'++R):=by
 obtain⟨R,hR⟩:=zgk (gsi.1 h).1
 exact⟨R.flatMap BAd.ck,fun b'=>(hR b').flatMap_right _⟩
theorem zf3 {bks:List BAd}{n:Nat}{bd b':BAd}(h:bks[n]? =some bd)(e:b'.p=bd.p):(bks.set n b').map BAd.ptr=bks.map BAd.ptr:=by
 rw[List.map_set]
 refine zcC ?_
 rw[List.getElem?_map,h]
 unfold BAd.ptr
 rw[e];rfl
theorem zi1 {bks:List BAd}{n:Nat}{bd:BAd}(h:bks[n]? =some bd):(bks.map BAd.ptr)[n*1]? =some (ptrV bd.p):=by simp[h];rfl
theorem zcO {W:World}{h:List zao}{bks:List BAd}{A:Option Addr}{c n:Nat}{t:TypeId}(hm:zao.own A n c t 1 (bks.map BAd.ptr)∈h)(hn:bks.length=n):zaz W h A n 1 (bks.map BAd.ptr):=zaz.own hm (by simp[hn]) (fun v hv=>by
 obtain⟨y,_,rfl⟩:=lmm.1 hv
 rfl)
/-! ### along the fills -/
theorem zhk {who:Int}{o:zap}{n:Nat}:∀(fs:List zbM) (s:FSt),(∀f∈fs,1≤f.qty∧f.qty≤1000000)→s.rest - 1000000*fs.length≤(fs.foldl (zbN who o n) s).rest∧(fs.foldl (zbN who o n) s).rest≤s.rest
 |[],s,_=>by simp
 |f::fs,s,h=>by
  rw[List.foldl_cons]
  have h1:=zhk (who:=who) (o:=o) (n:=n) fs (zbN who o n s f) (fun g hg=>h g (mcm _ hg))
  have h2:=h f mcs
  have h3:(zbN who o n s f).rest=s.rest - f.qty:=rfl
  rw[List.length_cons]
  omega
theorem zf4 {who:Int}{o:zap}{n:Nat}:∀(fs:List zbM) (s:FSt),(fs.foldl (zbN who o n) s).outs.length=s.outs.length+4*fs.length
 |[],s=>by simp
 |f::fs,s=>by
  rw[List.foldl_cons,zf4 fs]
  have:(zbN who o n s f).outs.length=s.outs.length+4:=by
   unfold zbN zdE
   simp
  rw[List.length_cons];omega
theorem zlL {who:Int}{o:zap}{n np nb:Nat}:∀(fs:List zbM) (s:FSt),PsOK np nb ⟨s.d.cash,s.d.pos⟩→(0≤s.d.head∧s.d.head≤18446744073709551615)→
 PsOK np nb ⟨(fs.foldl (zbN who o n) s).d.cash,(fs.foldl (zbN who o n) s).d.pos⟩∧(0≤(fs.foldl (zbN who o n) s).d.head∧(fs.foldl (zbN who o n) s).d.head≤18446744073709551615)∧(fs.foldl (zbN who o n) s).d.trades.length=s.d.trades.length+fs.length
 |[],s,h1,h2=>⟨h1,h2,rfl⟩
 |f::fs,s,h1,h2=>by
  rw[List.foldl_cons]
  have hh:s.d.head.toNat<2^64:=by show s.d.head.toNat<18446744073709551616;omega
  have hc:=zg5 (bs:=zbR (zbr s.d o.side who f.mparty n f.price f.qty 0)) hh
  have hc2:zcf s.d.head.toNat (zbR (zbr s.d o.side who f.mparty n f.price f.qty 0))<18446744073709551616:=hc
  obtain⟨i1,i2,i3⟩:=zlL (who:=who) (o:=o) (n:=n) fs (zbN who o n s f) (zgq h1 _) (by
   show 0≤((zcf s.d.head.toNat (zbR (zbr s.d o.side who f.mparty n f.price f.qty 0)):Nat):Int)∧((zcf s.d.head.toNat (zbR (zbr s.d o.side who f.mparty n f.price f.qty 0)):Nat):Int)≤_
   omega)
  refine⟨i1,i2,?_⟩
  rw[i3]
  show(s.d.trades++[_]).length+fs.length=_
  simp;omega
def zqj (x:DAd)(g:Nat)(who id0:Int)(outs:List OutR)(F:List zao)(r:Rs)(v:Value)(h':List zao):Prop:=
 v=.int .i64 r.err∧∃(y:DAd) (o:Sp) (bks:List BAd) (rows:List PRow) (os:List OutR),
  h'=zai g who id0 o os (zae (y.at x.d) r.d bks rows F)∧zaY r.d bks rows∧(r.err=0→os=outs++r.outs)
theorem zig (W:World)(F:List zao)(x:DAd)(s:Dk)(bks:List BAd)(rows:List PRow)(N:Nat)(hD:DOK N s)(hO:OwnI s)(hN:N≤10000)(hf:zaY s bks rows)(g:Nat)(who id0:Int)(o:Sp)(outs:List OutR)(n:Nat)(od:zap)(how:Int)(hn:n<s.books.length)(hw:0≤who∧who≤8)(hbo:outs.length≤900000):
 zax Tryz.prog W 175 [ptrV x.d,ptrV g,.int .i64 n,.agg od.enc.toArray,.int .i64 how] (zai g who id0 o outs (zae x s bks rows F)) (zqj x g who id0 outs F (zby s who n od how)):=by
 obtain⟨bd,hb1,hb2,hb3⟩:=zpR hf hn
 obtain⟨R,hR⟩:=zi0 hb1
 have hself:bks.set n bd=bks:=zcC hb1
 have hB:za6 bd.l:=hD.bks _ (mog hb3)
 have hp0:=hR bd
 rw[hself]at hp0
 refine zax.perm ?_ (zeA hp0)
 refine zax.dropTo ?_
 have hsq:=hD.seq
 have hl:=zfC hf
 have h4:=hD.few
 have hDo:=fun G=>zpq W G bd.p bd.s.A bd.s.c bd.l {od with seq:=s.seq+1} how hB
 have hfq:=zjL (how:=how) (o:={od with seq:=s.seq+1}) hB
 have hfm:=zoo (how:=how) (o:={od with seq:=s.seq+1}) hB
 have hfl:=zfs (how:=how) (o:={od with seq:=s.seq+1}) hB
 unfold zby
 rw[hb2]
 have hbad:(doV how {od with seq:=s.seq+1} bd.l).err≠0→(doV how {od with seq:=s.seq+1} bd.l).bk=bd.l:=fun he=>by
  unfold doV at he ⊢
  split
  ·rename_i h0;rw[if_pos h0]at he;exact absurd rfl he
  ·rfl
 have hol:(doV how {od with seq:=s.seq+1} bd.l).err=0→1≤od.left∧od.left≤1000000:=fun he=>by
  have h0:zbC how {od with seq:=s.seq+1} bd.l=0:=by
   unfold doV at he
   split at he
   ·assumption
   ·exact he
  have:=zdL (zdM h0)
  dsimp only at this
  omega
 generalize doV how {od with seq:=s.seq+1} bd.l=v at*
 have hix:=zi1 hb1
 have hrd:zaz W (BAd.ck bd++zai g who id0 o outs (zba x s (bks.map BAd.ptr) R rows F)) x.books.A s.books.length 1 (bks.map BAd.ptr):=zcO (c:=x.books.c) (t:= 113) (by unfold BAd.ck zai zba;exact mX) hl
 dsimp only
 by_cases hv:v.err≠0
 ·rw[if_pos hv]
  rw[hbad hv]at hDo
  refine zaf Tryz.func175 rfl rfl Tryz.results175 Tryz.ntmps175 rfl rfl ?_
  refine zaI hrd rfl (fun hAi=> ?_)
  have hA:=hAi (by omega)
  unfold BAd.ck zai zba
  simp only[List.cons_append,List.nil_append]
  repeat' (first|apply zah|apply zaa|apply zak|apply zag|apply zac hT;iterate 4 exact rfl|(apply zaM hT;(iterate 4 exact rfl);(iterate 2 (first|omega)))|apply zaC [] [] hmix;decide+kernel|apply zaA;(iterate 5 exact rfl);intro g8|(apply zar hT;(iterate 6 exact rfl);exact sX;(iterate 3 exact rfl);exact nle rfl)|apply zaJ hT;(iterate 8 exact rfl);(iterate 2 omega);exact hA|(apply zad;(iterate 5 exact rfl);exact zbe hT rfl rfl (hrd.mono (by intro c hc;unfold BAd.ck zai zba at hc;revert c;exact fun c hc=>by(repeat(first|exact hc|apply mcm)))) rfl hix)|(apply zau;(iterate 7 exact rfl);exact(zax.perm (hDo _) pX);rintro _ _ ⟨Af,cf,Ag,cg,A3,c3,rfl,rfl,hof,hog⟩)|(apply zad;(iterate 5 exact rfl);first|(apply zaq hT;exact rfl;exact rfl;exact mX;exact rfl;exact rfl)|(apply zaF hT;exact rfl;exact rfl;exact mX;exact rfl))|(apply zal;exact rfl;all_goals(intro hb;(try dsimp only at hb);(try simp only[hb]);(first|replace hb:=zbc hb|replace hb:=zbd hb);(try omega))))
  all_goals try omega
  all_goals
   apply ret1
   exact rfl
   refine⟨zai g who id0 o outs (zae x s (bks.set n ⟨bd.p,⟨A3,c3⟩,bd.l⟩) rows F),?_,rfl,x,o,bks.set n ⟨bd.p,⟨A3,c3⟩,bd.l⟩,rows,outs,rfl,⟨?_,hf.2⟩,fun h=>absurd h hv⟩
   ·refine zcA (show za7 _ (BAd.ck ⟨bd.p,⟨A3,c3⟩,bd.l⟩++zai g who id0 o outs (zba x s ((bks.set n ⟨bd.p,⟨A3,c3⟩,bd.l⟩).map BAd.ptr) R rows F))from ?_) (zfS (zeA (hR _)).symm)
    rw[zf3 (b':=⟨bd.p,⟨A3,c3⟩,bd.l⟩) hb1 rfl]
    unfold BAd.ck zai zba
    simp only[List.cons_append,List.nil_append]
    exact dA
   ·rw[List.map_set]
    exact(zcC (by rw[List.getElem?_map,hb1];rfl)).trans hf.1
 ·rw[if_neg hv]
  have hv:=Decidable.not_not.1 hv
  have hol:=hol hv
  rw[hv]at hDo
  generalize hd0:({s with seq:=s.seq+1,books:=s.books.set n v.bk}:Dk)=d0 at*
  have hd0n:d0.now=s.now:=by rw[←hd0]
  have hd0c:d0.cash=s.cash:=by rw[←hd0]
  have hd0p:d0.pos=s.pos:=by rw[←hd0]
  have hd0h:d0.head=s.head:=by rw[←hd0]
  have hd0t:d0.trades=s.trades:=by rw[←hd0]
  have hnt:=hD.nt
  have hnw:=hD.now
  refine zaf Tryz.func175 rfl rfl Tryz.results175 Tryz.ntmps175 rfl rfl ?_
  refine zaI hrd rfl (fun hAi=> ?_)
  have hA:=hAi (by omega)
  unfold BAd.ck zai zba
  simp only[List.cons_append,List.nil_append]
  repeat' (first|apply zah|apply zaa|apply zam|apply zaj|apply zag|apply zac hT;iterate 4 exact rfl|(apply zaM hT;(iterate 4 exact rfl);(iterate 2 (first|omega)))|apply zaC [] [] hmix;decide+kernel|apply zaA;(iterate 5 exact rfl);intro g8|(apply zar hT;(iterate 6 exact rfl);exact sX;(iterate 3 exact rfl);exact nle rfl)|apply zaJ hT;(iterate 8 exact rfl);(iterate 2 omega);exact hA|(apply zad;(iterate 5 exact rfl);exact zbe hT rfl rfl (hrd.mono (by intro c hc;unfold BAd.ck zai zba at hc;revert c;exact fun c hc=>by(repeat(first|exact hc|apply mcm)))) rfl hix)|(apply zau;(iterate 7 exact rfl);exact(zax.perm (hDo _) pX);rintro _ _ ⟨Af,cf,Ag,cg,A3,c3,rfl,rfl,hof,hog⟩)|(apply zad;(iterate 5 exact rfl);first|(apply zaq hT;exact rfl;exact rfl;exact mX;exact rfl;exact rfl)|(apply zaF hT;exact rfl;exact rfl;exact mX;exact rfl))|apply zan;iterate 2 exact rfl)
  all_goals try omega
  all_goals
   generalize hb2e:bks.set n ⟨bd.p,⟨A3,c3⟩,v.bk⟩=bks2
   have hsp:(bks2.flatMap BAd.ck).Perm (BAd.ck ⟨bd.p,⟨A3,c3⟩,v.bk⟩++R):=by rw[←hb2e];exact hR _
   have hptr:bks2.map BAd.ptr=bks.map BAd.ptr:=by rw[←hb2e];exact zf3 hb1 rfl
   have hf0:zaY d0 bks2 rows:=by
    rw[←hd0,←hb2e]
    exact⟨by rw[List.map_set,hf.1],hf.2⟩
   refine za1 (α:=Nat×Sp) (E:=fun z=>[(0,ptrV x.d),(1,ptrV g),(2,.int .i64 n),(4,.int .i64 how),(8,.pointer (some ⟨g8,0,none⟩)),(11,.slice Af v.fills.length cf),(13,.int .i64 v.left),(51,.slice Ag v.gones.length cg),(52,.int .i64 v.gones.length),(53,.int .i64 z.1)])
    (H:=fun z=>.own Af v.fills.length cf 277 7 (v.fills.flatMap zbM.enc)::.own Ag v.gones.length cg 275 3 (v.gones.flatMap zcw.enc)::.blk g8 168 (zap.enc {od with seq:=s.seq+1})::zai g who id0 z.2 (outs++(v.gones.take z.1).map fun g=>outM who 21 [g.id,g.left]) (zae x d0 bks2 rows F)) (μ:=fun z=>v.gones.length - z.1)
    (S:=fun z=>z.1≤v.gones.length) (0,o) (Nat.zero_le _) ⟨rfl,rfl,rfl,rfl,rfl,rfl,rfl,rfl,rfl,rfl,trivial⟩ ?_ ?_
   ·dsimp only
    rw[List.take_zero,List.map_nil,List.append_nil]
    refine zcA (show za7 _ (.own Af v.fills.length cf 277 7 (v.fills.flatMap zbM.enc)::.own Ag v.gones.length cg 275 3 (v.gones.flatMap zcw.enc)::.blk g8 168 (zap.enc {od with seq:=s.seq+1})::(BAd.ck ⟨bd.p,⟨A3,c3⟩,v.bk⟩++zai g who id0 o outs (zba x d0 (bks2.map BAd.ptr) R rows F)))from ?_) (zfS ((((zeA hsp).symm.cons _).cons _).cons _))
    rw[hptr]
    subst hd0
    have hls:(s.books.set n v.bk).length=s.books.length:=by simp
    have hcs:zbD x {s with seq:=s.seq+1,books:=s.books.set n v.bk}=zbD x {s with seq:=s.seq+1}:=by simp only[zbD,hls]
    unfold BAd.ck zai zba
    rw[hcs,hls]
    simp only[List.cons_append,List.nil_append]
    exact dX
   ·rintro⟨k,o2⟩ hkk
    dsimp only at hkk ⊢
    have hgl:((v.gones.take k).map fun g=>outM who 21 [g.id,g.left]).length≤64:=by rw[llm,llt];omega
    have hbok:(outs++(v.gones.take k).map fun g=>outM who 21 [g.id,g.left]).length≤1000000:=by rw[lla];omega
    by_cases hlt:k<v.gones.length
    ·obtain⟨ge,hge⟩:∃ge,v.gones[k]? =some ge:=⟨v.gones[k]'hlt,gge hlt⟩
     have hge2:v.gones[(k:Int).toNat]? =some ge:=by simpa using hge
     have hd1:decide ((k:Int)<(v.gones.length:Int))=true:=by simp;omega
     have hst:(outs++(v.gones.take (k+1)).map fun g=>outM who 21 [g.id,g.left])=(outs++(v.gones.take k).map fun g=>outM who 21 [g.id,g.left])++[outM who 21 [ge.id,ge.left]]:=by
      rw[List.take_add_one,hge,List.map_append,List.append_assoc];rfl
     generalize (outs++(v.gones.take k).map fun g=>outM who 21 [g.id,g.left])=os1 at*
     generalize hos2:(outs++(v.gones.take (k+1)).map fun g=>outM who 21 [g.id,g.left])=os2 at*
     refine zaI (hog.reads mem1) rfl (fun hGi=> ?_)
     have hGA:=hGi (by omega)
     unfold zai zae
     repeat' (first|apply zah|apply zaa|apply zam|apply zaj|apply zag|apply zac hT;iterate 4 exact rfl|(apply zaM hT;(iterate 4 exact rfl);(iterate 2 (first|omega)))|apply zaC [] [] hmix;decide+kernel|apply zaJ hT;(iterate 8 exact rfl);(iterate 2 omega);exact hGA|(apply zad;(iterate 5 exact rfl);exact zaO hT rfl rfl (hog.reads mX) zcw.enc_len rfl hge2 rfl)|(apply zay hT;(iterate 5 exact rfl);first|(fail_if_success (have q:=g16));intro g16)|(apply zar hT;(iterate 6 exact rfl);exact sX;(iterate 3 exact rfl);exact nle rfl)|(apply zaB (cs:=[.int .i64 ge.id,.int .i64 ge.left]) hT;(iterate 12 exact rfl);intro g66)|(apply zau;(iterate 7 exact rfl);exact(zbY W _ g who id0 o2 os1 _ (some ⟨g66,0,none⟩) 2 who 21 [ge.id,ge.left] pX mX (Nat.le_of_ble_eq_true rfl) hbok);rintro _ _ ⟨rfl,o3,rfl⟩)|(apply zad;(iterate 5 exact rfl);first|(apply zaq hT;exact rfl;exact rfl;exact mX;exact rfl;exact rfl))|(apply zal;exact rfl;all_goals(intro hb;(try dsimp only at hb);(try simp only[hb]);(first|replace hb:=odt hb|replace hb:=odf hb);(try omega))))
     all_goals first
      |(exfalso;omega)
      |exact zaD (k+1,o3) (by(try dsimp only);omega) (by(try dsimp only);omega) ⟨rfl,rfl,rfl,rfl,rfl,rfl,rfl,rfl,rfl,rfl,trivial⟩ (by dsimp only;rw[hos2,hst];unfold zai;exact dA)
      |skip
    ·obtain rfl:k=v.gones.length:=by omega
     have hd1:decide ((v.gones.length:Int)<(v.gones.length:Int))=false:=by simp
     rw[List.take_length]at*
     generalize hgo:(v.gones.map fun g=>outM who 21 [g.id,g.left])=go at*
     have hgol:go.length≤64:=by rw[←hgo,llm];omega
     refine zaI (hof.reads mem0) rfl (fun hFi=> ?_)
     repeat' (first|apply zah|apply zaa|apply zaN|apply zaj|apply zag|apply zac hT;iterate 4 exact rfl|(apply zad;(iterate 5 exact rfl);first|(apply zaq hT;exact rfl;exact rfl;exact mX;exact rfl;exact rfl))|(apply zal;exact rfl;all_goals(intro hb;(try dsimp only at hb);(try simp only[hb]);(first|replace hb:=odt hb|replace hb:=odf hb);(try omega))))
     all_goals try omega
     all_goals
      refine za1 (α:=Nat×Sp×DAd×List PRow) (E:=fun z=>[(0,ptrV x.d),(1,ptrV g),(2,.int .i64 n),(4,.int .i64 how),(8,.pointer (some ⟨g8,0,none⟩)),(13,.int .i64 v.left),(17,.int .i64 ((v.fills.take z.1).foldl (zbN who od n) ⟨d0,go,od.left⟩).rest),(71,.slice Af v.fills.length cf),(72,.int .i64 v.fills.length),(73,.int .i64 z.1)])
       (H:=fun z=>.own Af v.fills.length cf 277 7 (v.fills.flatMap zbM.enc)::.blk g8 168 (zap.enc {od with seq:=s.seq+1})::zai g who id0 z.2.1 (outs++((v.fills.take z.1).foldl (zbN who od n) ⟨d0,go,od.left⟩).outs) (zae (z.2.2.1.at x.d) ((v.fills.take z.1).foldl (zbN who od n) ⟨d0,go,od.left⟩).d bks2 z.2.2.2 F)) (μ:=fun z=>v.fills.length - z.1)
       (S:=fun z=>z.1≤v.fills.length∧zaY ((v.fills.take z.1).foldl (zbN who od n) ⟨d0,go,od.left⟩).d bks2 z.2.2.2) (0,o2,x,rows) ⟨Nat.zero_le _,hf0⟩ ⟨rfl,rfl,rfl,rfl,rfl,rfl,rfl,rfl,rfl,rfl,trivial⟩ ?_ ?_
      ·dsimp only
       show za7 _ (.own Af v.fills.length cf 277 7 (v.fills.flatMap zbM.enc)::.blk g8 168 (zap.enc {od with seq:=s.seq+1})::zai g who id0 o2 (outs++go) (zae (x.at x.d) d0 bks2 rows F))
       unfold zai zae
       exact dA
      ·rintro⟨k,o3,y,rows3⟩ ⟨hkk,hf3⟩
       dsimp only at hkk hf3 ⊢
       have hq3:∀f∈v.fills.take k,1≤f.qty∧f.qty≤1000000:=fun f hf=>hfq f (List.mem_of_mem_take hf)
       have hrs:=zhk (who:=who) (o:=od) (n:=n) (v.fills.take k) ⟨d0,go,od.left⟩ hq3
       have hos:=zf4 (who:=who) (o:=od) (n:=n) (v.fills.take k) ⟨d0,go,od.left⟩
       have hok:=zlL (who:=who) (o:=od) (n:=n) (v.fills.take k) ⟨d0,go,od.left⟩ (by dsimp only;rw[hd0c,hd0p];exact hD.psok) (by dsimp only;rw[hd0h];exact hD.head)
       have hnow:=(zf1 (who:=who) (o:=od) (n:=n) (v.fills.take k) ⟨d0,go,od.left⟩).2.2.1
       dsimp only at hrs hos hok hnow
       rw[llt]at hrs hos hok
       rw[hd0t]at hok
       rw[hd0n]at hnow
       by_cases hlt:k<v.fills.length
       ·obtain⟨f,hf1⟩:∃f,v.fills[k]? =some f:=⟨v.fills[k]'hlt,gge hlt⟩
        have hf2:v.fills[(k:Int).toNat]? =some f:=by simpa using hf1
        have hfmem:=mog hf1
        obtain⟨fq1,fq2⟩:=hfq f hfmem
        obtain⟨bo,hbo1,hbo2,hbo3⟩:=hfm f hfmem
        have hbow:=hO bd.l (mog hb3) bo hbo1
        have hbok:=hB.ok bo hbo1
        simp only[okO,Bool.and_eq_true,decide_eq_true_eq]at hbok
        obtain⟨⟨⟨⟨⟨⟨⟨_,_⟩,hpr1⟩,hpr2⟩,_⟩,_⟩,how0⟩,_⟩:=hbok
        have hd1:decide ((k:Int)<(v.fills.length:Int))=true:=by simp;omega
        have hstp:(v.fills.take (k+1)).foldl (zbN who od n) ⟨d0,go,od.left⟩=zbN who od n ((v.fills.take k).foldl (zbN who od n) ⟨d0,go,od.left⟩) f:=by
         rw[List.take_add_one,hf1,List.foldl_append];rfl
        generalize (v.fills.take k).foldl (zbN who od n) ⟨d0,go,od.left⟩=st at*
        generalize hst2:(v.fills.take (k+1)).foldl (zbN who od n) ⟨d0,go,od.left⟩=st2 at*
        have hFA:=hFi (by omega)
        have hmin:min k v.fills.length=k:=by omega
        rw[hmin]at hrs hos hok
        have hl1:(outs++st.outs).length≤1000000:=by rw[lla];omega
        have hl2:(outs++st.outs++[outM f.mparty 20 [f.maker,f.price,f.qty,f.left]]).length≤1000000:=by rw[lla,lla];show _+1≤_;omega
        have hl3:(outs++st.outs++[outM f.mparty 20 [f.maker,f.price,f.qty,f.left]]++[outM who 20 [od.id,f.price,f.qty,st.rest - f.qty]]).length≤1000000:=by rw[lla,lla,lla];show _+1+1≤_;omega
        have htl:st.d.trades.length≤900000:=by omega
        have hTr:=fun G o5=>zhg W G (y.at x.d) st.d bks2 rows3 g who id0 o5 (outs++st.outs++[outM f.mparty 20 [f.maker,f.price,f.qty,f.left]]++[outM who 20 [od.id,f.price,f.qty,st.rest - f.qty]]) od.side who f.mparty n f.price f.qty 0 _ _ hf3 hok.1 hok.2.1 htl (zfE htl (by unfold inW;omega) (by unfold inW;omega) (by unfold inW;omega) (by unfold inW;omega) (by unfold inW;omega) (by unfold inW;omega) (by rw[hnow];unfold inW;omega)) hl3
        have hfd:zbN who od n st f=⟨zcY st.d (zbr st.d od.side who f.mparty n f.price f.qty 0),st.outs++[outM f.mparty 20 [f.maker,f.price,f.qty,f.left],outM who 20 [od.id,f.price,f.qty,st.rest - f.qty]]++zdE (zbr st.d od.side who f.mparty n f.price f.qty 0),st.rest - f.qty⟩:=rfl
        generalize zbr st.d od.side who f.mparty n f.price f.qty 0=tr at*
        unfold zai zae
        repeat' (first|apply zah|apply zaa|apply zam|apply zaj|apply zag|apply zac hT;iterate 4 exact rfl|(apply zaM hT;(iterate 4 exact rfl);(iterate 2 (first|omega)))|apply zaC [] [] hmix;decide+kernel|apply zaJ hT;(iterate 8 exact rfl);(iterate 2 omega);exact hFA|(apply zad;(iterate 5 exact rfl);exact zaO hT rfl rfl (hof.reads mX) zbM.enc_len rfl hf2 rfl)|(apply zay hT;(iterate 5 exact rfl);first|(fail_if_success (have q:=g19));intro g19)|(apply zar hT;(iterate 6 exact rfl);exact sX;(iterate 3 exact rfl);exact nle rfl)|(apply zaB (cs:=[.int .i64 f.maker,.int .i64 f.price,.int .i64 f.qty,.int .i64 f.left]) hT;(iterate 12 exact rfl);intro g92)|(apply zaB (cs:=[.int .i64 od.id,.int .i64 f.price,.int .i64 f.qty,.int .i64 (st.rest - f.qty)]) hT;(iterate 12 exact rfl);intro g106)|((fail_if_success (have q:=o4));apply zau;(iterate 7 exact rfl);exact(zbY W _ g who id0 o3 (outs++st.outs) _ (some ⟨g92,0,none⟩) 4 f.mparty 20 [f.maker,f.price,f.qty,f.left] pX mX (Nat.le_of_ble_eq_true rfl) hl1);rintro _ _ ⟨rfl,o4,rfl⟩)|((fail_if_success (have q:=o5));apply zau;(iterate 7 exact rfl);exact(zbY W _ g who id0 o4 (outs++st.outs++[outM f.mparty 20 [f.maker,f.price,f.qty,f.left]]) _ (some ⟨g106,0,none⟩) 4 who 20 [od.id,f.price,f.qty,st.rest - f.qty] pX mX (Nat.le_of_ble_eq_true rfl) hl2);rintro _ _ ⟨rfl,o5,rfl⟩)|(apply zaE hT (cs:=zaL.enc ⟨0,n,0,0,f.price,f.qty,0,0⟩);iterate 4 exact rfl)|(apply zau;(iterate 7 exact rfl);exact(zax.perm (hTr _ o5) pX);rintro _ _ ⟨rfl,y2,o6,rows4,rfl,hf4⟩)|(apply zad;(iterate 5 exact rfl);first|(apply zaq hT;exact rfl;exact rfl;exact mX;exact rfl;exact rfl))|(apply zal;exact rfl;all_goals(intro hb;(try dsimp only at hb);(try simp only[hb]);(first|replace hb:=odt hb|replace hb:=odf hb);(try omega))))
        all_goals try omega
        all_goals
         refine zaD (k+1,o6,y2,rows4) (by(try dsimp only);omega) ⟨by(try dsimp only);omega,by dsimp only;rw[hst2,hstp,hfd];exact hf4⟩ ⟨rfl,rfl,rfl,rfl,rfl,rfl,by rw[hst2,hstp,hfd];rfl,rfl,rfl,rfl,trivial⟩ ?_
         dsimp only
         rw[hst2,hstp,hfd]
         dsimp only
         rw[show outs++(st.outs++[outM f.mparty 20 [f.maker,f.price,f.qty,f.left],outM who 20 [od.id,f.price,f.qty,st.rest - f.qty]]++zdE tr)=outs++st.outs++[outM f.mparty 20 [f.maker,f.price,f.qty,f.left]]++[outM who 20 [od.id,f.price,f.qty,st.rest - f.qty]]++zdE tr by simp[List.append_assoc]]
         exact dA
       ·obtain rfl:k=v.fills.length:=by omega
        have hd1:decide ((v.fills.length:Int)<(v.fills.length:Int))=false:=by simp
        rw[List.take_length]at*
        rw[Nat.min_self]at hrs hos hok
        generalize v.fills.foldl (zbN who od n) ⟨d0,go,od.left⟩=st at*
        have hl1:(outs++st.outs).length≤1000000:=by rw[lla];omega
        by_cases hlast:how≠0∧how≠3∧v.left>0
        ·rw[if_pos hlast]
         unfold zai zae
         repeat' (first|apply zah|apply zaa|apply zak|apply zaN|apply zag|apply zac hT;iterate 4 exact rfl|apply zaC [] [] hmix;decide+kernel|apply zaB (cs:=[.int .i64 od.id,.int .i64 v.left]) hT;(iterate 12 exact rfl);intro g144|(apply zau;(iterate 7 exact rfl);exact(zbY W _ g who id0 o3 (outs++st.outs) _ (some ⟨g144,0,none⟩) 2 who 21 [od.id,v.left] pX mX (Nat.le_of_ble_eq_true rfl) hl1);rintro _ _ ⟨rfl,o4,rfl⟩)|(apply zad;(iterate 5 exact rfl);first|(apply zaq hT;exact rfl;exact rfl;exact mX;exact rfl;exact rfl))|(apply zaH;exact rfl;all_goals(intro hb;(fail_if_success (change true=true at hb));(fail_if_success (change false=false at hb));(try dsimp only at hb);(try simp only[hb]);(first|replace hb:=zbc hb|replace hb:=zbd hb);(try omega)))|(apply zal;exact rfl;all_goals(intro hb;(try dsimp only at hb);(try simp only[hb]);(first|replace hb:=odt hb|replace hb:=odf hb);(try omega))))
         all_goals try omega
         all_goals(apply ret1;exact rfl;exact⟨zai g who id0 o4 (outs++st.outs++[outM who 21 [od.id,v.left]]) (zae (y.at x.d) st.d bks2 rows3 F),by(unfold zai zae;exact dA),rfl,y,o4,bks2,rows3,_,rfl,hf3,fun _=>List.append_assoc _ _ _⟩)
        ·rw[if_neg hlast]
         unfold zai zae
         repeat' (first|apply zah|apply zaa|apply zak|apply zam|apply zaN|apply zag|apply zac hT;iterate 4 exact rfl|apply zaK;iterate 3 exact rfl|apply zan;iterate 2 exact rfl|(apply zaH;exact rfl;all_goals(intro hb;(fail_if_success (change true=true at hb));(fail_if_success (change false=false at hb));(try dsimp only at hb);(try simp only[hb]);(first|replace hb:=zbc hb|replace hb:=zbd hb);(try omega)))|(apply zal;exact rfl;all_goals(intro hb;(try dsimp only at hb);(try simp only[hb]);(first|replace hb:=odt hb|replace hb:=odf hb);(try omega))))
         all_goals try omega
         all_goals(apply ret1;exact rfl;exact⟨zai g who id0 o3 (outs++st.outs) (zae (y.at x.d) st.d bks2 rows3 F),by(unfold zai zae;exact dA),rfl,y,o3,bks2,rows3,_,rfl,hf3,fun _=>rfl⟩)
theorem zcP {g:Nat}{who id:Int}{o:Sp}{outs:List OutR}{x:DAd}{s:Dk}{bks:List BAd}{rows:List PRow}{F:List zao}{bd:BAd}{R:List zao}(hp:(bks.flatMap BAd.ck).Perm (BAd.ck bd++R)):
 (zai g who id o outs (zae x s bks rows F)).Perm (.blk bd.p 152 [bd.s.sl bd.l.length]::bd.s.own bd.l.length 168 6 (bd.l.flatMap zap.enc)::zai g who id o outs (zba x s (bks.map BAd.ptr) R rows F)):=zeA hp
theorem DOK.setDrop {N:Nat}{s:Dk}(hD:DOK N s)(n:Nat)(id:Int):DOK N {s with books:=s.books.set n (zbf id (za8 s n))}:=by
 by_cases hi:n<s.books.length
 ·refine hD.setBook (l:=s.books[n]) (gge hi) ((hD.bookB _).drop _) (fun y hy=> ?_)
  have hy:=zb5 hy
  unfold za8 at hy
  rw[List.getD_eq_getElem?_getD,gge hi]at hy
  exact⟨y,hy,rfl,rfl⟩
 ·have e:s.books.set n (zbf id (za8 s n))=s.books:=List.set_eq_of_length_le (by omega)
  rw[e];exact hD
def chgD (s:Dk)(who:Int)(n:Nat)(o:zap)(price qty:Int):Rs:=
 if zdj (zbv s n) price qty≠0 then bad s (zdj (zbv s n) price qty)
 else if price=o.price∧qty≤o.left then⟨{s with books:=s.books.set n (zb2 o.id qty (za8 s n))},0,[],zdp o.id qty (za8 s n)⟩
 else zby {s with books:=s.books.set n (zbf o.id (za8 s n))} who n {o with price:=price,left:=qty} 0
theorem zkU (W:World)(F:List zao)(x:DAd)(s:Dk)(bks:List BAd)(rows:List PRow)(N:Nat)(hD:DOK N s)(hO:OwnI s)(hN:N≤10000)(hf:zaY s bks rows)(g:Nat)(who id0:Int)(o:Sp)(outs:List OutR)(n:Nat)(od:zap)(price qty:Int)(hn:n<s.books.length)(hw:0≤who∧who≤8)(hbo:outs.length≤900000):
 zax Tryz.prog W 142 [ptrV x.d,ptrV g,.int .i64 n,.agg od.enc.toArray,.int .i64 price,.int .i64 qty] (zai g who id0 o outs (zae x s bks rows F)) (zqj x g who id0 outs F (chgD s who n od price qty)):=by
 obtain⟨bd,hb1,hb2,hb3⟩:=zpR hf hn
 obtain⟨R,hR⟩:=zi0 hb1
 have hself:bks.set n bd=bks:=zcC hb1
 have hB:za6 bd.l:=hD.bks _ (mog hb3)
 have hp0:=hR bd
 rw[hself]at hp0
 refine zax.perm ?_ (zcP hp0)
 refine zax.dropTo ?_
 have hl:=zfC hf
 have h4:=hD.few
 have hnb:=hD.nbk
 have hix:=zi1 hb1
 obtain⟨_,hbn,hbm⟩:=zdn (s:=s) (n:=(n:Int)) hnb (by unfold zcE;simp;omega)
 have hbI:=(zbO hD.rules).2.2.2.1 _ hbm
 have hCk:=zib W (zbv s n) price qty hbI
 have hrd:zaz W (.blk bd.p 152 [bd.s.sl bd.l.length]::bd.s.own bd.l.length 168 6 (bd.l.flatMap zap.enc)::zai g who id0 o outs (zba x s (bks.map BAd.ptr) R rows F)) x.books.A s.books.length 1 (bks.map BAd.ptr):=zcO (c:=x.books.c) (t:= 113) (by unfold zai zba;exact mX) hl
 have hrb:zaz W (.blk bd.p 152 [bd.s.sl bd.l.length]::bd.s.own bd.l.length 168 6 (bd.l.flatMap zap.enc)::zai g who id0 o outs (zba x s (bks.map BAd.ptr) R rows F)) x.bonds.A s.bonds.length 7 (s.bonds.flatMap zaP.enc):=zaz.enc (c:=x.bonds.c) zaP.enc_len zaP.enc_one (by unfold zai zba;exact mX) rfl
 unfold chgD
 rw[hb2]
 generalize zbv s n=b at*
 by_cases hc:zdj b price qty≠0
 ·rw[if_pos hc]
  generalize zdj b price qty=er at*
  refine zaf Tryz.func142 rfl rfl Tryz.results142 Tryz.ntmps142 rfl rfl ?_
  refine zaI hrd rfl (fun hAi=> ?_)
  have hA:=hAi (by omega)
  refine zaI hrb rfl (fun hBi=> ?_)
  have hBA:=hBi (by omega)
  unfold zai zba
  repeat' (first|apply zah|apply zaa|apply zak|apply zag|apply zac hT;iterate 4 exact rfl|apply zaA;(iterate 5 exact rfl);intro g9|(apply zaJ hT;(iterate 8 exact rfl);(iterate 2 omega);first|exact hBA)|(apply zad;(iterate 5 exact rfl);first|exact zaO hT rfl rfl (hrb.mono (by intro c hc;unfold zai zba at hc;revert c;exact fun c hc=>by(repeat(first|exact hc|apply mcm)))) zaP.enc_len rfl hbn rfl)|(apply zab;(iterate 7 exact rfl);exact(hCk.mono (by simp)))|(apply zad;(iterate 5 exact rfl);first|(apply zaq hT;exact rfl;exact rfl;exact mX;exact rfl;exact rfl))|(apply zal;exact rfl;all_goals(intro hb;(try dsimp only at hb);(try simp only[hb]);(first|replace hb:=zbc hb|replace hb:=zbd hb);(try omega))))
  all_goals try omega
  all_goals(apply ret1;exact rfl;exact⟨zai g who id0 o outs (zae x s bks rows F),zcA (show za7 _ (.blk bd.p 152 [bd.s.sl bd.l.length]::bd.s.own bd.l.length 168 6 (bd.l.flatMap zap.enc)::zai g who id0 o outs (zba x s (bks.map BAd.ptr) R rows F))by(unfold zai zba;exact dA)) (zfS (zcP hp0).symm),rfl,x,o,bks,rows,outs,rfl,hf,fun h=>absurd h hc⟩)
 ·rw[if_neg hc]
  have hc:=Decidable.not_not.1 hc
  rw[hc]at hCk
  by_cases hs:price=od.price∧qty≤od.left
  ·rw[if_pos hs]
   have hLs:=fun G=>zjp W G bd.p bd.s.A bd.s.c bd.l od.id qty hB.le
   have hR2:=hR ⟨bd.p,bd.s,zb2 od.id qty bd.l⟩
   have hptr:=zf3 (b':=⟨bd.p,bd.s,zb2 od.id qty bd.l⟩) hb1 rfl
   have hfit:zaY {s with books:=s.books.set n (zb2 od.id qty bd.l)} (bks.set n ⟨bd.p,bd.s,zb2 od.id qty bd.l⟩) rows:=⟨by rw[List.map_set,hf.1],hf.2⟩
   have hls:(s.books.set n (zb2 od.id qty bd.l)).length=s.books.length:=by simp
   have hcs:zbD x {s with books:=s.books.set n (zb2 od.id qty bd.l)}=zbD x s:=by simp only[zbD,hls]
   generalize zb2 od.id qty bd.l=l2 at*
   refine zaf Tryz.func142 rfl rfl Tryz.results142 Tryz.ntmps142 rfl rfl ?_
   refine zaI hrd rfl (fun hAi=> ?_)
   have hA:=hAi (by omega)
   refine zaI hrb rfl (fun hBi=> ?_)
   have hBA:=hBi (by omega)
   unfold zai zba
   repeat' (first|apply zah|apply zaa|apply zak|apply zam|apply zag|apply zac hT;iterate 4 exact rfl|apply zaC [] [] hmix;decide+kernel|apply zaA;(iterate 5 exact rfl);intro g9|(apply zaJ hT;(iterate 8 exact rfl);(iterate 2 omega);first|exact hA|exact hBA)|(apply zad;(iterate 5 exact rfl);first|exact zbe hT rfl rfl (hrd.mono (by intro c hc;unfold zai zba at hc;revert c;exact fun c hc=>by(repeat(first|exact hc|apply mcm)))) rfl hix|exact zaO hT rfl rfl (hrb.mono (by intro c hc;unfold zai zba at hc;revert c;exact fun c hc=>by(repeat(first|exact hc|apply mcm)))) zaP.enc_len rfl hbn rfl)|(apply zab;(iterate 7 exact rfl);exact(hCk.mono (by simp)))|(apply zau;(iterate 7 exact rfl);exact(zax.perm (hLs _) pX);rintro _ _ ⟨rfl,rfl⟩)|(apply zad;(iterate 5 exact rfl);first|(apply zaq hT;exact rfl;exact rfl;exact mX;exact rfl;exact rfl))|apply zan;iterate 2 exact rfl|(apply zaH;exact rfl;all_goals(intro hb;(fail_if_success (change true=true at hb));(fail_if_success (change false=false at hb));(try dsimp only at hb);(try simp only[hb]);(first|replace hb:=odt hb|replace hb:=odf hb);(try omega)))|(apply zal;exact rfl;all_goals(intro hb;(try dsimp only at hb);(try simp only[hb]);(first|replace hb:=odt hb|replace hb:=odf hb);(try omega))))
   all_goals try omega
   all_goals
    apply ret1
    exact rfl
    refine⟨zai g who id0 o outs (zae x {s with books:=s.books.set n l2} (bks.set n ⟨bd.p,bd.s,l2⟩) rows F),zcA (show za7 _ (.blk bd.p 152 [bd.s.sl l2.length]::bd.s.own l2.length 168 6 (l2.flatMap zap.enc)::zai g who id0 o outs (zba x {s with books:=s.books.set n l2} ((bks.set n ⟨bd.p,bd.s,l2⟩).map BAd.ptr) R rows F))from ?_) (zfS (zcP hR2).symm),rfl,x,o,_,rows,outs,rfl,hfit,fun _=>(List.append_nil _).symm⟩
    rw[hptr]
    unfold zai zba
    rw[hcs,hls]
    exact dA
  ·rw[if_neg hs]
   have hDr:=fun G=>zfk W G bd.p bd.s.A bd.s.c bd.l od.id hB.le
   have hD2:=hD.setDrop n od.id
   have hO2:OwnI {s with books:=s.books.set n (zbf od.id (za8 s n))}:=hO.set (n:=n) (m:=zbf od.id (za8 s n)) rfl (fun y hy=>hO.book _ y (zb5 hy))
   rw[hb2]at hD2 hO2
   have hls:(s.books.set n (zbf od.id bd.l)).length=s.books.length:=by simp
   have hcs:zbD x {s with books:=s.books.set n (zbf od.id bd.l)}=zbD x s:=by simp only[zbD,hls]
   have hfit:∀sp,zaY {s with books:=s.books.set n (zbf od.id bd.l)} (bks.set n ⟨bd.p,sp,zbf od.id bd.l⟩) rows:=fun sp=>⟨by rw[List.map_set,hf.1],hf.2⟩
   have hM:=fun G sp=>zax.perm (zig W G x {s with books:=s.books.set n (zbf od.id bd.l)} (bks.set n ⟨bd.p,sp,zbf od.id bd.l⟩) rows N hD2 hO2 hN (hfit sp) g who id0 o outs n {od with price:=price,left:=qty} 0 (by rw[hls];exact hn) hw hbo) (zcP (hR ⟨bd.p,sp,zbf od.id bd.l⟩)).symm
   have hptr:∀sp,(bks.set n ⟨bd.p,sp,zbf od.id bd.l⟩).map BAd.ptr=bks.map BAd.ptr:=fun sp=>zf3 (b':=⟨bd.p,sp,zbf od.id bd.l⟩) hb1 rfl
   simp only[hptr]at hM
   unfold zba at hM
   simp only[hcs,hls]at hM
   generalize hmr:zby {s with books:=s.books.set n (zbf od.id bd.l)} who n {od with price:=price,left:=qty} 0=r at*
   refine zaf Tryz.func142 rfl rfl Tryz.results142 Tryz.ntmps142 rfl rfl ?_
   refine zaI hrd rfl (fun hAi=> ?_)
   have hA:=hAi (by omega)
   refine zaI hrb rfl (fun hBi=> ?_)
   have hBA:=hBi (by omega)
   unfold zai zba
   repeat' (first|apply zah|apply zaa|apply zak|apply zam|apply zag|apply zac hT;iterate 4 exact rfl|apply zaK;iterate 3 exact rfl|apply zaC [] [] hmix;decide+kernel|apply zaA;(iterate 5 exact rfl);intro g9|(apply zar hT;(iterate 6 exact rfl);exact sX;(iterate 3 exact rfl);exact nle rfl)|(apply zaJ hT;(iterate 8 exact rfl);(iterate 2 omega);first|exact hA|exact hBA)|(apply zad;(iterate 5 exact rfl);first|exact zbe hT rfl rfl (hrd.mono (by intro c hc;unfold zai zba at hc;revert c;exact fun c hc=>by(repeat(first|exact hc|apply mcm)))) rfl hix|exact zaO hT rfl rfl (hrb.mono (by intro c hc;unfold zai zba at hc;revert c;exact fun c hc=>by(repeat(first|exact hc|apply mcm)))) zaP.enc_len rfl hbn rfl)|(apply zab;(iterate 7 exact rfl);exact(hCk.mono (by simp)))|(apply zau;(iterate 7 exact rfl);exact(zax.perm (hDr _) pX);rintro _ _ ⟨rfl,A3,c3,rfl⟩)|(apply zau;(iterate 7 exact rfl);exact(zax.perm (hM _ ⟨A3,c3⟩) (by unfold zai;exact pX));rintro _ _ ⟨rfl,y2,o2,bks2,rows2,os2,rfl,hf2,hok2⟩)|(apply zad;(iterate 5 exact rfl);first|(apply zaq hT;exact rfl;exact rfl;exact mX;exact rfl;exact rfl)|(apply zaF hT;exact rfl;exact rfl;exact mX;exact rfl))|apply zan;iterate 2 exact rfl|(apply zaH;exact rfl;all_goals(intro hb;(fail_if_success (change true=true at hb));(fail_if_success (change false=false at hb));(try dsimp only at hb);(try simp only[hb]);(first|replace hb:=odt hb|replace hb:=odf hb);(try omega)))|(apply zal;exact rfl;all_goals(intro hb;(try dsimp only at hb);(try simp only[hb]);(first|replace hb:=odt hb|replace hb:=odf hb);(try omega))))
   all_goals try omega
   all_goals(apply ret1;exact rfl;exact⟨zai g who id0 o2 os2 (zae (y2.at x.d) r.d bks2 rows2 F),by(unfold zai zae;exact dA),rfl,y2,o2,bks2,rows2,os2,rfl,hf2,hok2⟩)
theorem zop {N:Nat}{s:Dk}(hD:DOK N s){who k:Int}(h:mayV s.parties who k=true):0≤who∧who≤7:=by
 have hr:zcs s.parties who≠0:=by
  intro e
  unfold mayV at h
  rw[e]at h
  repeat' split at h
  all_goals exact absurd h (by decide)
 obtain⟨h0,hlt,_⟩:=zcD hr
 have:=(zbO hD.rules).2.1
 omega
theorem zmx (W:World)(F:List zao)(x:DAd)(s:Dk)(bks:List BAd)(rows:List PRow)(N:Nat)(hD:DOK N s)(hO:OwnI s)(hN:N≤10000)(hf:zaY s bks rows)(g:Nat)(who id0:Int)(o:Sp)(outs:List OutR)(m:MsgR)(hmw:MsgW m)(hw:0≤who∧who≤8)(hbo:outs.length≤900000):
 zax Tryz.prog W 138 [ptrV x.d,ptrV g,.agg m.enc.toArray] (zai g who id0 o outs (zae x s bks rows F)) (zaZ x g who outs F (zcg s who m)):=by
 refine zax.dropTo ?_
 have hor:=hD.order
 have h8:=hD.few
 have hI:=zel W x s m.f0
 have hS:=zdx W m.f1
 unfold zcg
 dsimp only
 cases hn:zcE s m.f0
 ·rw[hn]at hI
  rw[if_pos rfl]
  refine zaf Tryz.func138 rfl rfl Tryz.results138 Tryz.ntmps138 rfl rfl ?_
  unfold zai zae
  repeat' (first|apply zah|apply zaa|apply zak|apply zaj|apply zag|apply zac hT;iterate 4 exact rfl|apply zaC [] [] hmix;decide+kernel|apply zaA;(iterate 5 exact rfl);intro g5|apply zaS hT;(iterate 9 exact rfl);(iterate 2 omega)|(apply zab;(iterate 7 exact rfl);exact(hI.mono (zdr mX)))|(apply zad;(iterate 5 exact rfl);first|(apply zaq hT;exact rfl;exact rfl;exact mX;exact rfl;exact rfl))|apply zas;iterate 2 exact rfl)
  all_goals try omega
  all_goals first
   |(apply ret1;exact rfl;exact⟨zai g who id0 o outs (zae x s bks rows F),by(unfold zai zae;exact dX),zaZ.bad' (by decide) hf⟩)
   |skip
 ·rw[hn]at hI
  rw[if_neg (by decide)]
  by_cases h2:isB m.f1=false∨m.f4<0∨m.f4>4
  ·rw[if_pos h2]
   refine zaf Tryz.func138 rfl rfl Tryz.results138 Tryz.ntmps138 rfl rfl ?_
   cases hs:isB m.f1
   ·rw[hs]at hS
    unfold zai zae
    repeat' (first|apply zah|apply zaa|apply zak|apply zaj|apply zag|apply zac hT;iterate 4 exact rfl|apply zaK;iterate 3 exact rfl|apply zaC [] [] hmix;decide+kernel|apply zaA;(iterate 5 exact rfl);intro g5|apply zaS hT;(iterate 9 exact rfl);(iterate 2 omega)|(apply zab;(iterate 7 exact rfl);exact(hI.mono (zdr mX)))|(apply zab;(iterate 7 exact rfl);exact(hS.mono (by simp)))|(apply zad;(iterate 5 exact rfl);first|(apply zaq hT;exact rfl;exact rfl;exact mX;exact rfl;exact rfl))|apply zas;iterate 2 exact rfl|apply zan;iterate 2 exact rfl)
    all_goals try omega
    all_goals first
     |(apply ret1;exact rfl;exact⟨zai g who id0 o outs (zae x s bks rows F),by(unfold zai zae;exact dX),zaZ.bad' (by decide) hf⟩)
     |skip
   ·rw[hs]at hS
    rw[hs]at h2
    have h2:m.f4<0∨m.f4>4:=by simpa using h2
    unfold zai zae
    repeat' (first|apply zah|apply zaa|apply zak|apply zaj|apply zag|apply zac hT;iterate 4 exact rfl|apply zaK;iterate 3 exact rfl|apply zaC [] [] hmix;decide+kernel|apply zaA;(iterate 5 exact rfl);intro g5|apply zaS hT;(iterate 9 exact rfl);(iterate 2 omega)|(apply zab;(iterate 7 exact rfl);exact(hI.mono (zdr mX)))|(apply zab;(iterate 7 exact rfl);exact(hS.mono (by simp)))|(apply zad;(iterate 5 exact rfl);first|(apply zaq hT;exact rfl;exact rfl;exact mX;exact rfl;exact rfl))|apply zas;iterate 2 exact rfl|apply zan;iterate 2 exact rfl|(apply zaH;exact rfl;all_goals(intro hb;(fail_if_success (change true=true at hb));(fail_if_success (change false=false at hb));(try dsimp only at hb);(try simp only[hb]);(first|replace hb:=odt hb|replace hb:=odf hb);(try omega)))|(apply zal;exact rfl;all_goals(intro hb;(try dsimp only at hb);(try simp only[hb]);(first|replace hb:=odt hb|replace hb:=odf hb);(try omega))))
    all_goals try omega
    all_goals first
     |(apply ret1;exact rfl;exact⟨zai g who id0 o outs (zae x s bks rows F),by(unfold zai zae;exact dX),zaZ.bad' (by decide) hf⟩)
     |skip
  ·rw[if_neg h2]
   have hs:isB m.f1=true:=by cases h:isB m.f1<;>simp_all
   have hhow:¬m.f4<0∧¬m.f4>4:=by constructor<;>(intro h;exact h2 (by simp[h]))
   rw[hs]at hS
   obtain⟨⟨n0,n1⟩,hbn,hbm⟩:=zdn hD.nbk hn
   have hbl:=(gsi.1 hbn).1
   have hbI:=(zbO hD.rules).2.2.2.1 _ hbm
   have hFt:=zn9 W (zbv s m.f0) m.f4 m.f2 m.f3 hbI
   have hrb:zaz W (zai g who id0 o outs (zae x s bks rows F)) x.bonds.A s.bonds.length 7 (s.bonds.flatMap zaP.enc):=zaz.enc (c:=x.bonds.c) zaP.enc_len zaP.enc_one (by unfold zai zae;exact mX) rfl
   generalize hbb:zbv s m.f0=b at*
   refine zaf Tryz.func138 rfl rfl Tryz.results138 Tryz.ntmps138 rfl rfl ?_
   refine zaI hrb rfl (fun hAi=> ?_)
   have hA:=hAi (by omega)
   by_cases hfe:znb b m.f4 m.f2 m.f3≠0
   ·rw[if_pos hfe]
    generalize znb b m.f4 m.f2 m.f3=er at*
    unfold zai zae
    repeat' (first|apply zah|apply zaa|apply zak|apply zam|apply zaj|apply zag|apply zac hT;iterate 4 exact rfl|apply zaC [] [] hmix;decide+kernel|apply zaA;(iterate 5 exact rfl);intro g5|apply zaS hT;(iterate 9 exact rfl);(iterate 2 omega)|(apply zab;(iterate 7 exact rfl);exact(hI.mono (zdr mX)))|(apply zab;(iterate 7 exact rfl);exact(hS.mono (by simp)))|apply zaJ hT;(iterate 8 exact rfl);(iterate 2 omega);exact hA|(apply zad;(iterate 5 exact rfl);exact zaO hT rfl rfl (hrb.mono kX) zaP.enc_len rfl hbn rfl)|(apply zab;(iterate 7 exact rfl);exact(hFt.mono (by simp)))|(apply zad;(iterate 5 exact rfl);first|(apply zaq hT;exact rfl;exact rfl;exact mX;exact rfl;exact rfl))|apply zan;iterate 2 exact rfl|(apply zaH;exact rfl;all_goals(intro hb;(fail_if_success (change true=true at hb));(fail_if_success (change false=false at hb));(try dsimp only at hb);(try simp only[hb]);(first|replace hb:=odt hb|replace hb:=odf hb);(try omega)))|(apply zal;exact rfl;all_goals(intro hb;(try dsimp only at hb);(try simp only[hb]);(first|replace hb:=odt hb|replace hb:=odf hb|replace hb:=zbc hb|replace hb:=zbd hb);(try omega))))
    all_goals try omega
    all_goals first
     |(apply ret1;exact rfl;exact⟨zai g who id0 o outs (zae x s bks rows F),by(unfold zai zae;exact dX),zaZ.bad' hfe hf⟩)
     |skip
   ·rw[if_neg hfe]
    have hfe:=Decidable.not_not.1 hfe
    rw[hfe]at hFt
    have hM:=fun G=>zig W G x s bks rows N hD hO hN hf g who id0 o outs m.f0.toNat ⟨s.order+1,0,who,m.f1,m.f2,m.f3⟩ m.f4 (by omega) hw hbo
    rw[show((m.f0.toNat:Nat):Int)=m.f0 by omega]at hM
    have hmo:(zby s who m.f0.toNat ⟨s.order+1,0,who,m.f1,m.f2,m.f3⟩ m.f4).d.order=s.order:=ze0
    generalize zby s who m.f0.toNat ⟨s.order+1,0,who,m.f1,m.f2,m.f3⟩ m.f4=r at*
    by_cases hre:r.err=0
    ·rw[if_pos hre]
     unfold zai zae
     repeat' (first|apply zah|apply zaa|apply zak|apply zam|apply zaj|apply zag|apply zac hT;iterate 4 exact rfl|(apply zaM hT;(iterate 4 exact rfl);(iterate 2 (first|omega)))|apply zaC [] [] hmix;decide+kernel|apply zaA;(iterate 5 exact rfl);intro g5|apply zaS hT;(iterate 9 exact rfl);(iterate 2 omega)|(apply zab;(iterate 7 exact rfl);exact(hI.mono (zdr mX)))|(apply zab;(iterate 7 exact rfl);exact(hS.mono (by simp)))|apply zaJ hT;(iterate 8 exact rfl);(iterate 2 omega);exact hA|(apply zad;(iterate 5 exact rfl);exact zaO hT rfl rfl (hrb.mono kX) zaP.enc_len rfl hbn rfl)|(apply zab;(iterate 7 exact rfl);exact(hFt.mono (by simp)))|apply zaE hT (cs:=zap.enc ⟨s.order+1,0,who,m.f1,m.f2,m.f3⟩);iterate 4 exact rfl|(apply zau;(iterate 7 exact rfl);exact(zax.perm (hM _) pX);(rintro _ _ ⟨rfl,y2,o2,bks2,rows2,os2,rfl,hf2,hok2⟩;rw[hre]))|(apply zar hT;(iterate 6 exact rfl);exact sX;(iterate 3 exact rfl);exact nle rfl)|(apply zad;(iterate 5 exact rfl);first|(apply zaq hT;exact rfl;exact rfl;exact mX;exact rfl;exact rfl))|apply zas;iterate 2 exact rfl|apply zan;iterate 2 exact rfl|(apply zaH;exact rfl;all_goals(intro hb;(fail_if_success (change true=true at hb));(fail_if_success (change false=false at hb));(try dsimp only at hb);(try simp only[hb]);(first|replace hb:=odt hb|replace hb:=odf hb);(try omega)))|(apply zal;exact rfl;all_goals(intro hb;(try dsimp only at hb);(try simp only[hb]);(first|replace hb:=odt hb|replace hb:=odf hb);(try omega))))
     all_goals try omega
     all_goals(apply ret1;exact rfl;exact⟨zai g who (r.d.order+1) o2 os2 (zae (y2.at x.d) {r.d with order:=r.d.order+1} bks2 rows2 F),by(unfold zai zae;exact dA),by first|rfl|rw[hre],y2,o2,bks2,rows2,_,_,rfl,hf2,fun _=>⟨rfl,hok2 hre⟩⟩)
    ·rw[if_neg hre]
     unfold zai zae
     repeat' (first|apply zah|apply zaa|apply zak|apply zam|apply zaj|apply zag|apply zac hT;iterate 4 exact rfl|(apply zaM hT;(iterate 4 exact rfl);(iterate 2 (first|omega)))|apply zaC [] [] hmix;decide+kernel|apply zaA;(iterate 5 exact rfl);intro g5|apply zaS hT;(iterate 9 exact rfl);(iterate 2 omega)|(apply zab;(iterate 7 exact rfl);exact(hI.mono (zdr mX)))|(apply zab;(iterate 7 exact rfl);exact(hS.mono (by simp)))|apply zaJ hT;(iterate 8 exact rfl);(iterate 2 omega);exact hA|(apply zad;(iterate 5 exact rfl);exact zaO hT rfl rfl (hrb.mono kX) zaP.enc_len rfl hbn rfl)|(apply zab;(iterate 7 exact rfl);exact(hFt.mono (by simp)))|apply zaE hT (cs:=zap.enc ⟨s.order+1,0,who,m.f1,m.f2,m.f3⟩);iterate 4 exact rfl|(apply zau;(iterate 7 exact rfl);exact(zax.perm (hM _) pX);rintro _ _ ⟨rfl,y2,o2,bks2,rows2,os2,rfl,hf2,hok2⟩)|(apply zad;(iterate 5 exact rfl);first|(apply zaq hT;exact rfl;exact rfl;exact mX;exact rfl;exact rfl))|apply zan;iterate 2 exact rfl|(apply zaH;exact rfl;all_goals(intro hb;(fail_if_success (change true=true at hb));(fail_if_success (change false=false at hb));(try dsimp only at hb);(try simp only[hb]);(first|replace hb:=odt hb|replace hb:=odf hb);(try omega)))|(apply zal;exact rfl;all_goals(intro hb;(try dsimp only at hb);(try simp only[hb]);(first|replace hb:=odt hb|replace hb:=odf hb);(try omega))))
     all_goals try omega
     all_goals(apply ret1;exact rfl;exact⟨zai g who id0 o2 os2 (zae (y2.at x.d) r.d bks2 rows2 F),by(unfold zai zae;exact dA),rfl,y2,o2,bks2,rows2,_,_,rfl,hf2,fun h=>absurd h hre⟩)
end Go.Proofs.YteocfhdocpeokaaGreat
