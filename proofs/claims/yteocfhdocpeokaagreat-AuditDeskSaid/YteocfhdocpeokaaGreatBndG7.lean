/- The statements' walks, and what they stand on, joined into few texts: part 7. Conditions stand in each statement. -/
import Derived.Test.YteocfhdocpeokaaGreatBndG6
set_option maxHeartbeats 16000000
set_option linter.all false
namespace Go.Proofs.YteocfhdocpeokaaGreat
open Go Go.Sl
attribute [local irreducible] AW ES EP Ld RetQ
set_option maxRecDepth 100000
structure zcy where
 kind:Int
 who:Int
 n:Int
 msg:MsgR
def zcy.enc (a:zcy):List Value:=[.int .i64 a.kind,.int .i64 a.who,.int .i64 a.n]++a.msg.enc
theorem zcy.enc_len (a:zcy):a.enc.length=10:=rfl
def zcy.ok (a:zcy):Prop:=MsgW a.msg
theorem zp5 (vs:List Value)(h:zdf [.int .i64,.int .i64,.int .i64,.int .i64,.int .i64,.int .i64,.int .i64,.int .i64,.int .i64,.int .i64] vs):∃x:zcy,zcy.enc x=vs∧zcy.ok x:=by
 have hlen:vs.length=10:=h.len
 match vs,hlen,h with
 |[u0,u1,u2,u3,u4,u5,u6,u7,u8,u9],_,h=>
  obtain⟨a0,h0,w0⟩:=h.1
  obtain⟨a1,h1,w1⟩:=h.2.1
  obtain⟨a2,h2,w2⟩:=h.2.2.1
  obtain⟨a3,h3,w3⟩:=h.2.2.2.1
  obtain⟨a4,h4,w4⟩:=h.2.2.2.2.1
  obtain⟨a5,h5,w5⟩:=h.2.2.2.2.2.1
  obtain⟨a6,h6,w6⟩:=h.2.2.2.2.2.2.1
  obtain⟨a7,h7,w7⟩:=h.2.2.2.2.2.2.2.1
  obtain⟨a8,h8,w8⟩:=h.2.2.2.2.2.2.2.2.1
  obtain⟨a9,h9,w9⟩:=h.2.2.2.2.2.2.2.2.2.1
  exact⟨⟨a0,a1,a2,⟨a3,a4,a5,a6,a7,a8,a9⟩⟩,by rw[h0,h1,h2,h3,h4,h5,h6,h7,h8,h9];rfl,⟨wfI w4,wfI w5,wfI w6,wfI w7,wfI w8,wfI w9⟩⟩
def zbL :Nat→Dk→Dk×List OutR
 |0,s=>(s,[])
 |k+1,s=>((zc5 false (zbL k s).1).1,(zbL k s).2++(zc5 false (zbL k s).1).2)
def actN (n:Int):Nat:=(min n 40).toNat
def actD (s:Dk)(a:zcy):Dk×List OutR:=
 if a.kind=1 then doD false s a.who a.n a.msg else if a.kind=2 then zc5 false s else if a.kind=3 then zeb false s a.who else zbL (actN a.n) s
theorem zeC {N:Nat}{s:Dk}(hD:DOK N s)(hO:OwnI s):∀k,DOK (N+k) (zbL k s).1∧OwnI (zbL k s).1
 |0=>⟨hD,hO⟩
 |k+1=>by
  obtain⟨h1,h2⟩:=zeC hD hO k
  exact⟨h1.tick,h2.tick⟩
theorem zj9 {N:Nat}{s:Dk}(hD:DOK N s):(zc5 false s).2.length≤N:=by
 unfold zc5
 refine Nat.le_trans (ze6 _ _) ?_
 dsimp only
 rw[List.length_nil,Nat.zero_add]
 exact Nat.le_trans (List.take_sublist _ _).length_le hD.nd
theorem zio {N:Nat}{s:Dk}(hD:DOK N s)(hO:OwnI s):∀k,(zbL k s).2.length≤(N+k)*k
 |0=>Nat.zero_le _
 |k+1=>by
  have h1:=zio hD hO k
  have h2:=zj9 (zeC hD hO k).1
  show((zbL k s).2++(zc5 false (zbL k s).1).2).length≤_
  rw[lla]
  have h3:(N+k)*k≤(N+(k+1))*k:=Nat.mul_le_mul_right k (by omega)
  rw[Nat.mul_add,Nat.mul_one]
  omega
theorem zhq {N:Nat}{s:Dk}(hD:DOK N s)(hO:OwnI s)(a:zcy):DOK (N+40) (actD s a).1∧OwnI (actD s a).1:=by
 unfold actD
 split
 ·exact⟨(hD.do' a.who a.n a.msg).ge (by omega),hO.do' hD a.who a.n a.msg⟩
 ·split
  ·exact⟨hD.tick.ge (by omega),hO.tick⟩
  ·split
   ·exact⟨(hD.gone a.who).ge (by omega),hO.gone a.who⟩
   ·obtain⟨h1,h2⟩:=zeC hD hO (actN a.n)
    exact⟨h1.ge (by unfold actN;omega),h2⟩
theorem zs6 (W:World)(F:List zao)(x:DAd)(s:Dk)(bks:List BAd)(rows:List PRow)(N:Nat)(hD:DOK N s)(hO:OwnI s)(hN:N≤9000)(hf:zaY s bks rows)(a:zcy)(ha:a.ok):
 zax Tryz.prog W 19 [ptrV x.d,.agg a.enc.toArray] (zae x s bks rows F) (zi2 x F (actD s a)):=by
 refine zax.dropF ?_
 have hDo:=fun G=>zq0 W G x s bks rows N hD hO (by omega) hf a.who a.n a.msg ha
 have hTk:=fun G=>zj2 W G x s bks rows N hD (by omega) hf
 have hGn:=fun G=>zou W G x s bks rows N hD (by omega) hf a.who
 unfold actD
 by_cases h1:a.kind=1
 ·rw[if_pos h1]
  generalize doD false s a.who a.n a.msg=r at*
  unfold zae
  refine zaf Tryz.func19 rfl rfl Tryz.results19 Tryz.ntmps19 rfl rfl ?_
  repeat' (first|apply zah|apply zaa|apply zak|apply zaj|apply zag|apply zac hT;iterate 4 exact rfl|apply zaA;(iterate 5 exact rfl);intro g3|(apply zad;(iterate 5 exact rfl);(apply zqo hT;exact rfl;exact rfl;exact mX;exact rfl;exact nle rfl))|(apply zau;(iterate 7 exact rfl);exact(zax.perm (hDo _) (by unfold zae;exact pX));rintro _ _ ⟨y2,bks2,rows2,A2,c2,rfl,rfl,hf2,ho2⟩)|(apply zad;(iterate 5 exact rfl);first|(apply zaq hT;exact rfl;exact rfl;exact mX;exact rfl;exact rfl))|(apply zal;exact rfl;all_goals(intro hb;(try dsimp only at hb);(try simp only[hb]);(first|replace hb:=odt hb|replace hb:=odf hb);(try omega))))
  all_goals try omega
  all_goals(apply ret1;exact rfl;exact⟨.own A2 r.2.length c2 44 8 (r.2.flatMap OutR.enc)::zae (y2.at x.d) r.1 bks2 rows2 F,by(try unfold zae;exact dA),fun w hw=>⟨y2,bks2,rows2,A2,c2,rfl,rfl,hf2,ho2⟩⟩)
 ·rw[if_neg h1]
  by_cases h2:a.kind=2
  ·rw[if_pos h2]
   generalize zc5 false s=r at*
   unfold zae
   refine zaf Tryz.func19 rfl rfl Tryz.results19 Tryz.ntmps19 rfl rfl ?_
   repeat' (first|apply zah|apply zaa|apply zak|apply zaj|apply zag|apply zac hT;iterate 4 exact rfl|apply zaA;(iterate 5 exact rfl);intro g3|(apply zau;(iterate 7 exact rfl);exact(zax.perm (hTk _) (by unfold zae;exact pX));rintro _ _ ⟨y2,bks2,rows2,A2,c2,rfl,rfl,hf2,ho2⟩)|(apply zad;(iterate 5 exact rfl);first|(apply zaq hT;exact rfl;exact rfl;exact mX;exact rfl;exact rfl))|(apply zal;exact rfl;all_goals(intro hb;(try dsimp only at hb);(try simp only[hb]);(first|replace hb:=odt hb|replace hb:=odf hb);(try omega))))
   all_goals try omega
   all_goals(apply ret1;exact rfl;exact⟨.own A2 r.2.length c2 44 8 (r.2.flatMap OutR.enc)::zae (y2.at x.d) r.1 bks2 rows2 F,by(try unfold zae;exact dA),fun w hw=>⟨y2,bks2,rows2,A2,c2,rfl,rfl,hf2,ho2⟩⟩)
  ·rw[if_neg h2]
   by_cases h3:a.kind=3
   ·rw[if_pos h3]
    generalize zeb false s a.who=r at*
    unfold zae
    refine zaf Tryz.func19 rfl rfl Tryz.results19 Tryz.ntmps19 rfl rfl ?_
    repeat' (first|apply zah|apply zaa|apply zak|apply zaj|apply zag|apply zac hT;iterate 4 exact rfl|apply zaA;(iterate 5 exact rfl);intro g3|(apply zau;(iterate 7 exact rfl);exact(zax.perm (hGn _) (by unfold zae;exact pX));rintro _ _ ⟨y2,bks2,rows2,A2,c2,rfl,rfl,hf2,ho2⟩)|(apply zad;(iterate 5 exact rfl);first|(apply zaq hT;exact rfl;exact rfl;exact mX;exact rfl;exact rfl))|(apply zal;exact rfl;all_goals(intro hb;(try dsimp only at hb);(try simp only[hb]);(first|replace hb:=odt hb|replace hb:=odf hb);(try omega))))
    all_goals try omega
    all_goals(apply ret1;exact rfl;exact⟨.own A2 r.2.length c2 44 8 (r.2.flatMap OutR.enc)::zae (y2.at x.d) r.1 bks2 rows2 F,by(try unfold zae;exact dA),fun w hw=>⟨y2,bks2,rows2,A2,c2,rfl,rfl,hf2,ho2⟩⟩)
   ·rw[if_neg h3]
    refine zaf Tryz.func19 rfl rfl Tryz.results19 Tryz.ntmps19 rfl rfl ?_
    refine zbI (fun w hw=>⟨_,hw.own_nil 44 8,?_⟩)
    repeat' (first|apply zah|apply zaa|apply zam|apply zaj|apply zag|apply zac hT;iterate 4 exact rfl|apply zaA;(iterate 5 exact rfl);intro g3|(apply zad;(iterate 5 exact rfl);first|(apply zaq hT;exact rfl;exact rfl;exact mX;exact rfl;exact rfl))|(apply zal;exact rfl;all_goals(intro hb;(try dsimp only at hb);(try simp only[hb]);(first|replace hb:=odt hb|replace hb:=odf hb);(try omega))))
    all_goals try omega
    all_goals
     refine za1 (α:=Nat×Sp×DAd×List BAd×List PRow) (E:=fun z=>[(0,ptrV x.d),(3,.pointer (some ⟨g3,0,none⟩)),(5,z.2.1.sl (zbL z.1 s).2.length),(6,.int .i64 z.1)])
      (H:=fun z=>.blk g3 59 a.enc::z.2.1.own (zbL z.1 s).2.length 44 8 ((zbL z.1 s).2.flatMap OutR.enc)::zae (z.2.2.1.at x.d) (zbL z.1 s).1 z.2.2.2.1 z.2.2.2.2 F) (μ:=fun z=>actN a.n - z.1)
      (S:=fun z=>z.1≤actN a.n∧zaY (zbL z.1 s).1 z.2.2.2.1 z.2.2.2.2) (0,⟨none,0⟩,x,bks,rows) ⟨Nat.zero_le _,hf⟩ ⟨rfl,rfl,rfl,rfl,trivial⟩ ?_ ?_
     ·show za7 _ (.blk g3 59 a.enc::.own none 0 0 44 8 []::zae x s bks rows F)
      unfold zae
      exact dX
     ·rintro⟨k,o2,y,bks2,rows2⟩ ⟨hk,hf2⟩
      dsimp only at hk hf2 ⊢
      obtain⟨hDk,hOk⟩:=zeC hD hO k
      have hk40:actN a.n≤40:=by unfold actN;omega
      have hol:=zio hD hO k
      have hol2:(zbL k s).2.length≤400000:=by
       refine Nat.le_trans hol ?_
       refine Nat.le_trans (Nat.mul_le_mul (show N+k≤9040 by omega) (show k≤40 by omega)) ?_
       decide
      have hto:=zj9 hDk
      by_cases hlt:k<actN a.n
      ·have hkn:(k:Int)<a.n∧(k:Int)<40:=by unfold actN at hlt;omega
       have hTk2:=fun G=>zj2 W G (y.at x.d) (zbL k s).1 bks2 rows2 (N+k) hDk (by omega) hf2
       have e1:(zbL (k+1) s).1=(zc5 false (zbL k s).1).1:=rfl
       have e2:(zbL (k+1) s).2=(zbL k s).2++(zc5 false (zbL k s).1).2:=rfl
       generalize zc5 false (zbL k s).1=r at*
       generalize hn1:(zbL (k+1) s).1=s1 at*
       generalize hn2:(zbL (k+1) s).2=t1 at*
       generalize (zbL k s).1=s0 at*
       generalize (zbL k s).2=t0 at*
       subst e1
       subst e2
       unfold zae
       repeat' (first|apply zah|apply zaa|apply zam|apply zaj|apply zag|apply zac hT;iterate 4 exact rfl|(apply zaM hT;(iterate 4 exact rfl);(iterate 2 (first|omega)))|(apply zau;(iterate 7 exact rfl);exact(zax.perm (hTk2 _) (by unfold zae;exact pX));rintro _ _ ⟨y3,bks3,rows3,A3,c3,rfl,rfl,hf3,ho3⟩)|(apply zbb hT;(iterate 10 exact rfl);exact sX;exact ho3.reads mem0;omega;(show(_:Nat)*64≤_;omega);intro A' c')|(apply zad;(iterate 5 exact rfl);first|(apply zaq hT;exact rfl;exact rfl;exact mX;exact rfl;exact rfl))|(apply zaH;exact rfl;all_goals(intro hb;(fail_if_success (change true=true at hb));(fail_if_success (change false=false at hb));(try dsimp only at hb);(try simp only[hb]);(first|replace hb:=odt hb|replace hb:=odf hb);(try omega)))|(apply zal;exact rfl;all_goals(intro hb;(try dsimp only at hb);(try simp only[hb]);(first|replace hb:=odt hb|replace hb:=odf hb);(try omega))))
       all_goals try omega
       all_goals
        refine zaD (k+1,⟨A',c'⟩,y3,bks3,rows3) (by(try dsimp only);omega) ⟨by(try dsimp only);omega,by dsimp only;rw[hn1];exact hf3⟩ ⟨rfl,rfl,by dsimp only;rw[hn2];show _=some (Value.slice A' (t0++r.2).length c');rw[lla];rfl,rfl,trivial⟩ ?_
        dsimp only
        rw[hn1,hn2]
        rw[show(t0++r.2).length=t0.length+r.2.length from lla,show(t0++r.2).flatMap OutR.enc=t0.flatMap OutR.enc++r.2.flatMap OutR.enc from List.flatMap_append]
        try unfold zae
        exact dA
      ·have hkn:¬((k:Int)<a.n∧(k:Int)<40):=by unfold actN at hlt hk;omega
       obtain rfl:k=actN a.n:=by omega
       generalize hr:zbL (actN a.n) s=r at*
       unfold zae
       repeat' (first|apply zah|apply zaa|apply zak|apply zaN|apply zag|apply zac hT;iterate 4 exact rfl|apply zaK;iterate 3 exact rfl|(apply zad;(iterate 5 exact rfl);first|(apply zaq hT;exact rfl;exact rfl;exact mX;exact rfl;exact rfl))|apply zan;iterate 2 exact rfl|(apply zaH;exact rfl;all_goals(intro hb;(fail_if_success (change true=true at hb));(fail_if_success (change false=false at hb));(try dsimp only at hb);(try simp only[hb]);(first|replace hb:=odt hb|replace hb:=odf hb);(try omega)))|(apply zal;exact rfl;all_goals(intro hb;(try dsimp only at hb);(try simp only[hb]);(first|replace hb:=odt hb|replace hb:=odf hb);(try omega))))
       all_goals try omega
       all_goals(apply ret1;exact rfl;exact⟨.own o2.A r.2.length o2.c 44 8 (r.2.flatMap OutR.enc)::zae (y.at x.d) r.1 bks2 rows2 F,by(try unfold zae;exact dA),fun w hw=>⟨y,bks2,rows2,_,_,rfl,rfl,hf2,hw.ownF mem0⟩⟩)
end Go.Proofs.YteocfhdocpeokaaGreat
