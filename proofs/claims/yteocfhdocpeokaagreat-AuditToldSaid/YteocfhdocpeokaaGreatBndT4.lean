/- The statements' walks, and what they stand on, joined into few texts: part 4. Conditions stand in each statement. -/
import Derived.Test.YteocfhdocpeokaaGreatBndT3
set_option maxHeartbeats 16000000
set_option linter.all false
set_option linter.unusedSimpArgs false
set_option linter.unusedVariables false
namespace Go.Proofs.YteocfhdocpeokaaGreat
open Go Go.Sl
attribute [local irreducible] AW ES EP Ld RetQ
set_option maxRecDepth 100000
theorem zjI {np nb:Nat}(h:(1≤np∧np≤8)∧1≤nb∧nb≤4):zdd np nb=true:=by
 unfold zdd;simp;omega
theorem zkE (W:World)(h:List zah)(np nb:Nat)(hn:(1≤np∧np≤8)∧1≤nb∧nb≤4):zaL Tryz.prog W 6 [.int .i64 np,.int .i64 nb] h
 (fun v h'=>∃p AC cC AR cR cash rs,v=.pointer (some ⟨p,0,none⟩)∧psOf cash rs=zcR np nb∧h'=zaZ p AC cC AR cR cash rs h):=by
 refine(ziQ W h np nb).mono (fun v h' hh=> ?_)
 rcases hh with ⟨h1,_⟩|⟨_,p,AC,cC,AR,cR,rs,rfl,rfl,hrs⟩
 ·rw[zjI hn]at h1;cases h1
 ·exact⟨p,AC,cC,AR,cR,_,rs,rfl,by unfold psOf zcR;rw[hrs];rfl,rfl⟩
theorem zjJ {np nb:Nat}{w p:Ps}{k:Nat}(h:∀j,j<k→zc0 nb w p j=true)(hk:zc0 nb w p k=true):∀j,j<k+1→zc0 nb w p j=true:=fun j hj=>by
 by_cases e:j=k
 ·rw[e];exact hk
 ·exact h j (by omega)
theorem zkF {np nb:Nat}{w p:Ps}(h:∀j,j<np→zc0 nb w p j=true):eqPs np nb w p=true:=by
 unfold eqPs
 rw[List.all_eq_true]
 exact fun j hj=>h j (List.mem_range.1 hj)
theorem zjK {np nb:Nat}{w p:Ps}{k:Nat}(hk:k<np)(h:zc0 nb w p k=false):eqPs np nb w p=false:=by
 unfold eqPs
 rw[List.all_eq_false]
 exact⟨k,List.mem_range.2 hk,by rw[h];decide⟩
theorem zjL {nb:Nat}{w p:Ps}{k:Nat}(hc:zbh w k=zbh p k)(h:∀i:Nat,i<nb→zbv w k i=zbv p k i):zc0 nb w p k=true:=by
 unfold zc0
 simp only[Bool.and_eq_true,beq_iff_eq,List.all_eq_true]
 exact⟨hc,fun i hi=>h i (List.mem_range.1 hi)⟩
theorem zh1 {nb:Nat}{w p:Ps}{k:Nat}(hc:¬zbh w k=zbh p k):zc0 nb w p k=false:=by
 unfold zc0
 rw[Bool.and_eq_false_iff]
 exact .inl (by simpa using hc)
theorem zjM {nb:Nat}{w p:Ps}{k i:Nat}(hi:i<nb)(hc:¬zbv w k i=zbv p k i):zc0 nb w p k=false:=by
 unfold zc0
 rw[Bool.and_eq_false_iff]
 refine .inr ?_
 rw[List.all_eq_false]
 exact⟨i,List.mem_range.2 hi,by simpa using hc⟩
theorem ze5 {p:Nat}{AC:Option Addr}{cC:Nat}{AR:Option Addr}{cR:Nat}{cash:List Int}{rs:List PRow}{F:List zah}:∀c∈zaZ p AC cC AR cR cash rs [],c∈zaZ p AC cC AR cR cash rs F:=fun c hc=>by
 unfold zaZ at*
 rw[List.append_nil]at hc
 rcases List.mem_cons.1 hc with rfl|hc
 ·exact mem0
 rcases List.mem_cons.1 hc with rfl|hc
 ·exact mem1
 rcases List.mem_cons.1 hc with rfl|hc
 ·exact mem2
 exact List.mem_cons_of_mem _ (List.mem_cons_of_mem _ (List.mem_cons_of_mem _ (List.mem_append_left _ hc)))
theorem zcj {p:Nat}{AC:Option Addr}{cC:Nat}{AR:Option Addr}{cR:Nat}{cash:List Int}{rs:List PRow}{F:List zah}:∀c∈F,c∈zaZ p AC cC AR cR cash rs F:=fun c hc=>by
 unfold zaZ
 exact List.mem_cons_of_mem _ (List.mem_cons_of_mem _ (List.mem_cons_of_mem _ (List.mem_append_right _ hc)))
theorem zeG {p:Nat}{AC:Option Addr}{cC:Nat}{AR:Option Addr}{cR:Nat}{cash:List Int}{rs:List PRow}{F:List zah}:zaW (zaZ p AC cC AR cR cash rs F) F:=zcp (zcp (zcp (zio zbJ)))
theorem zgi (W:World)(p:Nat)(AC:Option Addr)(cC:Nat)(AR:Option Addr)(cR:Nat)(cash:List Int)(rs:List PRow)(np nb:Nat)(h1:1≤nb)(hP:PsOK np nb (psOf cash rs))(who:Int):
 zaF Tryz.prog W 34 [.pointer (some ⟨p,0,none⟩),.int .i64 who] (zaZ p AC cC AR cR cash rs []) (.int .i64 (zbh (psOf cash rs) who)):=by
 have hnc:=hP.nc
 have hnp:=hP.np
 simp only[psOf,llm]at hnc hnp
 rw[←zky]
 refine(zkx W p AC cC AR cR cash rs (by omega) (fun r hr=> ?_) who).mono (zmg mem0 mem2 mem1)
 have:=hP.row r.l (lmm.2 ⟨r,hr,rfl⟩)
 omega
theorem zh2 (W:World)(h:List zah)(np nb:Nat)(hn:(1≤np∧np≤8)∧1≤nb∧nb≤4)(A:Option Addr)(c:Nat)(l:List zaB)(hr:zaD W h A l.length 8 (l.flatMap zaB.enc))(hb:l.length≤1000000)(hok:∀t∈l,inW t.price∧inW t.qty)
 (q:Nat)(AC:Option Addr)(cC:Nat)(AR:Option Addr)(cR:Nat)(cash:List Int)(rs:List PRow)(hP:PsOK np nb (psOf cash rs))(hq:∀c∈zaZ q AC cC AR cR cash rs [],c∈h):
 zaF Tryz.prog W 10 [.int .i64 np,.int .i64 nb,.slice A l.length c,.pointer (some ⟨q,0,none⟩)] h (.bool (zlv np nb l (psOf cash rs))):=by
 refine zaF.ofD (fun h' hs=> ?_)
 have hrd:=hr.mono hs
 have hq':∀c∈zaZ q AC cC AR cR cash rs [],c∈h':=fun c hc=>hs c (hq c hc)
 have hBo:=fun who bond k (hk:∀c∈h',c∈k)=>(zgc W q AC cC AR cR cash rs np nb hP who bond).mono (h':=k) (fun c hc=>hk c (hq' c hc))
 have hCa:=fun who k (hk:∀c∈h',c∈k)=>(zgi W q AC cC AR cR cash rs np nb (by omega) hP who).mono (h':=k) (fun c hc=>hk c (hq' c hc))
 have hNw:=fun k=>zkE W k np nb hn
 unfold zlv
 refine zaA Tryz.func10 rfl rfl Tryz.results10 Tryz.ntmps10 rfl rfl ?_
 refine zaO hrd rfl (fun hA=> ?_)
 repeat' (first
  |apply zaz|apply zaa|apply zay|apply zal|apply zam|apply zae|apply zaw
  |(apply zai hT;(iterate 4 exact rfl))|(apply zaj;(iterate 3 exact rfl))|(apply zad;(iterate 2 exact rfl))
  |(apply zax hT;(iterate 4 exact rfl);(iterate 2 (first|omega|(dsimp only;omega))))
  |(apply zar [] [] hmix;decide+kernel)
  |(apply zaV (hs:=(hNw _));(iterate 7 exact rfl);rintro _ _ ⟨p,AC2,cC2,AR2,cR2,cash0,rs0,rfl,hz,rfl⟩)
  |(apply zab;(iterate 5 exact rfl);first|(apply zas hT;exact rfl;exact rfl;(repeat(first|exact List.mem_cons_self|apply List.mem_cons_of_mem|apply List.mem_append_right));exact rfl;exact rfl)|(apply zaq hT;exact rfl;exact rfl;(repeat(first|exact List.mem_cons_self|apply List.mem_cons_of_mem|apply List.mem_append_right));exact rfl))
  |(apply zau;(iterate 5 exact rfl);intro _)|(apply zac hT;(iterate 5 exact rfl);intro _)
  |(apply zaf;(iterate 2 exact rfl))|(apply zag;(iterate 2 exact rfl))
  |(apply zak;exact rfl;all_goals intro hb;all_goals(fail_if_success (change true=true at hb));all_goals(fail_if_success (change false=false at hb));all_goals(try dsimp only at hb);all_goals(try simp only[hb]);all_goals(first|replace hb:=of_decide_eq_true hb|replace hb:=of_decide_eq_false hb|replace hb:=zao hb|replace hb:=zap hb|replace hb:=eq_of_beq hb|replace hb:=ne_of_beq_false hb|skip);all_goals(try(exfalso;omega)))
  |(apply zan;exact rfl;all_goals intro hb;all_goals(try dsimp only at hb);all_goals(try simp only[hb]);all_goals(first|replace hb:=of_decide_eq_true hb|replace hb:=of_decide_eq_false hb|replace hb:=zao hb|replace hb:=zap hb|replace hb:=eq_of_beq hb|replace hb:=ne_of_beq_false hb|skip);all_goals(try(exfalso;omega))))
 all_goals try(exfalso;omega)
 refine zaX (α:=Nat×List Int×List PRow) (E:=fun x=>[(0,.int .i64 np),(1,.int .i64 nb),(3,.pointer (some ⟨q,0,none⟩)),(9,.pointer (some ⟨p,0,none⟩)),(19,.slice A l.length c),(20,.int .i64 l.length),(21,.int .i64 x.1)]) (H:=fun x=>zaZ p AC2 cC2 AR2 cR2 x.2.1 x.2.2 h') (μ:=fun x=>l.length - x.1)
  (S:=fun x=>x.1≤l.length∧PsOK np nb (psOf x.2.1 x.2.2)∧zbT l (zcR np nb)=zbT (l.drop x.1) (psOf x.2.1 x.2.2)) (0,cash0,rs0) ⟨Nat.zero_le _,by rw[hz];exact zeA np nb,by rw[hz];rfl⟩ ⟨rfl,rfl,rfl,rfl,rfl,rfl,rfl,trivial⟩ dX ?_
 rintro⟨k,cash1,rs1⟩ ⟨hk,hok1,hall⟩
 dsimp only at hk hok1 hall ⊢
 by_cases hlt:k<l.length
 ·obtain⟨t,ht⟩:∃t,l[k]? =some t:=⟨l[k]'(by omega),gge (by omega)⟩
  have ht2:l[(k:Int).toNat]? =some t:=by simpa using ht
  have hA':=hA (by omega)
  have hd1:decide ((k:Int)<(l.length:Int))=true:=by simp;omega
  obtain⟨w1,w2⟩:=hok t (mog ht)
  have hPut:=fun G=>zlz W G p AC2 cC2 AR2 cR2 cash1 rs1 np nb hok1 t w1 w2
  rw[zgH ht]at hall
  by_cases hE:putE (psOf cash1 rs1) t=0
  ·rw[hE]at hPut
   rw[if_pos hE]at hall
   repeat' (first
    |apply zaz|apply zaa|apply zay|apply zal|apply zam|apply zae|apply zaw
    |(apply zai hT;(iterate 4 exact rfl))|(apply zaj;(iterate 3 exact rfl))|(apply zad;(iterate 2 exact rfl))
    |(apply zax hT;(iterate 4 exact rfl);(iterate 2 (first|omega|(dsimp only;omega))))
    |(apply zar [] [] hmix;decide+kernel)
    |(apply zaU hT;(iterate 8 exact rfl);(iterate 2 omega);exact hA')
    |(apply zab;(iterate 5 exact rfl);first|exact zaY hT rfl rfl (hrd.mono zcj) zaB.enc_len rfl ht2 rfl|(apply zaq hT;exact rfl;exact rfl;(repeat(first|exact List.mem_cons_self|apply List.mem_cons_of_mem|apply List.mem_append_right));exact rfl))
    |(apply zac hT;(iterate 5 exact rfl);first|((fail_if_success (have q:=g11));intro g11)|intro _)
    |(apply zaP hT;(iterate 6 exact rfl);exact sX;(iterate 3 exact rfl);exact Nat.le_of_ble_eq_true rfl)
    |(apply zaV (hs:=(zaL.perm (hPut _) pX));(iterate 7 exact rfl);rintro _ _ ⟨rfl,cash2,rs2,hps,rfl⟩)
    |(apply zab;(iterate 5 exact rfl);first|(apply zas hT;exact rfl;exact rfl;(repeat(first|exact List.mem_cons_self|apply List.mem_cons_of_mem|apply List.mem_append_right));exact rfl;exact rfl)|(apply zaq hT;exact rfl;exact rfl;(repeat(first|exact List.mem_cons_self|apply List.mem_cons_of_mem|apply List.mem_append_right));exact rfl))
    |(apply zau;(iterate 5 exact rfl);intro _)|(apply zac hT;(iterate 5 exact rfl);intro _)
    |(apply zaf;(iterate 2 exact rfl))|(apply zag;(iterate 2 exact rfl))
    |(apply zak;exact rfl;all_goals intro hb;all_goals(fail_if_success (change true=true at hb));all_goals(fail_if_success (change false=false at hb));all_goals(try dsimp only at hb);all_goals(try simp only[hb]);all_goals(first|replace hb:=of_decide_eq_true hb|replace hb:=of_decide_eq_false hb|replace hb:=zao hb|replace hb:=zap hb|replace hb:=eq_of_beq hb|replace hb:=ne_of_beq_false hb|skip);all_goals(try(exfalso;omega)))
    |(apply zan;exact rfl;all_goals intro hb;all_goals(try dsimp only at hb);all_goals(try simp only[hb]);all_goals(first|replace hb:=of_decide_eq_true hb|replace hb:=of_decide_eq_false hb|replace hb:=zao hb|replace hb:=zap hb|replace hb:=eq_of_beq hb|replace hb:=ne_of_beq_false hb|skip);all_goals(try(exfalso;omega))))
   all_goals first
    |(exfalso;omega)
    |exact zaM (k+1,cash2,rs2) (by dsimp only;omega) ⟨by dsimp only;omega,by dsimp only;rw[hps];exact zhk hok1 t,by dsimp only;rw[hps];exact hall⟩ ⟨rfl,rfl,rfl,rfl,rfl,rfl,rfl,trivial⟩ dX
    |skip
  ·rw[if_neg hE]at hall
   generalize putE (psOf cash1 rs1) t=e at hPut hE
   repeat' (first
    |apply zaz|apply zaa|apply zay|apply zal|apply zam|apply zae|apply zaw
    |(apply zai hT;(iterate 4 exact rfl))|(apply zaj;(iterate 3 exact rfl))|(apply zad;(iterate 2 exact rfl))
    |(apply zax hT;(iterate 4 exact rfl);(iterate 2 (first|omega|(dsimp only;omega))))
    |(apply zar [] [] hmix;decide+kernel)
    |(apply zaU hT;(iterate 8 exact rfl);(iterate 2 omega);exact hA')
    |(apply zab;(iterate 5 exact rfl);first|exact zaY hT rfl rfl (hrd.mono zcj) zaB.enc_len rfl ht2 rfl|(apply zaq hT;exact rfl;exact rfl;(repeat(first|exact List.mem_cons_self|apply List.mem_cons_of_mem|apply List.mem_append_right));exact rfl))
    |(apply zac hT;(iterate 5 exact rfl);first|((fail_if_success (have q:=g11));intro g11)|intro _)
    |(apply zaP hT;(iterate 6 exact rfl);exact sX;(iterate 3 exact rfl);exact Nat.le_of_ble_eq_true rfl)
    |(apply zaV (hs:=(zaL.perm (hPut _) pX));(iterate 7 exact rfl);rintro _ _ ⟨rfl,cash2,rs2,hps,rfl⟩)
    |(apply zab;(iterate 5 exact rfl);first|(apply zas hT;exact rfl;exact rfl;(repeat(first|exact List.mem_cons_self|apply List.mem_cons_of_mem|apply List.mem_append_right));exact rfl;exact rfl)|(apply zaq hT;exact rfl;exact rfl;(repeat(first|exact List.mem_cons_self|apply List.mem_cons_of_mem|apply List.mem_append_right));exact rfl))
    |(apply zau;(iterate 5 exact rfl);intro _)|(apply zac hT;(iterate 5 exact rfl);intro _)
    |(apply zaf;(iterate 2 exact rfl))|(apply zag;(iterate 2 exact rfl))
    |(apply zak;exact rfl;all_goals intro hb;all_goals(fail_if_success (change true=true at hb));all_goals(fail_if_success (change false=false at hb));all_goals(try dsimp only at hb);all_goals(try simp only[hb]);all_goals(first|replace hb:=of_decide_eq_true hb|replace hb:=of_decide_eq_false hb|replace hb:=zao hb|replace hb:=zap hb|replace hb:=eq_of_beq hb|replace hb:=ne_of_beq_false hb|skip);all_goals(try(exfalso;omega)))
    |(apply zan;exact rfl;all_goals intro hb;all_goals(try dsimp only at hb);all_goals(try simp only[hb]);all_goals(first|replace hb:=of_decide_eq_true hb|replace hb:=of_decide_eq_false hb|replace hb:=zao hb|replace hb:=zap hb|replace hb:=eq_of_beq hb|replace hb:=ne_of_beq_false hb|skip);all_goals(try(exfalso;omega))))
   all_goals first
    |(exfalso;omega)
    |(apply ret1;exact rfl;exact⟨by rw[hall],zbZ (show zaW _ (zaZ p AC2 cC2 AR2 cR2 cash2 rs2 h')from dX) zeG⟩)
    |skip
 ·obtain rfl:k=l.length:=by omega
  have hd1:decide ((l.length:Int)<(l.length:Int))=false:=by simp
  rw[List.drop_length]at hall
  rw[hall]
  dsimp only[zbT]
  have hBo1:=fun who bond k (hk:∀c∈zaZ p AC2 cC2 AR2 cR2 cash1 rs1 h',c∈k)=>(zgc W p AC2 cC2 AR2 cR2 cash1 rs1 np nb hok1 who bond).mono (h':=k) (fun c hc=>hk c (ze5 c hc))
  have hCa1:=fun who k (hk:∀c∈zaZ p AC2 cC2 AR2 cR2 cash1 rs1 h',c∈k)=>(zgi W p AC2 cC2 AR2 cR2 cash1 rs1 np nb (by omega) hok1 who).mono (h':=k) (fun c hc=>hk c (ze5 c hc))
  have hBo2:=fun who bond=>hBo who bond (zaZ p AC2 cC2 AR2 cR2 cash1 rs1 h') zcj
  have hCa2:=fun who=>hCa who (zaZ p AC2 cC2 AR2 cR2 cash1 rs1 h') zcj
  have hdr:zaW (zaZ p AC2 cC2 AR2 cR2 cash1 rs1 h') h':=zeG
  generalize zaZ p AC2 cC2 AR2 cR2 cash1 rs1 h'=H1 at*
  generalize psOf cash1 rs1=w at*
  generalize psOf cash rs=v at*
  repeat' (first
   |apply zaz|apply zaa|apply zay|apply zal|apply zam|apply zae|apply zaw
   |(apply zai hT;(iterate 4 exact rfl))|(apply zaj;(iterate 3 exact rfl))|(apply zad;(iterate 2 exact rfl))
   |(apply zax hT;(iterate 4 exact rfl);(iterate 2 (first|omega|(dsimp only;omega))))
   |(apply zar [] [] hmix;decide+kernel)
   |(apply zab;(iterate 5 exact rfl);first|(apply zas hT;exact rfl;exact rfl;(repeat(first|exact List.mem_cons_self|apply List.mem_cons_of_mem|apply List.mem_append_right));exact rfl;exact rfl)|(apply zaq hT;exact rfl;exact rfl;(repeat(first|exact List.mem_cons_self|apply List.mem_cons_of_mem|apply List.mem_append_right));exact rfl))
   |(apply zau;(iterate 5 exact rfl);intro _)|(apply zac hT;(iterate 5 exact rfl);intro _)
   |(apply zaf;(iterate 2 exact rfl))|(apply zag;(iterate 2 exact rfl))
   |(apply zak;exact rfl;all_goals intro hb;all_goals(fail_if_success (change true=true at hb));all_goals(fail_if_success (change false=false at hb));all_goals(try dsimp only at hb);all_goals(try simp only[hb]);all_goals(first|replace hb:=of_decide_eq_true hb|replace hb:=of_decide_eq_false hb|replace hb:=zao hb|replace hb:=zap hb|replace hb:=eq_of_beq hb|replace hb:=ne_of_beq_false hb|skip);all_goals(try(exfalso;omega)))
   |(apply zan;exact rfl;all_goals intro hb;all_goals(try dsimp only at hb);all_goals(try simp only[hb]);all_goals(first|replace hb:=of_decide_eq_true hb|replace hb:=of_decide_eq_false hb|replace hb:=zao hb|replace hb:=zap hb|replace hb:=eq_of_beq hb|replace hb:=ne_of_beq_false hb|skip);all_goals(try(exfalso;omega))))
  all_goals try(exfalso;omega)
  refine zaX (α:=Nat) (E:=fun x=>[(0,.int .i64 np),(1,.int .i64 nb),(3,.pointer (some ⟨q,0,none⟩)),(9,.pointer (some ⟨p,0,none⟩)),(30,.int .i64 np),(31,.int .i64 x)]) (H:=fun x=>H1) (μ:=fun x=>np - x)
   (S:=fun x=>x≤np∧∀j,j<x→zc0 nb w v j=true) 0 ⟨Nat.zero_le _,fun j hj=>absurd hj (Nat.not_lt_zero _)⟩ ⟨rfl,rfl,rfl,rfl,rfl,rfl,trivial⟩ dX ?_
  rintro k ⟨hk,hgd⟩
  by_cases hlt:k<np
  ·have hd2:decide ((k:Int)<(np:Int))=true:=by simp;omega
   have c1:=hCa1 k
   have c2:=hCa2 k
   by_cases hc:zbh w k=zbh v k
   ·rw[hc]at c1
    generalize hcv:zbh v k=cv at c1 c2 hc
    repeat' (first
     |(apply zb0 hT;(iterate 5 exact rfl))
     |apply zaz|apply zaa|apply zay|apply zal|apply zam|apply zae|apply zaw
     |(apply zai hT;(iterate 4 exact rfl))|(apply zaj;(iterate 3 exact rfl))|(apply zad;(iterate 2 exact rfl))
     |(apply zax hT;(iterate 4 exact rfl);(iterate 2 (first|omega|(dsimp only;omega))))
     |(apply zar [] [] hmix;decide+kernel)
     |(apply zaC (hs:=(c1 _ (by(intro c hc;(repeat(first|exact hc|apply List.mem_cons_of_mem|apply List.mem_append_right))))));(iterate 7 exact rfl))
     |(apply zaC (hs:=(c2.mono (by(intro c hc;(repeat(first|exact hc|apply List.mem_cons_of_mem|apply List.mem_append_right))))));(iterate 7 exact rfl))
     |(apply zab;(iterate 5 exact rfl);first|(apply zas hT;exact rfl;exact rfl;(repeat(first|exact List.mem_cons_self|apply List.mem_cons_of_mem|apply List.mem_append_right));exact rfl;exact rfl)|(apply zaq hT;exact rfl;exact rfl;(repeat(first|exact List.mem_cons_self|apply List.mem_cons_of_mem|apply List.mem_append_right));exact rfl))
     |(apply zau;(iterate 5 exact rfl);intro _)|(apply zac hT;(iterate 5 exact rfl);intro _)
     |(apply zaf;(iterate 2 exact rfl))|(apply zag;(iterate 2 exact rfl))
     |(apply zak;exact rfl;all_goals intro hb;all_goals(fail_if_success (change true=true at hb));all_goals(fail_if_success (change false=false at hb));all_goals(try dsimp only at hb);all_goals(try simp only[hb]);all_goals(first|replace hb:=of_decide_eq_true hb|replace hb:=of_decide_eq_false hb|replace hb:=zao hb|replace hb:=zap hb|replace hb:=eq_of_beq hb|replace hb:=ne_of_beq_false hb|skip);all_goals(try(exfalso;omega)))
     |(apply zan;exact rfl;all_goals intro hb;all_goals(try dsimp only at hb);all_goals(try simp only[hb]);all_goals(first|replace hb:=of_decide_eq_true hb|replace hb:=of_decide_eq_false hb|replace hb:=zao hb|replace hb:=zap hb|replace hb:=eq_of_beq hb|replace hb:=ne_of_beq_false hb|skip);all_goals(try(exfalso;omega))))
    all_goals try(exfalso;omega)
    refine zaX (α:=Nat) (E:=fun x=>[(0,.int .i64 np),(1,.int .i64 nb),(3,.pointer (some ⟨q,0,none⟩)),(9,.pointer (some ⟨p,0,none⟩)),(12,.int .i64 k),(30,.int .i64 np),(31,.int .i64 k),(41,.int .i64 nb),(42,.int .i64 x)]) (H:=fun x=>H1) (μ:=fun x=>nb - x)
     (S:=fun x=>x≤nb∧∀i:Nat,i<x→zbv w k i=zbv v k i) 0 ⟨Nat.zero_le _,fun j hj=>absurd hj (Nat.not_lt_zero _)⟩ ⟨rfl,rfl,rfl,rfl,rfl,rfl,rfl,rfl,rfl,trivial⟩ dX ?_
    rintro m ⟨hm,hgm⟩
    by_cases hlm:m<nb
    ·have hd3:decide ((m:Int)<(nb:Int))=true:=by simp;omega
     have b1:=hBo1 k m
     have b2:=hBo2 k m
     by_cases hbq:zbv w k m=zbv v k m
     ·rw[hbq]at b1
      generalize hbv:zbv v k m=bv at b1 b2 hbq
      repeat' (first
       |(apply zb0 hT;(iterate 5 exact rfl))
       |apply zaz|apply zaa|apply zay|apply zal|apply zam|apply zae|apply zaw
       |(apply zai hT;(iterate 4 exact rfl))|(apply zaj;(iterate 3 exact rfl))|(apply zad;(iterate 2 exact rfl))
       |(apply zax hT;(iterate 4 exact rfl);(iterate 2 (first|omega|(dsimp only;omega))))
       |(apply zar [] [] hmix;decide+kernel)
       |(apply zaC (hs:=(b1 _ (by(intro c hc;(repeat(first|exact hc|apply List.mem_cons_of_mem|apply List.mem_append_right))))));(iterate 7 exact rfl))
       |(apply zaC (hs:=(b2.mono (by(intro c hc;(repeat(first|exact hc|apply List.mem_cons_of_mem|apply List.mem_append_right))))));(iterate 7 exact rfl))
       |(apply zab;(iterate 5 exact rfl);first|(apply zas hT;exact rfl;exact rfl;(repeat(first|exact List.mem_cons_self|apply List.mem_cons_of_mem|apply List.mem_append_right));exact rfl;exact rfl)|(apply zaq hT;exact rfl;exact rfl;(repeat(first|exact List.mem_cons_self|apply List.mem_cons_of_mem|apply List.mem_append_right));exact rfl))
       |(apply zau;(iterate 5 exact rfl);intro _)|(apply zac hT;(iterate 5 exact rfl);intro _)
       |(apply zaf;(iterate 2 exact rfl))|(apply zag;(iterate 2 exact rfl))
       |(apply zak;exact rfl;all_goals intro hb;all_goals(fail_if_success (change true=true at hb));all_goals(fail_if_success (change false=false at hb));all_goals(try dsimp only at hb);all_goals(try simp only[hb]);all_goals(first|replace hb:=of_decide_eq_true hb|replace hb:=of_decide_eq_false hb|replace hb:=zao hb|replace hb:=zap hb|replace hb:=eq_of_beq hb|replace hb:=ne_of_beq_false hb|skip);all_goals(try(exfalso;omega)))
       |(apply zan;exact rfl;all_goals intro hb;all_goals(try dsimp only at hb);all_goals(try simp only[hb]);all_goals(first|replace hb:=of_decide_eq_true hb|replace hb:=of_decide_eq_false hb|replace hb:=zao hb|replace hb:=zap hb|replace hb:=eq_of_beq hb|replace hb:=ne_of_beq_false hb|skip);all_goals(try(exfalso;omega))))
      all_goals first
       |(exfalso;omega)
       |exact zaM (m+1) (by(try dsimp only);omega) ⟨by(try dsimp only);omega,fun i hi=>by
         by_cases e:i=m
         ·rw[e,hbq,hbv]
         ·exact hgm i (by(try dsimp only at hi);omega)⟩ ⟨rfl,rfl,rfl,rfl,rfl,rfl,rfl,rfl,rfl,trivial⟩ dX
       |skip
     ·have hno:eqPs np nb w v=false:=zjK hlt (zjM hlm hbq)
      generalize zbv w k m=bw at b1 hbq
      generalize zbv v k m=bv at b2 hbq
      repeat' (first
       |apply zaz|apply zaa|apply zay|apply zal|apply zam|apply zae|apply zaw
       |(apply zai hT;(iterate 4 exact rfl))|(apply zaj;(iterate 3 exact rfl))|(apply zad;(iterate 2 exact rfl))
       |(apply zax hT;(iterate 4 exact rfl);(iterate 2 (first|omega|(dsimp only;omega))))
       |(apply zar [] [] hmix;decide+kernel)
       |(apply zaC (hs:=(b1 _ (by(intro c hc;(repeat(first|exact hc|apply List.mem_cons_of_mem|apply List.mem_append_right))))));(iterate 7 exact rfl))
       |(apply zaC (hs:=(b2.mono (by(intro c hc;(repeat(first|exact hc|apply List.mem_cons_of_mem|apply List.mem_append_right))))));(iterate 7 exact rfl))
       |(apply zab;(iterate 5 exact rfl);first|(apply zas hT;exact rfl;exact rfl;(repeat(first|exact List.mem_cons_self|apply List.mem_cons_of_mem|apply List.mem_append_right));exact rfl;exact rfl)|(apply zaq hT;exact rfl;exact rfl;(repeat(first|exact List.mem_cons_self|apply List.mem_cons_of_mem|apply List.mem_append_right));exact rfl))
       |(apply zau;(iterate 5 exact rfl);intro _)|(apply zac hT;(iterate 5 exact rfl);intro _)
       |(apply zaf;(iterate 2 exact rfl))|(apply zag;(iterate 2 exact rfl))
       |(apply zak;exact rfl;all_goals intro hb;all_goals(fail_if_success (change true=true at hb));all_goals(fail_if_success (change false=false at hb));all_goals(try dsimp only at hb);all_goals(try simp only[hb]);all_goals(first|replace hb:=of_decide_eq_true hb|replace hb:=of_decide_eq_false hb|replace hb:=zao hb|replace hb:=zap hb|replace hb:=eq_of_beq hb|replace hb:=ne_of_beq_false hb|skip);all_goals(try(exfalso;omega)))
       |(apply zan;exact rfl;all_goals intro hb;all_goals(try dsimp only at hb);all_goals(try simp only[hb]);all_goals(first|replace hb:=of_decide_eq_true hb|replace hb:=of_decide_eq_false hb|replace hb:=zao hb|replace hb:=zap hb|replace hb:=eq_of_beq hb|replace hb:=ne_of_beq_false hb|skip);all_goals(try(exfalso;omega))))
      all_goals first
       |(exfalso;omega)
       |(apply ret1;exact rfl;exact⟨by rw[hno],zbZ (show zaW _ H1 from dX) hdr⟩)
       |skip
    ·obtain rfl:m=nb:=by omega
     have hd3:decide ((m:Int)<(m:Int))=false:=by simp
     have hone:zc0 m w v k=true:=zjL (by rw[hc,hcv]) hgm
     repeat' (first
      |apply zaz|apply zaa|apply zay|apply zal|apply zam|apply zae|apply zaw
      |(apply zai hT;(iterate 4 exact rfl))|(apply zaj;(iterate 3 exact rfl))|(apply zad;(iterate 2 exact rfl))
      |(apply zax hT;(iterate 4 exact rfl);(iterate 2 (first|omega|(dsimp only;omega))))
      |(apply zar [] [] hmix;decide+kernel)
      |(apply zab;(iterate 5 exact rfl);first|(apply zas hT;exact rfl;exact rfl;(repeat(first|exact List.mem_cons_self|apply List.mem_cons_of_mem|apply List.mem_append_right));exact rfl;exact rfl)|(apply zaq hT;exact rfl;exact rfl;(repeat(first|exact List.mem_cons_self|apply List.mem_cons_of_mem|apply List.mem_append_right));exact rfl))
      |(apply zau;(iterate 5 exact rfl);intro _)|(apply zac hT;(iterate 5 exact rfl);intro _)
      |(apply zaf;(iterate 2 exact rfl))|(apply zag;(iterate 2 exact rfl))
      |(apply zak;exact rfl;all_goals intro hb;all_goals(fail_if_success (change true=true at hb));all_goals(fail_if_success (change false=false at hb));all_goals(try dsimp only at hb);all_goals(try simp only[hb]);all_goals(first|replace hb:=of_decide_eq_true hb|replace hb:=of_decide_eq_false hb|replace hb:=zao hb|replace hb:=zap hb|replace hb:=eq_of_beq hb|replace hb:=ne_of_beq_false hb|skip);all_goals(try(exfalso;omega)))
      |(apply zan;exact rfl;all_goals intro hb;all_goals(try dsimp only at hb);all_goals(try simp only[hb]);all_goals(first|replace hb:=of_decide_eq_true hb|replace hb:=of_decide_eq_false hb|replace hb:=zao hb|replace hb:=zap hb|replace hb:=eq_of_beq hb|replace hb:=ne_of_beq_false hb|skip);all_goals(try(exfalso;omega))))
     all_goals first
      |(exfalso;omega)
      |exact zaM (k+1) (by(try dsimp only);omega) ⟨by(try dsimp only);omega,zjJ (np:=np) hgd hone⟩ ⟨rfl,rfl,rfl,rfl,rfl,rfl,trivial⟩ dX
      |skip
   ·have hno:eqPs np nb w v=false:=zjK hlt (zh1 hc)
    generalize zbh w k=cw at c1 hc
    generalize zbh v k=cv at c2 hc
    repeat' (first
     |apply zaz|apply zaa|apply zay|apply zal|apply zam|apply zae|apply zaw
     |(apply zai hT;(iterate 4 exact rfl))|(apply zaj;(iterate 3 exact rfl))|(apply zad;(iterate 2 exact rfl))
     |(apply zax hT;(iterate 4 exact rfl);(iterate 2 (first|omega|(dsimp only;omega))))
     |(apply zar [] [] hmix;decide+kernel)
     |(apply zaC (hs:=(c1 _ (by(intro c hc;(repeat(first|exact hc|apply List.mem_cons_of_mem|apply List.mem_append_right))))));(iterate 7 exact rfl))
     |(apply zaC (hs:=(c2.mono (by(intro c hc;(repeat(first|exact hc|apply List.mem_cons_of_mem|apply List.mem_append_right))))));(iterate 7 exact rfl))
     |(apply zab;(iterate 5 exact rfl);first|(apply zas hT;exact rfl;exact rfl;(repeat(first|exact List.mem_cons_self|apply List.mem_cons_of_mem|apply List.mem_append_right));exact rfl;exact rfl)|(apply zaq hT;exact rfl;exact rfl;(repeat(first|exact List.mem_cons_self|apply List.mem_cons_of_mem|apply List.mem_append_right));exact rfl))
     |(apply zau;(iterate 5 exact rfl);intro _)|(apply zac hT;(iterate 5 exact rfl);intro _)
     |(apply zaf;(iterate 2 exact rfl))|(apply zag;(iterate 2 exact rfl))
     |(apply zak;exact rfl;all_goals intro hb;all_goals(fail_if_success (change true=true at hb));all_goals(fail_if_success (change false=false at hb));all_goals(try dsimp only at hb);all_goals(try simp only[hb]);all_goals(first|replace hb:=of_decide_eq_true hb|replace hb:=of_decide_eq_false hb|replace hb:=zao hb|replace hb:=zap hb|replace hb:=eq_of_beq hb|replace hb:=ne_of_beq_false hb|skip);all_goals(try(exfalso;omega)))
     |(apply zan;exact rfl;all_goals intro hb;all_goals(try dsimp only at hb);all_goals(try simp only[hb]);all_goals(first|replace hb:=of_decide_eq_true hb|replace hb:=of_decide_eq_false hb|replace hb:=zao hb|replace hb:=zap hb|replace hb:=eq_of_beq hb|replace hb:=ne_of_beq_false hb|skip);all_goals(try(exfalso;omega))))
    all_goals first
     |(exfalso;omega)
     |(apply ret1;exact rfl;exact⟨by rw[hno],zbZ (show zaW _ H1 from dX) hdr⟩)
     |skip
  ·obtain rfl:k=np:=by omega
   have hd2:decide ((k:Int)<(k:Int))=false:=by simp
   repeat' (first
    |apply zaz|apply zaa|apply zay|apply zal|apply zam|apply zae|apply zaw
    |(apply zai hT;(iterate 4 exact rfl))|(apply zaj;(iterate 3 exact rfl))|(apply zad;(iterate 2 exact rfl))
    |(apply zax hT;(iterate 4 exact rfl);(iterate 2 (first|omega|(dsimp only;omega))))
    |(apply zar [] [] hmix;decide+kernel)
    |(apply zab;(iterate 5 exact rfl);first|(apply zas hT;exact rfl;exact rfl;(repeat(first|exact List.mem_cons_self|apply List.mem_cons_of_mem|apply List.mem_append_right));exact rfl;exact rfl)|(apply zaq hT;exact rfl;exact rfl;(repeat(first|exact List.mem_cons_self|apply List.mem_cons_of_mem|apply List.mem_append_right));exact rfl))
    |(apply zau;(iterate 5 exact rfl);intro _)|(apply zac hT;(iterate 5 exact rfl);intro _)
    |(apply zaf;(iterate 2 exact rfl))|(apply zag;(iterate 2 exact rfl))
    |(apply zak;exact rfl;all_goals intro hb;all_goals(fail_if_success (change true=true at hb));all_goals(fail_if_success (change false=false at hb));all_goals(try dsimp only at hb);all_goals(try simp only[hb]);all_goals(first|replace hb:=of_decide_eq_true hb|replace hb:=of_decide_eq_false hb|replace hb:=zao hb|replace hb:=zap hb|replace hb:=eq_of_beq hb|replace hb:=ne_of_beq_false hb|skip);all_goals(try(exfalso;omega)))
    |(apply zan;exact rfl;all_goals intro hb;all_goals(try dsimp only at hb);all_goals(try simp only[hb]);all_goals(first|replace hb:=of_decide_eq_true hb|replace hb:=of_decide_eq_false hb|replace hb:=zao hb|replace hb:=zap hb|replace hb:=eq_of_beq hb|replace hb:=ne_of_beq_false hb|skip);all_goals(try(exfalso;omega))))
   all_goals first
    |(exfalso;omega)
    |(apply ret1;exact rfl;exact⟨by rw[zkF hgd],zbZ (show zaW _ H1 from dX) hdr⟩)
    |skip
end Go.Proofs.YteocfhdocpeokaaGreat
set_option linter.unusedSimpArgs false
set_option linter.unusedVariables false
namespace Go.Proofs.YteocfhdocpeokaaGreat
open Go Go.Sl
attribute [local irreducible] AW ES EP Ld RetQ
set_option maxRecDepth 100000
theorem zeK (W:World)(s:Int):zaF Tryz.prog W 70 [.pointer none,.int .i64 s] [] (.slice none 0 0):=by
 refine zaF.ofD (fun h' hs=> ?_)
 refine zaA Tryz.func70 rfl rfl Tryz.results70 Tryz.ntmps70 rfl rfl ?_
 repeat' (first
  |apply zaz|apply zaa|apply zay|apply zal|apply zam|apply zae|apply zaw
  |(apply zai hT;(iterate 4 exact rfl))|(apply zaj;(iterate 3 exact rfl))|(apply zad;(iterate 2 exact rfl))
  |(apply zax hT;(iterate 4 exact rfl);(iterate 2 (first|omega|(dsimp only;omega))))
  |(apply zar [] [] hmix;decide+kernel)
  |(apply zaC (hs:=((zfO W s).mono (by simp)));(iterate 7 exact rfl))
  |(apply zab;(iterate 5 exact rfl);first|(apply zas hT;exact rfl;exact rfl;(repeat(first|exact List.mem_cons_self|apply List.mem_cons_of_mem|apply List.mem_append_right));exact rfl;exact rfl)|(apply zaq hT;exact rfl;exact rfl;(repeat(first|exact List.mem_cons_self|apply List.mem_cons_of_mem|apply List.mem_append_right));exact rfl))
  |(apply zau;(iterate 5 exact rfl);intro _)|(apply zac hT;(iterate 5 exact rfl);intro _)
  |(apply zaf;(iterate 2 exact rfl))|(apply zag;(iterate 2 exact rfl))
  |(apply zak;exact rfl;all_goals intro hb;all_goals(fail_if_success (change true=true at hb));all_goals(fail_if_success (change false=false at hb));all_goals(try dsimp only at hb);all_goals(try simp only[hb]);all_goals(first|replace hb:=of_decide_eq_true hb|replace hb:=of_decide_eq_false hb|replace hb:=zao hb|replace hb:=zap hb|replace hb:=eq_of_beq hb|replace hb:=ne_of_beq_false hb|skip);all_goals(try(exfalso;omega)))
  |(apply zan;exact rfl;all_goals intro hb;all_goals(try dsimp only at hb);all_goals(try simp only[hb]);all_goals(first|replace hb:=of_decide_eq_true hb|replace hb:=of_decide_eq_false hb|replace hb:=zao hb|replace hb:=zap hb|replace hb:=eq_of_beq hb|replace hb:=ne_of_beq_false hb|skip);all_goals(try(exfalso;omega))))
 refine zaX (α:=Unit) (E:=fun _=>[(5,.slice none 0 0),(12,.int .i64 0),(13,.int .i64 0)]) (H:=fun _=>h') (μ:=fun _=>0) (S:=fun _=>True) () trivial ⟨rfl,rfl,rfl,trivial⟩ dX ?_
 intro _ _
 have hd1:decide ((0:Int)<0)=false:=by decide
 repeat' (first
  |apply zaz|apply zaa|apply zay|apply zal|apply zam|apply zae|apply zaw
  |(apply zai hT;(iterate 4 exact rfl))|(apply zaj;(iterate 3 exact rfl))|(apply zad;(iterate 2 exact rfl))
  |(apply zax hT;(iterate 4 exact rfl);(iterate 2 (first|omega|(dsimp only;omega))))
  |(apply zar [] [] hmix;decide+kernel)
  |(apply zab;(iterate 5 exact rfl);first|(apply zas hT;exact rfl;exact rfl;(repeat(first|exact List.mem_cons_self|apply List.mem_cons_of_mem|apply List.mem_append_right));exact rfl;exact rfl)|(apply zaq hT;exact rfl;exact rfl;(repeat(first|exact List.mem_cons_self|apply List.mem_cons_of_mem|apply List.mem_append_right));exact rfl))
  |(apply zau;(iterate 5 exact rfl);intro _)|(apply zac hT;(iterate 5 exact rfl);intro _)
  |(apply zaf;(iterate 2 exact rfl))|(apply zag;(iterate 2 exact rfl))
  |(apply zak;exact rfl;all_goals intro hb;all_goals(fail_if_success (change true=true at hb));all_goals(fail_if_success (change false=false at hb));all_goals(try dsimp only at hb);all_goals(try simp only[hb]);all_goals(first|replace hb:=of_decide_eq_true hb|replace hb:=of_decide_eq_false hb|replace hb:=zao hb|replace hb:=zap hb|replace hb:=eq_of_beq hb|replace hb:=ne_of_beq_false hb|skip);all_goals(try(exfalso;omega)))
  |(apply zan;exact rfl;all_goals intro hb;all_goals(try dsimp only at hb);all_goals(try simp only[hb]);all_goals(first|replace hb:=of_decide_eq_true hb|replace hb:=of_decide_eq_false hb|replace hb:=zao hb|replace hb:=zap hb|replace hb:=eq_of_beq hb|replace hb:=ne_of_beq_false hb|skip);all_goals(try(exfalso;omega))))
 all_goals first
  |(exfalso;omega)
  |(apply ret1;exact rfl;exact⟨rfl,dX⟩)
  |skip
theorem zdn (W:World):zaF Tryz.prog W 38 [.pointer none] [] (.bool true):=by
 refine zaF.ofD (fun h' hs=> ?_)
 refine zaA Tryz.func38 rfl rfl Tryz.results38 Tryz.ntmps38 rfl rfl ?_
 repeat' (first
  |apply zaz|apply zaa|apply zay|apply zal|apply zam|apply zae|apply zaw
  |(apply zai hT;(iterate 4 exact rfl))|(apply zaj;(iterate 3 exact rfl))|(apply zad;(iterate 2 exact rfl))
  |(apply zax hT;(iterate 4 exact rfl);(iterate 2 (first|omega|(dsimp only;omega))))
  |(apply zar [] [] hmix;decide+kernel)
  |(apply zaC (hs:=((zeK W _).mono (by simp)));(iterate 7 exact rfl))
  |(apply zab;(iterate 5 exact rfl);first|(apply zas hT;exact rfl;exact rfl;(repeat(first|exact List.mem_cons_self|apply List.mem_cons_of_mem|apply List.mem_append_right));exact rfl;exact rfl)|(apply zaq hT;exact rfl;exact rfl;(repeat(first|exact List.mem_cons_self|apply List.mem_cons_of_mem|apply List.mem_append_right));exact rfl))
  |(apply zau;(iterate 5 exact rfl);intro _)|(apply zac hT;(iterate 5 exact rfl);intro _)
  |(apply zaf;(iterate 2 exact rfl))|(apply zag;(iterate 2 exact rfl))
  |(apply zak;exact rfl;all_goals intro hb;all_goals(fail_if_success (change true=true at hb));all_goals(fail_if_success (change false=false at hb));all_goals(try dsimp only at hb);all_goals(try simp only[hb]);all_goals(first|replace hb:=of_decide_eq_true hb|replace hb:=of_decide_eq_false hb|replace hb:=zao hb|replace hb:=zap hb|replace hb:=eq_of_beq hb|replace hb:=ne_of_beq_false hb|skip);all_goals(try(exfalso;omega)))
  |(apply zan;exact rfl;all_goals intro hb;all_goals(try dsimp only at hb);all_goals(try simp only[hb]);all_goals(first|replace hb:=of_decide_eq_true hb|replace hb:=of_decide_eq_false hb|replace hb:=zao hb|replace hb:=zap hb|replace hb:=eq_of_beq hb|replace hb:=ne_of_beq_false hb|skip);all_goals(try(exfalso;omega))))
 all_goals first
  |(exfalso;omega)
  |(apply ret1;exact rfl;exact⟨rfl,dX⟩)
  |skip
theorem zjN {W:World}{h:List zah}{A:Option Addr}{c:Nat}{l:List Lvl}{n:Nat}(hm:zah.own A n c 134 2 (l.flatMap Lvl.enc)∈h)(hn:l.length=n):zaD W h A n 2 (l.flatMap Lvl.enc):=zaD.enc Lvl.enc_len Lvl.enc_one hm hn
theorem zeH (W:World)(p:Nat)(A:Option Addr)(c:Nat)(l:List zav)(hB:zaT l):
 zaF Tryz.prog W 38 [.pointer (some ⟨p,0,none⟩)] [.blk p 152 [.slice A l.length c],.own A l.length c 168 6 (l.flatMap zav.enc)] (.bool (zkU (za4 (zbo 1 l)) (za4 (zbo 2 l)))):=by
 refine zaF.ofD (fun h' hs=> ?_)
 have m1:=hs _ mem0
 have m2:=hs _ mem1
 have hL1:=fun h m1 m2=>zei W h p A c l 1 m1 m2 hB.le hB.seq hB.side hB.left
 have hL2:=fun h m1 m2=>zei W h p A c l 2 m1 m2 hB.le hB.seq hB.side hB.left
 generalize za4 (zbo 1 l)=v1 at*
 generalize za4 (zbo 2 l)=v2 at*
 refine zaA Tryz.func38 rfl rfl Tryz.results38 Tryz.ntmps38 rfl rfl ?_
 rcases v1 with _|⟨x,v1⟩
 ·repeat' (first
   |apply zaz|apply zaa|apply zay|apply zal|apply zam|apply zae|apply zaw
   |(apply zai hT;(iterate 4 exact rfl))|(apply zaj;(iterate 3 exact rfl))|(apply zad;(iterate 2 exact rfl))
   |(apply zax hT;(iterate 4 exact rfl);(iterate 2 (first|omega|(dsimp only;omega))))
   |(apply zar [] [] hmix;decide+kernel)
   |(apply zaV (hs:=(hL1 _ m1 m2));(iterate 7 exact rfl);rintro _ _ ⟨A1,c1,rfl,rfl,ho1⟩)
   |(apply zaV (hs:=(hL2 _ (.tail _ m1) (.tail _ m2)));(iterate 7 exact rfl);rintro _ _ ⟨A2,c2,rfl,rfl,ho2⟩)
   |(apply zab;(iterate 5 exact rfl);first|(apply zas hT;exact rfl;exact rfl;(repeat(first|exact List.mem_cons_self|apply List.mem_cons_of_mem|apply List.mem_append_right));exact rfl;exact rfl)|(apply zaq hT;exact rfl;exact rfl;(repeat(first|exact List.mem_cons_self|apply List.mem_cons_of_mem|apply List.mem_append_right));exact rfl))
   |(apply zau;(iterate 5 exact rfl);intro _)|(apply zac hT;(iterate 5 exact rfl);intro _)
   |(apply zaf;(iterate 2 exact rfl))|(apply zag;(iterate 2 exact rfl))
   |(apply zak;exact rfl;all_goals intro hb;all_goals(fail_if_success (change true=true at hb));all_goals(fail_if_success (change false=false at hb));all_goals(try dsimp only at hb);all_goals(try simp only[hb]);all_goals(first|replace hb:=of_decide_eq_true hb|replace hb:=of_decide_eq_false hb|replace hb:=zao hb|replace hb:=zap hb|replace hb:=eq_of_beq hb|replace hb:=ne_of_beq_false hb|skip);all_goals(try(exfalso;omega)))
   |(apply zan;exact rfl;all_goals intro hb;all_goals(try dsimp only at hb);all_goals(try simp only[hb]);all_goals(first|replace hb:=of_decide_eq_true hb|replace hb:=of_decide_eq_false hb|replace hb:=zao hb|replace hb:=zap hb|replace hb:=eq_of_beq hb|replace hb:=ne_of_beq_false hb|skip);all_goals(try(exfalso;omega))))
  all_goals first
   |(exfalso;omega)
   |(apply ret1;exact rfl;exact⟨rfl,dX⟩)
   |skip
 ·rcases v2 with _|⟨y,v2⟩
  ·have hd0:decide ((((x::v1).length:Nat):Int)=0)=false:=by simp;omega
   repeat' (first
    |apply zaz|apply zaa|apply zay|apply zal|apply zam|apply zae|apply zaw
    |(apply zai hT;(iterate 4 exact rfl))|(apply zaj;(iterate 3 exact rfl))|(apply zad;(iterate 2 exact rfl))
    |(apply zax hT;(iterate 4 exact rfl);(iterate 2 (first|omega|(dsimp only;omega))))
    |(apply zar [] [] hmix;decide+kernel)
    |(apply zaV (hs:=(hL1 _ m1 m2));(iterate 7 exact rfl);rintro _ _ ⟨A1,c1,rfl,rfl,ho1⟩)
    |(apply zaV (hs:=(hL2 _ (.tail _ m1) (.tail _ m2)));(iterate 7 exact rfl);rintro _ _ ⟨A2,c2,rfl,rfl,ho2⟩)
    |(apply zab;(iterate 5 exact rfl);first|(apply zas hT;exact rfl;exact rfl;(repeat(first|exact List.mem_cons_self|apply List.mem_cons_of_mem|apply List.mem_append_right));exact rfl;exact rfl)|(apply zaq hT;exact rfl;exact rfl;(repeat(first|exact List.mem_cons_self|apply List.mem_cons_of_mem|apply List.mem_append_right));exact rfl))
    |(apply zau;(iterate 5 exact rfl);intro _)|(apply zac hT;(iterate 5 exact rfl);intro _)
    |(apply zaf;(iterate 2 exact rfl))|(apply zag;(iterate 2 exact rfl))
    |(apply zak;exact rfl;all_goals intro hb;all_goals(fail_if_success (change true=true at hb));all_goals(fail_if_success (change false=false at hb));all_goals(try dsimp only at hb);all_goals(try simp only[hb]);all_goals(first|replace hb:=of_decide_eq_true hb|replace hb:=of_decide_eq_false hb|replace hb:=zao hb|replace hb:=zap hb|replace hb:=eq_of_beq hb|replace hb:=ne_of_beq_false hb|skip);all_goals(try(exfalso;omega)))
    |(apply zan;exact rfl;all_goals intro hb;all_goals(try dsimp only at hb);all_goals(try simp only[hb]);all_goals(first|replace hb:=of_decide_eq_true hb|replace hb:=of_decide_eq_false hb|replace hb:=zao hb|replace hb:=zap hb|replace hb:=eq_of_beq hb|replace hb:=ne_of_beq_false hb|skip);all_goals(try(exfalso;omega))))
   all_goals first
    |(exfalso;simp only[List.length_cons]at *;omega)
    |(apply ret1;exact rfl;exact⟨rfl,dX⟩)
    |skip
  ·have hx:(x::v1)[(0:Int).toNat]? =some x:=rfl
   have hy:(y::v2)[(0:Int).toNat]? =some y:=rfl
   have hlx:0<(x::v1).length:=by simp
   have hly:0<(y::v2).length:=by simp
   repeat' (first
    |apply zaz|apply zaa|apply zay|apply zal|apply zam|apply zae|apply zaw
    |(apply zai hT;(iterate 4 exact rfl))|(apply zaj;(iterate 3 exact rfl))|(apply zad;(iterate 2 exact rfl))
    |(apply zax hT;(iterate 4 exact rfl);(iterate 2 (first|omega|(dsimp only;omega))))
    |(apply zar [] [] hmix;decide+kernel)
    |(apply zaV (hs:=(hL1 _ m1 m2));(iterate 7 exact rfl);rintro _ _ ⟨A1,c1,rfl,rfl,ho1⟩)
    |(apply zaV (hs:=(hL2 _ (.tail _ m1) (.tail _ m2)));(iterate 7 exact rfl);rintro _ _ ⟨A2,c2,rfl,rfl,ho2⟩)
    |(apply zaU hT;(iterate 8 exact rfl);(iterate 2 omega);first|exact ho1.some_ hlx|exact ho2.some_ hly)
    |(apply zab;(iterate 5 exact rfl);first|exact zc6 hT rfl rfl (zjN (by(repeat(first|exact List.mem_cons_self|apply List.mem_cons_of_mem|apply List.mem_append_right))) rfl) Lvl.enc_len (zbq _ _ _) hx (by decide) rfl|exact zc6 hT rfl rfl (zjN (by(repeat(first|exact List.mem_cons_self|apply List.mem_cons_of_mem|apply List.mem_append_right))) rfl) Lvl.enc_len (zbq _ _ _) hy (by decide) rfl)
    |(apply zab;(iterate 5 exact rfl);first|(apply zas hT;exact rfl;exact rfl;(repeat(first|exact List.mem_cons_self|apply List.mem_cons_of_mem|apply List.mem_append_right));exact rfl;exact rfl)|(apply zaq hT;exact rfl;exact rfl;(repeat(first|exact List.mem_cons_self|apply List.mem_cons_of_mem|apply List.mem_append_right));exact rfl))
    |(apply zau;(iterate 5 exact rfl);intro _)|(apply zac hT;(iterate 5 exact rfl);intro _)
    |(apply zaf;(iterate 2 exact rfl))|(apply zag;(iterate 2 exact rfl))
    |(apply zak;exact rfl;all_goals intro hb;all_goals(fail_if_success (change true=true at hb));all_goals(fail_if_success (change false=false at hb));all_goals(try dsimp only at hb);all_goals(try simp only[hb]);all_goals(first|replace hb:=of_decide_eq_true hb|replace hb:=of_decide_eq_false hb|replace hb:=zao hb|replace hb:=zap hb|replace hb:=eq_of_beq hb|replace hb:=ne_of_beq_false hb|skip);all_goals(try(exfalso;omega)))
    |(apply zan;exact rfl;all_goals intro hb;all_goals(try dsimp only at hb);all_goals(try simp only[hb]);all_goals(first|replace hb:=of_decide_eq_true hb|replace hb:=of_decide_eq_false hb|replace hb:=zao hb|replace hb:=zap hb|replace hb:=eq_of_beq hb|replace hb:=ne_of_beq_false hb|skip);all_goals(try(exfalso;omega))))
   all_goals first
    |(exfalso;simp only[List.length_cons]at *;omega)
    |(apply ret1;exact rfl;exact⟨by simp[zkU, *],dX⟩)
    |skip
end Go.Proofs.YteocfhdocpeokaaGreat
set_option linter.unusedSimpArgs false
set_option linter.unusedVariables false
namespace Go.Proofs.YteocfhdocpeokaaGreat
open Go Go.Sl
attribute [local irreducible] AW ES EP Ld RetQ
set_option maxRecDepth 100000
theorem zgU {x:DAd}{s:Dk}{bks:List BAd}{rows:List PRow}{F:List zah}:∀c∈za3 x s bks rows [],c∈za3 x s bks rows F:=fun c hc=>by
 unfold za3 at*
 iterate 18 refine(List.mem_cons.1 hc).elim (fun e=>e▸List.mem_cons_self) (fun hc=>List.mem_cons_of_mem _ ?_)
 rw[List.append_nil]at hc
 rcases lma.1 hc with hc|hc
 ·exact List.mem_append_left _ hc
 ·exact List.mem_append_right _ (List.mem_append_left _ hc)
theorem zgj {x:DAd}{s:Dk}{bks:List BAd}{rows:List PRow}{F:List zah}:zaW (za3 x s bks rows F) F:=by
 unfold za3
 iterate 18 apply zcp
 exact zio (zio zbJ)
theorem zjO (np nb:Nat)(p:Ps):eqPs np nb p p=true:=by
 unfold eqPs zc0
 simp
theorem zfs (W:World)(AB:Option Addr)(nb cB:Nat)(AP:Option Addr)(np cP:Nat)(look beat:Int):zaF Tryz.prog W 20 [zee AB nb cB AP np cP look beat,.pointer none] [] (.bool false):=by
 refine zaF.ofD (fun h' hs=> ?_)
 refine zaA Tryz.func20 rfl rfl Tryz.results20 Tryz.ntmps20 rfl rfl ?_
 repeat' (first
  |apply zaz|apply zaa|apply zay|apply zal|apply zam|apply zae|apply zaw
  |(apply zai hT;(iterate 4 exact rfl))|(apply zaj;(iterate 3 exact rfl))|(apply zad;(iterate 2 exact rfl))
  |(apply zax hT;(iterate 4 exact rfl);(iterate 2 (first|omega|(dsimp only;omega))))
  |(apply zar [] [] hmix;decide+kernel)
  |(apply zau;(iterate 5 exact rfl);intro g2)
  |(apply zab;(iterate 5 exact rfl);first|(apply zas hT;exact rfl;exact rfl;(repeat(first|exact List.mem_cons_self|apply List.mem_cons_of_mem|apply List.mem_append_right));exact rfl;exact rfl)|(apply zaq hT;exact rfl;exact rfl;(repeat(first|exact List.mem_cons_self|apply List.mem_cons_of_mem|apply List.mem_append_right));exact rfl))
  |(apply zau;(iterate 5 exact rfl);intro _)|(apply zac hT;(iterate 5 exact rfl);intro _)
  |(apply zaf;(iterate 2 exact rfl))|(apply zag;(iterate 2 exact rfl))
  |(apply zak;exact rfl;all_goals intro hb;all_goals(fail_if_success (change true=true at hb));all_goals(fail_if_success (change false=false at hb));all_goals(try dsimp only at hb);all_goals(try simp only[hb]);all_goals(first|replace hb:=of_decide_eq_true hb|replace hb:=of_decide_eq_false hb|replace hb:=zao hb|replace hb:=zap hb|replace hb:=eq_of_beq hb|replace hb:=ne_of_beq_false hb|skip);all_goals(try(exfalso;omega)))
  |(apply zan;exact rfl;all_goals intro hb;all_goals(try dsimp only at hb);all_goals(try simp only[hb]);all_goals(first|replace hb:=of_decide_eq_true hb|replace hb:=of_decide_eq_false hb|replace hb:=zao hb|replace hb:=zap hb|replace hb:=eq_of_beq hb|replace hb:=ne_of_beq_false hb|skip);all_goals(try(exfalso;omega))))
 all_goals first
  |(exfalso;omega)
  |(apply ret1;exact rfl;exact⟨rfl,dX⟩)
  |skip
theorem zgV (W:World)(h:List zah)(AB:Option Addr)(cB:Nat)(bs:List za1)(AP:Option Addr)(cP:Nat)(ps:List zaJ)(look beat:Int)(hrB:zaD W h AB bs.length 7 (bs.flatMap za1.enc))(hrP:zaD W h AP ps.length 3 (ps.flatMap zaJ.enc))(hR:isR bs ps look beat=true)
 (x:DAd) (s:Dk) (bks:List BAd) (rows:List PRow) (h1:s.trades=[]) (h2:s.asks=[]) (h3:s.head=0) (h4:s.now=0) (hps:psOf s.cash rows=zcR ps.length bs.length) (hbk:∀b∈bks,b.l=[]) (hlb:bks.length=bs.length) (hls:s.books.length=bs.length)
 (hd:∀c∈za3 x s bks rows [],c∈h):zaF Tryz.prog W 20 [zee AB bs.length cB AP ps.length cP look beat,ptrV x.d] h (.bool true):=by
 refine zaF.ofD (fun h' hs=> ?_)
 have hd':∀c∈za3 x s bks rows [],c∈h':=fun c hc=>hs c (hd c hc)
 have hrB':=hrB.mono hs
 have hrP':=hrP.mono hs
 obtain⟨⟨b1,b2⟩,⟨p1,p2⟩,lk1,lk2⟩:=zjn hR
 have hFI:=(ziP W h' AB cB bs AP cP ps look beat hrB' hrP' (by omega) (by omega)).cast (u:=.bool true) (by rw[hR])
 have md:zah.blk x.d 112 (zcs x s)∈h':=hd' _ (by unfold za3;(repeat(first|exact List.mem_cons_self|apply List.mem_cons_of_mem|apply List.mem_append_right)))
 have mb:zah.blk x.b 149 [x.trades.sl s.trades.length,.int .u64 s.head]∈h':=hd' _ (by unfold za3;(repeat(first|exact List.mem_cons_self|apply List.mem_cons_of_mem|apply List.mem_append_right)))
 have mt:x.trades.own s.trades.length 30 8 (s.trades.flatMap zaB.enc)∈h':=hd' _ (by unfold za3;(repeat(first|exact List.mem_cons_self|apply List.mem_cons_of_mem|apply List.mem_append_right)))
 have ma:zah.blk x.a 144 [x.asks.sl s.asks.length]∈h':=hd' _ (by unfold za3;(repeat(first|exact List.mem_cons_self|apply List.mem_cons_of_mem|apply List.mem_append_right)))
 have mas:x.asks.own s.asks.length 87 10 (s.asks.flatMap AskR.enc)∈h':=hd' _ (by unfold za3;(repeat(first|exact List.mem_cons_self|apply List.mem_cons_of_mem|apply List.mem_append_right)))
 have mbk:x.books.own s.books.length 113 1 (bks.map BAd.ptr)∈h':=hd' _ (by unfold za3;(repeat(first|exact List.mem_cons_self|apply List.mem_cons_of_mem|apply List.mem_append_right)))
 have mps:∀c∈zaZ x.p x.cash.A x.cash.c x.pos.A x.pos.c s.cash rows [],c∈h':=fun c hc=>by
  refine hd' c ?_
  unfold zaZ at hc
  rw[List.append_nil]at hc
  rcases List.mem_cons.1 hc with rfl|hc
  ·unfold za3;(repeat(first|exact List.mem_cons_self|apply List.mem_cons_of_mem|apply List.mem_append_right))
  rcases List.mem_cons.1 hc with rfl|hc
  ·unfold za3;(repeat(first|exact List.mem_cons_self|apply List.mem_cons_of_mem|apply List.mem_append_right))
  rcases List.mem_cons.1 hc with rfl|hc
  ·unfold za3;(repeat(first|exact List.mem_cons_self|apply List.mem_cons_of_mem|apply List.mem_append_right))
  unfold za3
  iterate 18 refine List.mem_cons_of_mem _ ?_
  exact List.mem_append_right _ (List.mem_append_left _ hc)
 have mck:∀b∈bks,∀c∈BAd.ck b,c∈h':=fun b hb c hc=>by
  refine hd' c ?_
  unfold za3
  iterate 18 refine List.mem_cons_of_mem _ ?_
  exact List.mem_append_left _ (List.mem_flatMap.2 ⟨b,hb,hc⟩)
 have hPs:=hps
 have hTr:=fun k (hk:∀c∈h',c∈k)=>zgK W k x s (hk _ md) (hk _ mb) (hk _ mt) (by rw[h1];simp)
 have hAs:=fun k (hk:∀c∈h',c∈k)=>zjs W k x s (hk _ md) (hk _ ma) (hk _ mas) (by rw[h2];simp)
 have hHd:=fun k (hk:∀c∈h',c∈k)=>(zjp W x s _).mono (h':=k) (zk8 (hk _ md) (hk _ mb))
 have hPo:=fun k (hk:∀c∈h',c∈k)=>(zkt W x s).mono (h':=k) (zk7 (hk _ md))
 have hNo:=fun k (hk:∀c∈h',c∈k)=>(zks W x s).mono (h':=k) (zk7 (hk _ md))
 have hSu:=fun k (hk:∀c∈h',c∈k) A c=>(zh2 W k ps.length bs.length ⟨by omega,by omega⟩ A c [] zeF (by simp) (fun t ht=>by cases ht) x.p x.cash.A x.cash.c x.pos.A x.pos.c s.cash rows (by rw[hPs];exact zeA _ _) (fun c hc=>hk _ (mps c hc))).cast (u:=.bool true) (by rw[hPs];unfold zlv;dsimp only[zbT];rw[zjO])
 have hEn:=fun k A c=>(zeE W k A c [] s.now look zeF (by simp) (by unfold inW;omega) (fun a ha=>by cases ha))
 have hBo:=fun i b hi k (hk:∀c∈h',c∈k)=>(zjq W x s bks i b (by omega) hi (by omega)).mono (h':=k) (zk8 (hk _ md) (hk _ mbk))
 have hUn:=fun b (hb:b∈bks) k (hk:∀c∈h',c∈k)=>(zeH W b.p b.s.A b.s.c b.l (by rw[hbk b hb];exact zaT.nil)).mono (h':=k) (fun c hc=>hk _ (mck b hb c hc))
 have hOn:=fun A c A2 c2=>zgT W A c A2 c2
 have hHe:=fun A c=>zgS W A c
 rw[h1]at hTr
 rw[h2]at hAs
 rw[h3]at hHd
 rw[h4]at hNo hEn
 simp only[List.length_nil,List.flatMap_nil]at hTr hAs hSu hEn
 clear hd hd' md mb mt ma mas mbk mps mck hps
 refine zaA Tryz.func20 rfl rfl Tryz.results20 Tryz.ntmps20 rfl rfl ?_
 refine zaO hrB' rfl (fun hA=> ?_)
 repeat' (first
  |apply zaz|apply zaa|apply zay|apply zal|apply zam|apply zae|apply zaw
  |(apply zai hT;(iterate 4 exact rfl))|(apply zaj;(iterate 3 exact rfl))|(apply zad;(iterate 2 exact rfl))
  |(apply zax hT;(iterate 4 exact rfl);(iterate 2 (first|omega|(dsimp only;omega))))
  |(apply zar [] [] hmix;decide+kernel)
  |(apply zau;(iterate 5 exact rfl);intro g2)
  |(apply zaC (hs:=(hFI.mono (by(intro c hc;(repeat(first|exact hc|apply List.mem_cons_of_mem|apply List.mem_append_right))))));(iterate 7 exact rfl))
  |(apply zab;(iterate 5 exact rfl);first|(apply zas hT;exact rfl;exact rfl;(repeat(first|exact List.mem_cons_self|apply List.mem_cons_of_mem|apply List.mem_append_right));exact rfl;exact rfl)|(apply zaq hT;exact rfl;exact rfl;(repeat(first|exact List.mem_cons_self|apply List.mem_cons_of_mem|apply List.mem_append_right));exact rfl))
  |(apply zau;(iterate 5 exact rfl);intro _)|(apply zac hT;(iterate 5 exact rfl);intro _)
  |(apply zaf;(iterate 2 exact rfl))|(apply zag;(iterate 2 exact rfl))
  |(apply zak;exact rfl;all_goals intro hb;all_goals(fail_if_success (change true=true at hb));all_goals(fail_if_success (change false=false at hb));all_goals(try dsimp only at hb);all_goals(try simp only[hb]);all_goals(first|replace hb:=of_decide_eq_true hb|replace hb:=of_decide_eq_false hb|replace hb:=zao hb|replace hb:=zap hb|replace hb:=eq_of_beq hb|replace hb:=ne_of_beq_false hb|skip);all_goals(try(exfalso;omega)))
  |(apply zan;exact rfl;all_goals intro hb;all_goals(try dsimp only at hb);all_goals(try simp only[hb]);all_goals(first|replace hb:=of_decide_eq_true hb|replace hb:=of_decide_eq_false hb|replace hb:=zao hb|replace hb:=zap hb|replace hb:=eq_of_beq hb|replace hb:=ne_of_beq_false hb|skip);all_goals(try(exfalso;omega))))
 all_goals try(exfalso;omega)
 refine zaX (α:=Nat) (E:=fun k=>[(1,ptrV x.d),(2,.pointer (some ⟨g2,0,none⟩)),(18,.int .i64 bs.length),(19,.int .i64 k)]) (H:=fun _=>.blk g2 53 [.slice AB bs.length cB,.slice AP ps.length cP,.int .i64 look,.int .i64 beat]::h') (μ:=fun k=>bs.length - k)
  (S:=fun k=>k≤bs.length) 0 (Nat.zero_le _) ⟨rfl,rfl,rfl,rfl,trivial⟩ dX ?_
 intro k hk
 by_cases hlt:k<bs.length
 ·obtain⟨b,hbb⟩:∃b,bks[k]? =some b:=⟨bks[k]'(by omega),gge (by omega)⟩
  have hbm:=mog hbb
  have hU:=fun k hk=>(hUn b hbm k hk).cast (u:=.bool true) (by rw[hbk b hbm];rfl)
  have hd1:decide ((k:Int)<(bs.length:Int))=true:=by simp;omega
  repeat' (first
   |apply zaz|apply zaa|apply zay|apply zal|apply zam|apply zae|apply zaw
   |(apply zai hT;(iterate 4 exact rfl))|(apply zaj;(iterate 3 exact rfl))|(apply zad;(iterate 2 exact rfl))
   |(apply zax hT;(iterate 4 exact rfl);(iterate 2 (first|omega|(dsimp only;omega))))
   |(apply zar [] [] hmix;decide+kernel)
   |(apply zaC (hs:=(hBo k b hbb _ (by(intro c hc;(repeat(first|exact hc|apply List.mem_cons_of_mem|apply List.mem_append_right))))));(iterate 7 exact rfl))
   |(apply zaC (hs:=(hU _ (by(intro c hc;(repeat(first|exact hc|apply List.mem_cons_of_mem|apply List.mem_append_right))))));(iterate 7 exact rfl))
   |(apply zab;(iterate 5 exact rfl);first|(apply zas hT;exact rfl;exact rfl;(repeat(first|exact List.mem_cons_self|apply List.mem_cons_of_mem|apply List.mem_append_right));exact rfl;exact rfl)|(apply zaq hT;exact rfl;exact rfl;(repeat(first|exact List.mem_cons_self|apply List.mem_cons_of_mem|apply List.mem_append_right));exact rfl))
   |(apply zau;(iterate 5 exact rfl);intro _)|(apply zac hT;(iterate 5 exact rfl);intro _)
   |(apply zaf;(iterate 2 exact rfl))|(apply zag;(iterate 2 exact rfl))
   |(apply zak;exact rfl;all_goals intro hb;all_goals(fail_if_success (change true=true at hb));all_goals(fail_if_success (change false=false at hb));all_goals(try dsimp only at hb);all_goals(try simp only[hb]);all_goals(first|replace hb:=of_decide_eq_true hb|replace hb:=of_decide_eq_false hb|replace hb:=zao hb|replace hb:=zap hb|replace hb:=eq_of_beq hb|replace hb:=ne_of_beq_false hb|skip);all_goals(try(exfalso;omega)))
   |(apply zan;exact rfl;all_goals intro hb;all_goals(try dsimp only at hb);all_goals(try simp only[hb]);all_goals(first|replace hb:=of_decide_eq_true hb|replace hb:=of_decide_eq_false hb|replace hb:=zao hb|replace hb:=zap hb|replace hb:=eq_of_beq hb|replace hb:=ne_of_beq_false hb|skip);all_goals(try(exfalso;omega))))
  all_goals first
   |(exfalso;omega)
   |exact zaM (k+1) (by(try dsimp only);omega) (by(try dsimp only);omega) ⟨rfl,rfl,rfl,rfl,trivial⟩ dX
   |skip
 ·obtain rfl:k=bs.length:=by omega
  have hd1:decide ((bs.length:Int)<(bs.length:Int))=false:=by simp
  repeat' (first
   |apply zaz|apply zaa|apply zay|apply zal|apply zam|apply zae|apply zaw
   |(apply zai hT;(iterate 4 exact rfl))|(apply zaj;(iterate 3 exact rfl))|(apply zad;(iterate 2 exact rfl))
   |(apply zax hT;(iterate 4 exact rfl);(iterate 2 (first|omega|(dsimp only;omega))))
   |(apply zar [] [] hmix;decide+kernel)
   |(apply zbj [59,60,10,21,61,39] [22] (.step 0 <| .step 1 <| .step 2 <| .step 3 <| .step 4 <| .step 5 <| .step 6 <| .step 7 <| .step 8 <| .step 9 <| .step 10 <| .step 11 <| .step 12 <| .step 13 <| .step 14 <| .step 15 <| .step 16 <| .step 17 <| .step 19 <| .step 18 <| .step 20 <| .step 21 <| .step 22 <| .step 23 <| .step 25 <| .step 27 <| .step 28 <| .step 24 <| .step 26 <| .step 29 <| .step 30 <| .step 31 <| .nil) hmix;decide+kernel)|apply zbX|apply zbY|(apply zbx;exact rfl)
   |(apply zaV (hs:=(hTr _ (by(intro c hc;(repeat(first|exact hc|apply List.mem_cons_of_mem|apply List.mem_append_right))))));(iterate 7 exact rfl);rintro _ _ ⟨A6,c6,rfl,rfl⟩)
   |(apply zaC (hs:=((hHe _ _).mono (by simp)));(iterate 7 exact rfl))
   |(apply zaC (hs:=(hHd _ (by(intro c hc;(repeat(first|exact hc|apply List.mem_cons_of_mem|apply List.mem_append_right))))));(iterate 7 exact rfl))
   |(apply zaC (hs:=(hPo _ (by(intro c hc;(repeat(first|exact hc|apply List.mem_cons_of_mem|apply List.mem_append_right))))));(iterate 7 exact rfl))
   |(apply zaC (hs:=(hSu _ (by(intro c hc;(repeat(first|exact hc|apply List.mem_cons_of_mem|apply List.mem_append_right)))) _ _));(iterate 7 exact rfl))
   |(apply zbW (hs:=(hAs _ (by(intro c hc;(repeat(first|exact hc|apply List.mem_cons_of_mem|apply List.mem_append_right))))));(iterate 7 exact rfl);(rintro _ _ ⟨A7,c7,rfl,rfl⟩;refine⟨[_],rfl,?_⟩))
   |(apply zaC (hs:=((hOn _ _ _ _).mono (by simp)));(iterate 7 exact rfl))
   |(apply zaC (hs:=(hNo _ (by(intro c hc;(repeat(first|exact hc|apply List.mem_cons_of_mem|apply List.mem_append_right))))));(iterate 7 exact rfl))
   |(apply zaC (hs:=(hEn _ _ _));(iterate 7 exact rfl))
   |(apply zab;(iterate 5 exact rfl);first|(apply zas hT;exact rfl;exact rfl;(repeat(first|exact List.mem_cons_self|apply List.mem_cons_of_mem|apply List.mem_append_right));exact rfl;exact rfl)|(apply zaq hT;exact rfl;exact rfl;(repeat(first|exact List.mem_cons_self|apply List.mem_cons_of_mem|apply List.mem_append_right));exact rfl))
   |(apply zau;(iterate 5 exact rfl);intro _)|(apply zac hT;(iterate 5 exact rfl);intro _)
   |(apply zaf;(iterate 2 exact rfl))|(apply zag;(iterate 2 exact rfl))
   |(apply zak;exact rfl;all_goals intro hb;all_goals(fail_if_success (change true=true at hb));all_goals(fail_if_success (change false=false at hb));all_goals(try dsimp only at hb);all_goals(try simp only[hb]);all_goals(first|replace hb:=of_decide_eq_true hb|replace hb:=of_decide_eq_false hb|replace hb:=zao hb|replace hb:=zap hb|replace hb:=eq_of_beq hb|replace hb:=ne_of_beq_false hb|skip);all_goals(try(exfalso;omega)))
   |(apply zan;exact rfl;all_goals intro hb;all_goals(try dsimp only at hb);all_goals(try simp only[hb]);all_goals(first|replace hb:=of_decide_eq_true hb|replace hb:=of_decide_eq_false hb|replace hb:=zao hb|replace hb:=zap hb|replace hb:=eq_of_beq hb|replace hb:=ne_of_beq_false hb|skip);all_goals(try(exfalso;omega))))
  all_goals first
   |(exfalso;omega)
   |(apply ret1;exact rfl;exact⟨rfl,dX⟩)
   |skip
def ka27 :AskR:=⟨0,0,0,0,0,0,3,0,1,0⟩
theorem zlF (W:World):zaF Tryz.prog W 12 [] [] (.bool true):=by
 refine zaF.ofD (fun h' hs=> ?_)
 have hR:isR [kb1,kb2] kps 3 50=true:=by decide+kernel
 have hr:=fun k=>zlh W k
 have hN:=fun k g1 g2 (m1:zah.own (some ⟨g1,0,none⟩) 2 2 95 7 ([kb1,kb2].flatMap za1.enc)∈k) (m2:zah.own (some ⟨g2,0,none⟩) 5 5 97 3 (kps.flatMap zaJ.enc)∈k)=>
  (zkr W k (some ⟨g1,0,none⟩) 2 [kb1,kb2] (some ⟨g2,0,none⟩) 5 kps 3 50 (zaD.enc za1.enc_len za1.enc_one m1 rfl) (zaD.enc zaJ.enc_len zaJ.enc_one m2 rfl) (by decide) (by decide)).mono (R':=fun v h'=>∃x bks rows,v=ptrV x.d∧h'=za3 x (zbH [kb1,kb2] kps 3 50) bks rows k∧zff (zbH [kb1,kb2] kps 3 50) bks rows) (fun v h' hh=>by
    rcases hh with ⟨a,_⟩|⟨_,a⟩
    ·rw[hR]at a;cases a
    ·exact a)
 have hD:=fun k g1 g2 (m1:zah.own (some ⟨g1,0,none⟩) 2 2 95 7 ([kb1,kb2].flatMap za1.enc)∈k) (m2:zah.own (some ⟨g2,0,none⟩) 5 5 97 3 (kps.flatMap zaJ.enc)∈k) x bks rows (hf:zff (zbH [kb1,kb2] kps 3 50) bks rows) (hk:∀c∈za3 x (zbH [kb1,kb2] kps 3 50) bks rows [],c∈k)=>
  zgV W k (some ⟨g1,0,none⟩) 2 [kb1,kb2] (some ⟨g2,0,none⟩) 5 kps 3 50 (zaD.enc za1.enc_len za1.enc_one m1 rfl) (zaD.enc zaJ.enc_len zaJ.enc_one m2 rfl) hR x (zbH [kb1,kb2] kps 3 50) bks rows rfl rfl rfl rfl (by unfold psOf;rw[hf.2];rfl) (fun b hb=>by
   have h1:b.l∈bks.map BAd.l:=lmm.2 ⟨b,hb,rfl⟩
   rw[hf.1]at h1
   exact(List.mem_replicate.1 h1).2) (by have h9:=congrArg List.length hf.1;rw[llm]at h9;exact h9) rfl hk
 have hNil:=fun g1 g2=>zfs W (some ⟨g1,0,none⟩) 2 2 (some ⟨g2,0,none⟩) 5 5 3 50
 have hE:=fun k g (m:zah.own (some ⟨g,0,none⟩) 1 1 87 10 (ka27.enc)∈k)=>(zeE W k (some ⟨g,0,none⟩) 1 [ka27] 5 2 (zaD.enc AskR.enc_len AskR.enc_one m rfl) (by decide) (by unfold inW;omega) (fun a ha=>by
  rw[lms.1 ha]
  show inW 3∧inW (3+2)
  unfold inW;omega)).cast (u:=.bool false) (by rfl)
 refine zaA Tryz.func12 rfl rfl Tryz.results12 Tryz.ntmps12 rfl rfl ?_
 repeat' (first
  |apply zaz|apply zaa|apply zay|apply zal|apply zam|apply zae|apply zaw
  |(apply zai hT;(iterate 4 exact rfl))|(apply zaj;(iterate 3 exact rfl))|(apply zad;(iterate 2 exact rfl))
  |(apply zax hT;(iterate 4 exact rfl);(iterate 2 (first|omega|(dsimp only;omega))))
  |(apply zar [] [] hmix;decide+kernel)
  |(apply zaV (hs:=(hr _));(iterate 7 exact rfl);first|((fail_if_success (have q:=ga1));rintro _ _ ⟨ga1,gb1,rfl,rfl⟩)|((fail_if_success (have q:=ga2));rintro _ _ ⟨ga2,gb2,rfl,rfl⟩)|rintro _ _ ⟨ga3,gb3,rfl,rfl⟩)
  |(apply zaV (hs:=(hN _ ga2 gb2 (by(repeat(first|exact List.mem_cons_self|apply List.mem_cons_of_mem|apply List.mem_append_right))) (by(repeat(first|exact List.mem_cons_self|apply List.mem_cons_of_mem|apply List.mem_append_right)))));(iterate 7 exact rfl);rintro _ _ ⟨x,bks,rows,rfl,rfl,hf⟩)
  |(apply zaC (hs:=(hD _ ga1 gb1 (by(repeat(first|exact List.mem_cons_self|apply List.mem_cons_of_mem|apply List.mem_append_right))) (by(repeat(first|exact List.mem_cons_self|apply List.mem_cons_of_mem|apply List.mem_append_right))) x bks rows hf (by intro c hc;(repeat(first|exact zgU c hc|apply List.mem_cons_of_mem)))));(iterate 7 exact rfl))
  |(apply zaC (hs:=((hNil _ _).mono (by simp)));(iterate 7 exact rfl))
  |(apply zaC (hs:=((zdn W).mono (by simp)));(iterate 7 exact rfl))
  |(apply zaQ hT (cs:=ka27.enc);(iterate 4 exact rfl))
  |(apply zaI hT;(iterate 12 exact rfl);intro g15)
  |(apply zaC (hs:=(hE _ g15 (by(repeat(first|exact List.mem_cons_self|apply List.mem_cons_of_mem|apply List.mem_append_right)))));(iterate 7 exact rfl))
  |(apply zab;(iterate 5 exact rfl);first|(apply zas hT;exact rfl;exact rfl;(repeat(first|exact List.mem_cons_self|apply List.mem_cons_of_mem|apply List.mem_append_right));exact rfl;exact rfl)|(apply zaq hT;exact rfl;exact rfl;(repeat(first|exact List.mem_cons_self|apply List.mem_cons_of_mem|apply List.mem_append_right));exact rfl))
  |(apply zau;(iterate 5 exact rfl);intro _)|(apply zac hT;(iterate 5 exact rfl);intro _)
  |(apply zaf;(iterate 2 exact rfl))|(apply zag;(iterate 2 exact rfl))
  |(apply zak;exact rfl;all_goals intro hb;all_goals(fail_if_success (change true=true at hb));all_goals(fail_if_success (change false=false at hb));all_goals(try dsimp only at hb);all_goals(try simp only[hb]);all_goals(first|replace hb:=of_decide_eq_true hb|replace hb:=of_decide_eq_false hb|replace hb:=zao hb|replace hb:=zap hb|replace hb:=eq_of_beq hb|replace hb:=ne_of_beq_false hb|skip);all_goals(try(exfalso;omega)))
  |(apply zan;exact rfl;all_goals intro hb;all_goals(try dsimp only at hb);all_goals(try simp only[hb]);all_goals(first|replace hb:=of_decide_eq_true hb|replace hb:=of_decide_eq_false hb|replace hb:=zao hb|replace hb:=zap hb|replace hb:=eq_of_beq hb|replace hb:=ne_of_beq_false hb|skip);all_goals(try(exfalso;omega))))
 all_goals first
  |(exfalso;omega)
  |(apply ret1;exact rfl;exact⟨rfl,by(refine zbZ ?_ (zgj (x:=x) (s:=zbH [kb1,kb2] kps 3 50) (bks:=bks) (rows:=rows));exact dX)⟩)
  |skip
end Go.Proofs.YteocfhdocpeokaaGreat
set_option linter.unusedSimpArgs false
set_option linter.unusedVariables false
namespace Go.Proofs.YteocfhdocpeokaaGreat
open Go Go.Sl
attribute [local irreducible] AW ES EP Ld RetQ
set_option maxRecDepth 100000
def zcS (l:List zaB):List Int:=(List.range l.length).map fun k=>zc2 (l.take (k+1))
theorem zh3 (l:List zaB):(zcS l).length=l.length:=by simp[zcS]
theorem zh4 (l:List zaB)(t:zaB):zc2 (l++[t])=((zb1 (zc2 l).toNat (zbu t):Nat):Int):=by
 unfold zc2
 rw[List.foldl_append];rfl
theorem zgW {l:List zaB}{k:Nat}{t:zaB}(ht:l[k]? =some t):zcS (l.take (k+1))=zcS (l.take k)++[zc2 (l.take (k+1))]:=by
 have hk:=(gsi.1 ht).1
 have e1:(l.take (k+1)).length=k+1:=by rw[llt];omega
 have e2:(l.take k).length=k:=by rw[llt];omega
 unfold zcS
 rw[e1,e2,List.range_succ,List.map_append,List.map_singleton]
 congr 1
 ·refine List.map_congr_left (fun j hj=> ?_)
  have:=List.mem_range.1 hj
  rw[List.take_take,List.take_take]
  congr 2
  omega
 ·rw[List.take_take,Nat.min_self]
theorem zkG (l:List zaB):0≤zc2 l∧(zc2 l).toNat<2^64:=by
 have key:∀(l:List zaB) (x:Int),0≤x→x.toNat<2^64→0≤l.foldl (fun(h:Int) t=>((zb1 h.toNat (zbu t):Nat):Int)) x∧(l.foldl (fun(h:Int) t=>((zb1 h.toNat (zbu t):Nat):Int)) x).toNat<2^64:=by
  intro l
  induction l with
  |nil=>intro x h1 h2;exact⟨h1,h2⟩
  |cons t l ih=>
   intro x h1 h2
   rw[List.foldl_cons]
   exact ih _ (Int.natCast_nonneg _) (by rw[Int.toNat_natCast];exact zf9 h2)
 exact key l 0 (Int.le_refl _) (by decide)
end Go.Proofs.YteocfhdocpeokaaGreat
set_option linter.unusedSimpArgs false
set_option linter.unusedVariables false
namespace Go.Sl
open Go Go.RowKit
theorem zlG {P:Program}{W:World}{N:Nat}{env:Env}{h:List zah}{kf:KF}{ops:Array Oper}{K:Env→List zah→Prop}{rest:List Oper}{b:Bool}{e f:Int}{d:Tmp}{t yt:TypeId}{x y:Operand}{ty pos af g}(hg:zbi ops env g=some b)(hb:b=true)(hd:Nat.blt d N=true)(hx:zaR env x=some (.int .u64 e))(hy:zaR env y=some (.int .u64 f))(he:0≤e)(he2:e≤18446744073709551615)(hf:0<f)
 (hK:ES P W N kf ops rest ((d,.int .u64 (e / f))::env) h K):ES P W N kf ops (⟨some d,.binOp .quo t x y yt,ty,pos,af,g⟩::rest) env h K:=
 zbI hg hb hd (fun a ha w=>by
  have h1:f≠0:=by omega
  have h2:e.tdiv f=e / f:=Int.tdiv_eq_ediv_of_nonneg he
  have h3:0≤e / f:=Int.ediv_nonneg he (by omega)
  have h4:e / f≤e:=Int.ediv_le_self _ he
  have h5:IntKind.u64.wrap (e / f)=e / f:=IntWalk.u64_in _ ⟨by omega,by omega⟩
  simp[execOp,ha.eval hx,ha.eval hy,eqGuard,binOp,Op.intDiv,h1,h2,h5]) hK
end Go.Sl
namespace Go.Proofs.YteocfhdocpeokaaGreat
open Go Go.Sl
attribute [local irreducible] AW ES EP Ld RetQ
set_option maxRecDepth 100000
theorem zkH (W:World)(n:Int)(hn:inW n):zaF Tryz.prog W 135 [.int .i64 n] [] (.int .u64 (zigN n:Nat)):=by
 refine zaF.ofD (fun h' hs=> ?_)
 obtain⟨n1,n2⟩:=hn
 by_cases h0:n<0
 ·have hz:((zigN n:Nat):Int)=2*(0 - (n+1))+1:=by unfold zigN;rw[if_pos h0];omega
  rw[hz]
  refine zaA Tryz.func135 rfl rfl Tryz.results135 Tryz.ntmps135 rfl rfl ?_
  repeat' (first
   |apply zaz|apply zaa|apply zay|apply zal|apply zam|apply zae|apply zaw
   |(apply zai hT;(iterate 4 exact rfl))|(apply zaj;(iterate 3 exact rfl))|(apply zad;(iterate 2 exact rfl))
   |(apply zax hT;(iterate 4 exact rfl);(iterate 2 (first|omega|(dsimp only;omega))))
   |(apply zar [] [] hmix;decide+kernel)
   |(apply zfz hT;(iterate 4 exact rfl);(iterate 2 omega))
   |(apply zab;(iterate 5 exact rfl);first|(apply zas hT;exact rfl;exact rfl;(repeat(first|exact List.mem_cons_self|apply List.mem_cons_of_mem|apply List.mem_append_right));exact rfl;exact rfl)|(apply zaq hT;exact rfl;exact rfl;(repeat(first|exact List.mem_cons_self|apply List.mem_cons_of_mem|apply List.mem_append_right));exact rfl))
   |(apply zau;(iterate 5 exact rfl);intro _)|(apply zac hT;(iterate 5 exact rfl);intro _)
   |(apply zaf;(iterate 2 exact rfl))|(apply zag;(iterate 2 exact rfl))
   |(apply zak;exact rfl;all_goals intro hb;all_goals(fail_if_success (change true=true at hb));all_goals(fail_if_success (change false=false at hb));all_goals(try dsimp only at hb);all_goals(try simp only[hb]);all_goals(first|replace hb:=of_decide_eq_true hb|replace hb:=of_decide_eq_false hb|replace hb:=zao hb|replace hb:=zap hb|replace hb:=eq_of_beq hb|replace hb:=ne_of_beq_false hb|skip);all_goals(try(exfalso;omega)))
   |(apply zan;exact rfl;all_goals intro hb;all_goals(try dsimp only at hb);all_goals(try simp only[hb]);all_goals(first|replace hb:=of_decide_eq_true hb|replace hb:=of_decide_eq_false hb|replace hb:=zao hb|replace hb:=zap hb|replace hb:=eq_of_beq hb|replace hb:=ne_of_beq_false hb|skip);all_goals(try(exfalso;omega))))
  all_goals first
   |(exfalso;omega)
   |(apply ret1;exact rfl;exact⟨rfl,dX⟩)
   |skip
 ·have hz:((zigN n:Nat):Int)=2*n:=by unfold zigN;rw[if_neg h0];omega
  rw[hz]
  refine zaA Tryz.func135 rfl rfl Tryz.results135 Tryz.ntmps135 rfl rfl ?_
  repeat' (first
   |apply zaz|apply zaa|apply zay|apply zal|apply zam|apply zae|apply zaw
   |(apply zai hT;(iterate 4 exact rfl))|(apply zaj;(iterate 3 exact rfl))|(apply zad;(iterate 2 exact rfl))
   |(apply zax hT;(iterate 4 exact rfl);(iterate 2 (first|omega|(dsimp only;omega))))
   |(apply zar [] [] hmix;decide+kernel)
   |(apply zfz hT;(iterate 4 exact rfl);(iterate 2 omega))
   |(apply zab;(iterate 5 exact rfl);first|(apply zas hT;exact rfl;exact rfl;(repeat(first|exact List.mem_cons_self|apply List.mem_cons_of_mem|apply List.mem_append_right));exact rfl;exact rfl)|(apply zaq hT;exact rfl;exact rfl;(repeat(first|exact List.mem_cons_self|apply List.mem_cons_of_mem|apply List.mem_append_right));exact rfl))
   |(apply zau;(iterate 5 exact rfl);intro _)|(apply zac hT;(iterate 5 exact rfl);intro _)
   |(apply zaf;(iterate 2 exact rfl))|(apply zag;(iterate 2 exact rfl))
   |(apply zak;exact rfl;all_goals intro hb;all_goals(fail_if_success (change true=true at hb));all_goals(fail_if_success (change false=false at hb));all_goals(try dsimp only at hb);all_goals(try simp only[hb]);all_goals(first|replace hb:=of_decide_eq_true hb|replace hb:=of_decide_eq_false hb|replace hb:=zao hb|replace hb:=zap hb|replace hb:=eq_of_beq hb|replace hb:=ne_of_beq_false hb|skip);all_goals(try(exfalso;omega)))
   |(apply zan;exact rfl;all_goals intro hb;all_goals(try dsimp only at hb);all_goals(try simp only[hb]);all_goals(first|replace hb:=of_decide_eq_true hb|replace hb:=of_decide_eq_false hb|replace hb:=zao hb|replace hb:=zap hb|replace hb:=eq_of_beq hb|replace hb:=ne_of_beq_false hb|skip);all_goals(try(exfalso;omega))))
  all_goals first
   |(exfalso;omega)
   |(apply ret1;exact rfl;exact⟨rfl,dX⟩)
   |skip
theorem zkI (W:World)(h:List zah)(n:Int)(hn:inW n):
 zaL Tryz.prog W 106 [.int .i64 n] h (fun v h'=>∃A' c',v=.slice A' (oneN (zigN n)).length c'∧h'=.own A' (oneN (zigN n)).length c' 5 1 ((oneN (zigN n)).map byV)::h):=by
 refine zaL.dropTo ?_
 have hZ:=zkH W n hn
 have hz0:=zgM hn
 have hol:(oneN (zigN n)).length≤10:=zdT 9 (zigN n) (Nat.lt_of_lt_of_le hz0 (by decide))
 generalize zigN n=z0 at*
 generalize hp1:oneN z0=p1 at*
 refine zaA Tryz.func106 rfl rfl Tryz.results106 Tryz.ntmps106 rfl rfl ?_
 repeat' (first
  |apply zaz|apply zaa|apply zay|apply zal|apply zam|apply zae|apply zaw
  |(apply zai hT;(iterate 4 exact rfl))|(apply zaj;(iterate 3 exact rfl))|(apply zad;(iterate 2 exact rfl))
  |(apply zax hT;(iterate 4 exact rfl);(iterate 2 (first|omega|(dsimp only;omega))))
  |(apply zar [] [] hmix;decide+kernel)
  |(apply zaC (hs:=(hZ.mono (by simp)));(iterate 7 exact rfl))
  |(apply zab;(iterate 5 exact rfl);first|(apply zas hT;exact rfl;exact rfl;(repeat(first|exact List.mem_cons_self|apply List.mem_cons_of_mem|apply List.mem_append_right));exact rfl;exact rfl)|(apply zaq hT;exact rfl;exact rfl;(repeat(first|exact List.mem_cons_self|apply List.mem_cons_of_mem|apply List.mem_append_right));exact rfl))
  |(apply zau;(iterate 5 exact rfl);intro _)|(apply zac hT;(iterate 5 exact rfl);intro _)
  |(apply zaf;(iterate 2 exact rfl))|(apply zag;(iterate 2 exact rfl))
  |(apply zak;exact rfl;all_goals intro hb;all_goals(fail_if_success (change true=true at hb));all_goals(fail_if_success (change false=false at hb));all_goals(try dsimp only at hb);all_goals(try simp only[hb]);all_goals(first|replace hb:=of_decide_eq_true hb|replace hb:=of_decide_eq_false hb|replace hb:=zao hb|replace hb:=zap hb|replace hb:=eq_of_beq hb|replace hb:=ne_of_beq_false hb|skip);all_goals(try(exfalso;omega)))
  |(apply zan;exact rfl;all_goals intro hb;all_goals(try dsimp only at hb);all_goals(try simp only[hb]);all_goals(first|replace hb:=of_decide_eq_true hb|replace hb:=of_decide_eq_false hb|replace hb:=zao hb|replace hb:=zap hb|replace hb:=eq_of_beq hb|replace hb:=ne_of_beq_false hb|skip);all_goals(try(exfalso;omega))))
 refine zbG (fun w hw=>⟨_,hw.own_nil 5 1,?_⟩)
 refine zaX (α:=Nat×List Nat×Option Addr×Nat) (E:=fun x=>[(3,.int .u64 (x.1:Nat)),(4,.slice x.2.2.1 x.2.1.length x.2.2.2)]) (H:=fun x=>.own x.2.2.1 x.2.1.length x.2.2.2 5 1 (x.2.1.map byV)::h) (μ:=fun x=>x.1)
  (S:=fun x=>x.1<2^64∧x.2.1++oneN x.1=p1) (z0,[],none,0) ⟨hz0,hp1⟩ ⟨rfl,rfl,trivial⟩ dX ?_
 rintro⟨z,bs,A4,c4⟩ ⟨hz,hbs⟩
 dsimp only at hz hbs ⊢
 have hbl:bs.length≤p1.length:=by rw[←hbs];simp
 by_cases hz1:z<128
 ·have hd2:decide (((z:Nat):Int)≥128)=false:=by simp;omega
  rw[zcI hz1]at hbs
  have hm:((z:Nat):Int)=IntKind.u8.wrap z:=(IntWalk.u8_in _ ⟨by omega,by omega⟩).symm
  repeat' (first
   |apply zaz|apply zaa|apply zay|apply zal|apply zam|apply zae|apply zaw
   |(apply zai hT;(iterate 4 exact rfl))|(apply zaj;(iterate 3 exact rfl))|(apply zad;(iterate 2 exact rfl))
   |(apply zax hT;(iterate 4 exact rfl);(iterate 2 (first|omega|(dsimp only;omega))))
   |(apply zar [] [] hmix;decide+kernel)
   |(apply zg0 hT;(iterate 4 exact rfl);rw[←hm])
   |(apply zaI hT;(iterate 12 exact rfl);intro g28)
   |(apply za2 hT;(iterate 10 exact rfl);exact sX;exact zaD.own mem0 rfl (List.all_eq_true.1 rfl);omega;(show(_:Nat)*1≤_;omega);intro A' c')
   |(apply zab;(iterate 5 exact rfl);first|(apply zas hT;exact rfl;exact rfl;(repeat(first|exact List.mem_cons_self|apply List.mem_cons_of_mem|apply List.mem_append_right));exact rfl;exact rfl)|(apply zaq hT;exact rfl;exact rfl;(repeat(first|exact List.mem_cons_self|apply List.mem_cons_of_mem|apply List.mem_append_right));exact rfl))
   |(apply zau;(iterate 5 exact rfl);intro _)|(apply zac hT;(iterate 5 exact rfl);intro _)
   |(apply zaf;(iterate 2 exact rfl))|(apply zag;(iterate 2 exact rfl))
   |(apply zak;exact rfl;all_goals intro hb;all_goals(fail_if_success (change true=true at hb));all_goals(fail_if_success (change false=false at hb));all_goals(try dsimp only at hb);all_goals(try simp only[hb]);all_goals(first|replace hb:=of_decide_eq_true hb|replace hb:=of_decide_eq_false hb|replace hb:=zao hb|replace hb:=zap hb|replace hb:=eq_of_beq hb|replace hb:=ne_of_beq_false hb|skip);all_goals(try(exfalso;omega)))
   |(apply zan;exact rfl;all_goals intro hb;all_goals(try dsimp only at hb);all_goals(try simp only[hb]);all_goals(first|replace hb:=of_decide_eq_true hb|replace hb:=of_decide_eq_false hb|replace hb:=zao hb|replace hb:=zap hb|replace hb:=eq_of_beq hb|replace hb:=ne_of_beq_false hb|skip);all_goals(try(exfalso;omega))))
  all_goals first
   |(exfalso;omega)
   |(apply ret1;exact rfl;exact⟨_,by(rw[←hbs,lla,List.map_append];exact dX),A',c',by rw[←hbs,lla];rfl,rfl⟩)
   |skip
 ·have hd2:decide (((z:Nat):Int)≥128)=true:=by simp;omega
  rw[zfp hz1]at hbs
  have hmo:((z:Nat):Int)%128+128=((z%128+128:Nat):Int):=by omega
  have hm:((z%128+128:Nat):Int)=IntKind.u8.wrap (((z:Nat):Int)%128+128):=by rw[IntKind.wrap_u8];omega
  have hdi:((z:Nat):Int) / 128=((z / 128:Nat):Int):=by omega
  repeat' (first
   |apply zaz|apply zaa|apply zay|apply zal|apply zam|apply zae|apply zaw
   |(apply zai hT;(iterate 4 exact rfl))|(apply zaj;(iterate 3 exact rfl))|(apply zad;(iterate 2 exact rfl))
   |(apply zax hT;(iterate 4 exact rfl);(iterate 2 (first|omega|(dsimp only;omega))))
   |(apply zar [] [] hmix;decide+kernel)
   |(apply zin;(iterate 5 exact rfl);(iterate 2 omega))
   |(apply zfz hT;(iterate 4 exact rfl);(iterate 2 omega))
   |(apply zg0 hT;(iterate 4 exact rfl);rw[←hm])
   |(apply zlG;(iterate 5 exact rfl);(iterate 3 omega);rw[hdi])
   |(apply zaI hT;(iterate 12 exact rfl);intro g21)
   |(apply za2 hT;(iterate 10 exact rfl);exact sX;exact zaD.own mem0 rfl (List.all_eq_true.1 rfl);omega;(show(_:Nat)*1≤_;omega);intro A' c')
   |(apply zab;(iterate 5 exact rfl);first|(apply zas hT;exact rfl;exact rfl;(repeat(first|exact List.mem_cons_self|apply List.mem_cons_of_mem|apply List.mem_append_right));exact rfl;exact rfl)|(apply zaq hT;exact rfl;exact rfl;(repeat(first|exact List.mem_cons_self|apply List.mem_cons_of_mem|apply List.mem_append_right));exact rfl))
   |(apply zau;(iterate 5 exact rfl);intro _)|(apply zac hT;(iterate 5 exact rfl);intro _)
   |(apply zaf;(iterate 2 exact rfl))|(apply zag;(iterate 2 exact rfl))
   |(apply zak;exact rfl;all_goals intro hb;all_goals(fail_if_success (change true=true at hb));all_goals(fail_if_success (change false=false at hb));all_goals(try dsimp only at hb);all_goals(try simp only[hb]);all_goals(first|replace hb:=of_decide_eq_true hb|replace hb:=of_decide_eq_false hb|replace hb:=zao hb|replace hb:=zap hb|replace hb:=eq_of_beq hb|replace hb:=ne_of_beq_false hb|skip);all_goals(try(exfalso;omega)))
   |(apply zan;exact rfl;all_goals intro hb;all_goals(try dsimp only at hb);all_goals(try simp only[hb]);all_goals(first|replace hb:=of_decide_eq_true hb|replace hb:=of_decide_eq_false hb|replace hb:=zao hb|replace hb:=zap hb|replace hb:=eq_of_beq hb|replace hb:=ne_of_beq_false hb|skip);all_goals(try(exfalso;omega))))
  all_goals first
   |(exfalso;omega)
   |(refine zaM (Q:=fun _ _ _=>True) (z / 128,bs++[z%128+128],A',c') (by dsimp only;omega) ⟨by dsimp only;omega,by dsimp only;rw[List.append_assoc];exact hbs⟩ ⟨rfl,?_,trivial⟩ ?_
     ·dsimp only;rw[lla];rfl
     ·dsimp only;rw[lla,List.map_append];exact dX)
theorem zkJ (W:World)(h:List zah)(A:Option Addr)(c:Nat)(l:List Int)(hwl:∀n∈l,inW n)(hr:zaD W h A l.length 1 (l.map (Value.int .i64)))(hb:l.length≤1000):
 zaL Tryz.prog W 74 [.slice A l.length c] h (fun v h'=>∃A' c',v=.slice A' (zcr l).length c'∧h'=.own A' (zcr l).length c' 5 1 ((zcr l).map byV)::h):=by
 refine zaL.dropTo ?_
 have hpl:=zeB hwl
 refine zaA Tryz.func74 rfl rfl Tryz.results74 Tryz.ntmps74 rfl rfl ?_
 refine zaO hr rfl (fun hA=> ?_)
 repeat' (first
  |apply zaz|apply zaa|apply zay|apply zal|apply zam|apply zae|apply zaw
  |(apply zai hT;(iterate 4 exact rfl))|(apply zaj;(iterate 3 exact rfl))|(apply zad;(iterate 2 exact rfl))
  |(apply zax hT;(iterate 4 exact rfl);(iterate 2 (first|omega|(dsimp only;omega))))
  |(apply zar [] [] hmix;decide+kernel)
  |(apply zaI hT;(iterate 12 exact rfl);intro g5)
  |(apply zab;(iterate 5 exact rfl);first|(apply zas hT;exact rfl;exact rfl;(repeat(first|exact List.mem_cons_self|apply List.mem_cons_of_mem|apply List.mem_append_right));exact rfl;exact rfl)|(apply zaq hT;exact rfl;exact rfl;(repeat(first|exact List.mem_cons_self|apply List.mem_cons_of_mem|apply List.mem_append_right));exact rfl))
  |(apply zau;(iterate 5 exact rfl);intro _)|(apply zac hT;(iterate 5 exact rfl);intro _)
  |(apply zaf;(iterate 2 exact rfl))|(apply zag;(iterate 2 exact rfl))
  |(apply zak;exact rfl;all_goals intro hb;all_goals(fail_if_success (change true=true at hb));all_goals(fail_if_success (change false=false at hb));all_goals(try dsimp only at hb);all_goals(try simp only[hb]);all_goals(first|replace hb:=of_decide_eq_true hb|replace hb:=of_decide_eq_false hb|replace hb:=zao hb|replace hb:=zap hb|replace hb:=eq_of_beq hb|replace hb:=ne_of_beq_false hb|skip);all_goals(try(exfalso;omega)))
  |(apply zan;exact rfl;all_goals intro hb;all_goals(try dsimp only at hb);all_goals(try simp only[hb]);all_goals(first|replace hb:=of_decide_eq_true hb|replace hb:=of_decide_eq_false hb|replace hb:=zao hb|replace hb:=zap hb|replace hb:=eq_of_beq hb|replace hb:=ne_of_beq_false hb|skip);all_goals(try(exfalso;omega))))
 refine zaX (α:=Nat×Option Addr×Nat) (E:=fun x=>[(0,.slice A l.length c),(3,.slice x.2.1 (zcr (l.take x.1)).length x.2.2),(4,.int .i64 x.1)]) (H:=fun x=>.own x.2.1 (zcr (l.take x.1)).length x.2.2 5 1 ((zcr (l.take x.1)).map byV)::h) (μ:=fun x=>l.length - x.1)
  (S:=fun x=>x.1≤l.length) (0,some ⟨g5,0,none⟩,0) (Nat.zero_le _) ⟨rfl,rfl,rfl,trivial⟩ dX ?_
 rintro⟨k,A3,c3⟩ hk
 dsimp only at hk ⊢
 have hlk:(zcr (l.take k)).length≤10*l.length:=Nat.le_trans (zeB (fun n hn=>hwl n (List.mem_of_mem_take hn))) (by simp;omega)
 by_cases hlt:k<l.length
 ·obtain⟨n,hn⟩:∃n,l[k]? =some n:=⟨l[k]'(by omega),gge (by omega)⟩
  have hn2:l[(k:Int).toNat]? =some n:=by simpa using hn
  have hA':=hA (by omega)
  have hd1:decide ((k:Int)<(l.length:Int))=true:=by simp;omega
  have hnw:=hwl n (mog hn)
  have hst:=zhP hn
  have hix:=zgt (kd:=.i64) hn2
  have hol:(oneN (zigN n)).length≤10:=zdT 9 (zigN n) (Nat.lt_of_lt_of_le (zgM hnw) (by decide))
  have hO:=fun h'=>zkI W h' n hnw
  generalize oneN (zigN n)=bs at*
  generalize zcr (l.take k)=p0 at*
  repeat' (first
   |apply zaz|apply zaa|apply zay|apply zal|apply zam|apply zae|apply zaw
   |(apply zai hT;(iterate 4 exact rfl))|(apply zaj;(iterate 3 exact rfl))|(apply zad;(iterate 2 exact rfl))
   |(apply zax hT;(iterate 4 exact rfl);(iterate 2 (first|omega|(dsimp only;omega))))
   |(apply zar [] [] hmix;decide+kernel)
   |(apply zaU hT;(iterate 8 exact rfl);(iterate 2 omega);exact hA')
   |(apply zab;(iterate 5 exact rfl);exact zbd hT rfl rfl (hr.mono (by(intro c hc;(repeat(first|exact hc|apply List.mem_cons_of_mem|apply List.mem_append_right))))) rfl hix)
   |(apply zaV (hs:=(hO _));(iterate 7 exact rfl);rintro _ _ ⟨A1,c1,rfl,rfl⟩)
   |(apply za2 hT;(iterate 10 exact rfl);exact sX;exact zaD.own mem0 (by rw[llm];exact(Nat.mul_one _).symm) (fun v hv=>by obtain⟨y,_,rfl⟩:=lmm.1 hv;rfl);omega;(show(_:Nat)*1≤_;omega);intro A' c')
   |(apply zab;(iterate 5 exact rfl);first|(apply zas hT;exact rfl;exact rfl;(repeat(first|exact List.mem_cons_self|apply List.mem_cons_of_mem|apply List.mem_append_right));exact rfl;exact rfl)|(apply zaq hT;exact rfl;exact rfl;(repeat(first|exact List.mem_cons_self|apply List.mem_cons_of_mem|apply List.mem_append_right));exact rfl))
   |(apply zau;(iterate 5 exact rfl);intro _)|(apply zac hT;(iterate 5 exact rfl);intro _)
   |(apply zaf;(iterate 2 exact rfl))|(apply zag;(iterate 2 exact rfl))
   |(apply zak;exact rfl;all_goals intro hb;all_goals(fail_if_success (change true=true at hb));all_goals(fail_if_success (change false=false at hb));all_goals(try dsimp only at hb);all_goals(try simp only[hb]);all_goals(first|replace hb:=of_decide_eq_true hb|replace hb:=of_decide_eq_false hb|replace hb:=zao hb|replace hb:=zap hb|replace hb:=eq_of_beq hb|replace hb:=ne_of_beq_false hb|skip);all_goals(try(exfalso;omega)))
   |(apply zan;exact rfl;all_goals intro hb;all_goals(try dsimp only at hb);all_goals(try simp only[hb]);all_goals(first|replace hb:=of_decide_eq_true hb|replace hb:=of_decide_eq_false hb|replace hb:=zao hb|replace hb:=zap hb|replace hb:=eq_of_beq hb|replace hb:=ne_of_beq_false hb|skip);all_goals(try(exfalso;omega))))
  all_goals first
   |(exfalso;omega)
   |(refine zaM (k+1,A',c') (by dsimp only;omega) (by dsimp only;omega) ⟨rfl,?_,rfl,trivial⟩ ?_
     ·dsimp only;rw[hst,lla];rfl
     ·dsimp only;rw[hst,lla,List.map_append];exact dX)
 ·obtain rfl:k=l.length:=by omega
  have hd1:decide ((l.length:Int)<(l.length:Int))=false:=by simp
  rw[List.take_length]at*
  repeat' (first
   |apply zaz|apply zaa|apply zay|apply zal|apply zam|apply zae|apply zaw
   |(apply zai hT;(iterate 4 exact rfl))|(apply zaj;(iterate 3 exact rfl))|(apply zad;(iterate 2 exact rfl))
   |(apply zax hT;(iterate 4 exact rfl);(iterate 2 (first|omega|(dsimp only;omega))))
   |(apply zar [] [] hmix;decide+kernel)
   |(apply zab;(iterate 5 exact rfl);first|(apply zas hT;exact rfl;exact rfl;(repeat(first|exact List.mem_cons_self|apply List.mem_cons_of_mem|apply List.mem_append_right));exact rfl;exact rfl)|(apply zaq hT;exact rfl;exact rfl;(repeat(first|exact List.mem_cons_self|apply List.mem_cons_of_mem|apply List.mem_append_right));exact rfl))
   |(apply zau;(iterate 5 exact rfl);intro _)|(apply zac hT;(iterate 5 exact rfl);intro _)
   |(apply zaf;(iterate 2 exact rfl))|(apply zag;(iterate 2 exact rfl))
   |(apply zak;exact rfl;all_goals intro hb;all_goals(fail_if_success (change true=true at hb));all_goals(fail_if_success (change false=false at hb));all_goals(try dsimp only at hb);all_goals(try simp only[hb]);all_goals(first|replace hb:=of_decide_eq_true hb|replace hb:=of_decide_eq_false hb|replace hb:=zao hb|replace hb:=zap hb|replace hb:=eq_of_beq hb|replace hb:=ne_of_beq_false hb|skip);all_goals(try(exfalso;omega)))
   |(apply zan;exact rfl;all_goals intro hb;all_goals(try dsimp only at hb);all_goals(try simp only[hb]);all_goals(first|replace hb:=of_decide_eq_true hb|replace hb:=of_decide_eq_false hb|replace hb:=zao hb|replace hb:=zap hb|replace hb:=eq_of_beq hb|replace hb:=ne_of_beq_false hb|skip);all_goals(try(exfalso;omega))))
  all_goals first
   |(exfalso;omega)
   |(apply ret1;exact rfl;exact⟨_,zbJ,A3,c3,rfl,rfl⟩)
theorem zh5 (W:World)(h:List zah)(A:Option Addr)(c:Nat)(last:Nat)(bs:List Nat)(hl:last<2^64)(hbs:∀b∈bs,b<256)(hr:zaD W h A bs.length 1 (bs.map byV))(hb:bs.length≤1000000):
 zaF Tryz.prog W 43 [.int .u64 last,.slice A bs.length c] h (.int .u64 (zb1 last bs:Nat)):=by
 refine zaF.ofD (fun h' hs=> ?_)
 have hrd:=hr.mono hs
 have hx0:=zgL hl (show 1469598103934665603<2^64 by decide)
 rw[show((1469598103934665603:Nat):Int)=1469598103934665603 from by simp]at hx0
 have hx0l:last ^^^ 1469598103934665603<2^64:=zfm hl (by decide)
 unfold zb1
 generalize last ^^^ 1469598103934665603=x0 at*
 refine zaA Tryz.func43 rfl rfl Tryz.results43 Tryz.ntmps43 rfl rfl ?_
 refine zaO hrd rfl (fun hA=> ?_)
 repeat' (first
  |apply zaz|apply zaa|apply zay|apply zal|apply zam|apply zae|apply zaw
  |(apply zai hT;(iterate 4 exact rfl))|(apply zaj;(iterate 3 exact rfl))|(apply zad;(iterate 2 exact rfl))
  |(apply zax hT;(iterate 4 exact rfl);(iterate 2 (first|omega|(dsimp only;omega))))
  |(apply zar [] [] hmix;decide+kernel)
  |(apply zde;(iterate 6 exact rfl);exact hx0)
  |(apply zab;(iterate 5 exact rfl);first|(apply zas hT;exact rfl;exact rfl;(repeat(first|exact List.mem_cons_self|apply List.mem_cons_of_mem|apply List.mem_append_right));exact rfl;exact rfl)|(apply zaq hT;exact rfl;exact rfl;(repeat(first|exact List.mem_cons_self|apply List.mem_cons_of_mem|apply List.mem_append_right));exact rfl))
  |(apply zau;(iterate 5 exact rfl);intro _)|(apply zac hT;(iterate 5 exact rfl);intro _)
  |(apply zaf;(iterate 2 exact rfl))|(apply zag;(iterate 2 exact rfl))
  |(apply zak;exact rfl;all_goals intro hb;all_goals(fail_if_success (change true=true at hb));all_goals(fail_if_success (change false=false at hb));all_goals(try dsimp only at hb);all_goals(try simp only[hb]);all_goals(first|replace hb:=of_decide_eq_true hb|replace hb:=of_decide_eq_false hb|replace hb:=zao hb|replace hb:=zap hb|replace hb:=eq_of_beq hb|replace hb:=ne_of_beq_false hb|skip);all_goals(try(exfalso;omega)))
  |(apply zan;exact rfl;all_goals intro hb;all_goals(try dsimp only at hb);all_goals(try simp only[hb]);all_goals(first|replace hb:=of_decide_eq_true hb|replace hb:=of_decide_eq_false hb|replace hb:=zao hb|replace hb:=zap hb|replace hb:=eq_of_beq hb|replace hb:=ne_of_beq_false hb|skip);all_goals(try(exfalso;omega))))
 refine zaX (α:=Nat) (E:=fun k=>[(1,.slice A bs.length c),(5,.int .u64 ((bs.take k).foldl mixN x0:Nat)),(6,.int .i64 k)]) (H:=fun _=>h') (μ:=fun k=>bs.length - k)
  (S:=fun k=>k≤bs.length) 0 (Nat.zero_le _) ⟨rfl,rfl,rfl,trivial⟩ dX ?_
 intro k hk
 have hxl:(bs.take k).foldl mixN x0<2^64:=zgF _ hx0l
 by_cases hlt:k<bs.length
 ·obtain⟨b,hbk⟩:∃b,bs[k]? =some b:=⟨bs[k]'(by omega),gge (by omega)⟩
  have hbk2:bs[(k:Int).toNat]? =some b:=by simpa using hbk
  have hA':=hA (by omega)
  have hd1:decide ((k:Int)<(bs.length:Int))=true:=by simp;omega
  have hb256:=hbs b (mog hbk)
  have hst:=zkv hbk x0
  rw[zlw]at hst
  generalize (bs.take k).foldl mixN x0=x at*
  have hxb:=zgL hxl (show b<2^64 by omega)
  have hix:=zl5 hbk2
  have hme:((x ^^^ b:Nat):Int)*1099511628211%18446744073709551616=(((x ^^^ b)*1099511628211%18446744073709551616:Nat):Int):=by omega
  repeat' (first
   |apply zaz|apply zaa|apply zay|apply zal|apply zam|apply zae|apply zaw
   |(apply zai hT;(iterate 4 exact rfl))|(apply zaj;(iterate 3 exact rfl))|(apply zad;(iterate 2 exact rfl))
   |(apply zax hT;(iterate 4 exact rfl);(iterate 2 (first|omega|(dsimp only;omega))))
   |(apply zar [] [] hmix;decide+kernel)
   |(apply zaU hT;(iterate 8 exact rfl);(iterate 2 omega);exact hA')
   |(apply zab;(iterate 5 exact rfl);exact zbd hT rfl rfl hrd rfl hix)
   |(apply zfz hT;(iterate 4 exact rfl);(iterate 2 omega))
   |(apply zde;(iterate 6 exact rfl);exact hxb)
   |(apply zk4 hT;(iterate 4 exact rfl))
   |(apply zab;(iterate 5 exact rfl);first|(apply zas hT;exact rfl;exact rfl;(repeat(first|exact List.mem_cons_self|apply List.mem_cons_of_mem|apply List.mem_append_right));exact rfl;exact rfl)|(apply zaq hT;exact rfl;exact rfl;(repeat(first|exact List.mem_cons_self|apply List.mem_cons_of_mem|apply List.mem_append_right));exact rfl))
   |(apply zau;(iterate 5 exact rfl);intro _)|(apply zac hT;(iterate 5 exact rfl);intro _)
   |(apply zaf;(iterate 2 exact rfl))|(apply zag;(iterate 2 exact rfl))
   |(apply zak;exact rfl;all_goals intro hb;all_goals(fail_if_success (change true=true at hb));all_goals(fail_if_success (change false=false at hb));all_goals(try dsimp only at hb);all_goals(try simp only[hb]);all_goals(first|replace hb:=of_decide_eq_true hb|replace hb:=of_decide_eq_false hb|replace hb:=zao hb|replace hb:=zap hb|replace hb:=eq_of_beq hb|replace hb:=ne_of_beq_false hb|skip);all_goals(try(exfalso;omega)))
   |(apply zan;exact rfl;all_goals intro hb;all_goals(try dsimp only at hb);all_goals(try simp only[hb]);all_goals(first|replace hb:=of_decide_eq_true hb|replace hb:=of_decide_eq_false hb|replace hb:=zao hb|replace hb:=zap hb|replace hb:=eq_of_beq hb|replace hb:=ne_of_beq_false hb|skip);all_goals(try(exfalso;omega))))
  all_goals first
   |(exfalso;omega)
   |exact zaM (k+1) (by(try dsimp only);omega) (by(try dsimp only);omega) ⟨rfl,by rw[hst,←hme];rfl,rfl,trivial⟩ dX
   |skip
 ·obtain rfl:k=bs.length:=by omega
  have hd1:decide ((bs.length:Int)<(bs.length:Int))=false:=by simp
  rw[List.take_length]at*
  generalize bs.foldl mixN x0=x at*
  have hdv:x / 536870912<2^64:=Nat.lt_of_le_of_lt (Nat.div_le_self _ _) hxl
  have hxd:=zgL hxl hdv
  have hsh:((x:Nat):Int) / ((2^29:Nat):Int)=((x / 536870912:Nat):Int):=by
   rw[show(2^29:Nat)=536870912 from rfl];omega
  rw[←hsh]at hxd
  repeat' (first
   |apply zaz|apply zaa|apply zay|apply zal|apply zam|apply zae|apply zaw
   |(apply zai hT;(iterate 4 exact rfl))|(apply zaj;(iterate 3 exact rfl))|(apply zad;(iterate 2 exact rfl))
   |(apply zax hT;(iterate 4 exact rfl);(iterate 2 (first|omega|(dsimp only;omega))))
   |(apply zar [] [] hmix;decide+kernel)
   |(apply zlN (n:=29);(iterate 6 exact rfl);exact Nat.le_of_ble_eq_true rfl)
   |(apply zde;(iterate 6 exact rfl);exact hxd)
   |(apply zab;(iterate 5 exact rfl);first|(apply zas hT;exact rfl;exact rfl;(repeat(first|exact List.mem_cons_self|apply List.mem_cons_of_mem|apply List.mem_append_right));exact rfl;exact rfl)|(apply zaq hT;exact rfl;exact rfl;(repeat(first|exact List.mem_cons_self|apply List.mem_cons_of_mem|apply List.mem_append_right));exact rfl))
   |(apply zau;(iterate 5 exact rfl);intro _)|(apply zac hT;(iterate 5 exact rfl);intro _)
   |(apply zaf;(iterate 2 exact rfl))|(apply zag;(iterate 2 exact rfl))
   |(apply zak;exact rfl;all_goals intro hb;all_goals(fail_if_success (change true=true at hb));all_goals(fail_if_success (change false=false at hb));all_goals(try dsimp only at hb);all_goals(try simp only[hb]);all_goals(first|replace hb:=of_decide_eq_true hb|replace hb:=of_decide_eq_false hb|replace hb:=zao hb|replace hb:=zap hb|replace hb:=eq_of_beq hb|replace hb:=ne_of_beq_false hb|skip);all_goals(try(exfalso;omega)))
   |(apply zan;exact rfl;all_goals intro hb;all_goals(try dsimp only at hb);all_goals(try simp only[hb]);all_goals(first|replace hb:=of_decide_eq_true hb|replace hb:=of_decide_eq_false hb|replace hb:=zao hb|replace hb:=zap hb|replace hb:=eq_of_beq hb|replace hb:=ne_of_beq_false hb|skip);all_goals(try(exfalso;omega))))
  all_goals first
   |(exfalso;omega)
   |(apply ret1;exact rfl;exact⟨rfl,dX⟩)
   |skip
theorem zgX (W:World)(h:List zah)(t:zaB)(ht:zdH t):
 zaL Tryz.prog W 44 [.agg t.enc.toArray] h (fun v h'=>∃A' c',v=.slice A' (zbu t).length c'∧h'=.own A' (zbu t).length c' 5 1 ((zbu t).map byV)::h):=by
 have hP:∀h1 g,zaL Tryz.prog W 74 [.slice (some ⟨g,0,none⟩) 8 8] (.own (some ⟨g,0,none⟩) 8 8 2 1 [.int .i64 t.id,.int .i64 t.bond,.int .i64 t.buyer,.int .i64 t.seller,.int .i64 t.price,.int .i64 t.qty,.int .i64 t.ask,.int .i64 t.tick]::h1) (fun v h'=>∃A' c',v=.slice A' (zbu t).length c'∧h'=.own A' (zbu t).length c' 5 1 ((zbu t).map byV)::.own (some ⟨g,0,none⟩) 8 8 2 1 [.int .i64 t.id,.int .i64 t.bond,.int .i64 t.buyer,.int .i64 t.seller,.int .i64 t.price,.int .i64 t.qty,.int .i64 t.ask,.int .i64 t.tick]::h1):=fun h1 g=>
  zkJ W _ (some ⟨g,0,none⟩) 8 [t.id,t.bond,t.buyer,t.seller,t.price,t.qty,t.ask,t.tick] ht (zaD.own mem0 rfl (List.all_eq_true.1 rfl)) (by simp)
 generalize zbu t=bs at*
 refine zaL.dropTo ?_
 refine zaA Tryz.func44 rfl rfl Tryz.results44 Tryz.ntmps44 rfl rfl ?_
 repeat' (first
  |apply zaz|apply zaa|apply zay|apply zal|apply zam|apply zae|apply zaw
  |(apply zai hT;(iterate 4 exact rfl))|(apply zaj;(iterate 3 exact rfl))|(apply zad;(iterate 2 exact rfl))
  |(apply zax hT;(iterate 4 exact rfl);(iterate 2 (first|omega|(dsimp only;omega))))
  |(apply zar [] [] hmix;decide+kernel)
  |(apply zau;(iterate 5 exact rfl);intro g1)
  |(apply zaI hT (cs:=[.int .i64 t.id,.int .i64 t.bond,.int .i64 t.buyer,.int .i64 t.seller,.int .i64 t.price,.int .i64 t.qty,.int .i64 t.ask,.int .i64 t.tick]);(iterate 9 exact rfl);exact znm rfl rfl rfl rfl rfl rfl rfl rfl;(iterate 2 exact rfl);intro g)
  |(apply zaV (hs:=(hP _ g));(iterate 7 exact rfl);rintro _ _ ⟨A1,c1,rfl,rfl⟩)
  |(apply zab;(iterate 5 exact rfl);first|(apply zas hT;exact rfl;exact rfl;(repeat(first|exact List.mem_cons_self|apply List.mem_cons_of_mem|apply List.mem_append_right));exact rfl;exact rfl)|(apply zaq hT;exact rfl;exact rfl;(repeat(first|exact List.mem_cons_self|apply List.mem_cons_of_mem|apply List.mem_append_right));exact rfl))
  |(apply zau;(iterate 5 exact rfl);intro _)|(apply zac hT;(iterate 5 exact rfl);intro _)
  |(apply zaf;(iterate 2 exact rfl))|(apply zag;(iterate 2 exact rfl))
  |(apply zak;exact rfl;all_goals intro hb;all_goals(fail_if_success (change true=true at hb));all_goals(fail_if_success (change false=false at hb));all_goals(try dsimp only at hb);all_goals(try simp only[hb]);all_goals(first|replace hb:=of_decide_eq_true hb|replace hb:=of_decide_eq_false hb|replace hb:=zao hb|replace hb:=zap hb|replace hb:=eq_of_beq hb|replace hb:=ne_of_beq_false hb|skip);all_goals(try(exfalso;omega)))
  |(apply zan;exact rfl;all_goals intro hb;all_goals(try dsimp only at hb);all_goals(try simp only[hb]);all_goals(first|replace hb:=of_decide_eq_true hb|replace hb:=of_decide_eq_false hb|replace hb:=zao hb|replace hb:=zap hb|replace hb:=eq_of_beq hb|replace hb:=ne_of_beq_false hb|skip);all_goals(try(exfalso;omega))))
 all_goals(apply ret1;exact rfl;exact⟨_,dX,A1,c1,rfl,rfl⟩)
theorem zgY (W:World)(h:List zah)(A:Option Addr)(c:Nat)(l:List zaB)(hr:zaD W h A l.length 8 (l.flatMap zaB.enc))(hb:l.length≤1000000)(hwt:∀t∈l,zdH t):
 zaL Tryz.prog W 16 [.slice A l.length c] h (fun v h'=>∃A' c',v=.slice A' l.length c'∧h'=.own A' l.length c' 73 1 ((zcS l).map (Value.int .u64))::h∧OwnF A' l.length c' 1 ((zcS l).map (Value.int .u64))):=by
 refine zaL.dropF ?_
 refine zaA Tryz.func16 rfl rfl Tryz.results16 Tryz.ntmps16 rfl rfl ?_
 refine zaO hr rfl (fun hA=> ?_)
 refine zbG (fun w hw=>⟨_,hw.own_nil 73 1,?_⟩)
 repeat' (first
  |apply zaz|apply zaa|apply zay|apply zal|apply zam|apply zae|apply zaw
  |(apply zai hT;(iterate 4 exact rfl))|(apply zaj;(iterate 3 exact rfl))|(apply zad;(iterate 2 exact rfl))
  |(apply zax hT;(iterate 4 exact rfl);(iterate 2 (first|omega|(dsimp only;omega))))
  |(apply zar [] [] hmix;decide+kernel)
  |(apply zab;(iterate 5 exact rfl);first|(apply zas hT;exact rfl;exact rfl;(repeat(first|exact List.mem_cons_self|apply List.mem_cons_of_mem|apply List.mem_append_right));exact rfl;exact rfl)|(apply zaq hT;exact rfl;exact rfl;(repeat(first|exact List.mem_cons_self|apply List.mem_cons_of_mem|apply List.mem_append_right));exact rfl))
  |(apply zau;(iterate 5 exact rfl);intro _)|(apply zac hT;(iterate 5 exact rfl);intro _)
  |(apply zaf;(iterate 2 exact rfl))|(apply zag;(iterate 2 exact rfl))
  |(apply zak;exact rfl;all_goals intro hb;all_goals(fail_if_success (change true=true at hb));all_goals(fail_if_success (change false=false at hb));all_goals(try dsimp only at hb);all_goals(try simp only[hb]);all_goals(first|replace hb:=of_decide_eq_true hb|replace hb:=of_decide_eq_false hb|replace hb:=zao hb|replace hb:=zap hb|replace hb:=eq_of_beq hb|replace hb:=ne_of_beq_false hb|skip);all_goals(try(exfalso;omega)))
  |(apply zan;exact rfl;all_goals intro hb;all_goals(try dsimp only at hb);all_goals(try simp only[hb]);all_goals(first|replace hb:=of_decide_eq_true hb|replace hb:=of_decide_eq_false hb|replace hb:=zao hb|replace hb:=zap hb|replace hb:=eq_of_beq hb|replace hb:=ne_of_beq_false hb|skip);all_goals(try(exfalso;omega))))
 refine zaX (α:=Nat×Sp) (E:=fun z=>[(0,.slice A l.length c),(3,.slice z.2.A z.1 z.2.c),(4,.int .u64 (zc2 (l.take z.1))),(5,.int .i64 z.1)])
  (H:=fun z=>.own z.2.A z.1 z.2.c 73 1 ((zcS (l.take z.1)).map (Value.int .u64))::h) (μ:=fun z=>l.length - z.1)
  (S:=fun z=>z.1≤l.length) (0,⟨none,0⟩) (Nat.zero_le _) ⟨rfl,rfl,rfl,rfl,trivial⟩ (by show zaW _ (.own none 0 0 73 1 []::h);exact dX) ?_
 rintro⟨k,o⟩ hk
 dsimp only at hk ⊢
 by_cases hlt:k<l.length
 ·obtain⟨t,ht⟩:∃t,l[k]? =some t:=⟨l[k]'hlt,gge hlt⟩
  have ht2:l[(k:Int).toNat]? =some t:=by simpa using ht
  have hA':=hA (by omega)
  have htw:=hwt t (mog ht)
  have hin:=zkG (l.take k)
  have hst:=zgW ht
  have hsn:zc2 (l.take (k+1))=((zb1 (zc2 (l.take k)).toNat (zbu t):Nat):Int):=by rw[List.take_add_one,ht];exact zh4 _ _
  have hhl:(zcS (l.take k)).length=k:=by rw[zh3,llt];omega
  have hd1:decide ((k:Int)<(l.length:Int))=true:=by simp;omega
  have hB:=fun h'=>zgX W h' t htw
  have hC:=fun h' A' c' hr=>zh5 W h' A' c' (zc2 (l.take k)).toNat (zbu t) hin.2 (zkw _) hr (Nat.le_trans (zhQ htw) (by omega))
  rw[Int.toNat_of_nonneg hin.1]at hC
  generalize zcS (l.take k)=hs at*
  generalize zc2 (l.take k)=hd at*
  generalize zb1 hd.toNat (zbu t)=nx at*
  repeat' (first
   |apply zaz|apply zaa|apply zay|apply zal|apply zam|apply zae|apply zaw
   |(apply zai hT;(iterate 4 exact rfl))|(apply zaj;(iterate 3 exact rfl))|(apply zad;(iterate 2 exact rfl))
   |(apply zax hT;(iterate 4 exact rfl);(iterate 2 (first|omega|(dsimp only;omega))))
   |(apply zar [] [] hmix;decide+kernel)
   |(apply zaU hT;(iterate 8 exact rfl);(iterate 2 omega);exact hA')
   |(apply zab;(iterate 5 exact rfl);exact zaY hT rfl rfl (hr.mono (by(intro c hc;(repeat(first|exact hc|apply List.mem_cons_of_mem|apply List.mem_append_right))))) zaB.enc_len rfl ht2 rfl)
   |(apply zaV (hs:=(hB _));(iterate 7 exact rfl);rintro _ _ ⟨A1,c1,rfl,rfl⟩)
   |(apply zaC (hs:=(hC _ A1 c1 (zaD.own mem0 (by simp) (fun v hv=>by obtain⟨y,_,rfl⟩:=lmm.1 hv;rfl))));(iterate 7 exact rfl))
   |(apply zaI (cs:=[.int .u64 (nx:Int)]) hT;(iterate 12 exact rfl);intro g19)
   |(apply za2 hT;(iterate 10 exact rfl);exact sX;exact zaD.own mem0 rfl (List.all_eq_true.1 rfl);omega;(show(_:Nat)*8≤_;omega);intro A' c')
   |(apply zab;(iterate 5 exact rfl);first|(apply zas hT;exact rfl;exact rfl;(repeat(first|exact List.mem_cons_self|apply List.mem_cons_of_mem|apply List.mem_append_right));exact rfl;exact rfl)|(apply zaq hT;exact rfl;exact rfl;(repeat(first|exact List.mem_cons_self|apply List.mem_cons_of_mem|apply List.mem_append_right));exact rfl))
   |(apply zau;(iterate 5 exact rfl);intro _)|(apply zac hT;(iterate 5 exact rfl);intro _)
   |(apply zaf;(iterate 2 exact rfl))|(apply zag;(iterate 2 exact rfl))
   |(apply zak;exact rfl;all_goals intro hb;all_goals(fail_if_success (change true=true at hb));all_goals(fail_if_success (change false=false at hb));all_goals(try dsimp only at hb);all_goals(try simp only[hb]);all_goals(first|replace hb:=of_decide_eq_true hb|replace hb:=of_decide_eq_false hb|replace hb:=zao hb|replace hb:=zap hb|replace hb:=eq_of_beq hb|replace hb:=ne_of_beq_false hb|skip);all_goals(try(exfalso;omega)))
   |(apply zan;exact rfl;all_goals intro hb;all_goals(try dsimp only at hb);all_goals(try simp only[hb]);all_goals(first|replace hb:=of_decide_eq_true hb|replace hb:=of_decide_eq_false hb|replace hb:=zao hb|replace hb:=zap hb|replace hb:=eq_of_beq hb|replace hb:=ne_of_beq_false hb|skip);all_goals(try(exfalso;omega))))
  all_goals first
   |(exfalso;omega)
   |exact zaM (k+1,⟨A',c'⟩) (by dsimp only;omega) (by dsimp only;omega) ⟨rfl,rfl,by dsimp only;rw[hsn];rfl,rfl,trivial⟩ (by dsimp only;rw[hst,List.map_append,List.map_singleton,hsn];exact dX)
   |skip
 ·obtain rfl:k=l.length:=by omega
  have hd1:decide ((l.length:Int)<(l.length:Int))=false:=by simp
  rw[List.take_length]
  repeat' (first
   |apply zaz|apply zaa|apply zay|apply zal|apply zam|apply zae|apply zaw
   |(apply zai hT;(iterate 4 exact rfl))|(apply zaj;(iterate 3 exact rfl))|(apply zad;(iterate 2 exact rfl))
   |(apply zax hT;(iterate 4 exact rfl);(iterate 2 (first|omega|(dsimp only;omega))))
   |(apply zar [] [] hmix;decide+kernel)
   |(apply zab;(iterate 5 exact rfl);first|(apply zas hT;exact rfl;exact rfl;(repeat(first|exact List.mem_cons_self|apply List.mem_cons_of_mem|apply List.mem_append_right));exact rfl;exact rfl)|(apply zaq hT;exact rfl;exact rfl;(repeat(first|exact List.mem_cons_self|apply List.mem_cons_of_mem|apply List.mem_append_right));exact rfl))
   |(apply zau;(iterate 5 exact rfl);intro _)|(apply zac hT;(iterate 5 exact rfl);intro _)
   |(apply zaf;(iterate 2 exact rfl))|(apply zag;(iterate 2 exact rfl))
   |(apply zak;exact rfl;all_goals intro hb;all_goals(fail_if_success (change true=true at hb));all_goals(fail_if_success (change false=false at hb));all_goals(try dsimp only at hb);all_goals(try simp only[hb]);all_goals(first|replace hb:=of_decide_eq_true hb|replace hb:=of_decide_eq_false hb|replace hb:=zao hb|replace hb:=zap hb|replace hb:=eq_of_beq hb|replace hb:=ne_of_beq_false hb|skip);all_goals(try(exfalso;omega)))
   |(apply zan;exact rfl;all_goals intro hb;all_goals(try dsimp only at hb);all_goals(try simp only[hb]);all_goals(first|replace hb:=of_decide_eq_true hb|replace hb:=of_decide_eq_false hb|replace hb:=zao hb|replace hb:=zap hb|replace hb:=eq_of_beq hb|replace hb:=ne_of_beq_false hb|skip);all_goals(try(exfalso;omega))))
  all_goals first
   |(exfalso;omega)
   |(apply ret1;exact rfl;exact⟨_,dX,fun w hw=>⟨o.A,o.c,rfl,rfl,hw.ownF mem0⟩⟩)
   |skip
end Go.Proofs.YteocfhdocpeokaaGreat
set_option linter.unusedSimpArgs false
set_option linter.unusedVariables false
namespace Go.Proofs.YteocfhdocpeokaaGreat
open Go Go.Sl
attribute [local irreducible] AW ES EP Ld RetQ
set_option maxRecDepth 100000
def zh6 (g:Nat)(rs:List MRow):List zah:=.own (some ⟨g,0,none⟩) 4 4 39 1 (rs.map MRow.hd)::rs.map MRow.ck
theorem zjP {rs:List MRow}:∀v∈rs.map MRow.hd,v.oneCell'=true:=fun v hv=>by
 obtain⟨y,_,rfl⟩:=lmm.1 hv
 rfl
theorem zdo {W:World}{k:List zah}{rs:List MRow}{g:Nat}(hl:rs.length=4)(hm:zah.own (some ⟨g,0,none⟩) 4 4 39 1 (rs.map MRow.hd)∈k):zaD W k (some ⟨g,0,none⟩) 4 1 (rs.map MRow.hd):=
 zaD.own hm (by simp[hl]) zjP
theorem zma {W:World}{k:List zah}{rs:List MRow}{g i n:Nat}{A1:Option Addr}{c1:Nat}(hl:rs.length=4)(hi:i<4)(hm:zah.own (some ⟨g,0,none⟩) 4 4 39 1 (lay (rs.map MRow.hd) (i*1) (Value.cells (.slice A1 n c1)).toList)∈k):zaD W k (some ⟨g,0,none⟩) 4 1 (lay (rs.map MRow.hd) (i*1) (Value.cells (.slice A1 n c1)).toList):=by
 have e:lay (rs.map MRow.hd) (i*1) (Value.cells (.slice A1 n c1)).toList=(rs.map MRow.hd).set i (.slice A1 n c1):=zdQ (by rw[llm];omega)
 refine zaD.own hm (by rw[e];simp[hl]) ?_
 rw[e]
 intro v hv
 rcases List.mem_or_eq_of_mem_set hv with h|h
 ·exact zjP v h
 ·rw[h];rfl
theorem zjQ {rs:List MRow}{i j n:Nat}{b:MRow}{A1:Option Addr}{c1:Nat}(hl:rs.length=4)(hi:i<4)(hb:rs[j]? =some b)(hij:i≠j):(lay (rs.map MRow.hd) (i*1) (Value.cells (.slice A1 n c1)).toList)[j*1]? =some (.slice b.A b.l.length b.c):=by
 have e:lay (rs.map MRow.hd) (i*1) (Value.cells (.slice A1 n c1)).toList=(rs.map MRow.hd).set i (.slice A1 n c1):=zdQ (by rw[llm];omega)
 rw[e,Nat.mul_one,List.getElem?_set_ne hij,List.getElem?_map,hb];rfl
theorem zdz {rs:List MRow}{i n:Nat}{A1:Option Addr}{c1:Nat}{l:List MsgR}(hl:rs.length=4)(hi:i<4)(hn:l.length=n):lay (rs.map MRow.hd) (i*1) (Value.cells (.slice A1 n c1)).toList=(rs.set i ⟨A1,c1,l⟩).map MRow.hd:=by
 have e:lay (rs.map MRow.hd) (i*1) (Value.cells (.slice A1 n c1)).toList=(rs.map MRow.hd).set i (.slice A1 n c1):=zdQ (by rw[llm];omega)
 rw[e,List.map_set]
 unfold MRow.hd
 rw[hn]
theorem zlH {g:Nat}{rs:List MRow}{i j:Nat}{a b:MRow}(hl:rs.length=4)(ha:rs[i]? =some a)(hb:rs[j]? =some b)(hij:i≠j):∃R:List zah,
 (zh6 g rs).Perm (.own (some ⟨g,0,none⟩) 4 4 39 1 (rs.map MRow.hd)::.own a.A a.l.length a.c 42 7 (a.l.flatMap MsgR.enc)::.own b.A b.l.length b.c 42 7 (b.l.flatMap MsgR.enc)::R)∧
 ∀A1 c1 A2 c2 (x y:MsgR) k,zaW k (.own (some ⟨g,0,none⟩) 4 4 39 1 (lay (lay (rs.map MRow.hd) (i*1) (Value.cells (.slice A1 (a.l.length+1) c1)).toList) (j*1) (Value.cells (.slice A2 (b.l.length+1) c2)).toList)::.own A1 (a.l.length+1) c1 42 7 (a.l.flatMap MsgR.enc++x.enc)::.own A2 (b.l.length+1) c2 42 7 (b.l.flatMap MsgR.enc++y.enc)::R)→
  zaW k (zh6 g ((rs.set i ⟨A1,c1,a.l++[x]⟩).set j ⟨A2,c2,b.l++[y]⟩)):=by
 have hi:=(gsi.1 ha).1
 have hj:=(gsi.1 hb).1
 obtain⟨R,hR⟩:=zeg (l:=rs) hi hj hij
 have hR0:=hR a b
 rw[zcD ha,zcD hb]at hR0
 refine⟨R.map MRow.ck,?_,fun A1 c1 A2 c2 x y k hk=>zbZ hk (zgo ?_)⟩
 ·unfold zh6
  exact(hR0.map MRow.ck).cons _
 ·unfold zh6
  rw[zdz hl (by omega) (l:=a.l++[x]) (by simp),zdz (by simp[hl]) (by omega) (l:=b.l++[y]) (by simp)]
  have h2:=(hR ⟨A1,c1,a.l++[x]⟩ ⟨A2,c2,b.l++[y]⟩).map MRow.ck
  rw[List.map_cons,List.map_cons]at h2
  have f1:∀A c (l:List MsgR) (x:MsgR),MRow.ck ⟨A,c,l++[x]⟩=.own A (l.length+1) c 42 7 (l.flatMap MsgR.enc++x.enc):=fun A c l x=>by
   unfold MRow.ck
   simp only[lla,List.length_singleton,List.flatMap_append,List.flatMap_singleton]
  rw[f1,f1]at h2
  exact(h2.symm).cons _
theorem zhp (W:World)(k:List zah)(A:Option Addr)(c:Nat)(l:List zaB)(hr:zaD W k A l.length 8 (l.flatMap zaB.enc))(hb:l.length≤1000000)(g:Nat)(rs:List MRow)(n:Nat)(hl:rs.length=n)(hm:zaD W k (some ⟨g,0,none⟩) n 1 (rs.map MRow.hd))(hn:n≤4)(hrr:∀r∈rs,MRow.ck r∈k)(hbr:∀r∈rs,r.l.length≤1000000):
 zaF Tryz.prog W 14 [.slice A l.length c,.slice (some ⟨g,0,none⟩) n 4] k (.bool (zcL l (rs.map MRow.l)))∧zaF Tryz.prog W 15 [.slice A l.length c,.slice (some ⟨g,0,none⟩) n 4] k (.bool (zcL l (rs.map MRow.l))):=by
 subst hl
 have hx:∀r∈rs,zaD W k r.A r.l.length 7 (r.l.flatMap MsgR.enc):=fun r hrm=>zaD.enc MsgR.enc_len MsgR.enc_one (hrr r hrm) rfl
 exact⟨zeT W k A c l hr hb _ _ rs hm hx (by omega) hbr,zhx W k A c l hr hb _ _ rs hm hx (by omega) hbr⟩
theorem zh7 (W:World)(k:List zah)(A:Option Addr)(c:Nat)(l:List zaB)(hr:zaD W k A l.length 8 (l.flatMap zaB.enc))(hb:l.length≤1000000)(g:Nat)(rs:List MRow)(hl:rs.length=4)(hbr:∀r∈rs,r.l.length≤1000000)(i:Nat)(hi:i<4)(Ax:Option Addr)(cx n:Nat)(xl:List MsgR)(hn:xl.length=n)(hx:xl.length≤1000000)(hbad:zaK l i xl 0=false)(cs:List Value)(hcs:cs=xl.flatMap MsgR.enc)
 (m1:zah.own (some ⟨g,0,none⟩) 4 4 39 1 (lay (rs.map MRow.hd) (i*1) (Value.cells (.slice Ax n cx)).toList)∈k)(m2:zah.own Ax n cx 42 7 cs∈k)(m3:∀r∈rs,MRow.ck r∈k):
 zaF Tryz.prog W 14 [.slice A l.length c,.slice (some ⟨g,0,none⟩) 4 4] k (.bool false)∧zaF Tryz.prog W 15 [.slice A l.length c,.slice (some ⟨g,0,none⟩) 4 4] k (.bool false):=by
 subst hcs hn
 rw[zdz hl hi rfl]at m1
 have hl2:(rs.set i ⟨Ax,cx,xl⟩).length=4:=by rw[List.length_set];exact hl
 have h:=zhp W k A c l hr hb g (rs.set i ⟨Ax,cx,xl⟩) 4 hl2 (zdo hl2 m1) (Nat.le_refl _) (fun r hrm=>by
  rcases List.mem_or_eq_of_mem_set hrm with h|h
  ·exact m3 r h
  ·rw[h];exact m2) (fun r hrm=>by
  rcases List.mem_or_eq_of_mem_set hrm with h|h
  ·exact hbr r h
  ·rw[h];exact hx)
 rw[zj2 (by omega) hbad]at h
 exact h
theorem zh8 (W:World)(k:List zah)(A:Option Addr)(c:Nat)(l:List zaB)(hr:zaD W k A l.length 8 (l.flatMap zaB.enc))(hb:l.length≤1000000)(g:Nat)(rs:List MRow)(hok:okT l)(hrs:zdD l rs)(hbr:∀r∈rs,r.l.length≤1000000){j:Nat}{t:zaB}(ht:l[j]? =some t)
 (m1:zah.own (some ⟨g,0,none⟩) 4 4 39 1 (rs.map MRow.hd)∈k)(m3:∀r∈rs,MRow.ck r∈k):
 zaF Tryz.prog W 14 [.slice A l.length c,.slice (some ⟨g,0,none⟩) 2 4] k (.bool true)∧zaF Tryz.prog W 14 [.slice A l.length c,.slice none 0 0] k (.bool true)∧zaF Tryz.prog W 14 [.slice none 0 0,.slice (some ⟨g,0,none⟩) 4 4] k (.bool false):=by
 have hrl:=hrs.1
 have hnil:zaD W k none 0 8 (([]:List zaB).flatMap zaB.enc):=⟨rfl,⟨fun v hv=>(by cases hv),fun w hw j v hj=>(by simp at hj)⟩⟩
 have hnil1:zaD W k none 0 1 (([]:List MRow).map MRow.hd):=⟨rfl,⟨fun v hv=>(by cases hv),fun w hw j v hj=>(by simp at hj)⟩⟩
 have h1:=zhp W k A c l hr hb g (rs.take 2) 2 (by rw[llt];omega) (by
  have:=(zdo (W:=W) hrl m1).first (P:= Tryz.prog) (m:=2) (by omega)
  rw[←List.map_take]at this
  exact this) (by omega) (fun r hrm=>m3 r (List.mem_of_mem_take hrm)) (fun r hrm=>hbr r (List.mem_of_mem_take hrm))
 rw[ziI hok hrs]at h1
 have h2:=zeT W k A c l hr hb none 0 [] hnil1 (fun r hrm=>by cases hrm) (Nat.zero_le _) (fun r hrm=>by cases hrm)
 have h3:=(zhp W k none 0 [] hnil (Nat.zero_le _) g rs 4 hrl (zdo hrl m1) (by omega) m3 hbr).1
 rw[ziL hok hrs ht]at h3
 exact⟨h1.1,h2,h3⟩
theorem zkK (W:World)(A:Option Addr)(c:Nat)(l:List zaB)(hr:zaD W [] A l.length 8 (l.flatMap zaB.enc))(ok0:∀x∈l,zaB.ok x)(at0 way:Int):
 zaL Tryz.prog W 4 [.slice A l.length c,.int .i64 at0,.int .i64 way] [] (fun v _=>v=.bool true):=by
 by_cases hg:(1≤l.length∧l.length≤20)∧0≤way∧way≤3
 rotate_left
 ·skip
  refine zaA Tryz.func4 rfl rfl Tryz.results4 Tryz.ntmps4 rfl rfl ?_
  repeat' (first
   |apply zaz|apply zaa|apply zay|apply zal|apply zam|apply zae|apply zaw
   |(apply zai hT;(iterate 4 exact rfl))|(apply zaj;(iterate 3 exact rfl))|(apply zad;(iterate 2 exact rfl))
   |(apply zax hT;(iterate 4 exact rfl);(iterate 2 (first|omega|(dsimp only;omega))))
   |(apply zar [] [] hmix;decide+kernel)
   |(apply zab;(iterate 5 exact rfl);first|(apply zas hT;exact rfl;exact rfl;(repeat(first|exact List.mem_cons_self|apply List.mem_cons_of_mem|apply List.mem_append_right));exact rfl;exact rfl)|(apply zaq hT;exact rfl;exact rfl;(repeat(first|exact List.mem_cons_self|apply List.mem_cons_of_mem|apply List.mem_append_right));exact rfl))
   |(apply zau;(iterate 5 exact rfl);intro _)|(apply zac hT;(iterate 5 exact rfl);intro _)
   |(apply zaf;(iterate 2 exact rfl))|(apply zag;(iterate 2 exact rfl))
   |(apply zak;exact rfl;all_goals intro hb;all_goals(fail_if_success (change true=true at hb));all_goals(fail_if_success (change false=false at hb));all_goals(try dsimp only at hb);all_goals(try simp only[hb]);all_goals(first|replace hb:=of_decide_eq_true hb|replace hb:=of_decide_eq_false hb|replace hb:=zao hb|replace hb:=zap hb|replace hb:=eq_of_beq hb|replace hb:=ne_of_beq_false hb|skip);all_goals(try(exfalso;omega)))
   |(apply zan;exact rfl;all_goals intro hb;all_goals(try dsimp only at hb);all_goals(try simp only[hb]);all_goals(first|replace hb:=of_decide_eq_true hb|replace hb:=of_decide_eq_false hb|replace hb:=zao hb|replace hb:=zap hb|replace hb:=eq_of_beq hb|replace hb:=ne_of_beq_false hb|skip);all_goals(try(exfalso;omega))))
  all_goals first
   |(exfalso;omega)
   |(apply ret1;exact rfl;exact rfl)
   |skip
 ·obtain⟨⟨hl1,hl2⟩,hw0,hw3⟩:=hg
  have hwt:∀t∈l,zdH t:=fun t ht=>ziM (ok0 t ht)
  refine zaA Tryz.func4 rfl rfl Tryz.results4 Tryz.ntmps4 rfl rfl ?_
  refine zaO hr rfl (fun hAi=> ?_)
  have hA:=hAi (by omega)
  repeat' (first
   |apply zaz|apply zaa|apply zay|apply zal|apply zam|apply zae|apply zaw
   |(apply zai hT;(iterate 4 exact rfl))|(apply zaj;(iterate 3 exact rfl))|(apply zad;(iterate 2 exact rfl))
   |(apply zax hT;(iterate 4 exact rfl);(iterate 2 (first|omega|(dsimp only;omega))))
   |(apply zar [] [] hmix;decide+kernel)
   |(apply zbL hT (n:=4);(iterate 12 exact rfl);(iterate 1 exact rfl);omega;exact Nat.le_of_ble_eq_true rfl;intro g7)
   |(apply zab;(iterate 5 exact rfl);first|(apply zas hT;exact rfl;exact rfl;(repeat(first|exact List.mem_cons_self|apply List.mem_cons_of_mem|apply List.mem_append_right));exact rfl;exact rfl)|(apply zaq hT;exact rfl;exact rfl;(repeat(first|exact List.mem_cons_self|apply List.mem_cons_of_mem|apply List.mem_append_right));exact rfl))
   |(apply zau;(iterate 5 exact rfl);intro _)|(apply zac hT;(iterate 5 exact rfl);intro _)
   |(apply zaf;(iterate 2 exact rfl))|(apply zag;(iterate 2 exact rfl))
   |(apply zak;exact rfl;all_goals intro hb;all_goals(fail_if_success (change true=true at hb));all_goals(fail_if_success (change false=false at hb));all_goals(try dsimp only at hb);all_goals(try simp only[hb]);all_goals(first|replace hb:=of_decide_eq_true hb|replace hb:=of_decide_eq_false hb|replace hb:=zao hb|replace hb:=zap hb|replace hb:=eq_of_beq hb|replace hb:=ne_of_beq_false hb|skip);all_goals(try(exfalso;omega)))
   |(apply zan;exact rfl;all_goals intro hb;all_goals(try dsimp only at hb);all_goals(try simp only[hb]);all_goals(first|replace hb:=of_decide_eq_true hb|replace hb:=of_decide_eq_false hb|replace hb:=zao hb|replace hb:=zap hb|replace hb:=eq_of_beq hb|replace hb:=ne_of_beq_false hb|skip);all_goals(try(exfalso;omega))))
  all_goals try(exfalso;omega)
  refine zbG (fun w hw=>⟨_,(((hw.own_nil 42 7).own_nil 42 7).own_nil 42 7).own_nil 42 7,?_⟩)
  refine zaX (α:=Nat×List MRow) (E:=fun x=>[(0,.slice A l.length c),(1,.int .i64 at0),(2,.int .i64 way),(7,.slice (some ⟨g7,0,none⟩) 4 4),(8,.int .i64 x.1)])
   (H:=fun x=>zh6 g7 x.2) (μ:=fun x=>l.length - x.1) (S:=fun x=>x.1≤l.length∧okT (l.take x.1)∧zdD (l.take x.1) x.2) (0,List.replicate 4 ⟨none,0,[]⟩)
   ⟨Nat.zero_le _,fun i t h=>by simp at h,rfl,fun p r h=>by(rw[List.eq_of_mem_replicate (mog h)];rfl)⟩ ⟨rfl,rfl,rfl,rfl,rfl,trivial⟩ (by
     show zaW _ (.own (some ⟨g7,0,none⟩) 4 4 39 1 _::.own none 0 0 42 7 []::.own none 0 0 42 7 []::.own none 0 0 42 7 []::.own none 0 0 42 7 []::[])
     exact dX) ?_
  rintro⟨k,rs⟩ ⟨hk,hok,hrs⟩
  dsimp only at hk hok hrs ⊢
  have hrl:=hrs.1
  by_cases hlt:k<l.length
  ·obtain⟨t,ht⟩:∃t,l[k]? =some t:=⟨l[k]'hlt,gge hlt⟩
   have ht2:l[(k:Int).toNat]? =some t:=by simpa using ht
   have hd1:decide ((k:Int)<(l.length:Int))=true:=by simp;omega
   by_cases hone:oneT t k
   rotate_left
   ·unfold oneT at hone
    repeat' (first
     |apply zaz|apply zaa|apply zay|apply zal|apply zam|apply zae|apply zaw
     |(apply zai hT;(iterate 4 exact rfl))|(apply zaj;(iterate 3 exact rfl))|(apply zad;(iterate 2 exact rfl))
     |(apply zax hT;(iterate 4 exact rfl);(iterate 2 (first|omega|(dsimp only;omega))))
     |(apply zar [] [] hmix;decide+kernel)
     |(apply zaU hT;(iterate 8 exact rfl);(iterate 2 omega);exact hA)
     |(apply zab;(iterate 5 exact rfl);exact zaY hT rfl rfl (hr.mono (fun c hc=>by cases hc)) zaB.enc_len rfl ht2 rfl)
     |(apply zac hT;(iterate 5 exact rfl);first|((fail_if_success (have q:=g9));intro g9)|intro _)
     |(apply zaP hT;(iterate 6 exact rfl);exact sX;(iterate 3 exact rfl);exact Nat.le_of_ble_eq_true rfl)
     |(apply zab;(iterate 5 exact rfl);first|(apply zas hT;exact rfl;exact rfl;(repeat(first|exact List.mem_cons_self|apply List.mem_cons_of_mem|apply List.mem_append_right));exact rfl;exact rfl)|(apply zaq hT;exact rfl;exact rfl;(repeat(first|exact List.mem_cons_self|apply List.mem_cons_of_mem|apply List.mem_append_right));exact rfl))
     |(apply zau;(iterate 5 exact rfl);intro _)|(apply zac hT;(iterate 5 exact rfl);intro _)
     |(apply zaf;(iterate 2 exact rfl))|(apply zag;(iterate 2 exact rfl))
     |(apply zak;exact rfl;all_goals intro hb;all_goals(fail_if_success (change true=true at hb));all_goals(fail_if_success (change false=false at hb));all_goals(try dsimp only at hb);all_goals(try simp only[hb]);all_goals(first|replace hb:=of_decide_eq_true hb|replace hb:=of_decide_eq_false hb|replace hb:=zao hb|replace hb:=zap hb|replace hb:=eq_of_beq hb|replace hb:=ne_of_beq_false hb|skip);all_goals(try(exfalso;omega)))
     |(apply zan;exact rfl;all_goals intro hb;all_goals(try dsimp only at hb);all_goals(try simp only[hb]);all_goals(first|replace hb:=of_decide_eq_true hb|replace hb:=of_decide_eq_false hb|replace hb:=zao hb|replace hb:=zap hb|replace hb:=eq_of_beq hb|replace hb:=ne_of_beq_false hb|skip);all_goals(try(exfalso;omega))))
    all_goals first
     |(exfalso;omega)
     |(apply ret1;exact rfl;exact rfl)
     |skip
   ·have hone':=hone
    obtain⟨⟨b0,b3⟩,⟨s0,s3⟩,hne,hid⟩:=hone'
    obtain⟨a,ha⟩:∃a,rs[t.buyer.toNat]? =some a:=⟨rs[t.buyer.toNat]'(by omega),gge (by omega)⟩
    obtain⟨b,hb⟩:∃b,rs[t.seller.toNat]? =some b:=⟨rs[t.seller.toNat]'(by omega),gge (by omega)⟩
    obtain⟨R,hpull,hpush⟩:=zlH (g:=g7) hrl ha hb (by omega)
    have hst:=fun A1 c1 A2 c2=>ziG (A:=A1) (B:=A2) (c:=c1) (d:=c2) hrs ht hone ha hb
    have hst2:=zj1 hok ht hone
    have hixa:=zdR ha
    have hixb:=fun A1 c1=>zjQ (A1:=A1) (c1:=c1) (n:=a.l.length+1) hrl (show t.buyer.toNat<4 by omega) hb (by omega)
    have hR1:=fun k hm=>zdo (W:=W) (k:=k) (g:=g7) hrl hm
    have hR2:=fun k A1 c1 hm=>zma (W:=W) (k:=k) (g:=g7) (n:=a.l.length+1) (A1:=A1) (c1:=c1) hrl (show t.buyer.toNat<4 by omega) hm
    have hO:=fun k=>zfd W k t
    have hx0:(zbz t)[(0:Int).toNat]? =some ⟨t.buyer,ziE t⟩:=rfl
    have hx1:(zbz t)[(1:Int).toNat]? =some ⟨t.seller,zea t⟩:=rfl
    have hol:(zbz t).length=2:=rfl
    have hla:a.l.length≤100:=by
     have:=zfe (l.take k) (t.buyer.toNat:Nat)
     rw[hrs.2 _ _ ha]
     rw[llt]at this
     omega
    have hlb:b.l.length≤100:=by
     have:=zfe (l.take k) (t.seller.toNat:Nat)
     rw[hrs.2 _ _ hb]
     rw[llt]at this
     omega
    generalize zbz t=os at*
    have hRo:=fun k g (hm:zah.own (some ⟨g,0,none⟩) 2 2 44 8 (os.flatMap OutR.enc)∈k)=>(zaD.enc OutR.enc_len OutR.enc_one hm hol:zaD W k (some ⟨g,0,none⟩) 2 8 (os.flatMap OutR.enc))
    generalize ziE t=mB at*
    generalize zea t=mS at*
    refine zil hpull ?_
    repeat' (first
     |apply zaz|apply zaa|apply zay|apply zal|apply zam|apply zae|apply zaw
     |(apply zai hT;(iterate 4 exact rfl))|(apply zaj;(iterate 3 exact rfl))|(apply zad;(iterate 2 exact rfl))
     |(apply zax hT;(iterate 4 exact rfl);(iterate 2 (first|omega|(dsimp only;omega))))
     |(apply zbj [] [] (.step 0 <| .step 1 <| .step 3 <| .step 4 <| .step 5 <| .step 6 <| .step 7 <| .step 8 <| .step 9 <| .step 10 <| .step 11 <| .alt (.step 2 <| .step 12 <| .step 13 <| .step 14 <| .step 15 <| .nil) ((.step 12 <| .alt (.step 2 <| .step 13 <| .step 14 <| .step 15 <| .nil) ((.step 13 <| .step 2 <| .step 14 <| .step 15 <| .nil))))) hmix;decide+kernel)|apply zbX|apply zbY|(apply zbx;exact rfl)
     |(apply zbj [] [] (.step 0 <| .step 1 <| .step 3 <| .step 4 <| .step 5 <| .step 6 <| .step 7 <| .step 8 <| .step 9 <| .step 10 <| .step 11 <| .alt (.step 2 <| .step 12 <| .step 13 <| .step 14 <| .step 15 <| .nil) ((.step 12 <| .alt (.step 2 <| .step 13 <| .step 14 <| .step 15 <| .nil) ((.step 13 <| .step 2 <| .step 14 <| .step 15 <| .nil))))) hmix;decide+kernel)|apply zbX|apply zbY|(apply zbx;exact rfl)
     |(apply zaU hT;(iterate 8 exact rfl);(iterate 2 omega);first|exact hA|exact rfl)
     |(apply zab;(iterate 5 exact rfl);first|exact zaY hT rfl rfl (hr.mono (fun c hc=>by cases hc)) zaB.enc_len rfl ht2 rfl|exact zbd hT rfl rfl (hR1 _ mX) rfl hixa|exact zbd hT rfl rfl (hR2 _ _ _ mX) rfl (hixb _ _)|exact zfx hT rfl rfl (hRo _ _ mX) OutR.enc_len (zbq _ _ _) hx0 (f:=1) (vs:=mB.enc) (Nat.le_of_ble_eq_true rfl) rfl rfl|exact zfx hT rfl rfl (hRo _ _ mX) OutR.enc_len (zbq _ _ _) hx1 (f:=1) (vs:=mS.enc) (Nat.le_of_ble_eq_true rfl) rfl rfl|(apply zaq hT;exact rfl;exact rfl;exact mX;exact rfl))
     |(apply zac hT;(iterate 5 exact rfl);first|((fail_if_success (have q:=g9));intro g9)|intro _)
     |(apply zaP hT;(iterate 6 exact rfl);exact sX;(iterate 3 exact rfl);exact Nat.le_of_ble_eq_true rfl)
     |(apply zaV (hs:=(hO _));(iterate 7 exact rfl);rintro _ _ ⟨g10,rfl,rfl⟩)
     |(apply zaI (cs:=mB.enc) hT;(iterate 12 exact rfl);intro g12)
     |(apply zaI (cs:=mS.enc) hT;(iterate 12 exact rfl);intro g13)
     |(apply za2 hT;(iterate 10 exact rfl);exact sX;exact zaD.own mem0 rfl (MsgR.enc_one _);omega;(show(_:Nat)*56≤_;omega);intro A' c')
     |(apply za8 (A:=some ⟨g7,0,none⟩) hT;(iterate 6 exact rfl);exact sX;exact rfl;exact rfl;exact rfl;(first|(show t.buyer.toNat*1+1≤4*1;omega)|(show t.seller.toNat*1+1≤4*1;omega));omega)
     |(apply zab;(iterate 5 exact rfl);first|(apply zas hT;exact rfl;exact rfl;(repeat(first|exact List.mem_cons_self|apply List.mem_cons_of_mem|apply List.mem_append_right));exact rfl;exact rfl)|(apply zaq hT;exact rfl;exact rfl;(repeat(first|exact List.mem_cons_self|apply List.mem_cons_of_mem|apply List.mem_append_right));exact rfl))
     |(apply zau;(iterate 5 exact rfl);intro _)|(apply zac hT;(iterate 5 exact rfl);intro _)
     |(apply zaf;(iterate 2 exact rfl))|(apply zag;(iterate 2 exact rfl))
     |(apply zak;exact rfl;all_goals intro hb;all_goals(fail_if_success (change true=true at hb));all_goals(fail_if_success (change false=false at hb));all_goals(try dsimp only at hb);all_goals(try simp only[hb]);all_goals(first|replace hb:=of_decide_eq_true hb|replace hb:=of_decide_eq_false hb|replace hb:=zao hb|replace hb:=zap hb|replace hb:=eq_of_beq hb|replace hb:=ne_of_beq_false hb|skip);all_goals(try(exfalso;omega)))
     |(apply zan;exact rfl;all_goals intro hb;all_goals(try dsimp only at hb);all_goals(try simp only[hb]);all_goals(first|replace hb:=of_decide_eq_true hb|replace hb:=of_decide_eq_false hb|replace hb:=zao hb|replace hb:=zap hb|replace hb:=eq_of_beq hb|replace hb:=ne_of_beq_false hb|skip);all_goals(try(exfalso;omega))))
    all_goals first
     |(exfalso;omega)
     |exact zaM (k+1,_) (by dsimp only;omega) ⟨by dsimp only;omega,hst2,hst _ _ _ _⟩ ⟨rfl,rfl,rfl,rfl,rfl,trivial⟩ (hpush _ _ _ _ _ _ _ dX)
     |skip
  ·obtain rfl:k=l.length:=by omega
   have hd1:decide ((l.length:Int)<(l.length:Int))=false:=by simp
   rw[List.take_length]at hok hrs
   have hb20:∀r∈rs,r.l.length≤20:=fun r hrm=>by
    obtain⟨p,hp,e⟩:=List.mem_iff_getElem.1 hrm
    rw[hrs.2 p r (by rw[gge hp,e])]
    exact Nat.le_trans (zfe _ _) hl2
   have hbr:∀r∈rs,r.l.length≤1000000:=fun r hrm=>Nat.le_trans (hb20 r hrm) (by omega)
   have hTA:=fun k (m1:zah.own (some ⟨g7,0,none⟩) 4 4 39 1 (rs.map MRow.hd)∈k) (m3:∀r∈rs,MRow.ck r∈k)=>zhp W k A c l (hr.mono (fun c hc=>by cases hc)) (by omega) g7 rs 4 hrl (zdo hrl m1) (by omega) m3 hbr
   rw[ziH hok hrs]at hTA
   have hTB:=fun k i hi Ax cx n xl hn hx hbad cs hcs m1 m2 m3=>zh7 W k A c l (hr.mono (fun c hc=>by cases hc)) (by omega) g7 rs hrl hbr i hi Ax cx n xl hn hx hbad cs hcs m1 m2 m3
   have hT3:=fun k j t ht m1 m3=>zh8 W k A c l (hr.mono (fun c hc=>by cases hc)) (by omega) g7 rs hok hrs hbr (j:=j) (t:=t) ht m1 m3
   have hH:=fun k=>zgY W k A c l (hr.mono (fun c hc=>by cases hc)) (by omega) hwt
   have hkn:=zlF W
   unfold zh6
   repeat' (first
    |apply zaz|apply zaa|apply zay|apply zal|apply zam|apply zae|apply zaw
    |(apply zai hT;(iterate 4 exact rfl))|(apply zaj;(iterate 3 exact rfl))|(apply zad;(iterate 2 exact rfl))
    |(apply zax hT;(iterate 4 exact rfl);(iterate 2 (first|omega|(dsimp only;omega))))
    |(apply zar [] [] hmix;decide+kernel)
    |(apply zaC (hs:=(hTA _ mX fX).1);(iterate 7 exact rfl))
    |(apply zaC (hs:=(hTA _ mX fX).2);(iterate 7 exact rfl))
    |(apply zk2 (m:=65535);(iterate 5 exact rfl);exact Nat.le_of_ble_eq_true rfl;intro n _;obtain⟨j,t,a,ms,m,hj,hjl,ht,⟨⟨b0,b3⟩,s0,s3⟩,ha,he,hal⟩:=zle hok hrs hl1 n;have hixa:=zdR ha)
    |(apply zin;(iterate 5 exact rfl);(iterate 2 omega);rw[hj])
    |(apply zaU hT;(iterate 8 exact rfl);(iterate 2 omega);first|exact hA|exact rfl)
    |(apply zab;(iterate 5 exact rfl);first|exact zaY hT rfl rfl (hr.mono (fun c hc=>by cases hc)) zaB.enc_len rfl ht rfl|exact zbd hT rfl rfl (zdo hrl mX) rfl hixa)
    |(apply zac hT;(iterate 5 exact rfl);first|((fail_if_success (have q:=g11));intro g11)|intro _)
    |(apply zaP hT;(iterate 6 exact rfl);exact sX;(iterate 3 exact rfl);exact Nat.le_of_ble_eq_true rfl)
    |(apply zaI (cs:=[]) hT;(iterate 12 exact rfl);intro g128)
    |(apply zab;(iterate 5 exact rfl);first|(apply zas hT;exact rfl;exact rfl;(repeat(first|exact List.mem_cons_self|apply List.mem_cons_of_mem|apply List.mem_append_right));exact rfl;exact rfl)|(apply zaq hT;exact rfl;exact rfl;(repeat(first|exact List.mem_cons_self|apply List.mem_cons_of_mem|apply List.mem_append_right));exact rfl))
    |(apply zau;(iterate 5 exact rfl);intro _)|(apply zac hT;(iterate 5 exact rfl);intro _)
    |(apply zaf;(iterate 2 exact rfl))|(apply zag;(iterate 2 exact rfl))
    |(apply zak;exact rfl;all_goals intro hb;all_goals(fail_if_success (change true=true at hb));all_goals(fail_if_success (change false=false at hb));all_goals(try dsimp only at hb);all_goals(try simp only[hb]);all_goals(first|replace hb:=of_decide_eq_true hb|replace hb:=of_decide_eq_false hb|replace hb:=zao hb|replace hb:=zap hb|replace hb:=eq_of_beq hb|replace hb:=ne_of_beq_false hb|skip);all_goals(try(exfalso;omega)))
    |(apply zan;exact rfl;all_goals intro hb;all_goals(try dsimp only at hb);all_goals(try simp only[hb]);all_goals(first|replace hb:=of_decide_eq_true hb|replace hb:=of_decide_eq_false hb|replace hb:=zao hb|replace hb:=zap hb|replace hb:=eq_of_beq hb|replace hb:=ne_of_beq_false hb|skip);all_goals(try(exfalso;omega))))
   all_goals try(exfalso;omega)
   have hmF:=List.mem_map_of_mem (f:=MRow.ck) (mog ha)
   have hla:=hb20 a (mog ha)
   have hlp:0<a.l.length:=by rw[hal];simp
   have hlx:a.l[((a.l.length:Int) - 1).toNat]? =some m:=by
    have e:((a.l.length:Int) - 1).toNat=ms.length:=by rw[hal];simp
    rw[e,hal];simp
   have hbe:((t.buyer.toNat:Nat):Int)=t.buyer:=by omega
   apply za2 hT
   iterate 10 exact rfl
   exact sX
   exact(zaD.enc MsgR.enc_len MsgR.enc_one (show MRow.ck a∈_ from by(repeat(first|exact hmF|apply List.mem_cons_of_mem))) rfl)
   omega
   show(_:Nat)*56≤_
   omega
   intro Ax cx
   simp only[Nat.zero_add,List.nil_append]
   apply zai hT
   iterate 4 exact rfl
   apply zaw
   refine zim (A:=Ax) (n:=a.l.length) (cc:=cx) (e:= 42) (k:=7) (cs:=a.l.flatMap MsgR.enc) mX (fun _ _ _ hsome _ _=> ?_)
   obtain⟨gb,rfl⟩:=hsome hlp
   have hRx:∀k,zah.own (some ⟨gb,0,none⟩) a.l.length cx 42 7 (a.l.flatMap MsgR.enc)∈k→zaD W k (some ⟨gb,0,none⟩) a.l.length 7 (a.l.flatMap MsgR.enc):=fun k hm=>zaD.enc MsgR.enc_len MsgR.enc_one hm rfl
   have hcase:way=0∨way=1∨way=2∨way=3:=by omega
   rcases hcase with rfl|rfl|rfl|rfl
   ·have hadr:∀x:Nat,(⟨(adr (some ⟨gb,0,none⟩) (x*7)).block,(adr (some ⟨gb,0,none⟩) (x*7)).off+1+4,none⟩:Addr)=adr (some ⟨gb,0,none⟩) (x*7+5):=fun x=>by(simp[adr,Addr.add,Nat.add_assoc];constructor<;>split<;>simp_all)
    obtain⟨v,hv⟩:∃v,bitI .xor .i64 m.f4 1=v:=⟨_,rfl⟩
    have hne:v≠m.f4:=by rw[←hv];exact zld m.f4
    have hxl:(a.l.set ((a.l.length:Int) - 1).toNat {m with f4:=v})=ms++[{m with f4:=v}]:=by
     have e:((a.l.length:Int) - 1).toNat=ms.length:=by rw[hal];simp
     rw[e,hal];simp
    have hbad:zaK l (t.buyer.toNat:Nat) (a.l.set ((a.l.length:Int) - 1).toNat {m with f4:=v}) 0=false:=by
     rw[hxl,hbe];exact zlc hok he hne
    have hcs:lay (a.l.flatMap MsgR.enc) (((a.l.length:Int) - 1).toNat*7+5) (Value.cells (.int .i64 v)).toList=(a.l.set ((a.l.length:Int) - 1).toNat {m with f4:=v}).flatMap MsgR.enc:=zfb MsgR.enc_len hlx (Nat.le_of_ble_eq_true rfl) rfl
    have hTb:=fun k=>hTB k t.buyer.toNat (by omega) (some ⟨gb,0,none⟩) cx a.l.length _ (by simp) (by simp;omega) hbad _ hcs
    repeat' (first
     |apply zaz|apply zaa|apply zay|apply zal|apply zam|apply zae|apply zaw
     |(apply zai hT;(iterate 4 exact rfl))|(apply zaj;(iterate 3 exact rfl))|(apply zad;(iterate 2 exact rfl))
     |(apply zax hT;(iterate 4 exact rfl);(iterate 2 (first|omega|(dsimp only;omega))))
     |(apply zbj [] [] (.step 0 <| .step 1 <| .step 2 <| .step 3 <| .step 4 <| .step 5 <| .step 6 <| .step 7 <| .step 8 <| .step 9 <| .step 10 <| .step 11 <| .step 12 <| .nil) hmix;decide+kernel)|apply zbX|apply zbY|(apply zbx;exact rfl)
     |(apply zfE hT;(iterate 9 exact rfl);(iterate 2 omega))
     |(apply zaU hT;(iterate 8 exact rfl);(iterate 2 omega);exact rfl)
     |(apply zab;(iterate 5 exact rfl);first|exact zc6 hT rfl rfl (hRx _ mX) MsgR.enc_len (hadr _) hlx (f:=5) (by decide) rfl|exact zbd hT rfl rfl (zdo hrl mX) rfl hixa)
     |(apply zde;(iterate 6 exact rfl);exact hv)
     |(apply za8 (A:=some ⟨gb,0,none⟩) (o:=((a.l.length:Int) - 1).toNat*7+5) hT;(iterate 6 exact rfl);exact sX;exact hadr _;exact rfl;exact rfl;(show _+1≤a.l.length*7;omega);omega)
     |(apply za8 (A:=some ⟨g7,0,none⟩) hT;(iterate 6 exact rfl);exact sX;exact rfl;exact rfl;exact rfl;(show t.buyer.toNat*1+1≤4*1;omega);omega)
     |(apply zaC (hs:=(hTb _ mX mX fX).1);(iterate 7 exact rfl))
     |(apply zaC (hs:=(hTb _ mX mX fX).2);(iterate 7 exact rfl))
     |(apply zaC (hs:=(hkn.mono (by simp)));(iterate 7 exact rfl))
     |(apply zab;(iterate 5 exact rfl);first|(apply zas hT;exact rfl;exact rfl;(repeat(first|exact List.mem_cons_self|apply List.mem_cons_of_mem|apply List.mem_append_right));exact rfl;exact rfl)|(apply zaq hT;exact rfl;exact rfl;(repeat(first|exact List.mem_cons_self|apply List.mem_cons_of_mem|apply List.mem_append_right));exact rfl))
     |(apply zau;(iterate 5 exact rfl);intro _)|(apply zac hT;(iterate 5 exact rfl);intro _)
     |(apply zaf;(iterate 2 exact rfl))|(apply zag;(iterate 2 exact rfl))
     |(apply zak;exact rfl;all_goals intro hb;all_goals(fail_if_success (change true=true at hb));all_goals(fail_if_success (change false=false at hb));all_goals(try dsimp only at hb);all_goals(try simp only[hb]);all_goals(first|replace hb:=of_decide_eq_true hb|replace hb:=of_decide_eq_false hb|replace hb:=zao hb|replace hb:=zap hb|replace hb:=eq_of_beq hb|replace hb:=ne_of_beq_false hb|skip);all_goals(try(exfalso;omega)))
     |(apply zan;exact rfl;all_goals intro hb;all_goals(try dsimp only at hb);all_goals(try simp only[hb]);all_goals(first|replace hb:=of_decide_eq_true hb|replace hb:=of_decide_eq_false hb|replace hb:=zao hb|replace hb:=zap hb|replace hb:=eq_of_beq hb|replace hb:=ne_of_beq_false hb|skip);all_goals(try(exfalso;omega))))
    all_goals first
     |(exfalso;omega)
     |(apply ret1;exact rfl;exact rfl)
     |skip
   ·have hbad:zaK l (t.buyer.toNat:Nat) (a.l++[m]) 0=false:=by
     rw[hal,hbe];exact ziJ hok he
    have hTb:=fun k A' c'=>hTB k t.buyer.toNat (by omega) A' c' (a.l.length+1) _ (by simp) (by simp;omega) hbad (a.l.flatMap MsgR.enc++m.enc) (by simp)
    repeat' (first
     |apply zaz|apply zaa|apply zay|apply zal|apply zam|apply zae|apply zaw
     |(apply zai hT;(iterate 4 exact rfl))|(apply zaj;(iterate 3 exact rfl))|(apply zad;(iterate 2 exact rfl))
     |(apply zax hT;(iterate 4 exact rfl);(iterate 2 (first|omega|(dsimp only;omega))))
     |(apply zar [] [] hmix;decide+kernel)
     |(apply zaU hT;(iterate 8 exact rfl);(iterate 2 omega);exact rfl)
     |(apply zab;(iterate 5 exact rfl);first|exact zaY hT rfl rfl (hRx _ mX) MsgR.enc_len rfl hlx rfl|exact zbd hT rfl rfl (zdo hrl mX) rfl hixa)
     |(apply zaI (cs:=m.enc) hT;(iterate 12 exact rfl);intro _)
     |(apply za2 hT;(iterate 10 exact rfl);exact sX;exact zaD.own mem0 rfl (MsgR.enc_one _);omega;(show(_:Nat)*56≤_;omega);intro A' c')
     |(apply za8 (A:=some ⟨g7,0,none⟩) hT;(iterate 6 exact rfl);exact sX;exact rfl;exact rfl;exact rfl;(show t.buyer.toNat*1+1≤4*1;omega);omega)
     |(apply zaC (hs:=(hTb _ _ _ mX mX fX).1);(iterate 7 exact rfl))
     |(apply zaC (hs:=(hTb _ _ _ mX mX fX).2);(iterate 7 exact rfl))
     |(apply zaC (hs:=(hkn.mono (by simp)));(iterate 7 exact rfl))
     |(apply zab;(iterate 5 exact rfl);first|(apply zas hT;exact rfl;exact rfl;(repeat(first|exact List.mem_cons_self|apply List.mem_cons_of_mem|apply List.mem_append_right));exact rfl;exact rfl)|(apply zaq hT;exact rfl;exact rfl;(repeat(first|exact List.mem_cons_self|apply List.mem_cons_of_mem|apply List.mem_append_right));exact rfl))
     |(apply zau;(iterate 5 exact rfl);intro _)|(apply zac hT;(iterate 5 exact rfl);intro _)
     |(apply zaf;(iterate 2 exact rfl))|(apply zag;(iterate 2 exact rfl))
     |(apply zak;exact rfl;all_goals intro hb;all_goals(fail_if_success (change true=true at hb));all_goals(fail_if_success (change false=false at hb));all_goals(try dsimp only at hb);all_goals(try simp only[hb]);all_goals(first|replace hb:=of_decide_eq_true hb|replace hb:=of_decide_eq_false hb|replace hb:=zao hb|replace hb:=zap hb|replace hb:=eq_of_beq hb|replace hb:=ne_of_beq_false hb|skip);all_goals(try(exfalso;omega)))
     |(apply zan;exact rfl;all_goals intro hb;all_goals(try dsimp only at hb);all_goals(try simp only[hb]);all_goals(first|replace hb:=of_decide_eq_true hb|replace hb:=of_decide_eq_false hb|replace hb:=zao hb|replace hb:=zap hb|replace hb:=eq_of_beq hb|replace hb:=ne_of_beq_false hb|skip);all_goals(try(exfalso;omega))))
    all_goals first
     |(exfalso;omega)
     |(apply ret1;exact rfl;exact rfl)
     |skip
   ·have hbad:zaK l (t.buyer.toNat:Nat) (a.l++[zea t]) 0=false:=by
     rw[hbe];exact ziK hok ht _
    have hTb:=fun k A' c'=>hTB k t.buyer.toNat (by omega) A' c' (a.l.length+1) _ (by simp) (by simp;omega) hbad (a.l.flatMap MsgR.enc++(zea t).enc) (by simp)
    have hO:=fun k=>zfd W k t
    have hx1:(zbz t)[(1:Int).toNat]? =some ⟨t.seller,zea t⟩:=rfl
    have hol:(zbz t).length=2:=rfl
    generalize zbz t=os at*
    have hRo:=fun k g (hm:zah.own (some ⟨g,0,none⟩) 2 2 44 8 (os.flatMap OutR.enc)∈k)=>(zaD.enc OutR.enc_len OutR.enc_one hm hol:zaD W k (some ⟨g,0,none⟩) 2 8 (os.flatMap OutR.enc))
    generalize zea t=mS at*
    repeat' (first
     |apply zaz|apply zaa|apply zay|apply zal|apply zam|apply zae|apply zaw
     |(apply zai hT;(iterate 4 exact rfl))|(apply zaj;(iterate 3 exact rfl))|(apply zad;(iterate 2 exact rfl))
     |(apply zax hT;(iterate 4 exact rfl);(iterate 2 (first|omega|(dsimp only;omega))))
     |(apply zar [] [] hmix;decide+kernel)
     |(apply zaU hT;(iterate 8 exact rfl);(iterate 2 omega);exact rfl)
     |(apply zab;(iterate 5 exact rfl);first|exact zfx hT rfl rfl (hRo _ _ mX) OutR.enc_len (zbq _ _ _) hx1 (f:=1) (vs:=mS.enc) (Nat.le_of_ble_eq_true rfl) rfl rfl|exact zbd hT rfl rfl (zdo hrl mX) rfl hixa|(apply zaq hT;exact rfl;exact rfl;exact mX;exact rfl))
     |(apply zaV (hs:=(hO _));(iterate 7 exact rfl);rintro _ _ ⟨g185,rfl,rfl⟩)
     |(apply zaI (cs:=mS.enc) hT;(iterate 12 exact rfl);intro _)
     |(apply za2 (A:=some ⟨gb,0,none⟩) hT;(iterate 10 exact rfl);exact sX;exact zaD.own mem0 rfl (MsgR.enc_one _);omega;(show(_:Nat)*56≤_;omega);intro A' c')
     |(apply za8 (A:=some ⟨g7,0,none⟩) hT;(iterate 6 exact rfl);exact sX;exact rfl;exact rfl;exact rfl;(show t.buyer.toNat*1+1≤4*1;omega);omega)
     |(apply zaC (hs:=(hTb _ _ _ mX mX fX).1);(iterate 7 exact rfl))
     |(apply zaC (hs:=(hTb _ _ _ mX mX fX).2);(iterate 7 exact rfl))
     |(apply zaC (hs:=(hkn.mono (by simp)));(iterate 7 exact rfl))
     |(apply zab;(iterate 5 exact rfl);first|(apply zas hT;exact rfl;exact rfl;(repeat(first|exact List.mem_cons_self|apply List.mem_cons_of_mem|apply List.mem_append_right));exact rfl;exact rfl)|(apply zaq hT;exact rfl;exact rfl;(repeat(first|exact List.mem_cons_self|apply List.mem_cons_of_mem|apply List.mem_append_right));exact rfl))
     |(apply zau;(iterate 5 exact rfl);intro _)|(apply zac hT;(iterate 5 exact rfl);intro _)
     |(apply zaf;(iterate 2 exact rfl))|(apply zag;(iterate 2 exact rfl))
     |(apply zak;exact rfl;all_goals intro hb;all_goals(fail_if_success (change true=true at hb));all_goals(fail_if_success (change false=false at hb));all_goals(try dsimp only at hb);all_goals(try simp only[hb]);all_goals(first|replace hb:=of_decide_eq_true hb|replace hb:=of_decide_eq_false hb|replace hb:=zao hb|replace hb:=zap hb|replace hb:=eq_of_beq hb|replace hb:=ne_of_beq_false hb|skip);all_goals(try(exfalso;omega)))
     |(apply zan;exact rfl;all_goals intro hb;all_goals(try dsimp only at hb);all_goals(try simp only[hb]);all_goals(first|replace hb:=of_decide_eq_true hb|replace hb:=of_decide_eq_false hb|replace hb:=zao hb|replace hb:=zap hb|replace hb:=eq_of_beq hb|replace hb:=ne_of_beq_false hb|skip);all_goals(try(exfalso;omega))))
    all_goals first
     |(exfalso;omega)
     |(apply ret1;exact rfl;exact rfl)
     |skip
   ·have ht3:=fun k m1 m3=>hT3 k _ t ht m1 m3
    repeat' (first
     |apply zaz|apply zaa|apply zay|apply zal|apply zam|apply zae|apply zaw
     |(apply zai hT;(iterate 4 exact rfl))|(apply zaj;(iterate 3 exact rfl))|(apply zad;(iterate 2 exact rfl))
     |(apply zax hT;(iterate 4 exact rfl);(iterate 2 (first|omega|(dsimp only;omega))))
     |(apply zar [] [] hmix;decide+kernel)
     |(apply zht hT;(iterate 8 exact rfl);(iterate 2 omega))
     |(apply zaC (hs:=(ht3 _ mX fX).1);(iterate 7 exact rfl))
     |(apply zaC (hs:=(ht3 _ mX fX).2.1);(iterate 7 exact rfl))
     |(apply zaC (hs:=(ht3 _ mX fX).2.2);(iterate 7 exact rfl))
     |(apply zaV (hs:=(hH _));(iterate 7 exact rfl);rintro _ _ ⟨A',c',rfl,rfl,_⟩)
     |(apply zaC (hs:=(hkn.mono (by simp)));(iterate 7 exact rfl))
     |(apply zab;(iterate 5 exact rfl);first|(apply zas hT;exact rfl;exact rfl;(repeat(first|exact List.mem_cons_self|apply List.mem_cons_of_mem|apply List.mem_append_right));exact rfl;exact rfl)|(apply zaq hT;exact rfl;exact rfl;(repeat(first|exact List.mem_cons_self|apply List.mem_cons_of_mem|apply List.mem_append_right));exact rfl))
     |(apply zau;(iterate 5 exact rfl);intro _)|(apply zac hT;(iterate 5 exact rfl);intro _)
     |(apply zaf;(iterate 2 exact rfl))|(apply zag;(iterate 2 exact rfl))
     |(apply zak;exact rfl;all_goals intro hb;all_goals(fail_if_success (change true=true at hb));all_goals(fail_if_success (change false=false at hb));all_goals(try dsimp only at hb);all_goals(try simp only[hb]);all_goals(first|replace hb:=of_decide_eq_true hb|replace hb:=of_decide_eq_false hb|replace hb:=zao hb|replace hb:=zap hb|replace hb:=eq_of_beq hb|replace hb:=ne_of_beq_false hb|skip);all_goals(try(exfalso;omega)))
     |(apply zan;exact rfl;all_goals intro hb;all_goals(try dsimp only at hb);all_goals(try simp only[hb]);all_goals(first|replace hb:=of_decide_eq_true hb|replace hb:=of_decide_eq_false hb|replace hb:=zao hb|replace hb:=zap hb|replace hb:=eq_of_beq hb|replace hb:=ne_of_beq_false hb|skip);all_goals(try(exfalso;omega))))
    all_goals first
     |(exfalso;omega)
     |(apply ret1;exact rfl;exact rfl)
     |skip
end Go.Proofs.YteocfhdocpeokaaGreat
set_option linter.unusedSimpArgs false
set_option linter.unusedVariables false
namespace Go.Proofs.YteocfhdocpeokaaGreat
namespace auditTold
open Go Go.Sl Go.ChangeShapes Go.WideShapes Go.ChangeAt Go.RowKit
theorem own :ownKnob Tryz.prog.godebug=none:=by kernel_rfl
theorem zlI :laidOutB Tryz.prog=true:=by kernel_rfl
set_option maxRecDepth 100000 in
theorem zmb (os:Os)(started:os.Started)(H:Type)(enc:TypeId×Value→H):
 ReturnsInHanded {} Tryz.checked os 4 .any (Rows.auditToldSpec.pre6 enc Tryz.prog Tryz.f4 Rows.auditToldRow.domain false) (Rows.auditToldSpec.post enc Tryz.prog Tryz.f4 false true false false):=by
 refine returnsInHanded_of_change (C:= Tryz.checked) own started (by kernel_rfl) Tryz.func4
  (ChangeSpec.witness6 (enc:=enc) (C:= Tryz.checked) false ⟨#[],#[.slice none 0 0,.int .i64 0,.int .i64 0],[]⟩ 8 (by kernel_rfl) (by kernel_rfl) (by kernel_rfl) (by kernel_rfl)) ?_
 intro W base args ds gs before hval0 hW hcnd _
 have hval:∀(j:Nat) t v,Tryz.f4.params[j]? =some t→args[j]? =some v→Value.okWide Tryz.prog W .any base t v:=hval0
 have hW':=hW
 obtain⟨p,q,hA0,hV,rfl,hfz,hnd⟩:=hW
 have hA:DataW.TrodAll enc Tryz.prog W 0 (fun _=>true) true Tryz.f4.params.toList args.toList ds p:=hA0
 obtain⟨rfl,rfl⟩:=trodVars_none hV
 simp only[List.append_nil]at hW'
 have hA1:=hA
 rw[Tryz.params4]at hA1 hval
 obtain⟨v0,vs0,d0,ds0,p0,q0,hargs,rfl,rfl,h0,r0⟩:=trodAll_cons hA1
 obtain⟨v1,vs1,d1,ds1,p1,q1,rfl,rfl,rfl,h1,r1⟩:=trodAll_cons r0
 obtain⟨v2,vs2,d2,ds2,p2,q2,rfl,rfl,rfl,h2,r2⟩:=trodAll_cons r1
 obtain⟨rfl,rfl,rfl⟩:=trodAll_nil r2
 obtain rfl:args= #[v0,v1,v2]:=by cases args;simp_all
 obtain⟨A0,c0,l0,rfl,hc0,ok0,hr0⟩:=zir (W:=W) 8 Tryz.underlying22 (by kernel_rfl) (by kernel_rfl) zis (hval 0 22 v0 rfl rfl) h0
 obtain⟨a1,rfl,_,_,w1⟩:=open_int Tryz.underlying3 (hval 1 3 v1 rfl rfl) h1
 obtain⟨a2,rfl,_,_,w2⟩:=open_int Tryz.underlying3 (hval 2 3 v2 rfl rfl) h2
 refine(zaL.row (zkK W A0 c0 l0 hr0 ok0 a1 a2) (fun _ _ h=>h)).mono fun e W' ⟨he,hb⟩=> ?_
 subst he
 exact⟨_,rfl,zjV hW' hA zlI (by kernel_rfl) rfl rfl Tryz.underlying4 rfl rfl rfl hb⟩
theorem zno : Tryz.prog.funcNamed Rows.auditToldRow.func=some 4 :=by kernel_rfl
set_option maxRecDepth 100000 in
theorem zmc :joinedFacts Tryz.prog 4 Tryz.f4 Rows.auditToldSpec Rows.auditToldRow=true:=by
 unfold joinedFacts
 simp only[Bool.and_eq_true]
 repeat' apply And.intro
 all_goals decide+kernel
theorem inst : Tryz.f4.isInstance Tryz.prog Rows.auditToldRow.origin Rows.auditToldRow.targs:=of_decide_eq_true (by kernel_rfl)
theorem over :Rows.auditToldRow.holds Tryz.pinned (OpenSpec.ofChange Rows.auditToldSpec):=
 OpenClaim.holds_of_wide 4 Tryz.f4 rfl rfl rfl rfl rfl rfl rfl ⟨rfl,rfl,rfl,rfl,rfl⟩ rfl rfl rfl rfl rfl zno Tryz.func4 zmc
  inst (by unfold Func.isWrapper;first|(rw[if_pos (by decide+kernel)];kernel_rfl)|(rw[if_neg (by decide+kernel)];exact⟨rfl,rfl⟩))
  (fun os started H enc _=>zmb os started H enc)
end auditTold
/-- the statement -/
theorem auditTold_holds :Rows.AuditToldSaid:=auditTold.over
#print axioms auditTold_holds
end Go.Proofs.YteocfhdocpeokaaGreat
