/- The statements' walks, and what they stand on, joined into few texts: part 2. Conditions stand in each statement. -/
import Derived.Test.YteocfhdocpeokaaGreatBndU1
set_option maxHeartbeats 16000000
set_option linter.all false
set_option linter.unusedSimpArgs false
set_option linter.unusedVariables false
namespace Go.Proofs.YteocfhdocpeokaaGreat
open Go Go.Sl
attribute [local irreducible] AW ES Ld RetQ
set_option maxRecDepth 100000
theorem zc0 (W:World)(h:List zah)(A:Option Addr)(n c:Nat)(l:List zaH)(hn:l.length=n)(hr:zaE W h A n 3 (l.flatMap zaH.enc))(fn:FuncId)(cap:List Value)(p:zaH→Bool)
 (hf:∀x∈l,zaC Tryz.prog W fn ([.agg x.enc.toArray]++cap) h (.bool (p x)))(hb:n≤4611686018427387903):
 zaC Tryz.prog W 133 [.slice A n c,.func (.func fn) #[] cap.toArray] h (.int .i64 (zbf p l)):=by
 refine zaC.of (fun h' hs=> ?_)
 have hr':=hr.mono hs
 refine zau Tryz.func133 rfl rfl Tryz.results133 Tryz.ntmps133 rfl rfl ?_
 refine zaK hr' rfl (fun hA=> ?_)
 repeat' (first
  |apply zaA|apply zaa|apply zaz|apply zam|apply zan|apply zae|apply zay
  |(apply zaj hT;(iterate 4 exact rfl))|(apply zak;(iterate 3 exact rfl))|(apply zad;(iterate 2 exact rfl))
  |(apply zax hT;(iterate 4 exact rfl);(iterate 2 (first|omega|(dsimp only;omega))))
  |(apply zas [] [] hmix;decide+kernel)
  |(apply zab;(iterate 5 exact rfl);first|(apply zat hT;exact rfl;exact rfl;(repeat(first|exact List.mem_cons_self|apply List.mem_cons_of_mem));exact rfl;exact rfl)|(apply zar hT;exact rfl;exact rfl;(repeat(first|exact List.mem_cons_self|apply List.mem_cons_of_mem));exact rfl))
  |(apply zav;(iterate 5 exact rfl);intro _)|(apply zac hT;(iterate 5 exact rfl);intro _)
  |(apply zaf;(iterate 2 exact rfl))|(apply zag;(iterate 2 exact rfl))
  |(apply zal;exact rfl;all_goals intro hb;all_goals(fail_if_success (change true=true at hb));all_goals(fail_if_success (change false=false at hb));all_goals(try dsimp only at hb);all_goals(try simp only[hb]);all_goals(first|replace hb:=of_decide_eq_true hb|replace hb:=of_decide_eq_false hb|replace hb:=zap hb|replace hb:=zaq hb|replace hb:=eq_of_beq hb|replace hb:=ne_of_beq_false hb|skip);all_goals(try(exfalso;omega)))
  |(apply zao;exact rfl;all_goals intro hb;all_goals(try dsimp only at hb);all_goals(try simp only[hb]);all_goals(first|replace hb:=of_decide_eq_true hb|replace hb:=of_decide_eq_false hb|replace hb:=zap hb|replace hb:=zaq hb|replace hb:=eq_of_beq hb|replace hb:=ne_of_beq_false hb|skip);all_goals(try(exfalso;omega))))
 refine zcc (α:=Nat) (E:=fun k=>[(0,.slice A n c),(1,.func (.func fn) #[] cap.toArray),(7,.int .i64 n),(8,.int .i64 k)]) (H:=fun _=>h') (μ:=fun k=>n - k)
  (S:=fun k=>k≤n∧∀(j:Nat) y,j<k→l[j]? =some y→p y=false) 0 (J:=[]) ⟨Nat.zero_le _,fun j y hj=>by omega⟩ ⟨rfl,rfl,rfl,rfl,trivial⟩ (plr _) ?_
 rintro k ⟨hk1,hk2⟩
 by_cases hlt:k<n
 ·obtain⟨x,hx⟩:∃x,l[k]? =some x:=⟨l[k]'(by omega),gge (by omega)⟩
  have hx2:l[(k:Int).toNat]? =some x:=by simpa using hx
  have hfx:=(hf x (mog hx)).mono hs
  have hA':=hA (by omega)
  repeat' (first
   |apply zaA|apply zaa|apply zaz|apply zam|apply zan|apply zae|apply zay
   |(apply zaj hT;(iterate 4 exact rfl))|(apply zak;(iterate 3 exact rfl))|(apply zad;(iterate 2 exact rfl))
   |(apply zax hT;(iterate 4 exact rfl);(iterate 2 (first|omega|(dsimp only;omega))))
   |(apply zas [] [] hmix;decide+kernel)
   |(apply za4 hT;(iterate 8 exact rfl);(iterate 2 omega);exact hA')
   |(apply zab;(iterate 5 exact rfl);exact zbd hT rfl rfl hr' zaH.enc_len rfl hx2 rfl)
   |(apply zaw (hs:=hfx);(iterate 7 exact rfl))
   |(apply zab;(iterate 5 exact rfl);first|(apply zat hT;exact rfl;exact rfl;(repeat(first|exact List.mem_cons_self|apply List.mem_cons_of_mem));exact rfl;exact rfl)|(apply zar hT;exact rfl;exact rfl;(repeat(first|exact List.mem_cons_self|apply List.mem_cons_of_mem));exact rfl))
   |(apply zav;(iterate 5 exact rfl);intro _)|(apply zac hT;(iterate 5 exact rfl);intro _)
   |(apply zaf;(iterate 2 exact rfl))|(apply zag;(iterate 2 exact rfl))
   |(apply zal;exact rfl;all_goals intro hb;all_goals(fail_if_success (change true=true at hb));all_goals(fail_if_success (change false=false at hb));all_goals(try dsimp only at hb);all_goals(try simp only[hb]);all_goals(first|replace hb:=of_decide_eq_true hb|replace hb:=of_decide_eq_false hb|replace hb:=zap hb|replace hb:=zaq hb|replace hb:=eq_of_beq hb|replace hb:=ne_of_beq_false hb|skip);all_goals(try(exfalso;omega)))
   |(apply zao;exact rfl;all_goals intro hb;all_goals(try dsimp only at hb);all_goals(try simp only[hb]);all_goals(first|replace hb:=of_decide_eq_true hb|replace hb:=of_decide_eq_false hb|replace hb:=zap hb|replace hb:=zaq hb|replace hb:=eq_of_beq hb|replace hb:=ne_of_beq_false hb|skip);all_goals(try(exfalso;omega))))
  ·exact zdD (J:=[]) rfl (by rw[zcF hx hb hk2]) (plr _)
  ·have hpx:=hb
   refine⟨k+1,[],by dsimp only;omega,⟨by omega,fun j y hj hy=> ?_⟩,⟨rfl,rfl,rfl,rfl,trivial⟩,plr _⟩
   by_cases hjk:j<k
   ·exact hk2 j y hjk hy
   ·obtain rfl:j=k:=by omega
    rw[hx]at hy;cases hy;exact hpx
 ·repeat' (first
   |apply zaA|apply zaa|apply zaz|apply zam|apply zan|apply zae|apply zay
   |(apply zaj hT;(iterate 4 exact rfl))|(apply zak;(iterate 3 exact rfl))|(apply zad;(iterate 2 exact rfl))
   |(apply zax hT;(iterate 4 exact rfl);(iterate 2 (first|omega|(dsimp only;omega))))
   |(apply zas [] [] hmix;decide+kernel)
   |(apply zab;(iterate 5 exact rfl);first|(apply zat hT;exact rfl;exact rfl;(repeat(first|exact List.mem_cons_self|apply List.mem_cons_of_mem));exact rfl;exact rfl)|(apply zar hT;exact rfl;exact rfl;(repeat(first|exact List.mem_cons_self|apply List.mem_cons_of_mem));exact rfl))
   |(apply zav;(iterate 5 exact rfl);intro _)|(apply zac hT;(iterate 5 exact rfl);intro _)
   |(apply zaf;(iterate 2 exact rfl))|(apply zag;(iterate 2 exact rfl))
   |(apply zal;exact rfl;all_goals intro hb;all_goals(fail_if_success (change true=true at hb));all_goals(fail_if_success (change false=false at hb));all_goals(try dsimp only at hb);all_goals(try simp only[hb]);all_goals(first|replace hb:=of_decide_eq_true hb|replace hb:=of_decide_eq_false hb|replace hb:=zap hb|replace hb:=zaq hb|replace hb:=eq_of_beq hb|replace hb:=ne_of_beq_false hb|skip);all_goals(try(exfalso;omega)))
   |(apply zao;exact rfl;all_goals intro hb;all_goals(try dsimp only at hb);all_goals(try simp only[hb]);all_goals(first|replace hb:=of_decide_eq_true hb|replace hb:=of_decide_eq_false hb|replace hb:=zap hb|replace hb:=zaq hb|replace hb:=eq_of_beq hb|replace hb:=ne_of_beq_false hb|skip);all_goals(try(exfalso;omega))))
  exact zdD (J:=[]) rfl (by rw[zbE (fun(j:Nat) y hj=>hk2 j y (by have:=(gsi.1 hj).1;omega) hj)]) (plr _)
theorem zcm (W:World)(h:List zah)(A:Option Addr)(n c:Nat)(l:List zaH)(hn:l.length=n)(hr:zaE W h A n 3 (l.flatMap zaH.enc))(fn:FuncId)(cap:List Value)(p:zaH→Bool)
 (hf:∀x∈l,zaC Tryz.prog W fn ([.agg x.enc.toArray]++cap) h (.bool (p x)))(hb:n≤4611686018427387903):
 zaC Tryz.prog W 95 [.slice A n c,.func (.func fn) #[] cap.toArray] h (.bool (decide (zbf p l≥0))):=by
 refine zaC.of (fun h' hs=> ?_)
 refine zau Tryz.func95 rfl rfl Tryz.results95 Tryz.ntmps95 rfl rfl ?_
 repeat' (first
  |apply zaA|apply zaa|apply zaz|apply zam|apply zan|apply zae|apply zay
  |(apply zaj hT;(iterate 4 exact rfl))|(apply zak;(iterate 3 exact rfl))|(apply zad;(iterate 2 exact rfl))
  |(apply zax hT;(iterate 4 exact rfl);(iterate 2 (first|omega|(dsimp only;omega))))
  |(apply zas [] [] hmix;decide+kernel)
  |(apply zaw (hs:=((zc0 W h A n c l hn hr fn cap p hf hb).mono hs));(iterate 7 exact rfl))
  |(apply zab;(iterate 5 exact rfl);first|(apply zat hT;exact rfl;exact rfl;(repeat(first|exact List.mem_cons_self|apply List.mem_cons_of_mem));exact rfl;exact rfl)|(apply zar hT;exact rfl;exact rfl;(repeat(first|exact List.mem_cons_self|apply List.mem_cons_of_mem));exact rfl))
  |(apply zav;(iterate 5 exact rfl);intro _)|(apply zac hT;(iterate 5 exact rfl);intro _)
  |(apply zaf;(iterate 2 exact rfl))|(apply zag;(iterate 2 exact rfl))
  |(apply zal;exact rfl;all_goals intro hb;all_goals(fail_if_success (change true=true at hb));all_goals(fail_if_success (change false=false at hb));all_goals(try dsimp only at hb);all_goals(try simp only[hb]);all_goals(first|replace hb:=of_decide_eq_true hb|replace hb:=of_decide_eq_false hb|replace hb:=zap hb|replace hb:=zaq hb|replace hb:=eq_of_beq hb|replace hb:=ne_of_beq_false hb|skip);all_goals(try(exfalso;omega)))
  |(apply zao;exact rfl;all_goals intro hb;all_goals(try dsimp only at hb);all_goals(try simp only[hb]);all_goals(first|replace hb:=of_decide_eq_true hb|replace hb:=of_decide_eq_false hb|replace hb:=zap hb|replace hb:=zaq hb|replace hb:=eq_of_beq hb|replace hb:=ne_of_beq_false hb|skip);all_goals(try(exfalso;omega))))
 exact zdD (J:=[]) rfl rfl (plr _)
theorem zc1 (W:World)(h:List zah)(A:Option Addr)(n c:Nat)(cs:List Value)(hr:zaE W h A n 3 cs)(hb:n*24≤140737488355328):
 zaI Tryz.prog W 47 [.slice A n c] h (fun v h'=>∃A' c',v=.slice A' n c'∧h'=.own A' n c' 97 3 cs::h):=by
 refine zaI.drop ?_
 refine zau Tryz.func47 rfl rfl Tryz.results47 Tryz.ntmps47 rfl rfl ?_
 refine zaK hr rfl (fun hA=> ?_)
 cases A with
 |none=>
  have hn:n=0:=by
   rcases Nat.eq_zero_or_pos n with h|h
   ·exact h
   ·have:=hA h;simp at this
  subst hn
  have hcs:cs=[]:=List.eq_nil_of_length_eq_zero (by simpa using hr.len)
  subst hcs
  refine zbB (fun w hw=>⟨_,hw.own_nil 97 3,?_⟩)
  repeat' (first
   |apply zaA|apply zaa|apply zaz|apply zam|apply zan|apply zae|apply zay
   |(apply zaj hT;(iterate 4 exact rfl))|(apply zak;(iterate 3 exact rfl))|(apply zad;(iterate 2 exact rfl))
   |(apply zax hT;(iterate 4 exact rfl);(iterate 2 (first|omega|(dsimp only;omega))))
   |(apply zas [] [] hmix;decide+kernel)
   |(apply zab;(iterate 5 exact rfl);first|(apply zat hT;exact rfl;exact rfl;(repeat(first|exact List.mem_cons_self|apply List.mem_cons_of_mem));exact rfl;exact rfl)|(apply zar hT;exact rfl;exact rfl;(repeat(first|exact List.mem_cons_self|apply List.mem_cons_of_mem));exact rfl))
   |(apply zav;(iterate 5 exact rfl);intro _)|(apply zac hT;(iterate 5 exact rfl);intro _)
   |(apply zaf;(iterate 2 exact rfl))|(apply zag;(iterate 2 exact rfl))
   |(apply zal;exact rfl;all_goals intro hb;all_goals(fail_if_success (change true=true at hb));all_goals(fail_if_success (change false=false at hb));all_goals(try dsimp only at hb);all_goals(try simp only[hb]);all_goals(first|replace hb:=of_decide_eq_true hb|replace hb:=of_decide_eq_false hb|replace hb:=zap hb|replace hb:=zaq hb|replace hb:=eq_of_beq hb|replace hb:=ne_of_beq_false hb|skip);all_goals(try(exfalso;omega)))
   |(apply zao;exact rfl;all_goals intro hb;all_goals(try dsimp only at hb);all_goals(try simp only[hb]);all_goals(first|replace hb:=of_decide_eq_true hb|replace hb:=of_decide_eq_false hb|replace hb:=zap hb|replace hb:=zaq hb|replace hb:=eq_of_beq hb|replace hb:=ne_of_beq_false hb|skip);all_goals(try(exfalso;omega))))
  apply ret1;exact rfl
  exact⟨[],_,plr _,none,0,rfl,rfl⟩
 |some ad=>
  repeat' (first
   |apply zaA|apply zaa|apply zaz|apply zam|apply zan|apply zae|apply zay
   |(apply zaj hT;(iterate 4 exact rfl))|(apply zak;(iterate 3 exact rfl))|(apply zad;(iterate 2 exact rfl))
   |(apply zax hT;(iterate 4 exact rfl);(iterate 2 (first|omega|(dsimp only;omega))))
   |(apply zas [] [] hmix;decide+kernel)
   |(apply zaP hT;(iterate 12 exact rfl);intro g1)
   |(apply zbe hT;(iterate 10 exact rfl);exact sel0;exact hr.cons;omega;(show(0+n)*24≤_;omega);intro A' c')
   |(apply zab;(iterate 5 exact rfl);first|(apply zat hT;exact rfl;exact rfl;(repeat(first|exact List.mem_cons_self|apply List.mem_cons_of_mem));exact rfl;exact rfl)|(apply zar hT;exact rfl;exact rfl;(repeat(first|exact List.mem_cons_self|apply List.mem_cons_of_mem));exact rfl))
   |(apply zav;(iterate 5 exact rfl);intro _)|(apply zac hT;(iterate 5 exact rfl);intro _)
   |(apply zaf;(iterate 2 exact rfl))|(apply zag;(iterate 2 exact rfl))
   |(apply zal;exact rfl;all_goals intro hb;all_goals(fail_if_success (change true=true at hb));all_goals(fail_if_success (change false=false at hb));all_goals(try dsimp only at hb);all_goals(try simp only[hb]);all_goals(first|replace hb:=of_decide_eq_true hb|replace hb:=of_decide_eq_false hb|replace hb:=zap hb|replace hb:=zaq hb|replace hb:=eq_of_beq hb|replace hb:=ne_of_beq_false hb|skip);all_goals(try(exfalso;omega)))
   |(apply zao;exact rfl;all_goals intro hb;all_goals(try dsimp only at hb);all_goals(try simp only[hb]);all_goals(first|replace hb:=of_decide_eq_true hb|replace hb:=of_decide_eq_false hb|replace hb:=zap hb|replace hb:=zaq hb|replace hb:=eq_of_beq hb|replace hb:=ne_of_beq_false hb|skip);all_goals(try(exfalso;omega))))
  apply ret1;exact rfl
  refine⟨[],_,plr _,A',c',by rw[Nat.zero_add],?_⟩
  show zah.own A' (0+n) c' 97 3 ([]++cs)::h=_
  simp
end Go.Proofs.YteocfhdocpeokaaGreat
set_option linter.unusedSimpArgs false
set_option linter.unusedVariables false
namespace Go.Proofs.YteocfhdocpeokaaGreat
open Go Go.Sl
attribute [local irreducible] AW ES EP Ld RetQ
set_option maxRecDepth 100000
theorem zgU (W:World)(n a b:Int):zaC Tryz.prog W 131 [.int .i64 n,.int .i64 a,.int .i64 b] [] (.bool (inB n a b)):=by
 refine zaC.ofD (fun h' hs=> ?_)
 refine zau Tryz.func131 rfl rfl Tryz.results131 Tryz.ntmps131 rfl rfl ?_
 repeat' (first
  |apply zaA|apply zaa|apply zaz|apply zam|apply zan|apply zae|apply zay
  |(apply zaj hT;(iterate 4 exact rfl))|(apply zak;(iterate 3 exact rfl))|(apply zad;(iterate 2 exact rfl))
  |(apply zax hT;(iterate 4 exact rfl);(iterate 2 (first|omega|(dsimp only;omega))))
  |(apply zas [] [] hmix;decide+kernel)
  |(apply zab;(iterate 5 exact rfl);first|(apply zat hT;exact rfl;exact rfl;(repeat(first|exact List.mem_cons_self|apply List.mem_cons_of_mem));exact rfl;exact rfl)|(apply zar hT;exact rfl;exact rfl;(repeat(first|exact List.mem_cons_self|apply List.mem_cons_of_mem));exact rfl))
  |(apply zav;(iterate 5 exact rfl);intro _)|(apply zac hT;(iterate 5 exact rfl);intro _)
  |(apply zaf;(iterate 2 exact rfl))|(apply zag;(iterate 2 exact rfl))
  |(apply zal;exact rfl;all_goals intro hb;all_goals(fail_if_success (change true=true at hb));all_goals(fail_if_success (change false=false at hb));all_goals(try dsimp only at hb);all_goals(try simp only[hb]);all_goals(first|replace hb:=of_decide_eq_true hb|replace hb:=of_decide_eq_false hb|replace hb:=zap hb|replace hb:=zaq hb|replace hb:=eq_of_beq hb|replace hb:=ne_of_beq_false hb|skip);all_goals(try(exfalso;omega)))
  |(apply zao;exact rfl;all_goals intro hb;all_goals(try dsimp only at hb);all_goals(try simp only[hb]);all_goals(first|replace hb:=of_decide_eq_true hb|replace hb:=of_decide_eq_false hb|replace hb:=zap hb|replace hb:=zaq hb|replace hb:=eq_of_beq hb|replace hb:=ne_of_beq_false hb|skip);all_goals(try(exfalso;omega))))
 all_goals(apply ret1;exact rfl;exact⟨by(first|(simp_all [inB];done)|(simp[inB];omega)),zbi⟩)
theorem zfz (W:World)(n a b:Int):zaC Tryz.prog W 88 [.int .i64 n,.int .i64 a,.int .i64 b] [] (.bool (inB n a b)):=by
 refine zaC.ofD (fun h' hs=> ?_)
 refine zau Tryz.func88 rfl rfl Tryz.results88 Tryz.ntmps88 rfl rfl ?_
 repeat' (first
  |apply zaA|apply zaa|apply zaz|apply zam|apply zan|apply zae|apply zay
  |(apply zaj hT;(iterate 4 exact rfl))|(apply zak;(iterate 3 exact rfl))|(apply zad;(iterate 2 exact rfl))
  |(apply zax hT;(iterate 4 exact rfl);(iterate 2 (first|omega|(dsimp only;omega))))
  |(apply zas [] [] hmix;decide+kernel)
  |(apply zab;(iterate 5 exact rfl);first|(apply zat hT;exact rfl;exact rfl;(repeat(first|exact List.mem_cons_self|apply List.mem_cons_of_mem));exact rfl;exact rfl)|(apply zar hT;exact rfl;exact rfl;(repeat(first|exact List.mem_cons_self|apply List.mem_cons_of_mem));exact rfl))
  |(apply zav;(iterate 5 exact rfl);intro _)|(apply zac hT;(iterate 5 exact rfl);intro _)
  |(apply zaf;(iterate 2 exact rfl))|(apply zag;(iterate 2 exact rfl))
  |(apply zal;exact rfl;all_goals intro hb;all_goals(fail_if_success (change true=true at hb));all_goals(fail_if_success (change false=false at hb));all_goals(try dsimp only at hb);all_goals(try simp only[hb]);all_goals(first|replace hb:=of_decide_eq_true hb|replace hb:=of_decide_eq_false hb|replace hb:=zap hb|replace hb:=zaq hb|replace hb:=eq_of_beq hb|replace hb:=ne_of_beq_false hb|skip);all_goals(try(exfalso;omega)))
  |(apply zao;exact rfl;all_goals intro hb;all_goals(try dsimp only at hb);all_goals(try simp only[hb]);all_goals(first|replace hb:=of_decide_eq_true hb|replace hb:=of_decide_eq_false hb|replace hb:=zap hb|replace hb:=zaq hb|replace hb:=eq_of_beq hb|replace hb:=ne_of_beq_false hb|skip);all_goals(try(exfalso;omega))))
 all_goals(apply ret1;exact rfl;exact⟨by(first|(simp_all [inB];done)|(simp[inB];omega)),zbi⟩)
theorem zgV (W:World)(b:za1):zaC Tryz.prog W 90 [.agg b.enc.toArray] [] (.bool (zcS b)):=by
 refine zaC.ofD (fun h' hs=> ?_)
 refine zau Tryz.func90 rfl rfl Tryz.results90 Tryz.ntmps90 rfl rfl ?_
 repeat' (first
  |apply zaA|apply zaa|apply zaz|apply zam|apply zan|apply zae|apply zay
  |(apply zaj hT;(iterate 4 exact rfl))|(apply zak;(iterate 3 exact rfl))|(apply zad;(iterate 2 exact rfl))
  |(apply zax hT;(iterate 4 exact rfl);(iterate 2 (first|omega|(dsimp only;omega))))
  |(apply zas [] [] hmix;decide+kernel)
  |(apply zg5;(iterate 5 exact rfl);(have z1:=zcA ‹inB b.lot 1 1000000=true›;have z2:=zcA ‹inB b.max b.min 1000000=true›;have z3:=zcA ‹inB b.min 1 1000000=true›;omega);(have z1:=zcA ‹inB b.lot 1 1000000=true›;omega))
  |(apply zax hT;(iterate 4 exact rfl);(iterate 2 (have z1:=zcA ‹inB b.lot 1 1000000=true›;have z2:=zcA ‹inB b.max b.min 1000000=true›;have z3:=zcA ‹inB b.min 1 1000000=true›;have z4:=Int.emod_nonneg b.max (show b.lot≠0 by omega);have z5:=Int.emod_lt_of_pos b.max (show 0<b.lot by omega);omega)))
  |(apply zaw (hs:=((zgU W _ _ _).mono (by simp)));(iterate 7 exact rfl))
  |(apply zab;(iterate 5 exact rfl);first|(apply zat hT;exact rfl;exact rfl;(repeat(first|exact List.mem_cons_self|apply List.mem_cons_of_mem));exact rfl;exact rfl)|(apply zar hT;exact rfl;exact rfl;(repeat(first|exact List.mem_cons_self|apply List.mem_cons_of_mem));exact rfl))
  |(apply zav;(iterate 5 exact rfl);intro _)|(apply zac hT;(iterate 5 exact rfl);intro _)
  |(apply zaf;(iterate 2 exact rfl))|(apply zag;(iterate 2 exact rfl))
  |(apply zal;exact rfl;all_goals intro hb;all_goals(fail_if_success (change true=true at hb));all_goals(fail_if_success (change false=false at hb));all_goals(try dsimp only at hb);all_goals(try simp only[hb]);all_goals(first|replace hb:=of_decide_eq_true hb|replace hb:=of_decide_eq_false hb|replace hb:=zap hb|replace hb:=zaq hb|replace hb:=eq_of_beq hb|replace hb:=ne_of_beq_false hb|skip);all_goals(try(exfalso;omega)))
  |(apply zao;exact rfl;all_goals intro hb;all_goals(try dsimp only at hb);all_goals(try simp only[hb]);all_goals(first|replace hb:=of_decide_eq_true hb|replace hb:=of_decide_eq_false hb|replace hb:=zap hb|replace hb:=zaq hb|replace hb:=eq_of_beq hb|replace hb:=ne_of_beq_false hb|skip);all_goals(try(exfalso;omega))))
 all_goals first
  |(apply ret1;exact rfl;exact⟨by simp_all [zcS],zbt zbi⟩)
  |skip
theorem zgf (W:World)(b:za1):zaC Tryz.prog W 89 [.agg b.enc.toArray] [] (.bool (!zcS b)):=by
 refine zaC.ofD (fun h' hs=> ?_)
 refine zau Tryz.func89 rfl rfl Tryz.results89 Tryz.ntmps89 rfl rfl ?_
 repeat' (first
  |apply zaA|apply zaa|apply zaz|apply zam|apply zan|apply zae|apply zay
  |(apply zaj hT;(iterate 4 exact rfl))|(apply zak;(iterate 3 exact rfl))|(apply zad;(iterate 2 exact rfl))
  |(apply zax hT;(iterate 4 exact rfl);(iterate 2 (first|omega|(dsimp only;omega))))
  |(apply zas [] [] hmix;decide+kernel)
  |(apply zaw (hs:=((zgV W b).mono (by simp)));(iterate 7 exact rfl))
  |(apply zab;(iterate 5 exact rfl);first|(apply zat hT;exact rfl;exact rfl;(repeat(first|exact List.mem_cons_self|apply List.mem_cons_of_mem));exact rfl;exact rfl)|(apply zar hT;exact rfl;exact rfl;(repeat(first|exact List.mem_cons_self|apply List.mem_cons_of_mem));exact rfl))
  |(apply zav;(iterate 5 exact rfl);intro _)|(apply zac hT;(iterate 5 exact rfl);intro _)
  |(apply zaf;(iterate 2 exact rfl))|(apply zag;(iterate 2 exact rfl))
  |(apply zal;exact rfl;all_goals intro hb;all_goals(fail_if_success (change true=true at hb));all_goals(fail_if_success (change false=false at hb));all_goals(try dsimp only at hb);all_goals(try simp only[hb]);all_goals(first|replace hb:=of_decide_eq_true hb|replace hb:=of_decide_eq_false hb|replace hb:=zap hb|replace hb:=zaq hb|replace hb:=eq_of_beq hb|replace hb:=ne_of_beq_false hb|skip);all_goals(try(exfalso;omega)))
  |(apply zao;exact rfl;all_goals intro hb;all_goals(try dsimp only at hb);all_goals(try simp only[hb]);all_goals(first|replace hb:=of_decide_eq_true hb|replace hb:=of_decide_eq_false hb|replace hb:=zap hb|replace hb:=zaq hb|replace hb:=eq_of_beq hb|replace hb:=ne_of_beq_false hb|skip);all_goals(try(exfalso;omega))))
 all_goals(apply ret1;exact rfl;exact⟨rfl,dX⟩)
theorem zea (W:World)(h:List zah)(A:Option Addr)(c:Nat)(l:List zaH)(hr:zaE W h A l.length 3 (l.flatMap zaH.enc))(hb:l.length≤8):
 zaC Tryz.prog W 91 [.slice A l.length c] h (.int .u64 (zbw l l.length)):=by
 refine zaC.ofD (fun h' hs=> ?_)
 have hr':=hr.mono hs
 refine zau Tryz.func91 rfl rfl Tryz.results91 Tryz.ntmps91 rfl rfl ?_
 refine zaK hr' rfl (fun hA=> ?_)
 repeat' (first
  |apply zaA|apply zaa|apply zaz|apply zam|apply zan|apply zae|apply zay
  |(apply zaj hT;(iterate 4 exact rfl))|(apply zak;(iterate 3 exact rfl))|(apply zad;(iterate 2 exact rfl))
  |(apply zax hT;(iterate 4 exact rfl);(iterate 2 (first|omega|(dsimp only;omega))))
  |(apply zas [] [] hmix;decide+kernel)
  |(apply zab;(iterate 5 exact rfl);first|(apply zat hT;exact rfl;exact rfl;(repeat(first|exact List.mem_cons_self|apply List.mem_cons_of_mem));exact rfl;exact rfl)|(apply zar hT;exact rfl;exact rfl;(repeat(first|exact List.mem_cons_self|apply List.mem_cons_of_mem));exact rfl))
  |(apply zav;(iterate 5 exact rfl);intro _)|(apply zac hT;(iterate 5 exact rfl);intro _)
  |(apply zaf;(iterate 2 exact rfl))|(apply zag;(iterate 2 exact rfl))
  |(apply zal;exact rfl;all_goals intro hb;all_goals(fail_if_success (change true=true at hb));all_goals(fail_if_success (change false=false at hb));all_goals(try dsimp only at hb);all_goals(try simp only[hb]);all_goals(first|replace hb:=of_decide_eq_true hb|replace hb:=of_decide_eq_false hb|replace hb:=zap hb|replace hb:=zaq hb|replace hb:=eq_of_beq hb|replace hb:=ne_of_beq_false hb|skip);all_goals(try(exfalso;omega)))
  |(apply zao;exact rfl;all_goals intro hb;all_goals(try dsimp only at hb);all_goals(try simp only[hb]);all_goals(first|replace hb:=of_decide_eq_true hb|replace hb:=of_decide_eq_false hb|replace hb:=zap hb|replace hb:=zaq hb|replace hb:=eq_of_beq hb|replace hb:=ne_of_beq_false hb|skip);all_goals(try(exfalso;omega))))
 refine za2 (α:=Nat) (E:=fun k=>[(3,.int .u64 (zbw l k)),(6,.slice A l.length c),(7,.int .i64 l.length),(8,.int .i64 k)]) (H:=fun _=>h') (μ:=fun k=>l.length - k)
  (S:=fun k=>k≤l.length) 0 (Nat.zero_le _) ⟨rfl,rfl,rfl,rfl,trivial⟩ dX ?_
 intro k hk
 by_cases hlt:k<l.length
 ·obtain⟨x,hx⟩:∃x,l[k]? =some x:=⟨l[k]'(by omega),gge (by omega)⟩
  have hx2:l[(k:Int).toNat]? =some x:=by simpa using hx
  have hA':=hA (by omega)
  have hd1:decide ((k:Int)<(l.length:Int))=true:=by simp;omega
  have hst:=zer hx
  have hor:=zg9 (zdX l k) (show k<64 by omega)
  repeat' (first
   |apply zaA|apply zaa|apply zaz|apply zam|apply zan|apply zae|apply zay
   |(apply zaj hT;(iterate 4 exact rfl))|(apply zak;(iterate 3 exact rfl))|(apply zad;(iterate 2 exact rfl))
   |(apply zax hT;(iterate 4 exact rfl);(iterate 2 (first|omega|(dsimp only;omega))))
   |(apply zas [] [] hmix;decide+kernel)
   |(apply za4 hT;(iterate 8 exact rfl);(iterate 2 omega);exact hA')
   |(apply zab;(iterate 5 exact rfl);exact zbd hT rfl rfl (hr'.mono (by intro c hc;first|exact hc|exact List.mem_cons_of_mem _ hc)) zaH.enc_len rfl hx2 rfl)
   |(apply zaQ hT;(iterate 6 exact rfl);exact sX;(iterate 3 exact rfl);exact Nat.le_of_ble_eq_true rfl)
   |(apply zg8;(iterate 5 exact rfl);omega)
   |(apply zeq;(iterate 6 exact rfl))
   |(apply zab;(iterate 5 exact rfl);first|(apply zat hT;exact rfl;exact rfl;(repeat(first|exact List.mem_cons_self|apply List.mem_cons_of_mem));exact rfl;exact rfl)|(apply zar hT;exact rfl;exact rfl;(repeat(first|exact List.mem_cons_self|apply List.mem_cons_of_mem));exact rfl))
   |(apply zav;(iterate 5 exact rfl);intro _)|(apply zac hT;(iterate 5 exact rfl);intro _)
   |(apply zaf;(iterate 2 exact rfl))|(apply zag;(iterate 2 exact rfl))
   |(apply zal;exact rfl;all_goals intro hb;all_goals(fail_if_success (change true=true at hb));all_goals(fail_if_success (change false=false at hb));all_goals(try dsimp only at hb);all_goals(try simp only[hb]);all_goals(first|replace hb:=of_decide_eq_true hb|replace hb:=of_decide_eq_false hb|replace hb:=zap hb|replace hb:=zaq hb|replace hb:=eq_of_beq hb|replace hb:=ne_of_beq_false hb|skip);all_goals(try(exfalso;omega)))
   |(apply zao;exact rfl;all_goals intro hb;all_goals(try dsimp only at hb);all_goals(try simp only[hb]);all_goals(first|replace hb:=of_decide_eq_true hb|replace hb:=of_decide_eq_false hb|replace hb:=zap hb|replace hb:=zaq hb|replace hb:=eq_of_beq hb|replace hb:=ne_of_beq_false hb|skip);all_goals(try(exfalso;omega))))
  all_goals first
   |(exfalso;omega)
   |exact zaO (k+1) (by(try dsimp only);omega) (by(try dsimp only);omega) ⟨by(try dsimp only);rw[hst,if_pos ‹_›,←hor];rfl,rfl,rfl,rfl,trivial⟩ dX
   |exact zaO (k+1) (by(try dsimp only);omega) (by(try dsimp only);omega) ⟨by(try dsimp only);rw[hst,if_neg ‹_›];rfl,rfl,rfl,rfl,trivial⟩ dX
   |skip
 ·obtain rfl:k=l.length:=by omega
  have hd1:decide ((l.length:Int)<(l.length:Int))=false:=by simp
  repeat' (first
   |apply zaA|apply zaa|apply zaz|apply zam|apply zan|apply zae|apply zay
   |(apply zaj hT;(iterate 4 exact rfl))|(apply zak;(iterate 3 exact rfl))|(apply zad;(iterate 2 exact rfl))
   |(apply zax hT;(iterate 4 exact rfl);(iterate 2 (first|omega|(dsimp only;omega))))
   |(apply zas [] [] hmix;decide+kernel)
   |(apply zab;(iterate 5 exact rfl);first|(apply zat hT;exact rfl;exact rfl;(repeat(first|exact List.mem_cons_self|apply List.mem_cons_of_mem));exact rfl;exact rfl)|(apply zar hT;exact rfl;exact rfl;(repeat(first|exact List.mem_cons_self|apply List.mem_cons_of_mem));exact rfl))
   |(apply zav;(iterate 5 exact rfl);intro _)|(apply zac hT;(iterate 5 exact rfl);intro _)
   |(apply zaf;(iterate 2 exact rfl))|(apply zag;(iterate 2 exact rfl))
   |(apply zal;exact rfl;all_goals intro hb;all_goals(fail_if_success (change true=true at hb));all_goals(fail_if_success (change false=false at hb));all_goals(try dsimp only at hb);all_goals(try simp only[hb]);all_goals(first|replace hb:=of_decide_eq_true hb|replace hb:=of_decide_eq_false hb|replace hb:=zap hb|replace hb:=zaq hb|replace hb:=eq_of_beq hb|replace hb:=ne_of_beq_false hb|skip);all_goals(try(exfalso;omega)))
   |(apply zao;exact rfl;all_goals intro hb;all_goals(try dsimp only at hb);all_goals(try simp only[hb]);all_goals(first|replace hb:=of_decide_eq_true hb|replace hb:=of_decide_eq_false hb|replace hb:=zap hb|replace hb:=zaq hb|replace hb:=eq_of_beq hb|replace hb:=ne_of_beq_false hb|skip);all_goals(try(exfalso;omega))))
  all_goals first
   |(exfalso;omega)
   |(apply ret1;exact rfl;exact⟨rfl,dX⟩)
theorem zeb (W:World)(p:zaH)(all:Int):zaC Tryz.prog W 93 [.agg p.enc.toArray,.int .u64 all] [] (.bool (zcd p all)):=by
 refine zaC.ofD (fun h' hs=> ?_)
 refine zau Tryz.func93 rfl rfl Tryz.results93 Tryz.ntmps93 rfl rfl ?_
 repeat' (first
  |apply zaA|apply zaa|apply zaz|apply zam|apply zan|apply zae|apply zay
  |(apply zaj hT;(iterate 4 exact rfl))|(apply zak;(iterate 3 exact rfl))|(apply zad;(iterate 2 exact rfl))
  |(apply zax hT;(iterate 4 exact rfl);(iterate 2 (first|omega|(dsimp only;omega))))
  |(apply zas [] [] hmix;decide+kernel)
  |(apply zeq;(iterate 6 exact rfl))
  |(apply zaw (hs:=((zfz W _ _ _).mono (by simp)));(iterate 7 exact rfl))
  |(apply zab;(iterate 5 exact rfl);first|(apply zat hT;exact rfl;exact rfl;(repeat(first|exact List.mem_cons_self|apply List.mem_cons_of_mem));exact rfl;exact rfl)|(apply zar hT;exact rfl;exact rfl;(repeat(first|exact List.mem_cons_self|apply List.mem_cons_of_mem));exact rfl))
  |(apply zav;(iterate 5 exact rfl);intro _)|(apply zac hT;(iterate 5 exact rfl);intro _)
  |(apply zaf;(iterate 2 exact rfl))|(apply zag;(iterate 2 exact rfl))
  |(apply zal;exact rfl;all_goals intro hb;all_goals(fail_if_success (change true=true at hb));all_goals(fail_if_success (change false=false at hb));all_goals(try dsimp only at hb);all_goals(try simp only[hb]);all_goals(first|replace hb:=of_decide_eq_true hb|replace hb:=of_decide_eq_false hb|replace hb:=zap hb|replace hb:=zaq hb|replace hb:=eq_of_beq hb|replace hb:=ne_of_beq_false hb|skip);all_goals(try(exfalso;omega)))
  |(apply zao;exact rfl;all_goals intro hb;all_goals(try dsimp only at hb);all_goals(try simp only[hb]);all_goals(first|replace hb:=of_decide_eq_true hb|replace hb:=of_decide_eq_false hb|replace hb:=zap hb|replace hb:=zaq hb|replace hb:=eq_of_beq hb|replace hb:=ne_of_beq_false hb|skip);all_goals(try(exfalso;omega))))
 all_goals first
  |(apply ret1;exact rfl;exact⟨by simp_all [zcd],dX⟩)
  |skip
theorem zgg (W:World)(p:zaH)(all:Int)(g:Nat):zaC Tryz.prog W 92 [.agg p.enc.toArray,.pointer (some ⟨g,0,none⟩)] [.blk g 73 [.int .u64 all]] (.bool (!zcd p all)):=by
 refine zaC.ofD (fun h' hs=> ?_)
 have m0:=hs _ mem0
 refine zau Tryz.func92 rfl rfl Tryz.results92 Tryz.ntmps92 rfl rfl ?_
 repeat' (first
  |apply zaA|apply zaa|apply zaz|apply zam|apply zan|apply zae|apply zay
  |(apply zaj hT;(iterate 4 exact rfl))|(apply zak;(iterate 3 exact rfl))|(apply zad;(iterate 2 exact rfl))
  |(apply zax hT;(iterate 4 exact rfl);(iterate 2 (first|omega|(dsimp only;omega))))
  |(apply zas [] [] hmix;decide+kernel)
  |(apply zaw (hs:=((zeb W p all).mono (by simp)));(iterate 7 exact rfl))
  |(apply zab;(iterate 5 exact rfl);first|(apply zat hT;exact rfl;exact rfl;(repeat(first|exact List.mem_cons_self|exact m0|apply List.mem_cons_of_mem));exact rfl;exact rfl)|(apply zar hT;exact rfl;exact rfl;(repeat(first|exact List.mem_cons_self|exact m0|apply List.mem_cons_of_mem));exact rfl))
  |(apply zav;(iterate 5 exact rfl);intro _)|(apply zac hT;(iterate 5 exact rfl);intro _)
  |(apply zaf;(iterate 2 exact rfl))|(apply zag;(iterate 2 exact rfl))
  |(apply zal;exact rfl;all_goals intro hb;all_goals(fail_if_success (change true=true at hb));all_goals(fail_if_success (change false=false at hb));all_goals(try dsimp only at hb);all_goals(try simp only[hb]);all_goals(first|replace hb:=of_decide_eq_true hb|replace hb:=of_decide_eq_false hb|replace hb:=zap hb|replace hb:=zaq hb|replace hb:=eq_of_beq hb|replace hb:=ne_of_beq_false hb|skip);all_goals(try(exfalso;omega)))
  |(apply zao;exact rfl;all_goals intro hb;all_goals(try dsimp only at hb);all_goals(try simp only[hb]);all_goals(first|replace hb:=of_decide_eq_true hb|replace hb:=of_decide_eq_false hb|replace hb:=zap hb|replace hb:=zaq hb|replace hb:=eq_of_beq hb|replace hb:=ne_of_beq_false hb|skip);all_goals(try(exfalso;omega))))
 all_goals(apply ret1;exact rfl;exact⟨rfl,dX⟩)
end Go.Proofs.YteocfhdocpeokaaGreat
set_option linter.unusedSimpArgs false
set_option linter.unusedVariables false
namespace Go.Proofs.YteocfhdocpeokaaGreat
open Go Go.Sl
attribute [local irreducible] AW ES EP Ld RetQ
set_option maxRecDepth 100000
theorem zfA {α:Type}{q:α→Bool}{l:List α}:decide (zbf (fun x=> !q x) l≥0)= !(l.all q):=by
 by_cases h:l.all q=true
 ·rw[h]
  have:zbf (fun x=> !q x) l<0:=zbZ.2 (fun x hx=>by simp[List.all_eq_true.1 h x hx])
  simp;omega
 ·have:¬zbf (fun x=> !q x) l<0:=fun hn=>h (List.all_eq_true.2 (fun x hx=>by simpa using zbZ.1 hn x hx))
  rw[decide_eq_true (by omega),Bool.eq_false_iff.2 h];rfl
def zc2 (AB:Option Addr)(nb cB:Nat)(AP:Option Addr)(np cP:Nat)(look beat:Int):Value:=.agg #[.slice AB nb cB,.slice AP np cP,.int .i64 look,.int .i64 beat]
theorem zfB (W:World)(h:List zah)(AB:Option Addr)(cB:Nat)(bs:List za1)(AP:Option Addr)(cP:Nat)(ps:List zaH)(look beat:Int)(hrB:zaE W h AB bs.length 7 (bs.flatMap za1.enc))(hrP:zaE W h AP ps.length 3 (ps.flatMap zaH.enc))(hb:bs.length≤1000000)(hp:ps.length≤1000000):
 zaC Tryz.prog W 56 [zc2 AB bs.length cB AP ps.length cP look beat] h (.bool (isR bs ps look beat)):=by
 refine zaC.ofD (fun h' hs=> ?_)
 have hcb:∀k,(∀c∈h',c∈k)→zaC Tryz.prog W 94 [.slice AB bs.length cB,.func (.func 89) #[] #[]] k (.bool (!bs.all zcS)):=fun k hk=>
  (zcv W k AB bs.length cB bs rfl ((hrB.mono hs).mono hk) 89 [] (fun x=> !zcS x) (fun x _=>(zgf W x).mono (by simp)) (by omega)).cast (by rw[zfA])
 have hcp:∀g k,(∀c∈h',c∈k)→zah.blk g 73 [.int .u64 (zbw ps ps.length)]∈k→zaC Tryz.prog W 95 [.slice AP ps.length cP,.func (.func 92) #[] #[.pointer (some ⟨g,0,none⟩)]] k (.bool (!ps.all (fun p=>zcd p (zbw ps ps.length)))):=fun g k hk hm=>
  (zcm W k AP ps.length cP ps rfl ((hrP.mono hs).mono hk) 92 [.pointer (some ⟨g,0,none⟩)] (fun x=> !zcd x (zbw ps ps.length)) (fun x _=>(zgg W x _ g).mono (by simpa using hm)) (by omega)).cast (by rw[zfA])
 have hdl:=fun k hk (hl:ps.length≤8)=>zea W k AP cP ps ((hrP.mono hs).mono hk) hl
 generalize ha:bs.all zcS=a at hcb
 generalize hbb:(ps.all fun p=>zcd p (zbw ps ps.length))=b at hcp
 refine zau Tryz.func56 rfl rfl Tryz.results56 Tryz.ntmps56 rfl rfl ?_
 repeat' (first
  |apply zaA|apply zaa|apply zaz|apply zam|apply zan|apply zae|apply zay
  |(apply zaj hT;(iterate 4 exact rfl))|(apply zak;(iterate 3 exact rfl))|(apply zad;(iterate 2 exact rfl))
  |(apply zax hT;(iterate 4 exact rfl);(iterate 2 (first|omega|(dsimp only;omega))))
  |(apply zas [] [] hmix;decide+kernel)
  |(apply zaw (hs:=((zfz W _ _ _).mono (by simp)));(iterate 7 exact rfl))
  |(apply zaw (hs:=(hdl _ (by(first|exact fun _ h=>h|exact fun _ h=>.tail _ h|exact fun _ h=>.tail _ (.tail _ h)|exact fun _ h=>.tail _ (.tail _ (.tail _ h))|exact fun _ h=>.tail _ (.tail _ (.tail _ (.tail _ h))))) (by have:=zcA (show inB (ps.length:Int) 1 8=true by simpa using ‹(!inB (ps.length:Int) 1 8)=false›);omega)));(iterate 7 exact rfl))
  |(apply zac hT;(iterate 5 exact rfl);first|((fail_if_success (have q:=g4));intro g4)|intro _)
  |(apply zaQ hT;(iterate 6 exact rfl);exact sX;(iterate 3 exact rfl);exact Nat.le_of_ble_eq_true rfl)
  |(apply zaw (hs:=(hcb _ (by(first|exact fun _ h=>h|exact fun _ h=>.tail _ h|exact fun _ h=>.tail _ (.tail _ h)|exact fun _ h=>.tail _ (.tail _ (.tail _ h))|exact fun _ h=>.tail _ (.tail _ (.tail _ (.tail _ h)))))));(iterate 7 exact rfl))
  |(apply zaw (hs:=(hcp g4 _ (by(first|exact fun _ h=>h|exact fun _ h=>.tail _ h|exact fun _ h=>.tail _ (.tail _ h)|exact fun _ h=>.tail _ (.tail _ (.tail _ h))|exact fun _ h=>.tail _ (.tail _ (.tail _ (.tail _ h))))) (by(repeat(first|exact List.mem_cons_self|apply List.mem_cons_of_mem)))));(iterate 7 exact rfl))
  |(apply zab;(iterate 5 exact rfl);first|(apply zat hT;exact rfl;exact rfl;(repeat(first|exact List.mem_cons_self|apply List.mem_cons_of_mem));exact rfl;exact rfl)|(apply zar hT;exact rfl;exact rfl;(repeat(first|exact List.mem_cons_self|apply List.mem_cons_of_mem));exact rfl))
  |(apply zav;(iterate 5 exact rfl);intro _)|(apply zac hT;(iterate 5 exact rfl);intro _)
  |(apply zaf;(iterate 2 exact rfl))|(apply zag;(iterate 2 exact rfl))
  |(apply zal;exact rfl;all_goals intro hb;all_goals(fail_if_success (change true=true at hb));all_goals(fail_if_success (change false=false at hb));all_goals(try dsimp only at hb);all_goals(try simp only[hb]);all_goals(first|replace hb:=of_decide_eq_true hb|replace hb:=of_decide_eq_false hb|replace hb:=zap hb|replace hb:=zaq hb|replace hb:=eq_of_beq hb|replace hb:=ne_of_beq_false hb|skip);all_goals(try(exfalso;omega)))
  |(apply zao;exact rfl;all_goals intro hb;all_goals(try dsimp only at hb);all_goals(try simp only[hb]);all_goals(first|replace hb:=of_decide_eq_true hb|replace hb:=of_decide_eq_false hb|replace hb:=zap hb|replace hb:=zaq hb|replace hb:=eq_of_beq hb|replace hb:=ne_of_beq_false hb|skip);all_goals(try(exfalso;omega))))
 all_goals first
  |(apply ret1;exact rfl;exact⟨by unfold isR;rw[ha,hbb];clear ha hbb hcb hcp hdl hrB hrP;simp_all,dX⟩)
  |skip
def zc3 (p:Nat)(A:Option Addr)(c:Nat)(U:Option Addr)(u:Nat)(ps:List zaH)(used:List Int)(F:List zah):List zah:=
 .blk p 139 [.slice A ps.length c,.slice U ps.length u]::.own A ps.length c 97 3 (ps.flatMap zaH.enc)::.own U ps.length u 2 1 (used.map (Value.int .i64))::F
theorem zgh (W:World)(h:List zah)(AB:Option Addr)(cB:Nat)(bs:List za1)(AP:Option Addr)(cP:Nat)(ps:List zaH)(look beat:Int)(hrB:zaE W h AB bs.length 7 (bs.flatMap za1.enc))(hrP:zaE W h AP ps.length 3 (ps.flatMap zaH.enc))(hb:bs.length≤1000000)(hp:ps.length≤1000000):
 zaI Tryz.prog W 45 [zc2 AB bs.length cB AP ps.length cP look beat] h
  (fun v h'=>(isR bs ps look beat=false∧v=.pointer none∧h'=h)∨(isR bs ps look beat=true∧∃p A c U u,v=.pointer (some ⟨p,0,none⟩)∧h'=zc3 p A c U u ps (List.replicate ps.length 0) h)):=by
 refine zaI.dropTo ?_
 have hI:=zfB W h AB cB bs AP cP ps look beat hrB hrP hb hp
 have hcl:=fun k (hk:∀c∈h,c∈k)=>zc1 W k AP ps.length cP (ps.flatMap zaH.enc) (hrP.mono hk) (by omega)
 refine zau Tryz.func45 rfl rfl Tryz.results45 Tryz.ntmps45 rfl rfl ?_
 cases hR:isR bs ps look beat
 ·rw[hR]at hI
  repeat' (first
   |apply zaA|apply zaa|apply zaz|apply zam|apply zan|apply zae|apply zay
   |(apply zaj hT;(iterate 4 exact rfl))|(apply zak;(iterate 3 exact rfl))|(apply zad;(iterate 2 exact rfl))
   |(apply zax hT;(iterate 4 exact rfl);(iterate 2 (first|omega|(dsimp only;omega))))
   |(apply zas [] [] hmix;decide+kernel)
   |(apply zaw (hs:=(hI.mono (by(first|exact fun _ h=>h|exact fun _ h=>.tail _ h|exact fun _ h=>.tail _ (.tail _ h)|exact fun _ h=>.tail _ (.tail _ (.tail _ h))|exact fun _ h=>.tail _ (.tail _ (.tail _ (.tail _ h)))))));(iterate 7 exact rfl))
   |(apply zab;(iterate 5 exact rfl);first|(apply zat hT;exact rfl;exact rfl;(repeat(first|exact List.mem_cons_self|apply List.mem_cons_of_mem));exact rfl;exact rfl)|(apply zar hT;exact rfl;exact rfl;(repeat(first|exact List.mem_cons_self|apply List.mem_cons_of_mem));exact rfl))
   |(apply zav;(iterate 5 exact rfl);intro _)|(apply zac hT;(iterate 5 exact rfl);intro _)
   |(apply zaf;(iterate 2 exact rfl))|(apply zag;(iterate 2 exact rfl))
   |(apply zal;exact rfl;all_goals intro hb;all_goals(fail_if_success (change true=true at hb));all_goals(fail_if_success (change false=false at hb));all_goals(try dsimp only at hb);all_goals(try simp only[hb]);all_goals(first|replace hb:=of_decide_eq_true hb|replace hb:=of_decide_eq_false hb|replace hb:=zap hb|replace hb:=zaq hb|replace hb:=eq_of_beq hb|replace hb:=ne_of_beq_false hb|skip);all_goals(try(exfalso;omega)))
   |(apply zao;exact rfl;all_goals intro hb;all_goals(try dsimp only at hb);all_goals(try simp only[hb]);all_goals(first|replace hb:=of_decide_eq_true hb|replace hb:=of_decide_eq_false hb|replace hb:=zap hb|replace hb:=zaq hb|replace hb:=eq_of_beq hb|replace hb:=ne_of_beq_false hb|skip);all_goals(try(exfalso;omega))))
  all_goals(apply ret1;exact rfl;exact⟨h,dX,.inl ⟨rfl,rfl,rfl⟩⟩)
 ·rw[hR]at hI
  repeat' (first
   |apply zaA|apply zaa|apply zaz|apply zam|apply zan|apply zae|apply zay
   |(apply zaj hT;(iterate 4 exact rfl))|(apply zak;(iterate 3 exact rfl))|(apply zad;(iterate 2 exact rfl))
   |(apply zax hT;(iterate 4 exact rfl);(iterate 2 (first|omega|(dsimp only;omega))))
   |(apply zbr [] [] (.step 0 <| .step 1 <| .step 3 <| .alt (.step 2 <| .step 4 <| .step 5 <| .step 6 <| .step 7 <| .step 8 <| .step 9 <| .nil) ((.step 4 <| .step 5 <| .alt (.step 2 <| .step 6 <| .step 7 <| .step 8 <| .step 9 <| .nil) ((.step 6 <| .step 2 <| .step 7 <| .step 8 <| .step 9 <| .nil))))) hmix;decide+kernel)|apply zb5|apply zb6|(apply zbA;exact rfl)
   |(apply zaw (hs:=(hI.mono (by(first|exact fun _ h=>h|exact fun _ h=>.tail _ h|exact fun _ h=>.tail _ (.tail _ h)|exact fun _ h=>.tail _ (.tail _ (.tail _ h))|exact fun _ h=>.tail _ (.tail _ (.tail _ (.tail _ h)))))));(iterate 7 exact rfl))
   |(apply zaN (hs:=(hcl _ (by(first|exact fun _ h=>h|exact fun _ h=>.tail _ h|exact fun _ h=>.tail _ (.tail _ h)|exact fun _ h=>.tail _ (.tail _ (.tail _ h))|exact fun _ h=>.tail _ (.tail _ (.tail _ (.tail _ h)))))));(iterate 7 exact rfl);rintro _ _ ⟨A1,c1,rfl,rfl⟩)
   |(apply zbj hT;(iterate 12 exact rfl);(iterate 1 exact rfl);omega;exact Nat.le_of_ble_eq_true rfl;intro g12)
   |(apply zaS hT (cs:=[.slice A1 ps.length c1,.slice (some ⟨g12,0,none⟩) ps.length ps.length]);(iterate 4 exact rfl))
   |(apply zav;(iterate 5 exact rfl);intro g14)
   |(apply zab;(iterate 5 exact rfl);first|(apply zat hT;exact rfl;exact rfl;(repeat(first|exact List.mem_cons_self|apply List.mem_cons_of_mem));exact rfl;exact rfl)|(apply zar hT;exact rfl;exact rfl;(repeat(first|exact List.mem_cons_self|apply List.mem_cons_of_mem));exact rfl))
   |(apply zav;(iterate 5 exact rfl);intro _)|(apply zac hT;(iterate 5 exact rfl);intro _)
   |(apply zaf;(iterate 2 exact rfl))|(apply zag;(iterate 2 exact rfl))
   |(apply zal;exact rfl;all_goals intro hb;all_goals(fail_if_success (change true=true at hb));all_goals(fail_if_success (change false=false at hb));all_goals(try dsimp only at hb);all_goals(try simp only[hb]);all_goals(first|replace hb:=of_decide_eq_true hb|replace hb:=of_decide_eq_false hb|replace hb:=zap hb|replace hb:=zaq hb|replace hb:=eq_of_beq hb|replace hb:=ne_of_beq_false hb|skip);all_goals(try(exfalso;omega)))
   |(apply zao;exact rfl;all_goals intro hb;all_goals(try dsimp only at hb);all_goals(try simp only[hb]);all_goals(first|replace hb:=of_decide_eq_true hb|replace hb:=of_decide_eq_false hb|replace hb:=zap hb|replace hb:=zaq hb|replace hb:=eq_of_beq hb|replace hb:=ne_of_beq_false hb|skip);all_goals(try(exfalso;omega))))
  all_goals first
   |(apply ret1;exact rfl;exact⟨zc3 g14 A1 c1 (some ⟨g12,0,none⟩) ps.length ps (List.replicate ps.length 0) h,by unfold zc3;rw[List.map_replicate];exact dX,.inr ⟨rfl,g14,A1,c1,some ⟨g12,0,none⟩,ps.length,rfl,rfl⟩⟩)
   |skip
end Go.Proofs.YteocfhdocpeokaaGreat
set_option linter.unusedSimpArgs false
set_option linter.unusedVariables false
namespace Go.Sl
open Go
theorem zgi {P:Program}{W:World}{N:Nat}{env:Env}{h:List zah}{kf:KF}{ops:Array Oper}{K:Env→List zah→Prop}{rest:List Oper}{b:Bool}{e f r:Int}{k:IntKind}{op:BinOp}{d:Tmp}{t yt:TypeId}{x y:Operand}{ty pos af g}(hg:zba ops env g=some b)(hb:b=true)(hd:Nat.blt d N=true)(hop:zgC op=true)(hx:zaR env x=some (.int k e))(hy:zaR env y=some (.int k f))(hv:bitI op k e f=r)
 (hK:ES P W N kf ops rest ((d,.int k r)::env) h K):ES P W N kf ops (⟨some d,.binOp op t x y yt,ty,pos,af,g⟩::rest) env h K:=zeq hg hb hd hop hx hy (by rw[hv];exact hK)
end Go.Sl
namespace Go.Proofs.YteocfhdocpeokaaGreat
open Go Go.Sl
attribute [local irreducible] AW ES EP Ld RetQ
set_option maxRecDepth 100000
theorem zfd (W:World)(h:List zah):zaI Tryz.prog W 48 [] h (fun v h'=>∃p,v=.pointer (some ⟨p,0,none⟩)∧h'=.blk p 142 [.slice none 0 0]::h):=by
 refine zau Tryz.func48 rfl rfl Tryz.results48 Tryz.ntmps48 rfl rfl ?_
 repeat' (first
  |apply zaA|apply zaa|apply zaz|apply zam|apply zan|apply zae|apply zay
  |(apply zaj hT;(iterate 4 exact rfl))|(apply zak;(iterate 3 exact rfl))|(apply zad;(iterate 2 exact rfl))
  |(apply zax hT;(iterate 4 exact rfl);(iterate 2 (first|omega|(dsimp only;omega))))
  |(apply zas [] [] hmix;decide+kernel)
  |(apply zaS hT (cs:=[.slice none 0 0]);(iterate 4 exact rfl))
  |(apply zab;(iterate 5 exact rfl);first|(apply zat hT;exact rfl;exact rfl;(repeat(first|exact List.mem_cons_self|apply List.mem_cons_of_mem));exact rfl;exact rfl)|(apply zar hT;exact rfl;exact rfl;(repeat(first|exact List.mem_cons_self|apply List.mem_cons_of_mem));exact rfl))
  |(apply zav;(iterate 5 exact rfl);intro _)|(apply zac hT;(iterate 5 exact rfl);intro _)
  |(apply zaf;(iterate 2 exact rfl))|(apply zag;(iterate 2 exact rfl))
  |(apply zal;exact rfl;all_goals intro hb;all_goals(fail_if_success (change true=true at hb));all_goals(fail_if_success (change false=false at hb));all_goals(try dsimp only at hb);all_goals(try simp only[hb]);all_goals(first|replace hb:=of_decide_eq_true hb|replace hb:=of_decide_eq_false hb|replace hb:=zap hb|replace hb:=zaq hb|replace hb:=eq_of_beq hb|replace hb:=ne_of_beq_false hb|skip);all_goals(try(exfalso;omega)))
  |(apply zao;exact rfl;all_goals intro hb;all_goals(try dsimp only at hb);all_goals(try simp only[hb]);all_goals(first|replace hb:=of_decide_eq_true hb|replace hb:=of_decide_eq_false hb|replace hb:=zap hb|replace hb:=zaq hb|replace hb:=eq_of_beq hb|replace hb:=ne_of_beq_false hb|skip);all_goals(try(exfalso;omega))))
 all_goals(apply ret1;exact rfl;exact⟨_,rfl,rfl⟩)
theorem zgj (W:World)(h:List zah):zaI Tryz.prog W 49 [] h (fun v h'=>∃p,v=.pointer (some ⟨p,0,none⟩)∧h'=.blk p 144 [.slice none 0 0]::h):=by
 refine zau Tryz.func49 rfl rfl Tryz.results49 Tryz.ntmps49 rfl rfl ?_
 repeat' (first
  |apply zaA|apply zaa|apply zaz|apply zam|apply zan|apply zae|apply zay
  |(apply zaj hT;(iterate 4 exact rfl))|(apply zak;(iterate 3 exact rfl))|(apply zad;(iterate 2 exact rfl))
  |(apply zax hT;(iterate 4 exact rfl);(iterate 2 (first|omega|(dsimp only;omega))))
  |(apply zas [] [] hmix;decide+kernel)
  |(apply zaS hT (cs:=[.slice none 0 0]);(iterate 4 exact rfl))
  |(apply zab;(iterate 5 exact rfl);first|(apply zat hT;exact rfl;exact rfl;(repeat(first|exact List.mem_cons_self|apply List.mem_cons_of_mem));exact rfl;exact rfl)|(apply zar hT;exact rfl;exact rfl;(repeat(first|exact List.mem_cons_self|apply List.mem_cons_of_mem));exact rfl))
  |(apply zav;(iterate 5 exact rfl);intro _)|(apply zac hT;(iterate 5 exact rfl);intro _)
  |(apply zaf;(iterate 2 exact rfl))|(apply zag;(iterate 2 exact rfl))
  |(apply zal;exact rfl;all_goals intro hb;all_goals(fail_if_success (change true=true at hb));all_goals(fail_if_success (change false=false at hb));all_goals(try dsimp only at hb);all_goals(try simp only[hb]);all_goals(first|replace hb:=of_decide_eq_true hb|replace hb:=of_decide_eq_false hb|replace hb:=zap hb|replace hb:=zaq hb|replace hb:=eq_of_beq hb|replace hb:=ne_of_beq_false hb|skip);all_goals(try(exfalso;omega)))
  |(apply zao;exact rfl;all_goals intro hb;all_goals(try dsimp only at hb);all_goals(try simp only[hb]);all_goals(first|replace hb:=of_decide_eq_true hb|replace hb:=of_decide_eq_false hb|replace hb:=zap hb|replace hb:=zaq hb|replace hb:=eq_of_beq hb|replace hb:=ne_of_beq_false hb|skip);all_goals(try(exfalso;omega))))
 all_goals(apply ret1;exact rfl;exact⟨_,rfl,rfl⟩)
theorem zgk (W:World)(h:List zah):zaI Tryz.prog W 50 [] h (fun v h'=>∃p,v=.pointer (some ⟨p,0,none⟩)∧h'=.blk p 147 [.slice none 0 0]::h):=by
 refine zau Tryz.func50 rfl rfl Tryz.results50 Tryz.ntmps50 rfl rfl ?_
 repeat' (first
  |apply zaA|apply zaa|apply zaz|apply zam|apply zan|apply zae|apply zay
  |(apply zaj hT;(iterate 4 exact rfl))|(apply zak;(iterate 3 exact rfl))|(apply zad;(iterate 2 exact rfl))
  |(apply zax hT;(iterate 4 exact rfl);(iterate 2 (first|omega|(dsimp only;omega))))
  |(apply zas [] [] hmix;decide+kernel)
  |(apply zaS hT (cs:=[.slice none 0 0]);(iterate 4 exact rfl))
  |(apply zab;(iterate 5 exact rfl);first|(apply zat hT;exact rfl;exact rfl;(repeat(first|exact List.mem_cons_self|apply List.mem_cons_of_mem));exact rfl;exact rfl)|(apply zar hT;exact rfl;exact rfl;(repeat(first|exact List.mem_cons_self|apply List.mem_cons_of_mem));exact rfl))
  |(apply zav;(iterate 5 exact rfl);intro _)|(apply zac hT;(iterate 5 exact rfl);intro _)
  |(apply zaf;(iterate 2 exact rfl))|(apply zag;(iterate 2 exact rfl))
  |(apply zal;exact rfl;all_goals intro hb;all_goals(fail_if_success (change true=true at hb));all_goals(fail_if_success (change false=false at hb));all_goals(try dsimp only at hb);all_goals(try simp only[hb]);all_goals(first|replace hb:=of_decide_eq_true hb|replace hb:=of_decide_eq_false hb|replace hb:=zap hb|replace hb:=zaq hb|replace hb:=eq_of_beq hb|replace hb:=ne_of_beq_false hb|skip);all_goals(try(exfalso;omega)))
  |(apply zao;exact rfl;all_goals intro hb;all_goals(try dsimp only at hb);all_goals(try simp only[hb]);all_goals(first|replace hb:=of_decide_eq_true hb|replace hb:=of_decide_eq_false hb|replace hb:=zap hb|replace hb:=zaq hb|replace hb:=eq_of_beq hb|replace hb:=ne_of_beq_false hb|skip);all_goals(try(exfalso;omega))))
 all_goals(apply ret1;exact rfl;exact⟨_,rfl,rfl⟩)
theorem zfC (W:World)(h:List zah):zaI Tryz.prog W 51 [] h (fun v h'=>∃p,v=.pointer (some ⟨p,0,none⟩)∧h'=.blk p 149 [.slice none 0 0,.int .u64 0]::h):=by
 refine zau Tryz.func51 rfl rfl Tryz.results51 Tryz.ntmps51 rfl rfl ?_
 repeat' (first
  |apply zaA|apply zaa|apply zaz|apply zam|apply zan|apply zae|apply zay
  |(apply zaj hT;(iterate 4 exact rfl))|(apply zak;(iterate 3 exact rfl))|(apply zad;(iterate 2 exact rfl))
  |(apply zax hT;(iterate 4 exact rfl);(iterate 2 (first|omega|(dsimp only;omega))))
  |(apply zas [] [] hmix;decide+kernel)
  |(apply zaS hT (cs:=[.slice none 0 0,.int .u64 0]);(iterate 4 exact rfl))
  |(apply zab;(iterate 5 exact rfl);first|(apply zat hT;exact rfl;exact rfl;(repeat(first|exact List.mem_cons_self|apply List.mem_cons_of_mem));exact rfl;exact rfl)|(apply zar hT;exact rfl;exact rfl;(repeat(first|exact List.mem_cons_self|apply List.mem_cons_of_mem));exact rfl))
  |(apply zav;(iterate 5 exact rfl);intro _)|(apply zac hT;(iterate 5 exact rfl);intro _)
  |(apply zaf;(iterate 2 exact rfl))|(apply zag;(iterate 2 exact rfl))
  |(apply zal;exact rfl;all_goals intro hb;all_goals(fail_if_success (change true=true at hb));all_goals(fail_if_success (change false=false at hb));all_goals(try dsimp only at hb);all_goals(try simp only[hb]);all_goals(first|replace hb:=of_decide_eq_true hb|replace hb:=of_decide_eq_false hb|replace hb:=zap hb|replace hb:=zaq hb|replace hb:=eq_of_beq hb|replace hb:=ne_of_beq_false hb|skip);all_goals(try(exfalso;omega)))
  |(apply zao;exact rfl;all_goals intro hb;all_goals(try dsimp only at hb);all_goals(try simp only[hb]);all_goals(first|replace hb:=of_decide_eq_true hb|replace hb:=of_decide_eq_false hb|replace hb:=zap hb|replace hb:=zaq hb|replace hb:=eq_of_beq hb|replace hb:=ne_of_beq_false hb|skip);all_goals(try(exfalso;omega))))
 all_goals(apply ret1;exact rfl;exact⟨_,rfl,rfl⟩)
theorem zfD (W:World)(h:List zah):zaI Tryz.prog W 52 [] h (fun v h'=>∃p,v=.pointer (some ⟨p,0,none⟩)∧h'=.blk p 152 [.slice none 0 0]::h):=by
 refine zau Tryz.func52 rfl rfl Tryz.results52 Tryz.ntmps52 rfl rfl ?_
 repeat' (first
  |apply zaA|apply zaa|apply zaz|apply zam|apply zan|apply zae|apply zay
  |(apply zaj hT;(iterate 4 exact rfl))|(apply zak;(iterate 3 exact rfl))|(apply zad;(iterate 2 exact rfl))
  |(apply zax hT;(iterate 4 exact rfl);(iterate 2 (first|omega|(dsimp only;omega))))
  |(apply zas [] [] hmix;decide+kernel)
  |(apply zaS hT (cs:=[.slice none 0 0]);(iterate 4 exact rfl))
  |(apply zab;(iterate 5 exact rfl);first|(apply zat hT;exact rfl;exact rfl;(repeat(first|exact List.mem_cons_self|apply List.mem_cons_of_mem));exact rfl;exact rfl)|(apply zar hT;exact rfl;exact rfl;(repeat(first|exact List.mem_cons_self|apply List.mem_cons_of_mem));exact rfl))
  |(apply zav;(iterate 5 exact rfl);intro _)|(apply zac hT;(iterate 5 exact rfl);intro _)
  |(apply zaf;(iterate 2 exact rfl))|(apply zag;(iterate 2 exact rfl))
  |(apply zal;exact rfl;all_goals intro hb;all_goals(fail_if_success (change true=true at hb));all_goals(fail_if_success (change false=false at hb));all_goals(try dsimp only at hb);all_goals(try simp only[hb]);all_goals(first|replace hb:=of_decide_eq_true hb|replace hb:=of_decide_eq_false hb|replace hb:=zap hb|replace hb:=zaq hb|replace hb:=eq_of_beq hb|replace hb:=ne_of_beq_false hb|skip);all_goals(try(exfalso;omega)))
  |(apply zao;exact rfl;all_goals intro hb;all_goals(try dsimp only at hb);all_goals(try simp only[hb]);all_goals(first|replace hb:=of_decide_eq_true hb|replace hb:=of_decide_eq_false hb|replace hb:=zap hb|replace hb:=zaq hb|replace hb:=eq_of_beq hb|replace hb:=ne_of_beq_false hb|skip);all_goals(try(exfalso;omega))))
 all_goals(apply ret1;exact rfl;exact⟨_,rfl,rfl⟩)
def kb1 :za1:=⟨5,10,10,100,5,500,false⟩
def kb2 :za1:=⟨1,1,1,1000,1,1000,false⟩
def kps :List zaH:=[⟨1,12,0⟩,⟨1,4,0⟩,⟨2,0,100000⟩,⟨2,0,3000⟩,⟨3,0,0⟩]
theorem zgW (W:World)(h:List zah):zaI Tryz.prog W 17 [.int .i64 0] h
 (fun v h'=>∃g1 g2,v=zc2 (some ⟨g1,0,none⟩) 2 2 (some ⟨g2,0,none⟩) 5 5 3 50∧h'=.own (some ⟨g1,0,none⟩) 2 2 95 7 ([kb1,kb2].flatMap za1.enc)::.own (some ⟨g2,0,none⟩) 5 5 97 3 (kps.flatMap zaH.enc)::h):=by
 refine zaI.dropTo ?_
 refine zau Tryz.func17 rfl rfl Tryz.results17 Tryz.ntmps17 rfl rfl ?_
 repeat' (first
  |apply zaA|apply zaa|apply zaz|apply zam|apply zan|apply zae|apply zay
  |(apply zaj hT;(iterate 4 exact rfl))|(apply zak;(iterate 3 exact rfl))|(apply zad;(iterate 2 exact rfl))
  |(apply zax hT;(iterate 4 exact rfl);(iterate 2 (first|omega|(dsimp only;omega))))
  |(apply zas [] [] hmix;decide+kernel)
  |(apply zaS hT (cs:=za1.enc kb1);(iterate 4 exact rfl))
  |(apply zaS hT (cs:=za1.enc kb2);(iterate 4 exact rfl))
  |(apply zaS hT (cs:=zaH.enc ⟨1,12,0⟩);(iterate 4 exact rfl))
  |(apply zaS hT (cs:=zaH.enc ⟨1,4,0⟩);(iterate 4 exact rfl))
  |(apply zaS hT (cs:=zaH.enc ⟨2,0,100000⟩);(iterate 4 exact rfl))
  |(apply zaS hT (cs:=zaH.enc ⟨2,0,3000⟩);(iterate 4 exact rfl))
  |(apply zaS hT (cs:=zaH.enc ⟨3,0,0⟩);(iterate 4 exact rfl))
  |(apply zaP hT;(iterate 12 exact rfl);first|((fail_if_success (have q:=g10));intro g10)|intro g16)
  |(apply zaS hT (cs:=(zc2 (some ⟨g10,0,none⟩) 2 2 (some ⟨g16,0,none⟩) 5 5 3 50).cells.toList);(iterate 4 exact rfl))
  |(apply zgi;(iterate 6 exact rfl);exact(by decide+kernel:bitI .and .i64 0 3=0))
  |(apply zaQ hT;(iterate 6 exact rfl);exact sX;(iterate 3 exact rfl);exact Nat.le_of_ble_eq_true rfl)
  |(apply zab;(iterate 5 exact rfl);first|(apply zat hT;exact rfl;exact rfl;(repeat(first|exact List.mem_cons_self|apply List.mem_cons_of_mem));exact rfl;exact rfl)|(apply zar hT;exact rfl;exact rfl;(repeat(first|exact List.mem_cons_self|apply List.mem_cons_of_mem));exact rfl))
  |(apply zav;(iterate 5 exact rfl);intro _)|(apply zac hT;(iterate 5 exact rfl);intro _)
  |(apply zaf;(iterate 2 exact rfl))|(apply zag;(iterate 2 exact rfl))
  |(apply zal;exact rfl;all_goals intro hb;all_goals(fail_if_success (change true=true at hb));all_goals(fail_if_success (change false=false at hb));all_goals(try dsimp only at hb);all_goals(try simp only[hb]);all_goals(first|replace hb:=of_decide_eq_true hb|replace hb:=of_decide_eq_false hb|replace hb:=zap hb|replace hb:=zaq hb|replace hb:=eq_of_beq hb|replace hb:=ne_of_beq_false hb|skip);all_goals(try(exfalso;omega)))
  |(apply zao;exact rfl;all_goals intro hb;all_goals(try dsimp only at hb);all_goals(try simp only[hb]);all_goals(first|replace hb:=of_decide_eq_true hb|replace hb:=of_decide_eq_false hb|replace hb:=zap hb|replace hb:=zaq hb|replace hb:=eq_of_beq hb|replace hb:=ne_of_beq_false hb|skip);all_goals(try(exfalso;omega))))
 all_goals first
  |(apply zhp;exact rfl;(apply zar hT;exact rfl;exact rfl;(repeat(first|exact List.mem_cons_self|apply List.mem_cons_of_mem));exact rfl);exact⟨_,(by show zaL _ (.own (some ⟨g10,0,none⟩) 2 2 95 7 ([kb1,kb2].flatMap za1.enc)::.own (some ⟨g16,0,none⟩) 5 5 97 3 (kps.flatMap zaH.enc)::h);exact dX),g10,g16,rfl,rfl⟩)
  |skip
end Go.Proofs.YteocfhdocpeokaaGreat
set_option linter.unusedSimpArgs false
set_option linter.unusedVariables false
namespace Go.Proofs.YteocfhdocpeokaaGreat
open Go Go.Sl
structure Dk where
 bonds:List za1
 parties:List zaH
 look:Int
 beat:Int
 now:Int
 books:List (List zaF)
 used:List Int
 quotes:List zdS
 asks:List AskR
 due:List Due
 cash:List Int
 pos:List (List Int)
 trades:List zaG
 head:Int
 order:Int
 seq:Int
 quote:Int
 ask:Int
def zc4 (bs:List za1)(ps:List zaH)(look beat:Int):Dk:=
 ⟨bs,ps,look,beat,0,List.replicate bs.length [],List.replicate ps.length 0,[],[],[],List.replicate ps.length 0,List.replicate ps.length (List.replicate bs.length 0),[],0,0,0,0,0⟩
/-- where a slice lies: its first cell, its room -/
structure Sp where
 A:Option Addr
 c:Nat
def Sp.sl (s:Sp)(n:Nat):Value:=.slice s.A n s.c
def Sp.own (s:Sp)(n:Nat)(t:TypeId)(k:Nat)(cs:List Value):zah:=.own s.A n s.c t k cs
/-- a book: where it lies, its orders -/
structure BAd where
 p:Nat
 s:Sp
 l:List zaF
def BAd.ptr (b:BAd):Value:=.pointer (some ⟨b.p,0,none⟩)
def BAd.ck (b:BAd):List zah:=[.blk b.p 152 [b.s.sl b.l.length],b.s.own b.l.length 168 6 (b.l.flatMap zaF.enc)]
/-- where a desk's parts lie -/
structure DAd where
 d:Nat
 f:Nat
 q:Nat
 a:Nat
 u:Nat
 p:Nat
 b:Nat
 bonds:Sp
 parties:Sp
 books:Sp
 fparties:Sp
 used:Sp
 quotes:Sp
 asks:Sp
 due:Sp
 cash:Sp
 pos:Sp
 trades:Sp
def ptrV (n:Nat):Value:=.pointer (some ⟨n,0,none⟩)
def zbU (x:DAd)(s:Dk):List Value:=[x.bonds.sl s.bonds.length,x.parties.sl s.parties.length,.int .i64 s.look,.int .i64 s.beat,.int .i64 s.now,x.books.sl s.books.length,ptrV x.f,ptrV x.q,ptrV x.a,ptrV x.u,ptrV x.p,ptrV x.b,
 .int .i64 s.order,.int .i64 s.seq,.int .i64 s.quote,.int .i64 s.ask]
def zaU (x:DAd)(s:Dk)(bks:List BAd)(rows:List PRow)(F:List zah):List zah:=
 .blk x.d 112 (zbU x s)::x.bonds.own s.bonds.length 95 7 (s.bonds.flatMap za1.enc)::x.parties.own s.parties.length 97 3 (s.parties.flatMap zaH.enc)
  ::x.books.own s.books.length 113 1 (bks.map BAd.ptr)
  ::.blk x.f 139 [x.fparties.sl s.parties.length,x.used.sl s.parties.length]::x.fparties.own s.parties.length 97 3 (s.parties.flatMap zaH.enc)::x.used.own s.parties.length 2 1 (s.used.map (Value.int .i64))
  ::.blk x.q 142 [x.quotes.sl s.quotes.length]::x.quotes.own s.quotes.length 174 6 (s.quotes.flatMap zdS.enc)
  ::.blk x.a 144 [x.asks.sl s.asks.length]::x.asks.own s.asks.length 87 10 (s.asks.flatMap AskR.enc)
  ::.blk x.u 147 [x.due.sl s.due.length]::x.due.own s.due.length 160 3 (s.due.flatMap Due.enc)
  ::.blk x.p 69 [x.pos.sl rows.length,x.cash.sl s.cash.length]::x.cash.own s.cash.length 2 1 (s.cash.map (Value.int .i64))::x.pos.own rows.length 66 1 (rows.map PRow.hd)
  ::.blk x.b 149 [x.trades.sl s.trades.length,.int .u64 s.head]::x.trades.own s.trades.length 30 8 (s.trades.flatMap zaG.enc)
  ::(bks.flatMap BAd.ck++(rows.map PRow.ck++F))
/-- the memory fits the state -/
def zdJ (s:Dk)(bks:List BAd)(rows:List PRow):Prop:=bks.map BAd.l=s.books∧rows.map PRow.l=s.pos
end Go.Proofs.YteocfhdocpeokaaGreat
set_option linter.unusedSimpArgs false
set_option linter.unusedVariables false
namespace Go.Proofs.YteocfhdocpeokaaGreat
open Go Go.Sl
attribute [local irreducible] AW ES EP Ld RetQ
set_option maxRecDepth 100000
theorem zfE (W:World)(h:List zah):zaI Tryz.prog W 52 [] h (fun v h'=>∃p,v=.pointer (some ⟨p,0,none⟩)∧h'=.blk p 152 [.slice none 0 0]::.own none 0 0 168 6 []::h):=by
 refine zaI.conv (zfD W h) ?_
 rintro v h' ⟨p,rfl,rfl⟩ w hw
 exact⟨_,(hw.own_nil 168 6).perm sel1,p,rfl,rfl⟩
/-- a new desk that has so many books yet -/
def zfF (bs:List za1)(ps:List zaH)(look beat:Int)(k:Nat):Dk:={zc4 bs ps look beat with books:=List.replicate k []}
theorem zfG {bs:List za1}{ps:List zaH}{look beat:Int}(h:isR bs ps look beat=true):(1≤bs.length∧bs.length≤4)∧(1≤ps.length∧ps.length≤8)∧(1≤look∧look≤1000):=by
 unfold isR at h
 simp only[Bool.and_eq_true]at h
 have h1:=zcA h.1.1
 have h2:=zcA h.1.2
 have h3:=zcA h.2.1.2
 omega
theorem zgl (W:World)(h:List zah)(AB:Option Addr)(cB:Nat)(bs:List za1)(AP:Option Addr)(cP:Nat)(ps:List zaH)(look beat:Int)(hrB:zaE W h AB bs.length 7 (bs.flatMap za1.enc))(hrP:zaE W h AP ps.length 3 (ps.flatMap zaH.enc))(hb:bs.length≤1000000)(hp:ps.length≤1000000):
 zaI Tryz.prog W 18 [zc2 AB bs.length cB AP ps.length cP look beat] h
  (fun v h'=>(isR bs ps look beat=false∧v=.pointer none∧h'=h)∨(isR bs ps look beat=true∧∃x bks rows,v=ptrV x.d∧h'=zaU x (zc4 bs ps look beat) bks rows h∧zdJ (zc4 bs ps look beat) bks rows)):=by
 refine zaI.dropTo ?_
 have hF:=fun k (hk:∀c∈h,c∈k)=>zgh W k AB cB bs AP cP ps look beat (hrB.mono hk) (hrP.mono hk) hb hp
 have hcb:=fun k (hk:∀c∈h,c∈k)=>zfc W k AB bs.length cB (bs.flatMap za1.enc) (hrB.mono hk) (by omega)
 have hcl:=fun k (hk:∀c∈h,c∈k)=>zc1 W k AP ps.length cP (ps.flatMap zaH.enc) (hrP.mono hk) (by omega)
 refine zau Tryz.func18 rfl rfl Tryz.results18 Tryz.ntmps18 rfl rfl ?_
 cases hR:isR bs ps look beat
 ·have hF0:=fun k hk=>(hF k hk).mono (R':=fun v h'=>v=.pointer none∧h'=k) (fun v h' hh=>by
   rcases hh with ⟨_,a,b⟩|⟨a,_⟩
   ·exact⟨a,b⟩
   ·rw[hR]at a;cases a)
  repeat' (first
   |apply zaA|apply zaa|apply zaz|apply zam|apply zan|apply zae|apply zay
   |(apply zaj hT;(iterate 4 exact rfl))|(apply zak;(iterate 3 exact rfl))|(apply zad;(iterate 2 exact rfl))
   |(apply zax hT;(iterate 4 exact rfl);(iterate 2 (first|omega|(dsimp only;omega))))
   |(apply zas [] [] hmix;decide+kernel)
   |(apply zaN (hs:=(hF0 _ (by(intro c hc;(repeat(first|exact hc|apply List.mem_cons_of_mem|apply List.mem_append_right))))));(iterate 7 exact rfl);rintro _ _ ⟨rfl,rfl⟩)
   |(apply zab;(iterate 5 exact rfl);first|(apply zat hT;exact rfl;exact rfl;(repeat(first|exact List.mem_cons_self|apply List.mem_cons_of_mem|apply List.mem_append_right));exact rfl;exact rfl)|(apply zar hT;exact rfl;exact rfl;(repeat(first|exact List.mem_cons_self|apply List.mem_cons_of_mem|apply List.mem_append_right));exact rfl))
   |(apply zav;(iterate 5 exact rfl);intro _)|(apply zac hT;(iterate 5 exact rfl);intro _)
   |(apply zaf;(iterate 2 exact rfl))|(apply zag;(iterate 2 exact rfl))
   |(apply zal;exact rfl;all_goals intro hb;all_goals(fail_if_success (change true=true at hb));all_goals(fail_if_success (change false=false at hb));all_goals(try dsimp only at hb);all_goals(try simp only[hb]);all_goals(first|replace hb:=of_decide_eq_true hb|replace hb:=of_decide_eq_false hb|replace hb:=zap hb|replace hb:=zaq hb|replace hb:=eq_of_beq hb|replace hb:=ne_of_beq_false hb|skip);all_goals(try(exfalso;omega)))
   |(apply zao;exact rfl;all_goals intro hb;all_goals(try dsimp only at hb);all_goals(try simp only[hb]);all_goals(first|replace hb:=of_decide_eq_true hb|replace hb:=of_decide_eq_false hb|replace hb:=zap hb|replace hb:=zaq hb|replace hb:=eq_of_beq hb|replace hb:=ne_of_beq_false hb|skip);all_goals(try(exfalso;omega))))
  all_goals(apply ret1;exact rfl;exact⟨h,dX,.inl ⟨rfl,rfl,rfl⟩⟩)
 ·obtain⟨⟨b1,b2⟩,⟨p1,p2⟩,_⟩:=zfG hR
  have hF1:=fun k hk=>(hF k hk).mono (R':=fun v h'=>∃p A c U u,v=.pointer (some ⟨p,0,none⟩)∧h'=zc3 p A c U u ps (List.replicate ps.length 0) k) (fun v h' hh=>by
   rcases hh with ⟨a,_⟩|⟨_,a⟩
   ·rw[hR]at a;cases a
   ·exact a)
  have hps:zbv ps.length bs.length=true:=by unfold zbv;simp;omega
  have hP1:=fun k=>(zeo W k ps.length bs.length).mono (R':=fun v h'=>∃p AC cC AR cR rs,v=.pointer (some ⟨p,0,none⟩)∧h'=zaM p AC cC AR cR (List.replicate ps.length 0) rs k∧rs.map PRow.l=List.replicate ps.length (List.replicate bs.length 0)) (fun v h' hh=>by
   rcases hh with ⟨a,_⟩|⟨_,a⟩
   ·rw[hps]at a;cases a
   ·exact a)
  repeat' (first
   |apply zaA|apply zaa|apply zaz|apply zam|apply zan|apply zae|apply zay
   |(apply zaj hT;(iterate 4 exact rfl))|(apply zak;(iterate 3 exact rfl))|(apply zad;(iterate 2 exact rfl))
   |(apply zax hT;(iterate 4 exact rfl);(iterate 2 (first|omega|(dsimp only;omega))))
   |(apply zbr [] [48,49,50,6,51] (.step 0 <| .step 1 <| .step 5 <| .step 6 <| .step 7 <| .step 8 <| .step 9 <| .step 10 <| .step 2 <| .step 3 <| .step 4 <| .step 11 <| .step 12 <| .step 13 <| .step 14 <| .step 15 <| .nil) hmix;decide+kernel)|apply zb5|apply zb6|(apply zbA;exact rfl)
   |(apply zbr [] [] (.step 0 <| .step 1 <| .step 3 <| .alt (.step 2 <| .step 4 <| .step 6 <| .step 5 <| .step 7 <| .step 8 <| .step 9 <| .nil) ((.step 4 <| .step 2 <| .step 6 <| .step 5 <| .step 7 <| .step 8 <| .step 9 <| .nil))) hmix;decide+kernel)|apply zb5|apply zb6|(apply zbA;exact rfl)
   |(apply zaN (hs:=(hF1 _ (by(intro c hc;(repeat(first|exact hc|apply List.mem_cons_of_mem|apply List.mem_append_right))))));(iterate 7 exact rfl);rintro _ _ ⟨pf,Af,cf,Uf,uf,rfl,rfl⟩)
   |(apply zaN (hs:=(hcb _ (by(intro c hc;(repeat(first|exact hc|apply List.mem_cons_of_mem|apply List.mem_append_right))))));(iterate 7 exact rfl);rintro _ _ ⟨A1,c1,rfl,rfl⟩)
   |(apply zaN (hs:=(hcl _ (by(intro c hc;(repeat(first|exact hc|apply List.mem_cons_of_mem|apply List.mem_append_right))))));(iterate 7 exact rfl);rintro _ _ ⟨A2,c2,rfl,rfl⟩)
   |(apply zbY (hs:=(zfd W _));(iterate 7 exact rfl);(rintro _ _ ⟨pq,rfl,rfl⟩;refine⟨[_],rfl,?_⟩))
   |(apply zbY (hs:=(zgj W _));(iterate 7 exact rfl);(rintro _ _ ⟨pa,rfl,rfl⟩;refine⟨[_],rfl,?_⟩))
   |(apply zbY (hs:=(zgk W _));(iterate 7 exact rfl);(rintro _ _ ⟨pu,rfl,rfl⟩;refine⟨[_],rfl,?_⟩))
   |(apply zbY (hs:=(zfC W _));(iterate 7 exact rfl);(rintro _ _ ⟨pb,rfl,rfl⟩;refine⟨[_],rfl,?_⟩))
   |(apply zbY (hs:=(hP1 _));(iterate 7 exact rfl);(rintro _ _ ⟨pp,AC,cC,AR,cR,rows,rfl,rfl,hrows⟩;refine⟨_::_::_::rows.map PRow.ck,rfl,?_⟩))
   |(apply zaQ hT;(iterate 6 exact rfl);exact sX;(iterate 3 exact rfl);exact Nat.le_of_ble_eq_true rfl)
   |(apply zaS hT (cs:=[.slice A1 bs.length c1,.slice A2 ps.length c2,.int .i64 look,.int .i64 beat,.int .i64 0,.slice none 0 0,ptrV pf,ptrV pq,ptrV pa,ptrV pu,ptrV pp,ptrV pb,.int .i64 0,.int .i64 0,.int .i64 0,.int .i64 0]);(iterate 4 exact rfl))
   |(apply zav;(iterate 5 exact rfl);intro gd)
   |(apply zab;(iterate 5 exact rfl);first|(apply zat hT;exact rfl;exact rfl;(repeat(first|exact List.mem_cons_self|apply List.mem_cons_of_mem|apply List.mem_append_right));exact rfl;exact rfl)|(apply zar hT;exact rfl;exact rfl;(repeat(first|exact List.mem_cons_self|apply List.mem_cons_of_mem|apply List.mem_append_right));exact rfl))
   |(apply zav;(iterate 5 exact rfl);intro _)|(apply zac hT;(iterate 5 exact rfl);intro _)
   |(apply zaf;(iterate 2 exact rfl))|(apply zag;(iterate 2 exact rfl))
   |(apply zal;exact rfl;all_goals intro hb;all_goals(fail_if_success (change true=true at hb));all_goals(fail_if_success (change false=false at hb));all_goals(try dsimp only at hb);all_goals(try simp only[hb]);all_goals(first|replace hb:=of_decide_eq_true hb|replace hb:=of_decide_eq_false hb|replace hb:=zap hb|replace hb:=zaq hb|replace hb:=eq_of_beq hb|replace hb:=ne_of_beq_false hb|skip);all_goals(try(exfalso;omega)))
   |(apply zao;exact rfl;all_goals intro hb;all_goals(try dsimp only at hb);all_goals(try simp only[hb]);all_goals(first|replace hb:=of_decide_eq_true hb|replace hb:=of_decide_eq_false hb|replace hb:=zap hb|replace hb:=zaq hb|replace hb:=eq_of_beq hb|replace hb:=ne_of_beq_false hb|skip);all_goals(try(exfalso;omega))))
  all_goals try(exfalso;omega)
  all_goals
   refine zbB (fun w hw=>⟨_,((((hw.own_nil 113 1).own_nil 174 6).own_nil 87 10).own_nil 160 3).own_nil 30 8,?_⟩)
   refine za2 (α:=Nat×Sp×List BAd) (E:=fun x=>[(4,ptrV gd),(34,.int .i64 bs.length),(35,.int .i64 x.1)])
    (H:=fun x=>zaU ⟨gd,pf,pq,pa,pu,pp,pb,⟨A1,c1⟩,⟨A2,c2⟩,x.2.1,⟨Af,cf⟩,⟨Uf,uf⟩,⟨none,0⟩,⟨none,0⟩,⟨none,0⟩,⟨AC,cC⟩,⟨AR,cR⟩,⟨none,0⟩⟩ (zfF bs ps look beat x.1) x.2.2 rows h) (μ:=fun x=>bs.length - x.1)
    (S:=fun x=>x.1≤bs.length∧x.2.2.map BAd.l=List.replicate x.1 []) (0,⟨none,0⟩,[]) ⟨Nat.zero_le _,rfl⟩ ⟨rfl,rfl,rfl,trivial⟩ ?_ ?_
   ·simp only[zaU,zbU,zfF,zc4,Sp.sl,Sp.own,zc3,zaM,List.length_replicate,List.map_replicate,List.length_nil,List.flatMap_nil,List.map_nil,List.replicate_zero,List.nil_append]
    exact dX
   ·rintro⟨k,sp,bks⟩ ⟨hk,hbk⟩
    dsimp only at hk hbk ⊢
    have hlen:bks.length=k:=by have:=congrArg List.length hbk;simpa using this
    by_cases hlt:k<bs.length
    ·have hd1:decide ((k:Int)<(bs.length:Int))=true:=by simp;omega
     simp only[zaU,zbU,zfF,zc4,Sp.sl,Sp.own,List.length_replicate,List.map_replicate,List.length_nil,List.flatMap_nil,List.map_nil]
     repeat' (first
      |apply zaA|apply zaa|apply zaz|apply zam|apply zan|apply zae|apply zay
      |(apply zaj hT;(iterate 4 exact rfl))|(apply zak;(iterate 3 exact rfl))|(apply zad;(iterate 2 exact rfl))
      |(apply zax hT;(iterate 4 exact rfl);(iterate 2 (first|omega|(dsimp only;omega))))
      |(apply zbr [] [] (.step 0 <| .step 1 <| .step 2 <| .step 3 <| .alt (.step 4 <| .step 5 <| .step 6 <| .step 7 <| .step 8 <| .step 9 <| .step 10 <| .nil) ((.step 5 <| .step 4 <| .step 6 <| .step 7 <| .step 8 <| .step 9 <| .step 10 <| .nil))) hmix;decide+kernel)|apply zb5|apply zb6|(apply zbA;exact rfl)
      |(apply zaN (hs:=(zfE W _));(iterate 7 exact rfl);rintro _ _ ⟨pk,rfl,rfl⟩)
      |(apply zaP hT;(iterate 12 exact rfl);intro g43)
      |(apply zbe hT;(iterate 10 exact rfl);exact sX;exact zaE.own mem0 rfl (List.all_eq_true.1 rfl);omega;(show(_:Nat)*8≤_;omega);intro A' c')
      |(apply zaQ hT;(iterate 6 exact rfl);exact sX;(iterate 3 exact rfl);exact Nat.le_of_ble_eq_true rfl)
      |(apply zab;(iterate 5 exact rfl);first|(apply zat hT;exact rfl;exact rfl;(repeat(first|exact List.mem_cons_self|apply List.mem_cons_of_mem|apply List.mem_append_right));exact rfl;exact rfl)|(apply zar hT;exact rfl;exact rfl;(repeat(first|exact List.mem_cons_self|apply List.mem_cons_of_mem|apply List.mem_append_right));exact rfl))
      |(apply zav;(iterate 5 exact rfl);intro _)|(apply zac hT;(iterate 5 exact rfl);intro _)
      |(apply zaf;(iterate 2 exact rfl))|(apply zag;(iterate 2 exact rfl))
      |(apply zal;exact rfl;all_goals intro hb;all_goals(fail_if_success (change true=true at hb));all_goals(fail_if_success (change false=false at hb));all_goals(try dsimp only at hb);all_goals(try simp only[hb]);all_goals(first|replace hb:=of_decide_eq_true hb|replace hb:=of_decide_eq_false hb|replace hb:=zap hb|replace hb:=zaq hb|replace hb:=eq_of_beq hb|replace hb:=ne_of_beq_false hb|skip);all_goals(try(exfalso;omega)))
      |(apply zao;exact rfl;all_goals intro hb;all_goals(try dsimp only at hb);all_goals(try simp only[hb]);all_goals(first|replace hb:=of_decide_eq_true hb|replace hb:=of_decide_eq_false hb|replace hb:=zap hb|replace hb:=zaq hb|replace hb:=eq_of_beq hb|replace hb:=ne_of_beq_false hb|skip);all_goals(try(exfalso;omega))))
     all_goals try(exfalso;omega)
     all_goals
      refine zaO (k+1,⟨A',c'⟩,bks++[⟨pk,⟨none,0⟩,[]⟩]) (by dsimp only;omega) ⟨by dsimp only;omega,by dsimp only;rw[List.map_append,hbk,List.replicate_succ'];rfl⟩ ⟨rfl,rfl,rfl,trivial⟩ ?_
      dsimp only
      rw[List.map_append,List.flatMap_append,List.append_assoc]
      simp only[List.flatMap_cons,List.flatMap_nil,BAd.ck,Sp.sl,Sp.own,List.cons_append,List.nil_append,List.append_nil,List.length_nil]
      iterate 18 (apply za7;· exact sX)
      refine zeN ?_
      apply za7;· exact sX
      refine zeN ?_
      apply za7;· exact sX
      exact dX
    ·obtain rfl:k=bs.length:=by omega
     have hd1:decide ((bs.length:Int)<(bs.length:Int))=false:=by simp
     repeat' (first
      |apply zaA|apply zaa|apply zaz|apply zam|apply zan|apply zae|apply zay
      |(apply zaj hT;(iterate 4 exact rfl))|(apply zak;(iterate 3 exact rfl))|(apply zad;(iterate 2 exact rfl))
      |(apply zax hT;(iterate 4 exact rfl);(iterate 2 (first|omega|(dsimp only;omega))))
      |(apply zas [] [] hmix;decide+kernel)
      |(apply zab;(iterate 5 exact rfl);first|(apply zat hT;exact rfl;exact rfl;(repeat(first|exact List.mem_cons_self|apply List.mem_cons_of_mem|apply List.mem_append_right));exact rfl;exact rfl)|(apply zar hT;exact rfl;exact rfl;(repeat(first|exact List.mem_cons_self|apply List.mem_cons_of_mem|apply List.mem_append_right));exact rfl))
      |(apply zav;(iterate 5 exact rfl);intro _)|(apply zac hT;(iterate 5 exact rfl);intro _)
      |(apply zaf;(iterate 2 exact rfl))|(apply zag;(iterate 2 exact rfl))
      |(apply zal;exact rfl;all_goals intro hb;all_goals(fail_if_success (change true=true at hb));all_goals(fail_if_success (change false=false at hb));all_goals(try dsimp only at hb);all_goals(try simp only[hb]);all_goals(first|replace hb:=of_decide_eq_true hb|replace hb:=of_decide_eq_false hb|replace hb:=zap hb|replace hb:=zaq hb|replace hb:=eq_of_beq hb|replace hb:=ne_of_beq_false hb|skip);all_goals(try(exfalso;omega)))
      |(apply zao;exact rfl;all_goals intro hb;all_goals(try dsimp only at hb);all_goals(try simp only[hb]);all_goals(first|replace hb:=of_decide_eq_true hb|replace hb:=of_decide_eq_false hb|replace hb:=zap hb|replace hb:=zaq hb|replace hb:=eq_of_beq hb|replace hb:=ne_of_beq_false hb|skip);all_goals(try(exfalso;omega))))
     all_goals first
      |(exfalso;omega)
      |(apply ret1;exact rfl;exact⟨_,zbi,.inr ⟨by trivial,⟨gd,pf,pq,pa,pu,pp,pb,⟨A1,c1⟩,⟨A2,c2⟩,sp,⟨Af,cf⟩,⟨Uf,uf⟩,⟨none,0⟩,⟨none,0⟩,⟨none,0⟩,⟨AC,cC⟩,⟨AR,cR⟩,⟨none,0⟩⟩,bks,rows,rfl,rfl,hbk,hrows⟩⟩)
      |skip
end Go.Proofs.YteocfhdocpeokaaGreat
set_option linter.unusedSimpArgs false
set_option linter.unusedVariables false
namespace Go.Proofs.YteocfhdocpeokaaGreat
open Go Go.Sl
attribute [local irreducible] AW ES Ld RetQ
set_option maxRecDepth 100000
theorem zev (W:World)(h:List zah)(A:Option Addr)(n c:Nat)(cs:List Value)(hr:zaE W h A n 8 cs)(hb:n*64≤140737488355328):
 zaI Tryz.prog W 103 [.slice A n c] h (fun v h'=>∃A' c',v=.slice A' n c'∧h'=.own A' n c' 30 8 cs::h):=by
 refine zaI.drop ?_
 refine zau Tryz.func103 rfl rfl Tryz.results103 Tryz.ntmps103 rfl rfl ?_
 refine zaK hr rfl (fun hA=> ?_)
 cases A with
 |none=>
  have hn:n=0:=by
   rcases Nat.eq_zero_or_pos n with h|h
   ·exact h
   ·have:=hA h;simp at this
  subst hn
  have hcs:cs=[]:=List.eq_nil_of_length_eq_zero (by simpa using hr.len)
  subst hcs
  refine zbB (fun w hw=>⟨_,hw.own_nil 30 8,?_⟩)
  repeat' (first
   |apply zaA|apply zaa|apply zaz|apply zam|apply zan|apply zae|apply zay
   |(apply zaj hT;(iterate 4 exact rfl))|(apply zak;(iterate 3 exact rfl))|(apply zad;(iterate 2 exact rfl))
   |(apply zax hT;(iterate 4 exact rfl);(iterate 2 (first|omega|(dsimp only;omega))))
   |(apply zas [] [] hmix;decide+kernel)
   |(apply zab;(iterate 5 exact rfl);first|(apply zat hT;exact rfl;exact rfl;(repeat(first|exact List.mem_cons_self|apply List.mem_cons_of_mem));exact rfl;exact rfl)|(apply zar hT;exact rfl;exact rfl;(repeat(first|exact List.mem_cons_self|apply List.mem_cons_of_mem));exact rfl))
   |(apply zav;(iterate 5 exact rfl);intro _)|(apply zac hT;(iterate 5 exact rfl);intro _)
   |(apply zaf;(iterate 2 exact rfl))|(apply zag;(iterate 2 exact rfl))
   |(apply zal;exact rfl;all_goals intro hb;all_goals(fail_if_success (change true=true at hb));all_goals(fail_if_success (change false=false at hb));all_goals(try dsimp only at hb);all_goals(try simp only[hb]);all_goals(first|replace hb:=of_decide_eq_true hb|replace hb:=of_decide_eq_false hb|replace hb:=zap hb|replace hb:=zaq hb|replace hb:=eq_of_beq hb|replace hb:=ne_of_beq_false hb|skip);all_goals(try(exfalso;omega)))
   |(apply zao;exact rfl;all_goals intro hb;all_goals(try dsimp only at hb);all_goals(try simp only[hb]);all_goals(first|replace hb:=of_decide_eq_true hb|replace hb:=of_decide_eq_false hb|replace hb:=zap hb|replace hb:=zaq hb|replace hb:=eq_of_beq hb|replace hb:=ne_of_beq_false hb|skip);all_goals(try(exfalso;omega))))
  apply ret1;exact rfl
  exact⟨[],_,plr _,none,0,rfl,rfl⟩
 |some ad=>
  repeat' (first
   |apply zaA|apply zaa|apply zaz|apply zam|apply zan|apply zae|apply zay
   |(apply zaj hT;(iterate 4 exact rfl))|(apply zak;(iterate 3 exact rfl))|(apply zad;(iterate 2 exact rfl))
   |(apply zax hT;(iterate 4 exact rfl);(iterate 2 (first|omega|(dsimp only;omega))))
   |(apply zas [] [] hmix;decide+kernel)
   |(apply zaP hT;(iterate 12 exact rfl);intro g1)
   |(apply zbe hT;(iterate 10 exact rfl);exact sel0;exact hr.cons;omega;(show(0+n)*64≤_;omega);intro A' c')
   |(apply zab;(iterate 5 exact rfl);first|(apply zat hT;exact rfl;exact rfl;(repeat(first|exact List.mem_cons_self|apply List.mem_cons_of_mem));exact rfl;exact rfl)|(apply zar hT;exact rfl;exact rfl;(repeat(first|exact List.mem_cons_self|apply List.mem_cons_of_mem));exact rfl))
   |(apply zav;(iterate 5 exact rfl);intro _)|(apply zac hT;(iterate 5 exact rfl);intro _)
   |(apply zaf;(iterate 2 exact rfl))|(apply zag;(iterate 2 exact rfl))
   |(apply zal;exact rfl;all_goals intro hb;all_goals(fail_if_success (change true=true at hb));all_goals(fail_if_success (change false=false at hb));all_goals(try dsimp only at hb);all_goals(try simp only[hb]);all_goals(first|replace hb:=of_decide_eq_true hb|replace hb:=of_decide_eq_false hb|replace hb:=zap hb|replace hb:=zaq hb|replace hb:=eq_of_beq hb|replace hb:=ne_of_beq_false hb|skip);all_goals(try(exfalso;omega)))
   |(apply zao;exact rfl;all_goals intro hb;all_goals(try dsimp only at hb);all_goals(try simp only[hb]);all_goals(first|replace hb:=of_decide_eq_true hb|replace hb:=of_decide_eq_false hb|replace hb:=zap hb|replace hb:=zaq hb|replace hb:=eq_of_beq hb|replace hb:=ne_of_beq_false hb|skip);all_goals(try(exfalso;omega))))
  apply ret1;exact rfl
  refine⟨[],_,plr _,A',c',by rw[Nat.zero_add],?_⟩
  show zah.own A' (0+n) c' 30 8 ([]++cs)::h=_
  simp
end Go.Proofs.YteocfhdocpeokaaGreat
set_option linter.unusedSimpArgs false
set_option linter.unusedVariables false
namespace Go.Proofs.YteocfhdocpeokaaGreat
open Go Go.Sl
attribute [local irreducible] AW ES Ld RetQ
set_option maxRecDepth 100000
theorem zfH (W:World)(h:List zah)(A:Option Addr)(n c:Nat)(cs:List Value)(hr:zaE W h A n 10 cs)(hb:n*80≤140737488355328):
 zaI Tryz.prog W 102 [.slice A n c] h (fun v h'=>∃A' c',v=.slice A' n c'∧h'=.own A' n c' 87 10 cs::h):=by
 refine zaI.drop ?_
 refine zau Tryz.func102 rfl rfl Tryz.results102 Tryz.ntmps102 rfl rfl ?_
 refine zaK hr rfl (fun hA=> ?_)
 cases A with
 |none=>
  have hn:n=0:=by
   rcases Nat.eq_zero_or_pos n with h|h
   ·exact h
   ·have:=hA h;simp at this
  subst hn
  have hcs:cs=[]:=List.eq_nil_of_length_eq_zero (by simpa using hr.len)
  subst hcs
  refine zbB (fun w hw=>⟨_,hw.own_nil 87 10,?_⟩)
  repeat' (first
   |apply zaA|apply zaa|apply zaz|apply zam|apply zan|apply zae|apply zay
   |(apply zaj hT;(iterate 4 exact rfl))|(apply zak;(iterate 3 exact rfl))|(apply zad;(iterate 2 exact rfl))
   |(apply zax hT;(iterate 4 exact rfl);(iterate 2 omega))
   |(apply zas [] [] hmix;decide+kernel)
   |(apply zab;(iterate 5 exact rfl);first|exact zat hT rfl rfl mem0 rfl rfl|exact zar hT rfl rfl mem0 rfl)
   |(apply zab;(iterate 5 exact rfl);first|exact zat hT rfl rfl mem1 rfl rfl|exact zar hT rfl rfl mem1 rfl)
   |(apply zab;(iterate 5 exact rfl);first|exact zat hT rfl rfl mem2 rfl rfl|exact zar hT rfl rfl mem2 rfl)
   |(apply zav;(iterate 5 exact rfl);intro _)|(apply zac hT;(iterate 5 exact rfl);intro _)
   |(apply zaf;(iterate 2 exact rfl))|(apply zag;(iterate 2 exact rfl))
   |(apply zal;exact rfl;all_goals intro hb;all_goals(try simp only[hb]);all_goals(first|replace hb:=of_decide_eq_true hb|replace hb:=of_decide_eq_false hb|replace hb:=zap hb|replace hb:=zaq hb|skip);all_goals(try(exfalso;omega)))
   |(apply zao;exact rfl;all_goals intro hb;all_goals(try simp only[hb]);all_goals(first|replace hb:=of_decide_eq_true hb|replace hb:=of_decide_eq_false hb|replace hb:=zap hb|replace hb:=zaq hb|skip);all_goals(try(exfalso;omega))))
  apply ret1;exact rfl
  exact⟨[],_,plr _,none,0,rfl,rfl⟩
 |some ad=>
  repeat' (first
   |apply zaA|apply zaa|apply zaz|apply zam|apply zan|apply zae|apply zay
   |(apply zaj hT;(iterate 4 exact rfl))|(apply zak;(iterate 3 exact rfl))|(apply zad;(iterate 2 exact rfl))
   |(apply zax hT;(iterate 4 exact rfl);(iterate 2 omega))
   |(apply zas [] [] hmix;decide+kernel)
   |(apply zaP hT;(iterate 12 exact rfl);intro g1)
   |(apply zbe hT;(iterate 10 exact rfl);exact sel0;exact hr.cons;omega;(show(0+n)*80≤_;omega);intro A' c')
   |(apply zab;(iterate 5 exact rfl);first|exact zat hT rfl rfl mem0 rfl rfl|exact zar hT rfl rfl mem0 rfl)
   |(apply zab;(iterate 5 exact rfl);first|exact zat hT rfl rfl mem1 rfl rfl|exact zar hT rfl rfl mem1 rfl)
   |(apply zab;(iterate 5 exact rfl);first|exact zat hT rfl rfl mem2 rfl rfl|exact zar hT rfl rfl mem2 rfl)
   |(apply zav;(iterate 5 exact rfl);intro _)|(apply zac hT;(iterate 5 exact rfl);intro _)
   |(apply zaf;(iterate 2 exact rfl))|(apply zag;(iterate 2 exact rfl))
   |(apply zal;exact rfl;all_goals intro hb;all_goals(try simp only[hb]);all_goals(first|replace hb:=of_decide_eq_true hb|replace hb:=of_decide_eq_false hb|replace hb:=zap hb|replace hb:=zaq hb|skip);all_goals(try(exfalso;omega)))
   |(apply zao;exact rfl;all_goals intro hb;all_goals(try simp only[hb]);all_goals(first|replace hb:=of_decide_eq_true hb|replace hb:=of_decide_eq_false hb|replace hb:=zap hb|replace hb:=zaq hb|skip);all_goals(try(exfalso;omega))))
  apply ret1;exact rfl
  refine⟨[],_,plr _,A',c',by rw[Nat.zero_add],?_⟩
  show zah.own A' (0+n) c' 87 10 ([]++cs)::h=_
  simp
end Go.Proofs.YteocfhdocpeokaaGreat
set_option linter.unusedSimpArgs false
set_option linter.unusedVariables false
namespace Go.Proofs.YteocfhdocpeokaaGreat
open Go Go.Sl
attribute [local irreducible] AW ES Ld RetQ
set_option maxRecDepth 100000
theorem zdK (W:World)(h:List zah)(A:Option Addr)(n c:Nat)(l:List AskR)(hn:l.length=n)(hr:zaE W h A n 10 (l.flatMap AskR.enc))(fn:FuncId)(cap:List Value)(p:AskR→Bool)
 (hf:∀x∈l,zaC Tryz.prog W fn ([.agg x.enc.toArray]++cap) h (.bool (p x)))(hb:n≤4611686018427387903):
 zaC Tryz.prog W 100 [.slice A n c,.func (.func fn) #[] cap.toArray] h (.int .i64 (zbf p l)):=by
 refine zaC.of (fun h' hs=> ?_)
 have hr':=hr.mono hs
 refine zau Tryz.func100 rfl rfl Tryz.results100 Tryz.ntmps100 rfl rfl ?_
 refine zaK hr' rfl (fun hA=> ?_)
 repeat' (first
  |apply zaA|apply zaa|apply zaz|apply zam|apply zan|apply zae|apply zay
  |(apply zaj hT;(iterate 4 exact rfl))|(apply zak;(iterate 3 exact rfl))|(apply zad;(iterate 2 exact rfl))
  |(apply zax hT;(iterate 4 exact rfl);(iterate 2 (first|omega|(dsimp only;omega))))
  |(apply zas [] [] hmix;decide+kernel)
  |(apply zab;(iterate 5 exact rfl);first|(apply zat hT;exact rfl;exact rfl;(repeat(first|exact List.mem_cons_self|apply List.mem_cons_of_mem|apply List.mem_append_right));exact rfl;exact rfl)|(apply zar hT;exact rfl;exact rfl;(repeat(first|exact List.mem_cons_self|apply List.mem_cons_of_mem|apply List.mem_append_right));exact rfl))
  |(apply zav;(iterate 5 exact rfl);intro _)|(apply zac hT;(iterate 5 exact rfl);intro _)
  |(apply zaf;(iterate 2 exact rfl))|(apply zag;(iterate 2 exact rfl))
  |(apply zal;exact rfl;all_goals intro hb;all_goals(fail_if_success (change true=true at hb));all_goals(fail_if_success (change false=false at hb));all_goals(try dsimp only at hb);all_goals(try simp only[hb]);all_goals(first|replace hb:=of_decide_eq_true hb|replace hb:=of_decide_eq_false hb|replace hb:=zap hb|replace hb:=zaq hb|replace hb:=eq_of_beq hb|replace hb:=ne_of_beq_false hb|skip);all_goals(try(exfalso;omega)))
  |(apply zao;exact rfl;all_goals intro hb;all_goals(try dsimp only at hb);all_goals(try simp only[hb]);all_goals(first|replace hb:=of_decide_eq_true hb|replace hb:=of_decide_eq_false hb|replace hb:=zap hb|replace hb:=zaq hb|replace hb:=eq_of_beq hb|replace hb:=ne_of_beq_false hb|skip);all_goals(try(exfalso;omega))))
 refine zcc (α:=Nat) (E:=fun k=>[(0,.slice A n c),(1,.func (.func fn) #[] cap.toArray),(7,.int .i64 n),(8,.int .i64 k)]) (H:=fun _=>h') (μ:=fun k=>n - k)
  (S:=fun k=>k≤n∧∀(j:Nat) y,j<k→l[j]? =some y→p y=false) 0 (J:=[]) ⟨Nat.zero_le _,fun j y hj=>by omega⟩ ⟨rfl,rfl,rfl,rfl,trivial⟩ (plr _) ?_
 rintro k ⟨hk1,hk2⟩
 by_cases hlt:k<n
 ·obtain⟨x,hx⟩:∃x,l[k]? =some x:=⟨l[k]'(by omega),gge (by omega)⟩
  have hx2:l[(k:Int).toNat]? =some x:=by simpa using hx
  have hfx:=(hf x (mog hx)).mono hs
  have hA':=hA (by omega)
  repeat' (first
   |apply zaA|apply zaa|apply zaz|apply zam|apply zan|apply zae|apply zay
   |(apply zaj hT;(iterate 4 exact rfl))|(apply zak;(iterate 3 exact rfl))|(apply zad;(iterate 2 exact rfl))
   |(apply zax hT;(iterate 4 exact rfl);(iterate 2 (first|omega|(dsimp only;omega))))
   |(apply zas [] [] hmix;decide+kernel)
   |(apply za4 hT;(iterate 8 exact rfl);(iterate 2 omega);exact hA')
   |(apply zab;(iterate 5 exact rfl);exact zbd hT rfl rfl hr' AskR.enc_len rfl hx2 rfl)
   |(apply zaw (hs:=hfx);(iterate 7 exact rfl))
   |(apply zab;(iterate 5 exact rfl);first|(apply zat hT;exact rfl;exact rfl;(repeat(first|exact List.mem_cons_self|apply List.mem_cons_of_mem|apply List.mem_append_right));exact rfl;exact rfl)|(apply zar hT;exact rfl;exact rfl;(repeat(first|exact List.mem_cons_self|apply List.mem_cons_of_mem|apply List.mem_append_right));exact rfl))
   |(apply zav;(iterate 5 exact rfl);intro _)|(apply zac hT;(iterate 5 exact rfl);intro _)
   |(apply zaf;(iterate 2 exact rfl))|(apply zag;(iterate 2 exact rfl))
   |(apply zal;exact rfl;all_goals intro hb;all_goals(fail_if_success (change true=true at hb));all_goals(fail_if_success (change false=false at hb));all_goals(try dsimp only at hb);all_goals(try simp only[hb]);all_goals(first|replace hb:=of_decide_eq_true hb|replace hb:=of_decide_eq_false hb|replace hb:=zap hb|replace hb:=zaq hb|replace hb:=eq_of_beq hb|replace hb:=ne_of_beq_false hb|skip);all_goals(try(exfalso;omega)))
   |(apply zao;exact rfl;all_goals intro hb;all_goals(try dsimp only at hb);all_goals(try simp only[hb]);all_goals(first|replace hb:=of_decide_eq_true hb|replace hb:=of_decide_eq_false hb|replace hb:=zap hb|replace hb:=zaq hb|replace hb:=eq_of_beq hb|replace hb:=ne_of_beq_false hb|skip);all_goals(try(exfalso;omega))))
  ·exact zdD (J:=[]) rfl (by rw[zcF hx hb hk2]) (plr _)
  ·have hpx:=hb
   refine⟨k+1,[],by dsimp only;omega,⟨by omega,fun j y hj hy=> ?_⟩,⟨rfl,rfl,rfl,rfl,trivial⟩,plr _⟩
   by_cases hjk:j<k
   ·exact hk2 j y hjk hy
   ·obtain rfl:j=k:=by omega
    rw[hx]at hy;cases hy;exact hpx
 ·repeat' (first
   |apply zaA|apply zaa|apply zaz|apply zam|apply zan|apply zae|apply zay
   |(apply zaj hT;(iterate 4 exact rfl))|(apply zak;(iterate 3 exact rfl))|(apply zad;(iterate 2 exact rfl))
   |(apply zax hT;(iterate 4 exact rfl);(iterate 2 (first|omega|(dsimp only;omega))))
   |(apply zas [] [] hmix;decide+kernel)
   |(apply zab;(iterate 5 exact rfl);first|(apply zat hT;exact rfl;exact rfl;(repeat(first|exact List.mem_cons_self|apply List.mem_cons_of_mem|apply List.mem_append_right));exact rfl;exact rfl)|(apply zar hT;exact rfl;exact rfl;(repeat(first|exact List.mem_cons_self|apply List.mem_cons_of_mem|apply List.mem_append_right));exact rfl))
   |(apply zav;(iterate 5 exact rfl);intro _)|(apply zac hT;(iterate 5 exact rfl);intro _)
   |(apply zaf;(iterate 2 exact rfl))|(apply zag;(iterate 2 exact rfl))
   |(apply zal;exact rfl;all_goals intro hb;all_goals(fail_if_success (change true=true at hb));all_goals(fail_if_success (change false=false at hb));all_goals(try dsimp only at hb);all_goals(try simp only[hb]);all_goals(first|replace hb:=of_decide_eq_true hb|replace hb:=of_decide_eq_false hb|replace hb:=zap hb|replace hb:=zaq hb|replace hb:=eq_of_beq hb|replace hb:=ne_of_beq_false hb|skip);all_goals(try(exfalso;omega)))
   |(apply zao;exact rfl;all_goals intro hb;all_goals(try dsimp only at hb);all_goals(try simp only[hb]);all_goals(first|replace hb:=of_decide_eq_true hb|replace hb:=of_decide_eq_false hb|replace hb:=zap hb|replace hb:=zaq hb|replace hb:=eq_of_beq hb|replace hb:=ne_of_beq_false hb|skip);all_goals(try(exfalso;omega))))
  exact zdD (J:=[]) rfl (by rw[zbE (fun(j:Nat) y hj=>hk2 j y (by have:=(gsi.1 hj).1;omega) hj)]) (plr _)
theorem zcB (W:World)(h:List zah)(A:Option Addr)(n c:Nat)(l:List AskR)(hn:l.length=n)(hr:zaE W h A n 10 (l.flatMap AskR.enc))(fn:FuncId)(cap:List Value)(p:AskR→Bool)
 (hf:∀x∈l,zaC Tryz.prog W fn ([.agg x.enc.toArray]++cap) h (.bool (p x)))(hb:n≤4611686018427387903):
 zaC Tryz.prog W 62 [.slice A n c,.func (.func fn) #[] cap.toArray] h (.bool (decide (zbf p l≥0))):=by
 refine zaC.of (fun h' hs=> ?_)
 refine zau Tryz.func62 rfl rfl Tryz.results62 Tryz.ntmps62 rfl rfl ?_
 repeat' (first
  |apply zaA|apply zaa|apply zaz|apply zam|apply zan|apply zae|apply zay
  |(apply zaj hT;(iterate 4 exact rfl))|(apply zak;(iterate 3 exact rfl))|(apply zad;(iterate 2 exact rfl))
  |(apply zax hT;(iterate 4 exact rfl);(iterate 2 (first|omega|(dsimp only;omega))))
  |(apply zas [] [] hmix;decide+kernel)
  |(apply zaw (hs:=((zdK W h A n c l hn hr fn cap p hf hb).mono hs));(iterate 7 exact rfl))
  |(apply zab;(iterate 5 exact rfl);first|(apply zat hT;exact rfl;exact rfl;(repeat(first|exact List.mem_cons_self|apply List.mem_cons_of_mem|apply List.mem_append_right));exact rfl;exact rfl)|(apply zar hT;exact rfl;exact rfl;(repeat(first|exact List.mem_cons_self|apply List.mem_cons_of_mem|apply List.mem_append_right));exact rfl))
  |(apply zav;(iterate 5 exact rfl);intro _)|(apply zac hT;(iterate 5 exact rfl);intro _)
  |(apply zaf;(iterate 2 exact rfl))|(apply zag;(iterate 2 exact rfl))
  |(apply zal;exact rfl;all_goals intro hb;all_goals(fail_if_success (change true=true at hb));all_goals(fail_if_success (change false=false at hb));all_goals(try dsimp only at hb);all_goals(try simp only[hb]);all_goals(first|replace hb:=of_decide_eq_true hb|replace hb:=of_decide_eq_false hb|replace hb:=zap hb|replace hb:=zaq hb|replace hb:=eq_of_beq hb|replace hb:=ne_of_beq_false hb|skip);all_goals(try(exfalso;omega)))
  |(apply zao;exact rfl;all_goals intro hb;all_goals(try dsimp only at hb);all_goals(try simp only[hb]);all_goals(first|replace hb:=of_decide_eq_true hb|replace hb:=of_decide_eq_false hb|replace hb:=zap hb|replace hb:=zaq hb|replace hb:=eq_of_beq hb|replace hb:=ne_of_beq_false hb|skip);all_goals(try(exfalso;omega))))
 exact zdD (J:=[]) rfl rfl (plr _)
end Go.Proofs.YteocfhdocpeokaaGreat
set_option linter.unusedSimpArgs false
set_option linter.unusedVariables false
namespace Go.Proofs.YteocfhdocpeokaaGreat
open Go Go.Sl
attribute [local irreducible] AW ES EP Ld RetQ
set_option maxRecDepth 100000
theorem zgm (W:World)(x:DAd)(s:Dk):zaC Tryz.prog W 61 [ptrV x.d] [.blk x.d 112 (zbU x s)] (.int .i64 s.now):=by
 refine zaC.ofD (fun h' hs=> ?_)
 have m0:=hs _ mem0
 refine zau Tryz.func61 rfl rfl Tryz.results61 Tryz.ntmps61 rfl rfl ?_
 repeat' (first
  |apply zaA|apply zaa|apply zaz|apply zam|apply zan|apply zae|apply zay
  |(apply zaj hT;(iterate 4 exact rfl))|(apply zak;(iterate 3 exact rfl))|(apply zad;(iterate 2 exact rfl))
  |(apply zax hT;(iterate 4 exact rfl);(iterate 2 (first|omega|(dsimp only;omega))))
  |(apply zas [] [] hmix;decide+kernel)
  |(apply zab;(iterate 5 exact rfl);first|(apply zat hT;exact rfl;exact rfl;(repeat(first|exact List.mem_cons_self|exact m0|apply List.mem_cons_of_mem|apply List.mem_append_right));exact rfl;exact rfl)|(apply zar hT;exact rfl;exact rfl;(repeat(first|exact List.mem_cons_self|exact m0|apply List.mem_cons_of_mem|apply List.mem_append_right));exact rfl))
  |(apply zav;(iterate 5 exact rfl);intro _)|(apply zac hT;(iterate 5 exact rfl);intro _)
  |(apply zaf;(iterate 2 exact rfl))|(apply zag;(iterate 2 exact rfl))
  |(apply zal;exact rfl;all_goals intro hb;all_goals(fail_if_success (change true=true at hb));all_goals(fail_if_success (change false=false at hb));all_goals(try dsimp only at hb);all_goals(try simp only[hb]);all_goals(first|replace hb:=of_decide_eq_true hb|replace hb:=of_decide_eq_false hb|replace hb:=zap hb|replace hb:=zaq hb|replace hb:=eq_of_beq hb|replace hb:=ne_of_beq_false hb|skip);all_goals(try(exfalso;omega)))
  |(apply zao;exact rfl;all_goals intro hb;all_goals(try dsimp only at hb);all_goals(try simp only[hb]);all_goals(first|replace hb:=of_decide_eq_true hb|replace hb:=of_decide_eq_false hb|replace hb:=zap hb|replace hb:=zaq hb|replace hb:=eq_of_beq hb|replace hb:=ne_of_beq_false hb|skip);all_goals(try(exfalso;omega))))
 all_goals first
  |(apply ret1;exact rfl;exact⟨rfl,dX⟩)
  |skip
theorem zgn (W:World)(x:DAd)(s:Dk):zaC Tryz.prog W 60 [ptrV x.d] [.blk x.d 112 (zbU x s)] (ptrV x.p):=by
 refine zaC.ofD (fun h' hs=> ?_)
 have m0:=hs _ mem0
 refine zau Tryz.func60 rfl rfl Tryz.results60 Tryz.ntmps60 rfl rfl ?_
 repeat' (first
  |apply zaA|apply zaa|apply zaz|apply zam|apply zan|apply zae|apply zay
  |(apply zaj hT;(iterate 4 exact rfl))|(apply zak;(iterate 3 exact rfl))|(apply zad;(iterate 2 exact rfl))
  |(apply zax hT;(iterate 4 exact rfl);(iterate 2 (first|omega|(dsimp only;omega))))
  |(apply zas [] [] hmix;decide+kernel)
  |(apply zab;(iterate 5 exact rfl);first|(apply zat hT;exact rfl;exact rfl;(repeat(first|exact List.mem_cons_self|exact m0|apply List.mem_cons_of_mem|apply List.mem_append_right));exact rfl;exact rfl)|(apply zar hT;exact rfl;exact rfl;(repeat(first|exact List.mem_cons_self|exact m0|apply List.mem_cons_of_mem|apply List.mem_append_right));exact rfl))
  |(apply zav;(iterate 5 exact rfl);intro _)|(apply zac hT;(iterate 5 exact rfl);intro _)
  |(apply zaf;(iterate 2 exact rfl))|(apply zag;(iterate 2 exact rfl))
  |(apply zal;exact rfl;all_goals intro hb;all_goals(fail_if_success (change true=true at hb));all_goals(fail_if_success (change false=false at hb));all_goals(try dsimp only at hb);all_goals(try simp only[hb]);all_goals(first|replace hb:=of_decide_eq_true hb|replace hb:=of_decide_eq_false hb|replace hb:=zap hb|replace hb:=zaq hb|replace hb:=eq_of_beq hb|replace hb:=ne_of_beq_false hb|skip);all_goals(try(exfalso;omega)))
  |(apply zao;exact rfl;all_goals intro hb;all_goals(try dsimp only at hb);all_goals(try simp only[hb]);all_goals(first|replace hb:=of_decide_eq_true hb|replace hb:=of_decide_eq_false hb|replace hb:=zap hb|replace hb:=zaq hb|replace hb:=eq_of_beq hb|replace hb:=ne_of_beq_false hb|skip);all_goals(try(exfalso;omega))))
 all_goals first
  |(apply ret1;exact rfl;exact⟨rfl,dX⟩)
  |skip
theorem zfI (W:World)(p:Nat)(sl:Value)(head:Int):zaC Tryz.prog W 99 [ptrV p] [.blk p 149 [sl,.int .u64 head]] (.int .u64 head):=by
 refine zaC.ofD (fun h' hs=> ?_)
 have m0:=hs _ mem0
 refine zau Tryz.func99 rfl rfl Tryz.results99 Tryz.ntmps99 rfl rfl ?_
 repeat' (first
  |apply zaA|apply zaa|apply zaz|apply zam|apply zan|apply zae|apply zay
  |(apply zaj hT;(iterate 4 exact rfl))|(apply zak;(iterate 3 exact rfl))|(apply zad;(iterate 2 exact rfl))
  |(apply zax hT;(iterate 4 exact rfl);(iterate 2 (first|omega|(dsimp only;omega))))
  |(apply zas [] [] hmix;decide+kernel)
  |(apply zab;(iterate 5 exact rfl);first|(apply zat hT;exact rfl;exact rfl;(repeat(first|exact List.mem_cons_self|exact m0|apply List.mem_cons_of_mem|apply List.mem_append_right));exact rfl;exact rfl)|(apply zar hT;exact rfl;exact rfl;(repeat(first|exact List.mem_cons_self|exact m0|apply List.mem_cons_of_mem|apply List.mem_append_right));exact rfl))
  |(apply zav;(iterate 5 exact rfl);intro _)|(apply zac hT;(iterate 5 exact rfl);intro _)
  |(apply zaf;(iterate 2 exact rfl))|(apply zag;(iterate 2 exact rfl))
  |(apply zal;exact rfl;all_goals intro hb;all_goals(fail_if_success (change true=true at hb));all_goals(fail_if_success (change false=false at hb));all_goals(try dsimp only at hb);all_goals(try simp only[hb]);all_goals(first|replace hb:=of_decide_eq_true hb|replace hb:=of_decide_eq_false hb|replace hb:=zap hb|replace hb:=zaq hb|replace hb:=eq_of_beq hb|replace hb:=ne_of_beq_false hb|skip);all_goals(try(exfalso;omega)))
  |(apply zao;exact rfl;all_goals intro hb;all_goals(try dsimp only at hb);all_goals(try simp only[hb]);all_goals(first|replace hb:=of_decide_eq_true hb|replace hb:=of_decide_eq_false hb|replace hb:=zap hb|replace hb:=zaq hb|replace hb:=eq_of_beq hb|replace hb:=ne_of_beq_false hb|skip);all_goals(try(exfalso;omega))))
 all_goals first
  |(apply ret1;exact rfl;exact⟨rfl,dX⟩)
  |skip
theorem zfJ (W:World)(x:DAd)(s:Dk)(sl:Value):zaC Tryz.prog W 59 [ptrV x.d] [.blk x.d 112 (zbU x s),.blk x.b 149 [sl,.int .u64 s.head]] (.int .u64 s.head):=by
 refine zaC.ofD (fun h' hs=> ?_)
 have m0:=hs _ mem0
 have m1:=hs _ mem1
 refine zau Tryz.func59 rfl rfl Tryz.results59 Tryz.ntmps59 rfl rfl ?_
 repeat' (first
  |apply zaA|apply zaa|apply zaz|apply zam|apply zan|apply zae|apply zay
  |(apply zaj hT;(iterate 4 exact rfl))|(apply zak;(iterate 3 exact rfl))|(apply zad;(iterate 2 exact rfl))
  |(apply zax hT;(iterate 4 exact rfl);(iterate 2 (first|omega|(dsimp only;omega))))
  |(apply zas [] [] hmix;decide+kernel)
  |(apply zaw (hs:=((zfI W x.b sl s.head).mono (by intro c hc;rw[lms.1 hc];exact m1)));(iterate 7 exact rfl))
  |(apply zab;(iterate 5 exact rfl);first|(apply zat hT;exact rfl;exact rfl;(repeat(first|exact List.mem_cons_self|exact m0|apply List.mem_cons_of_mem|apply List.mem_append_right));exact rfl;exact rfl)|(apply zar hT;exact rfl;exact rfl;(repeat(first|exact List.mem_cons_self|exact m0|apply List.mem_cons_of_mem|apply List.mem_append_right));exact rfl))
  |(apply zav;(iterate 5 exact rfl);intro _)|(apply zac hT;(iterate 5 exact rfl);intro _)
  |(apply zaf;(iterate 2 exact rfl))|(apply zag;(iterate 2 exact rfl))
  |(apply zal;exact rfl;all_goals intro hb;all_goals(fail_if_success (change true=true at hb));all_goals(fail_if_success (change false=false at hb));all_goals(try dsimp only at hb);all_goals(try simp only[hb]);all_goals(first|replace hb:=of_decide_eq_true hb|replace hb:=of_decide_eq_false hb|replace hb:=zap hb|replace hb:=zaq hb|replace hb:=eq_of_beq hb|replace hb:=ne_of_beq_false hb|skip);all_goals(try(exfalso;omega)))
  |(apply zao;exact rfl;all_goals intro hb;all_goals(try dsimp only at hb);all_goals(try simp only[hb]);all_goals(first|replace hb:=of_decide_eq_true hb|replace hb:=of_decide_eq_false hb|replace hb:=zap hb|replace hb:=zaq hb|replace hb:=eq_of_beq hb|replace hb:=ne_of_beq_false hb|skip);all_goals(try(exfalso;omega))))
 all_goals first
  |(apply ret1;exact rfl;exact⟨rfl,dX⟩)
  |skip
theorem zew (W:World)(x:DAd)(s:Dk)(n:Int):zaC Tryz.prog W 96 [ptrV x.d,.int .i64 n] [.blk x.d 112 (zbU x s)] (.bool (decide (n≥0)&&decide (n<s.books.length))):=by
 refine zaC.ofD (fun h' hs=> ?_)
 have m0:=hs _ mem0
 refine zau Tryz.func96 rfl rfl Tryz.results96 Tryz.ntmps96 rfl rfl ?_
 repeat' (first
  |apply zaA|apply zaa|apply zaz|apply zam|apply zan|apply zae|apply zay
  |(apply zaj hT;(iterate 4 exact rfl))|(apply zak;(iterate 3 exact rfl))|(apply zad;(iterate 2 exact rfl))
  |(apply zax hT;(iterate 4 exact rfl);(iterate 2 (first|omega|(dsimp only;omega))))
  |(apply zas [] [] hmix;decide+kernel)
  |(apply zab;(iterate 5 exact rfl);first|(apply zat hT;exact rfl;exact rfl;(repeat(first|exact List.mem_cons_self|exact m0|apply List.mem_cons_of_mem|apply List.mem_append_right));exact rfl;exact rfl)|(apply zar hT;exact rfl;exact rfl;(repeat(first|exact List.mem_cons_self|exact m0|apply List.mem_cons_of_mem|apply List.mem_append_right));exact rfl))
  |(apply zav;(iterate 5 exact rfl);intro _)|(apply zac hT;(iterate 5 exact rfl);intro _)
  |(apply zaf;(iterate 2 exact rfl))|(apply zag;(iterate 2 exact rfl))
  |(apply zal;exact rfl;all_goals intro hb;all_goals(fail_if_success (change true=true at hb));all_goals(fail_if_success (change false=false at hb));all_goals(try dsimp only at hb);all_goals(try simp only[hb]);all_goals(first|replace hb:=of_decide_eq_true hb|replace hb:=of_decide_eq_false hb|replace hb:=zap hb|replace hb:=zaq hb|replace hb:=eq_of_beq hb|replace hb:=ne_of_beq_false hb|skip);all_goals(try(exfalso;omega)))
  |(apply zao;exact rfl;all_goals intro hb;all_goals(try dsimp only at hb);all_goals(try simp only[hb]);all_goals(first|replace hb:=of_decide_eq_true hb|replace hb:=of_decide_eq_false hb|replace hb:=zap hb|replace hb:=zaq hb|replace hb:=eq_of_beq hb|replace hb:=ne_of_beq_false hb|skip);all_goals(try(exfalso;omega))))
 all_goals first
  |(apply ret1;exact rfl;exact⟨by(first|(simp_all;done)|(simp;omega)),dX⟩)
  |skip
theorem zfK (W:World)(x:DAd)(s:Dk)(bks:List BAd)(i:Nat)(b:BAd)(hl:bks.length=s.books.length)(hi:bks[i]? =some b)(h4:bks.length≤1000000):
 zaC Tryz.prog W 57 [ptrV x.d,.int .i64 i] [.blk x.d 112 (zbU x s),x.books.own s.books.length 113 1 (bks.map BAd.ptr)] (ptrV b.p):=by
 refine zaC.ofD (fun h' hs=> ?_)
 have m0:=hs _ mem0
 have m1:=hs _ mem1
 have hil:=(gsi.1 hi).1
 have hB:=(zew W x s i).cast (u:=.bool true) (by simp;omega)
 have hrd:zaE W h' x.books.A s.books.length 1 (bks.map BAd.ptr):=zaE.own m1 (by simp[hl]) (fun v hv=>by
  obtain⟨y,_,rfl⟩:=lmm.1 hv
  rfl)
 have hix:(bks.map BAd.ptr)[(i:Int).toNat*1]? =some (ptrV b.p):=by simp[hi];rfl
 refine zau Tryz.func57 rfl rfl Tryz.results57 Tryz.ntmps57 rfl rfl ?_
 refine zaK hrd rfl (fun hA=> ?_)
 have hA':=hA (by omega)
 repeat' (first
  |apply zaA|apply zaa|apply zaz|apply zam|apply zan|apply zae|apply zay
  |(apply zaj hT;(iterate 4 exact rfl))|(apply zak;(iterate 3 exact rfl))|(apply zad;(iterate 2 exact rfl))
  |(apply zax hT;(iterate 4 exact rfl);(iterate 2 (first|omega|(dsimp only;omega))))
  |(apply zas [] [] hmix;decide+kernel)
  |(apply zaw (hs:=(hB.mono (by intro c hc;rw[lms.1 hc];exact m0)));(iterate 7 exact rfl))
  |(apply za4 hT;(iterate 8 exact rfl);(iterate 2 omega);exact hA')
  |(apply zab;(iterate 5 exact rfl);exact zaY hT rfl rfl hrd rfl hix)
  |(apply zab;(iterate 5 exact rfl);first|(apply zat hT;exact rfl;exact rfl;(repeat(first|exact List.mem_cons_self|exact m0|apply List.mem_cons_of_mem|apply List.mem_append_right));exact rfl;exact rfl)|(apply zar hT;exact rfl;exact rfl;(repeat(first|exact List.mem_cons_self|exact m0|apply List.mem_cons_of_mem|apply List.mem_append_right));exact rfl))
  |(apply zav;(iterate 5 exact rfl);intro _)|(apply zac hT;(iterate 5 exact rfl);intro _)
  |(apply zaf;(iterate 2 exact rfl))|(apply zag;(iterate 2 exact rfl))
  |(apply zal;exact rfl;all_goals intro hb;all_goals(fail_if_success (change true=true at hb));all_goals(fail_if_success (change false=false at hb));all_goals(try dsimp only at hb);all_goals(try simp only[hb]);all_goals(first|replace hb:=of_decide_eq_true hb|replace hb:=of_decide_eq_false hb|replace hb:=zap hb|replace hb:=zaq hb|replace hb:=eq_of_beq hb|replace hb:=ne_of_beq_false hb|skip);all_goals(try(exfalso;omega)))
  |(apply zao;exact rfl;all_goals intro hb;all_goals(try dsimp only at hb);all_goals(try simp only[hb]);all_goals(first|replace hb:=of_decide_eq_true hb|replace hb:=of_decide_eq_false hb|replace hb:=zap hb|replace hb:=zaq hb|replace hb:=eq_of_beq hb|replace hb:=ne_of_beq_false hb|skip);all_goals(try(exfalso;omega))))
 all_goals first
  |(apply ret1;exact rfl;exact⟨rfl,dX⟩)
  |skip
theorem zfL (W:World)(h:List zah)(p:Nat)(A:Option Addr)(c:Nat)(l:List zaG)(hv:Value)(m0:zah.blk p 149 [.slice A l.length c,hv]∈h)(m1:zah.own A l.length c 30 8 (l.flatMap zaG.enc)∈h)(hb:l.length≤1000000):
 zaI Tryz.prog W 67 [ptrV p] h (fun v h'=>∃A' c',v=.slice A' l.length c'∧h'=.own A' l.length c' 30 8 (l.flatMap zaG.enc)::h):=by
 have hrd:zaE W h A l.length 8 (l.flatMap zaG.enc):=zaE.own m1 (zbW zaG.enc_len _) (fun v hv=>by
  obtain⟨y,_,hy⟩:=List.mem_flatMap.1 hv
  exact zaG.enc_one y v hy)
 refine zaI.dropTo ?_
 refine zau Tryz.func67 rfl rfl Tryz.results67 Tryz.ntmps67 rfl rfl ?_
 repeat' (first
  |apply zaA|apply zaa|apply zaz|apply zam|apply zan|apply zae|apply zay
  |(apply zaj hT;(iterate 4 exact rfl))|(apply zak;(iterate 3 exact rfl))|(apply zad;(iterate 2 exact rfl))
  |(apply zax hT;(iterate 4 exact rfl);(iterate 2 (first|omega|(dsimp only;omega))))
  |(apply zas [] [] hmix;decide+kernel)
  |(apply zaN (hs:=(zev W _ A l.length c (l.flatMap zaG.enc) hrd (by omega)));(iterate 7 exact rfl);rintro _ _ ⟨A1,c1,rfl,rfl⟩)
  |(apply zab;(iterate 5 exact rfl);first|(apply zat hT;exact rfl;exact rfl;(repeat(first|exact List.mem_cons_self|exact m0|apply List.mem_cons_of_mem|apply List.mem_append_right));exact rfl;exact rfl)|(apply zar hT;exact rfl;exact rfl;(repeat(first|exact List.mem_cons_self|exact m0|apply List.mem_cons_of_mem|apply List.mem_append_right));exact rfl))
  |(apply zav;(iterate 5 exact rfl);intro _)|(apply zac hT;(iterate 5 exact rfl);intro _)
  |(apply zaf;(iterate 2 exact rfl))|(apply zag;(iterate 2 exact rfl))
  |(apply zal;exact rfl;all_goals intro hb;all_goals(fail_if_success (change true=true at hb));all_goals(fail_if_success (change false=false at hb));all_goals(try dsimp only at hb);all_goals(try simp only[hb]);all_goals(first|replace hb:=of_decide_eq_true hb|replace hb:=of_decide_eq_false hb|replace hb:=zap hb|replace hb:=zaq hb|replace hb:=eq_of_beq hb|replace hb:=ne_of_beq_false hb|skip);all_goals(try(exfalso;omega)))
  |(apply zao;exact rfl;all_goals intro hb;all_goals(try dsimp only at hb);all_goals(try simp only[hb]);all_goals(first|replace hb:=of_decide_eq_true hb|replace hb:=of_decide_eq_false hb|replace hb:=zap hb|replace hb:=zaq hb|replace hb:=eq_of_beq hb|replace hb:=ne_of_beq_false hb|skip);all_goals(try(exfalso;omega))))
 all_goals first
  |(apply ret1;exact rfl;exact⟨_,zbi,A1,c1,rfl,rfl⟩)
  |skip
theorem zex (W:World)(h:List zah)(x:DAd)(s:Dk)(m0:zah.blk x.d 112 (zbU x s)∈h)(m1:zah.blk x.b 149 [x.trades.sl s.trades.length,.int .u64 s.head]∈h)(m2:x.trades.own s.trades.length 30 8 (s.trades.flatMap zaG.enc)∈h)(hb:s.trades.length≤1000000):
 zaI Tryz.prog W 23 [ptrV x.d] h (fun v h'=>∃A' c',v=.slice A' s.trades.length c'∧h'=.own A' s.trades.length c' 30 8 (s.trades.flatMap zaG.enc)::h):=by
 refine zaI.dropTo ?_
 have hL:=zfL W h x.b x.trades.A x.trades.c s.trades (.int .u64 s.head) m1 m2 hb
 refine zau Tryz.func23 rfl rfl Tryz.results23 Tryz.ntmps23 rfl rfl ?_
 repeat' (first
  |apply zaA|apply zaa|apply zaz|apply zam|apply zan|apply zae|apply zay
  |(apply zaj hT;(iterate 4 exact rfl))|(apply zak;(iterate 3 exact rfl))|(apply zad;(iterate 2 exact rfl))
  |(apply zax hT;(iterate 4 exact rfl);(iterate 2 (first|omega|(dsimp only;omega))))
  |(apply zas [] [] hmix;decide+kernel)
  |(apply zaN (hs:=hL);(iterate 7 exact rfl);rintro _ _ ⟨A1,c1,rfl,rfl⟩)
  |(apply zab;(iterate 5 exact rfl);first|(apply zat hT;exact rfl;exact rfl;(repeat(first|exact List.mem_cons_self|exact m0|apply List.mem_cons_of_mem|apply List.mem_append_right));exact rfl;exact rfl)|(apply zar hT;exact rfl;exact rfl;(repeat(first|exact List.mem_cons_self|exact m0|apply List.mem_cons_of_mem|apply List.mem_append_right));exact rfl))
  |(apply zav;(iterate 5 exact rfl);intro _)|(apply zac hT;(iterate 5 exact rfl);intro _)
  |(apply zaf;(iterate 2 exact rfl))|(apply zag;(iterate 2 exact rfl))
  |(apply zal;exact rfl;all_goals intro hb;all_goals(fail_if_success (change true=true at hb));all_goals(fail_if_success (change false=false at hb));all_goals(try dsimp only at hb);all_goals(try simp only[hb]);all_goals(first|replace hb:=of_decide_eq_true hb|replace hb:=of_decide_eq_false hb|replace hb:=zap hb|replace hb:=zaq hb|replace hb:=eq_of_beq hb|replace hb:=ne_of_beq_false hb|skip);all_goals(try(exfalso;omega)))
  |(apply zao;exact rfl;all_goals intro hb;all_goals(try dsimp only at hb);all_goals(try simp only[hb]);all_goals(first|replace hb:=of_decide_eq_true hb|replace hb:=of_decide_eq_false hb|replace hb:=zap hb|replace hb:=zaq hb|replace hb:=eq_of_beq hb|replace hb:=ne_of_beq_false hb|skip);all_goals(try(exfalso;omega))))
 all_goals first
  |(apply ret1;exact rfl;exact⟨_,zbi,A1,c1,rfl,rfl⟩)
  |skip
theorem zgo (W:World)(h:List zah)(p:Nat)(A:Option Addr)(c:Nat)(l:List AskR)(m0:zah.blk p 144 [.slice A l.length c]∈h)(m1:zah.own A l.length c 87 10 (l.flatMap AskR.enc)∈h)(hb:l.length≤1000000):
 zaI Tryz.prog W 66 [ptrV p] h (fun v h'=>∃A' c',v=.slice A' l.length c'∧h'=.own A' l.length c' 87 10 (l.flatMap AskR.enc)::h):=by
 have hrd:zaE W h A l.length 10 (l.flatMap AskR.enc):=zaE.own m1 (zbW AskR.enc_len _) (fun v hv=>by
  obtain⟨y,_,hy⟩:=List.mem_flatMap.1 hv
  exact AskR.enc_one y v hy)
 refine zaI.dropTo ?_
 refine zau Tryz.func66 rfl rfl Tryz.results66 Tryz.ntmps66 rfl rfl ?_
 repeat' (first
  |apply zaA|apply zaa|apply zaz|apply zam|apply zan|apply zae|apply zay
  |(apply zaj hT;(iterate 4 exact rfl))|(apply zak;(iterate 3 exact rfl))|(apply zad;(iterate 2 exact rfl))
  |(apply zax hT;(iterate 4 exact rfl);(iterate 2 (first|omega|(dsimp only;omega))))
  |(apply zas [] [] hmix;decide+kernel)
  |(apply zaN (hs:=(zfH W _ A l.length c (l.flatMap AskR.enc) hrd (by omega)));(iterate 7 exact rfl);rintro _ _ ⟨A1,c1,rfl,rfl⟩)
  |(apply zab;(iterate 5 exact rfl);first|(apply zat hT;exact rfl;exact rfl;(repeat(first|exact List.mem_cons_self|exact m0|apply List.mem_cons_of_mem|apply List.mem_append_right));exact rfl;exact rfl)|(apply zar hT;exact rfl;exact rfl;(repeat(first|exact List.mem_cons_self|exact m0|apply List.mem_cons_of_mem|apply List.mem_append_right));exact rfl))
  |(apply zav;(iterate 5 exact rfl);intro _)|(apply zac hT;(iterate 5 exact rfl);intro _)
  |(apply zaf;(iterate 2 exact rfl))|(apply zag;(iterate 2 exact rfl))
  |(apply zal;exact rfl;all_goals intro hb;all_goals(fail_if_success (change true=true at hb));all_goals(fail_if_success (change false=false at hb));all_goals(try dsimp only at hb);all_goals(try simp only[hb]);all_goals(first|replace hb:=of_decide_eq_true hb|replace hb:=of_decide_eq_false hb|replace hb:=zap hb|replace hb:=zaq hb|replace hb:=eq_of_beq hb|replace hb:=ne_of_beq_false hb|skip);all_goals(try(exfalso;omega)))
  |(apply zao;exact rfl;all_goals intro hb;all_goals(try dsimp only at hb);all_goals(try simp only[hb]);all_goals(first|replace hb:=of_decide_eq_true hb|replace hb:=of_decide_eq_false hb|replace hb:=zap hb|replace hb:=zaq hb|replace hb:=eq_of_beq hb|replace hb:=ne_of_beq_false hb|skip);all_goals(try(exfalso;omega))))
 all_goals first
  |(apply ret1;exact rfl;exact⟨_,zbi,A1,c1,rfl,rfl⟩)
  |skip
theorem zfM (W:World)(h:List zah)(x:DAd)(s:Dk)(m0:zah.blk x.d 112 (zbU x s)∈h)(m1:zah.blk x.a 144 [x.asks.sl s.asks.length]∈h)(m2:x.asks.own s.asks.length 87 10 (s.asks.flatMap AskR.enc)∈h)(hb:s.asks.length≤1000000):
 zaI Tryz.prog W 22 [ptrV x.d] h (fun v h'=>∃A' c',v=.slice A' s.asks.length c'∧h'=.own A' s.asks.length c' 87 10 (s.asks.flatMap AskR.enc)::h):=by
 refine zaI.dropTo ?_
 have hL:=zgo W h x.a x.asks.A x.asks.c s.asks m1 m2 hb
 refine zau Tryz.func22 rfl rfl Tryz.results22 Tryz.ntmps22 rfl rfl ?_
 repeat' (first
  |apply zaA|apply zaa|apply zaz|apply zam|apply zan|apply zae|apply zay
  |(apply zaj hT;(iterate 4 exact rfl))|(apply zak;(iterate 3 exact rfl))|(apply zad;(iterate 2 exact rfl))
  |(apply zax hT;(iterate 4 exact rfl);(iterate 2 (first|omega|(dsimp only;omega))))
  |(apply zas [] [] hmix;decide+kernel)
  |(apply zaN (hs:=hL);(iterate 7 exact rfl);rintro _ _ ⟨A1,c1,rfl,rfl⟩)
  |(apply zab;(iterate 5 exact rfl);first|(apply zat hT;exact rfl;exact rfl;(repeat(first|exact List.mem_cons_self|exact m0|apply List.mem_cons_of_mem|apply List.mem_append_right));exact rfl;exact rfl)|(apply zar hT;exact rfl;exact rfl;(repeat(first|exact List.mem_cons_self|exact m0|apply List.mem_cons_of_mem|apply List.mem_append_right));exact rfl))
  |(apply zav;(iterate 5 exact rfl);intro _)|(apply zac hT;(iterate 5 exact rfl);intro _)
  |(apply zaf;(iterate 2 exact rfl))|(apply zag;(iterate 2 exact rfl))
  |(apply zal;exact rfl;all_goals intro hb;all_goals(fail_if_success (change true=true at hb));all_goals(fail_if_success (change false=false at hb));all_goals(try dsimp only at hb);all_goals(try simp only[hb]);all_goals(first|replace hb:=of_decide_eq_true hb|replace hb:=of_decide_eq_false hb|replace hb:=zap hb|replace hb:=zaq hb|replace hb:=eq_of_beq hb|replace hb:=ne_of_beq_false hb|skip);all_goals(try(exfalso;omega)))
  |(apply zao;exact rfl;all_goals intro hb;all_goals(try dsimp only at hb);all_goals(try simp only[hb]);all_goals(first|replace hb:=of_decide_eq_true hb|replace hb:=of_decide_eq_false hb|replace hb:=zap hb|replace hb:=zaq hb|replace hb:=eq_of_beq hb|replace hb:=ne_of_beq_false hb|skip);all_goals(try(exfalso;omega))))
 all_goals first
  |(apply ret1;exact rfl;exact⟨_,zbi,A1,c1,rfl,rfl⟩)
  |skip
end Go.Proofs.YteocfhdocpeokaaGreat
set_option linter.unusedSimpArgs false
set_option linter.unusedVariables false
namespace Go.Proofs.YteocfhdocpeokaaGreat
open Go Go.Sl
attribute [local irreducible] AW ES EP Ld RetQ
set_option maxRecDepth 100000
theorem zgp (W:World)(a b:Int)(ha:inW a)(hb:inW b)(h:inW (a+b)):zaC Tryz.prog W 27 [.int .i64 a,.int .i64 b] [] (.tuple #[.int .i64 (a+b),.bool true]):=by
 unfold inW at*
 refine zaC.ofD (fun h' hs=> ?_)
 refine zau Tryz.func27 rfl rfl Tryz.results27 Tryz.ntmps27 rfl rfl ?_
 repeat' (first
  |apply zaA|apply zaa|apply zaz|apply zam|apply zan|apply zae|apply zay
  |(apply zaj hT;(iterate 4 exact rfl))|(apply zak;(iterate 3 exact rfl))|(apply zad;(iterate 2 exact rfl))
  |(apply zax hT;(iterate 4 exact rfl);(iterate 2 (first|omega|(dsimp only;omega))))
  |(apply zas [] [] hmix;decide+kernel)
  |(apply zab;(iterate 5 exact rfl);first|(apply zat hT;exact rfl;exact rfl;(repeat(first|exact List.mem_cons_self|apply List.mem_cons_of_mem|apply List.mem_append_right));exact rfl;exact rfl)|(apply zar hT;exact rfl;exact rfl;(repeat(first|exact List.mem_cons_self|apply List.mem_cons_of_mem|apply List.mem_append_right));exact rfl))
  |(apply zav;(iterate 5 exact rfl);intro _)|(apply zac hT;(iterate 5 exact rfl);intro _)
  |(apply zaf;(iterate 2 exact rfl))|(apply zag;(iterate 2 exact rfl))
  |(apply zal;exact rfl;all_goals intro hb;all_goals(fail_if_success (change true=true at hb));all_goals(fail_if_success (change false=false at hb));all_goals(try dsimp only at hb);all_goals(try simp only[hb]);all_goals(first|replace hb:=of_decide_eq_true hb|replace hb:=of_decide_eq_false hb|replace hb:=zap hb|replace hb:=zaq hb|replace hb:=eq_of_beq hb|replace hb:=ne_of_beq_false hb|skip);all_goals(try(exfalso;omega)))
  |(apply zao;exact rfl;all_goals intro hb;all_goals(try dsimp only at hb);all_goals(try simp only[hb]);all_goals(first|replace hb:=of_decide_eq_true hb|replace hb:=of_decide_eq_false hb|replace hb:=zap hb|replace hb:=zaq hb|replace hb:=eq_of_beq hb|replace hb:=ne_of_beq_false hb|skip);all_goals(try(exfalso;omega))))
 all_goals first
  |(exfalso;omega)
  |(apply ret2;exact rfl;exact rfl;exact⟨rfl,dX⟩)
  |skip
theorem zdq (W:World)(a b tick:Int)(ha:inW a)(hb:inW b)(h:inW (a+b)):zaC Tryz.prog W 71 [.int .i64 a,.int .i64 b,.int .i64 tick] [] (.bool (decide (a+b≤tick))):=by
 refine zaC.ofD (fun h' hs=> ?_)
 refine zau Tryz.func71 rfl rfl Tryz.results71 Tryz.ntmps71 rfl rfl ?_
 repeat' (first
  |apply zaA|apply zaa|apply zaz|apply zam|apply zan|apply zae|apply zay
  |(apply zaj hT;(iterate 4 exact rfl))|(apply zak;(iterate 3 exact rfl))|(apply zad;(iterate 2 exact rfl))
  |(apply zax hT;(iterate 4 exact rfl);(iterate 2 (first|omega|(dsimp only;omega))))
  |(apply zas [] [] hmix;decide+kernel)
  |(apply zaw (hs:=((zgp W a b ha hb h).mono (by simp)));(iterate 7 exact rfl))
  |(apply zab;(iterate 5 exact rfl);first|(apply zat hT;exact rfl;exact rfl;(repeat(first|exact List.mem_cons_self|apply List.mem_cons_of_mem|apply List.mem_append_right));exact rfl;exact rfl)|(apply zar hT;exact rfl;exact rfl;(repeat(first|exact List.mem_cons_self|apply List.mem_cons_of_mem|apply List.mem_append_right));exact rfl))
  |(apply zav;(iterate 5 exact rfl);intro _)|(apply zac hT;(iterate 5 exact rfl);intro _)
  |(apply zaf;(iterate 2 exact rfl))|(apply zag;(iterate 2 exact rfl))
  |(apply zal;exact rfl;all_goals intro hb;all_goals(fail_if_success (change true=true at hb));all_goals(fail_if_success (change false=false at hb));all_goals(try dsimp only at hb);all_goals(try simp only[hb]);all_goals(first|replace hb:=of_decide_eq_true hb|replace hb:=of_decide_eq_false hb|replace hb:=zap hb|replace hb:=zaq hb|replace hb:=eq_of_beq hb|replace hb:=ne_of_beq_false hb|skip);all_goals(try(exfalso;omega)))
  |(apply zao;exact rfl;all_goals intro hb;all_goals(try dsimp only at hb);all_goals(try simp only[hb]);all_goals(first|replace hb:=of_decide_eq_true hb|replace hb:=of_decide_eq_false hb|replace hb:=zap hb|replace hb:=zaq hb|replace hb:=eq_of_beq hb|replace hb:=ne_of_beq_false hb|skip);all_goals(try(exfalso;omega))))
 all_goals first
  |(exfalso;omega)
  |(apply ret1;exact rfl;exact⟨rfl,dX⟩)
  |skip
def zec (tick look:Int)(a:AskR):Bool:= !(a.state != 3&&a.state != 4&&decide (a.ends+look≤tick))
def zfN (l:List AskR)(tick look:Int):Bool:=l.all (zec tick look)
theorem zgX {α:Type}{q:α→Bool}{l:List α}{x:α}(hx:x∈l)(h:q x=false):l.all q=false:=by
 rw[List.all_eq_false]
 exact⟨x,hx,by rw[h];decide⟩
theorem zgq {α:Type}{q:α→Bool}{l:List α}(h:∀(j:Nat) y,j<l.length→l[j]? =some y→q y=true):l.all q=true:=by
 rw[List.all_eq_true]
 intro x hx
 obtain⟨i,hi⟩:=List.getElem?_of_mem hx
 exact h i x (gsi.1 hi).1 hi
theorem zc5 (W:World)(h:List zah)(A:Option Addr)(c:Nat)(l:List AskR)(tick look:Int)(hr:zaE W h A l.length 10 (l.flatMap AskR.enc))(hb:l.length≤1000000)(hlk:inW look)(hok:∀a∈l,inW a.ends∧inW (a.ends+look)):
 zaC Tryz.prog W 39 [.slice A l.length c,.int .i64 tick,.int .i64 look] h (.bool (zfN l tick look)):=by
 refine zaC.ofD (fun h' hs=> ?_)
 have hrd:=hr.mono hs
 refine zau Tryz.func39 rfl rfl Tryz.results39 Tryz.ntmps39 rfl rfl ?_
 refine zaK hrd rfl (fun hA=> ?_)
 repeat' (first
  |apply zaA|apply zaa|apply zaz|apply zam|apply zan|apply zae|apply zay
  |(apply zaj hT;(iterate 4 exact rfl))|(apply zak;(iterate 3 exact rfl))|(apply zad;(iterate 2 exact rfl))
  |(apply zax hT;(iterate 4 exact rfl);(iterate 2 (first|omega|(dsimp only;omega))))
  |(apply zas [] [] hmix;decide+kernel)
  |(apply zab;(iterate 5 exact rfl);first|(apply zat hT;exact rfl;exact rfl;(repeat(first|exact List.mem_cons_self|apply List.mem_cons_of_mem|apply List.mem_append_right));exact rfl;exact rfl)|(apply zar hT;exact rfl;exact rfl;(repeat(first|exact List.mem_cons_self|apply List.mem_cons_of_mem|apply List.mem_append_right));exact rfl))
  |(apply zav;(iterate 5 exact rfl);intro _)|(apply zac hT;(iterate 5 exact rfl);intro _)
  |(apply zaf;(iterate 2 exact rfl))|(apply zag;(iterate 2 exact rfl))
  |(apply zal;exact rfl;all_goals intro hb;all_goals(fail_if_success (change true=true at hb));all_goals(fail_if_success (change false=false at hb));all_goals(try dsimp only at hb);all_goals(try simp only[hb]);all_goals(first|replace hb:=of_decide_eq_true hb|replace hb:=of_decide_eq_false hb|replace hb:=zap hb|replace hb:=zaq hb|replace hb:=eq_of_beq hb|replace hb:=ne_of_beq_false hb|skip);all_goals(try(exfalso;omega)))
  |(apply zao;exact rfl;all_goals intro hb;all_goals(try dsimp only at hb);all_goals(try simp only[hb]);all_goals(first|replace hb:=of_decide_eq_true hb|replace hb:=of_decide_eq_false hb|replace hb:=zap hb|replace hb:=zaq hb|replace hb:=eq_of_beq hb|replace hb:=ne_of_beq_false hb|skip);all_goals(try(exfalso;omega))))
 refine za2 (α:=Nat) (E:=fun k=>[(1,.int .i64 tick),(2,.int .i64 look),(10,.slice A l.length c),(11,.int .i64 l.length),(12,.int .i64 k)]) (H:=fun _=>h') (μ:=fun k=>l.length - k)
  (S:=fun k=>k≤l.length∧∀(j:Nat) y,j<k→l[j]? =some y→zec tick look y=true) 0 ⟨Nat.zero_le _,fun j y hj=>absurd hj (Nat.not_lt_zero _)⟩ ⟨rfl,rfl,rfl,rfl,rfl,trivial⟩ dX ?_
 rintro k ⟨hk,hgd⟩
 by_cases hlt:k<l.length
 ·obtain⟨x,hx⟩:∃x,l[k]? =some x:=⟨l[k]'(by omega),gge (by omega)⟩
  have hx2:l[(k:Int).toNat]? =some x:=by simpa using hx
  have hA':=hA (by omega)
  have hd1:decide ((k:Int)<(l.length:Int))=true:=by simp;omega
  have hxm:=mog hx
  obtain⟨w1,w2⟩:=hok x hxm
  unfold inW at w1 w2
  cases he:zec tick look x
  ·repeat' (first
    |apply zaA|apply zaa|apply zaz|apply zam|apply zan|apply zae|apply zay
    |(apply zaj hT;(iterate 4 exact rfl))|(apply zak;(iterate 3 exact rfl))|(apply zad;(iterate 2 exact rfl))
    |(apply zax hT;(iterate 4 exact rfl);(iterate 2 (first|omega|(dsimp only;omega))))
    |(apply zas [] [] hmix;decide+kernel)
    |(apply za4 hT;(iterate 8 exact rfl);(iterate 2 omega);exact hA')
    |(apply zab;(iterate 5 exact rfl);exact zbd hT rfl rfl (hrd.mono (by(intro c hc;(repeat(first|exact hc|apply List.mem_cons_of_mem|apply List.mem_append_right))))) AskR.enc_len rfl hx2 rfl)
    |(apply zaQ hT;(iterate 6 exact rfl);exact sX;(iterate 3 exact rfl);exact Nat.le_of_ble_eq_true rfl)
    |(apply zaw (hs:=((zdq W x.ends look tick (by unfold inW;omega) hlk (by unfold inW;omega)).mono (by simp)));(iterate 7 exact rfl))
    |(apply zab;(iterate 5 exact rfl);first|(apply zat hT;exact rfl;exact rfl;(repeat(first|exact List.mem_cons_self|apply List.mem_cons_of_mem|apply List.mem_append_right));exact rfl;exact rfl)|(apply zar hT;exact rfl;exact rfl;(repeat(first|exact List.mem_cons_self|apply List.mem_cons_of_mem|apply List.mem_append_right));exact rfl))
    |(apply zav;(iterate 5 exact rfl);intro _)|(apply zac hT;(iterate 5 exact rfl);intro _)
    |(apply zaf;(iterate 2 exact rfl))|(apply zag;(iterate 2 exact rfl))
    |(apply zal;exact rfl;all_goals intro hb;all_goals(fail_if_success (change true=true at hb));all_goals(fail_if_success (change false=false at hb));all_goals(try dsimp only at hb);all_goals(try simp only[hb]);all_goals(first|replace hb:=of_decide_eq_true hb|replace hb:=of_decide_eq_false hb|replace hb:=zap hb|replace hb:=zaq hb|replace hb:=eq_of_beq hb|replace hb:=ne_of_beq_false hb|skip);all_goals(try(exfalso;omega)))
    |(apply zao;exact rfl;all_goals intro hb;all_goals(try dsimp only at hb);all_goals(try simp only[hb]);all_goals(first|replace hb:=of_decide_eq_true hb|replace hb:=of_decide_eq_false hb|replace hb:=zap hb|replace hb:=zaq hb|replace hb:=eq_of_beq hb|replace hb:=ne_of_beq_false hb|skip);all_goals(try(exfalso;omega))))
   all_goals first
    |(exfalso;simp[zec]at he;omega)
    |(apply ret1;exact rfl;exact⟨by rw[show zfN l tick look=false from zgX hxm he],dX⟩)
    |skip
  ·repeat' (first
    |apply zaA|apply zaa|apply zaz|apply zam|apply zan|apply zae|apply zay
    |(apply zaj hT;(iterate 4 exact rfl))|(apply zak;(iterate 3 exact rfl))|(apply zad;(iterate 2 exact rfl))
    |(apply zax hT;(iterate 4 exact rfl);(iterate 2 (first|omega|(dsimp only;omega))))
    |(apply zas [] [] hmix;decide+kernel)
    |(apply za4 hT;(iterate 8 exact rfl);(iterate 2 omega);exact hA')
    |(apply zab;(iterate 5 exact rfl);exact zbd hT rfl rfl (hrd.mono (by(intro c hc;(repeat(first|exact hc|apply List.mem_cons_of_mem|apply List.mem_append_right))))) AskR.enc_len rfl hx2 rfl)
    |(apply zaQ hT;(iterate 6 exact rfl);exact sX;(iterate 3 exact rfl);exact Nat.le_of_ble_eq_true rfl)
    |(apply zaw (hs:=((zdq W x.ends look tick (by unfold inW;omega) hlk (by unfold inW;omega)).mono (by simp)));(iterate 7 exact rfl))
    |(apply zab;(iterate 5 exact rfl);first|(apply zat hT;exact rfl;exact rfl;(repeat(first|exact List.mem_cons_self|apply List.mem_cons_of_mem|apply List.mem_append_right));exact rfl;exact rfl)|(apply zar hT;exact rfl;exact rfl;(repeat(first|exact List.mem_cons_self|apply List.mem_cons_of_mem|apply List.mem_append_right));exact rfl))
    |(apply zav;(iterate 5 exact rfl);intro _)|(apply zac hT;(iterate 5 exact rfl);intro _)
    |(apply zaf;(iterate 2 exact rfl))|(apply zag;(iterate 2 exact rfl))
    |(apply zal;exact rfl;all_goals intro hb;all_goals(fail_if_success (change true=true at hb));all_goals(fail_if_success (change false=false at hb));all_goals(try dsimp only at hb);all_goals(try simp only[hb]);all_goals(first|replace hb:=of_decide_eq_true hb|replace hb:=of_decide_eq_false hb|replace hb:=zap hb|replace hb:=zaq hb|replace hb:=eq_of_beq hb|replace hb:=ne_of_beq_false hb|skip);all_goals(try(exfalso;omega)))
    |(apply zao;exact rfl;all_goals intro hb;all_goals(try dsimp only at hb);all_goals(try simp only[hb]);all_goals(first|replace hb:=of_decide_eq_true hb|replace hb:=of_decide_eq_false hb|replace hb:=zap hb|replace hb:=zaq hb|replace hb:=eq_of_beq hb|replace hb:=ne_of_beq_false hb|skip);all_goals(try(exfalso;omega))))
   all_goals first
    |(exfalso;simp[zec]at he;omega)
    |exact zaO (k+1) (by(try dsimp only);omega) ⟨by(try dsimp only);omega,fun j y hj hy=>by
      by_cases hjk:j=k
      ·rw[hjk,hx]at hy;cases hy;exact he
      ·exact hgd j y (by(try dsimp only at hj);omega) hy⟩ ⟨rfl,rfl,rfl,rfl,rfl,trivial⟩ dX
    |skip
 ·obtain rfl:k=l.length:=by omega
  have hd1:decide ((l.length:Int)<(l.length:Int))=false:=by simp
  repeat' (first
   |apply zaA|apply zaa|apply zaz|apply zam|apply zan|apply zae|apply zay
   |(apply zaj hT;(iterate 4 exact rfl))|(apply zak;(iterate 3 exact rfl))|(apply zad;(iterate 2 exact rfl))
   |(apply zax hT;(iterate 4 exact rfl);(iterate 2 (first|omega|(dsimp only;omega))))
   |(apply zas [] [] hmix;decide+kernel)
   |(apply zab;(iterate 5 exact rfl);first|(apply zat hT;exact rfl;exact rfl;(repeat(first|exact List.mem_cons_self|apply List.mem_cons_of_mem|apply List.mem_append_right));exact rfl;exact rfl)|(apply zar hT;exact rfl;exact rfl;(repeat(first|exact List.mem_cons_self|apply List.mem_cons_of_mem|apply List.mem_append_right));exact rfl))
   |(apply zav;(iterate 5 exact rfl);intro _)|(apply zac hT;(iterate 5 exact rfl);intro _)
   |(apply zaf;(iterate 2 exact rfl))|(apply zag;(iterate 2 exact rfl))
   |(apply zal;exact rfl;all_goals intro hb;all_goals(fail_if_success (change true=true at hb));all_goals(fail_if_success (change false=false at hb));all_goals(try dsimp only at hb);all_goals(try simp only[hb]);all_goals(first|replace hb:=of_decide_eq_true hb|replace hb:=of_decide_eq_false hb|replace hb:=zap hb|replace hb:=zaq hb|replace hb:=eq_of_beq hb|replace hb:=ne_of_beq_false hb|skip);all_goals(try(exfalso;omega)))
   |(apply zao;exact rfl;all_goals intro hb;all_goals(try dsimp only at hb);all_goals(try simp only[hb]);all_goals(first|replace hb:=of_decide_eq_true hb|replace hb:=of_decide_eq_false hb|replace hb:=zap hb|replace hb:=zaq hb|replace hb:=eq_of_beq hb|replace hb:=ne_of_beq_false hb|skip);all_goals(try(exfalso;omega))))
  all_goals first
   |(exfalso;omega)
   |(apply ret1;exact rfl;exact⟨by rw[show zfN l tick look=true from zgq hgd],dX⟩)
   |skip
end Go.Proofs.YteocfhdocpeokaaGreat
set_option linter.unusedSimpArgs false
set_option linter.unusedVariables false
namespace Go.Sl
open Go Go.RowKit Go.MapKept
section
variable {P : Program} {W : World} {T : Tab} {N : Nat} {env : Env} {h h' : List zah} {kf : KF} {ops : Array Oper} {K : Env → List zah → Prop} {o : Oper} {rest : List Oper}
theorem zfe {b:Bool}{d:Tmp}{ty pos af g}{t:TypeId}(hg:zba ops env g=some b)(hb:b=true)(hd:Nat.blt d N=true)(hk:(kf.kd ⟨some d,.makeMap t none,ty,pos,af,g⟩).wr=true)
 (hK:∀g',ES P W N kf ops rest ((d,(.map (some g')))::env) (.map g' []::h) K):ES P W N kf ops (⟨some d,.makeMap t none,ty,pos,af,g⟩::rest) env h K:=fun a ha=>by
 subst hb
 refine zbg (it:=zaX kf ops ⟨some d,.makeMap t none,ty,pos,af,g⟩) (zaZ ha hg) (ze2 hk) (fun w hw=> ?_)
 have e:(execOp a.eval ⟨some d,.makeMap t none,ty,pos,af,g⟩).run P w=.ok (.value (.map (some w.heap.size))) (w.alloc (.map #[] 0)):=rfl
 unfold Oper.wp
 show Oper.upon P _ a _ _ ((execOp a.eval ⟨some d,.makeMap t none,ty,pos,af,g⟩).run P w)
 rw[e]
 refine⟨.map w.heap.size []::h,?_,hK w.heap.size _ (ha.put (d:=some d) hd)⟩
 exact hw.add (World.grownBy_alloc w _ none) ⟨hw.below.size,#[],0,heap_alloc_new w _,rfl⟩ (fun g hg=>by simp[zah.keys]at hg;omega)
end
end Go.Sl
set_option linter.unusedSimpArgs false
set_option linter.unusedVariables false
namespace Go.Proofs.YteocfhdocpeokaaGreat
open Go Go.Sl
attribute [local irreducible] AW ES EP Ld RetQ
set_option maxRecDepth 100000
theorem zc6 {W:World}{h:List zah}{A:Option Addr}{k:Nat}:zaE W h A 0 k []:=⟨by simp,by simp,fun w hw j v hj=>by simp at hj⟩
theorem zey (W:World)(A:Option Addr)(c:Nat):zaC Tryz.prog W 58 [.slice A 0 c] [] (.slice none 0 0):=by
 refine zaC.ofD (fun h' hs=> ?_)
 refine zau Tryz.func58 rfl rfl Tryz.results58 Tryz.ntmps58 rfl rfl ?_
 repeat' (first
  |apply zaA|apply zaa|apply zaz|apply zam|apply zan|apply zae|apply zay
  |(apply zaj hT;(iterate 4 exact rfl))|(apply zak;(iterate 3 exact rfl))|(apply zad;(iterate 2 exact rfl))
  |(apply zax hT;(iterate 4 exact rfl);(iterate 2 (first|omega|(dsimp only;omega))))
  |(apply zas [] [] hmix;decide+kernel)
  |(apply zab;(iterate 5 exact rfl);first|(apply zat hT;exact rfl;exact rfl;(repeat(first|exact List.mem_cons_self|apply List.mem_cons_of_mem|apply List.mem_append_right));exact rfl;exact rfl)|(apply zar hT;exact rfl;exact rfl;(repeat(first|exact List.mem_cons_self|apply List.mem_cons_of_mem|apply List.mem_append_right));exact rfl))
  |(apply zav;(iterate 5 exact rfl);intro _)|(apply zac hT;(iterate 5 exact rfl);intro _)
  |(apply zaf;(iterate 2 exact rfl))|(apply zag;(iterate 2 exact rfl))
  |(apply zal;exact rfl;all_goals intro hb;all_goals(fail_if_success (change true=true at hb));all_goals(fail_if_success (change false=false at hb));all_goals(try dsimp only at hb);all_goals(try simp only[hb]);all_goals(first|replace hb:=of_decide_eq_true hb|replace hb:=of_decide_eq_false hb|replace hb:=zap hb|replace hb:=zaq hb|replace hb:=eq_of_beq hb|replace hb:=ne_of_beq_false hb|skip);all_goals(try(exfalso;omega)))
  |(apply zao;exact rfl;all_goals intro hb;all_goals(try dsimp only at hb);all_goals(try simp only[hb]);all_goals(first|replace hb:=of_decide_eq_true hb|replace hb:=of_decide_eq_false hb|replace hb:=zap hb|replace hb:=zaq hb|replace hb:=eq_of_beq hb|replace hb:=ne_of_beq_false hb|skip);all_goals(try(exfalso;omega))))
 refine za2 (α:=Unit) (E:=fun _=>[(3,.slice none 0 0),(8,.int .i64 0),(9,.int .i64 0)]) (H:=fun _=>h') (μ:=fun _=>0) (S:=fun _=>True) () trivial ⟨rfl,rfl,rfl,trivial⟩ dX ?_
 intro _ _
 have hd1:decide ((0:Int)<0)=false:=by decide
 repeat' (first
  |apply zaA|apply zaa|apply zaz|apply zam|apply zan|apply zae|apply zay
  |(apply zaj hT;(iterate 4 exact rfl))|(apply zak;(iterate 3 exact rfl))|(apply zad;(iterate 2 exact rfl))
  |(apply zax hT;(iterate 4 exact rfl);(iterate 2 (first|omega|(dsimp only;omega))))
  |(apply zas [] [] hmix;decide+kernel)
  |(apply zab;(iterate 5 exact rfl);first|(apply zat hT;exact rfl;exact rfl;(repeat(first|exact List.mem_cons_self|apply List.mem_cons_of_mem|apply List.mem_append_right));exact rfl;exact rfl)|(apply zar hT;exact rfl;exact rfl;(repeat(first|exact List.mem_cons_self|apply List.mem_cons_of_mem|apply List.mem_append_right));exact rfl))
  |(apply zav;(iterate 5 exact rfl);intro _)|(apply zac hT;(iterate 5 exact rfl);intro _)
  |(apply zaf;(iterate 2 exact rfl))|(apply zag;(iterate 2 exact rfl))
  |(apply zal;exact rfl;all_goals intro hb;all_goals(fail_if_success (change true=true at hb));all_goals(fail_if_success (change false=false at hb));all_goals(try dsimp only at hb);all_goals(try simp only[hb]);all_goals(first|replace hb:=of_decide_eq_true hb|replace hb:=of_decide_eq_false hb|replace hb:=zap hb|replace hb:=zaq hb|replace hb:=eq_of_beq hb|replace hb:=ne_of_beq_false hb|skip);all_goals(try(exfalso;omega)))
  |(apply zao;exact rfl;all_goals intro hb;all_goals(try dsimp only at hb);all_goals(try simp only[hb]);all_goals(first|replace hb:=of_decide_eq_true hb|replace hb:=of_decide_eq_false hb|replace hb:=zap hb|replace hb:=zaq hb|replace hb:=eq_of_beq hb|replace hb:=ne_of_beq_false hb|skip);all_goals(try(exfalso;omega))))
 all_goals first
  |(exfalso;omega)
  |(apply ret1;exact rfl;exact⟨rfl,dX⟩)
  |skip
theorem zez (W:World)(A:Option Addr)(c:Nat)(A2:Option Addr)(c2:Nat):zaC Tryz.prog W 21 [.slice A 0 c,.slice A2 0 c2] [] (.bool true):=by
 refine zaC.ofD (fun h' hs=> ?_)
 have hcf:=fun k (g:Nat)=>zcB W k A 0 c [] rfl zc6 65 [.pointer (some ⟨g,0,none⟩)] (fun _=>false) (fun x hx=>by cases hx) (by omega)
 refine zau Tryz.func21 rfl rfl Tryz.results21 Tryz.ntmps21 rfl rfl ?_
 repeat' (first
  |apply zaA|apply zaa|apply zaz|apply zam|apply zan|apply zae|apply zay
  |(apply zaj hT;(iterate 4 exact rfl))|(apply zak;(iterate 3 exact rfl))|(apply zad;(iterate 2 exact rfl))
  |(apply zax hT;(iterate 4 exact rfl);(iterate 2 (first|omega|(dsimp only;omega))))
  |(apply zas [] [] hmix;decide+kernel)
  |(apply zfe;(iterate 4 exact rfl);intro gm)
  |(apply zac hT;(iterate 5 exact rfl);first|((fail_if_success (have q:=g5));intro g5)|intro _)
  |(apply zaQ hT;(iterate 6 exact rfl);exact sX;(iterate 3 exact rfl);exact Nat.le_of_ble_eq_true rfl)
  |(apply zab;(iterate 5 exact rfl);first|(apply zat hT;exact rfl;exact rfl;(repeat(first|exact List.mem_cons_self|apply List.mem_cons_of_mem|apply List.mem_append_right));exact rfl;exact rfl)|(apply zar hT;exact rfl;exact rfl;(repeat(first|exact List.mem_cons_self|apply List.mem_cons_of_mem|apply List.mem_append_right));exact rfl))
  |(apply zav;(iterate 5 exact rfl);intro _)|(apply zac hT;(iterate 5 exact rfl);intro _)
  |(apply zaf;(iterate 2 exact rfl))|(apply zag;(iterate 2 exact rfl))
  |(apply zal;exact rfl;all_goals intro hb;all_goals(fail_if_success (change true=true at hb));all_goals(fail_if_success (change false=false at hb));all_goals(try dsimp only at hb);all_goals(try simp only[hb]);all_goals(first|replace hb:=of_decide_eq_true hb|replace hb:=of_decide_eq_false hb|replace hb:=zap hb|replace hb:=zaq hb|replace hb:=eq_of_beq hb|replace hb:=ne_of_beq_false hb|skip);all_goals(try(exfalso;omega)))
  |(apply zao;exact rfl;all_goals intro hb;all_goals(try dsimp only at hb);all_goals(try simp only[hb]);all_goals(first|replace hb:=of_decide_eq_true hb|replace hb:=of_decide_eq_false hb|replace hb:=zap hb|replace hb:=zaq hb|replace hb:=eq_of_beq hb|replace hb:=ne_of_beq_false hb|skip);all_goals(try(exfalso;omega))))
 refine za2 (α:=Unit) (E:=fun _=>[(0,.slice A 0 c),(5,.pointer (some ⟨g5,0,none⟩)),(10,.int .i64 0),(11,.int .i64 0)]) (H:=fun _=>h') (μ:=fun _=>0) (S:=fun _=>True) () trivial ⟨rfl,rfl,rfl,rfl,trivial⟩ dX ?_
 intro _ _
 have hd1:decide ((0:Int)<0)=false:=by decide
 repeat' (first
  |apply zaA|apply zaa|apply zaz|apply zam|apply zan|apply zae|apply zay
  |(apply zaj hT;(iterate 4 exact rfl))|(apply zak;(iterate 3 exact rfl))|(apply zad;(iterate 2 exact rfl))
  |(apply zax hT;(iterate 4 exact rfl);(iterate 2 (first|omega|(dsimp only;omega))))
  |(apply zas [] [] hmix;decide+kernel)
  |(apply zaw (hs:=(hcf _ g5));(iterate 7 exact rfl))
  |(apply zab;(iterate 5 exact rfl);first|(apply zat hT;exact rfl;exact rfl;(repeat(first|exact List.mem_cons_self|apply List.mem_cons_of_mem|apply List.mem_append_right));exact rfl;exact rfl)|(apply zar hT;exact rfl;exact rfl;(repeat(first|exact List.mem_cons_self|apply List.mem_cons_of_mem|apply List.mem_append_right));exact rfl))
  |(apply zav;(iterate 5 exact rfl);intro _)|(apply zac hT;(iterate 5 exact rfl);intro _)
  |(apply zaf;(iterate 2 exact rfl))|(apply zag;(iterate 2 exact rfl))
  |(apply zal;exact rfl;all_goals intro hb;all_goals(fail_if_success (change true=true at hb));all_goals(fail_if_success (change false=false at hb));all_goals(try dsimp only at hb);all_goals(try simp only[hb]);all_goals(first|replace hb:=of_decide_eq_true hb|replace hb:=of_decide_eq_false hb|replace hb:=zap hb|replace hb:=zaq hb|replace hb:=eq_of_beq hb|replace hb:=ne_of_beq_false hb|skip);all_goals(try(exfalso;omega)))
  |(apply zao;exact rfl;all_goals intro hb;all_goals(try dsimp only at hb);all_goals(try simp only[hb]);all_goals(first|replace hb:=of_decide_eq_true hb|replace hb:=of_decide_eq_false hb|replace hb:=zap hb|replace hb:=zaq hb|replace hb:=eq_of_beq hb|replace hb:=ne_of_beq_false hb|skip);all_goals(try(exfalso;omega))))
 all_goals first
  |(exfalso;omega)
  |(apply ret1;exact rfl;exact⟨by simp[zbf],dX⟩)
  |skip
end Go.Proofs.YteocfhdocpeokaaGreat
set_option linter.unusedSimpArgs false
set_option linter.unusedVariables false
namespace Go.Proofs.YteocfhdocpeokaaGreat
open Go Go.Sl
/-! ### rows by an order -/
theorem zgY {α:Type}{p:α→α→Bool}{m:List α}{q:α}(h:m.Pairwise fun a b=>p a b=true)(htr:∀a b c,p a b=true→p b c=true→p a c=true)(htot:∀x∈m,p x q=true∨p q x=true){n:Nat}(hn:n=(m.takeWhile fun x=>p x q).length):
 (m.take n++[q]++m.drop n).Pairwise fun a b=>p a b=true:=by
 subst hn
 have hl:∀x∈m.take (m.takeWhile fun x=>p x q).length,p x q=true:=fun x hx=>zb7 (p:=fun x=>p x q) (l:=m) x hx
 have hsplit:m.take (m.takeWhile fun x=>p x q).length++m.drop (m.takeWhile fun x=>p x q).length=m:=List.take_append_drop _ _
 have hp:=h
 rw[←hsplit,List.pairwise_append]at hp
 obtain⟨p1,p2,p3⟩:=hp
 have hr:∀y∈m.drop (m.takeWhile fun x=>p x q).length,p q y=true:=fun y hy=>by
  cases hm:m.drop (m.takeWhile fun x=>p x q).length with
  |nil=>rw[hm]at hy;cases hy
  |cons z r=>
   have hz:=zbP (p:=fun x=>p x q) (l:=m) hm
   have hzl:z∈m:=List.mem_of_mem_drop (by rw[hm];simp)
   have hqz:p q z=true:=by
    rcases htot z hzl with h|h
    ·rw[hz]at h;cases h
    ·exact h
   rw[hm]at hy p2
   rcases List.mem_cons.1 hy with rfl|hy
   ·exact hqz
   ·exact htr _ _ _ hqz (List.rel_of_pairwise_cons p2 hy)
 rw[List.append_assoc,List.pairwise_append]
 refine⟨p1,?_,fun x hx y hy=> ?_⟩
 ·rw[List.singleton_append,List.pairwise_cons];exact⟨hr,p2⟩
 ·rw[List.singleton_append]at hy
  rcases List.mem_cons.1 hy with rfl|hy
  ·exact hl x hx
  ·exact p3 x hx y hy
theorem zgE {α:Type}{p:α→α→Bool}(has:∀x y,p x y=true→p y x=true→False):∀{a b:List α},a.Pairwise (fun x y=>p x y=true)→b.Pairwise (fun x y=>p x y=true)→a.Perm b→a=b
 |[],b,_,_,hp=>by rw[List.nil_perm.1 hp]
 |x::a,[],_,_,hp=>by have:=hp.length_eq;simp at this
 |x::a,y::b,ha,hb,hp=>by
  rw[List.pairwise_cons]at ha hb
  have hxy:x=y:=by
   rcases List.mem_cons.1 (hp.mem_iff.1 (List.mem_cons_self (a:=x) (l:=a)))with h|h
   ·exact h
   ·rcases List.mem_cons.1 (hp.mem_iff.2 (List.mem_cons_self (a:=y) (l:=b)))with h'|h'
    ·exact h'.symm
    ·exact(has _ _ (ha.1 y h') (hb.1 x h)).elim
  subst hxy
  rw[zgE has ha.2 hb.2 (List.Perm.cons_inv hp)]
/-! ### orders -/
def zbC (s a b:Int):Bool:=(s==1&&decide (a>b))||(s==2&&decide (a<b))
def isB (s:Int):Bool:=s==1||s==2
/-- which of a side is ahead -/
def zbl (s:Int)(a b:zaF):Bool:=if a.price=b.price then decide (a.seq<b.seq)else zbC s a.price b.price
theorem zfO {s:Int}(a b c:zaF)(h1:zbl s a b=true)(h2:zbl s b c=true):zbl s a c=true:=by
 unfold zbl zbC at*
 split at h1<;>split at h2<;>split<;>simp at* <;>omega
theorem zfP {s:Int}(a b:zaF)(h1:zbl s a b=true)(h2:zbl s b a=true):False:=by
 unfold zbl zbC at*
 split at h1<;>split at h2<;>simp at* <;>omega
theorem zdr {s:Int}(hs:isB s=true)(a b:zaF)(h:a.seq≠b.seq):zbl s a b=true∨zbl s b a=true:=by
 unfold zbl zbC isB at*
 simp at hs
 split<;>split<;>simp at* <;>omega
def cfO (a b:zaF):Int:=if zbC a.side a.price b.price then -1 else if zbC a.side b.price a.price then 1 else cmpI a.seq b.seq
theorem zfQ {s:Int}(hs:isB s=true){a b:zaF}(ha:a.side=s)(hb:b.side=s):(cfO a b<0)↔zbl s a b=true:=by
 unfold cfO zbl zbC cmpI isB at*
 subst ha
 simp at hs
 by_cases hp:a.price=b.price
 ·rw[if_pos hp,hp]
  simp
  split<;>(try split)<;>omega
 ·rw[if_neg hp]
  constructor
  ·intro h
   split at h
   ·assumption
   ·split at h
    ·omega
    ·rename_i h1 h2
     exfalso
     simp at h1 h2
     omega
  ·intro h
   rw[if_pos h];omega
def insO (s:Int)(out:List zaF)(o:zaF):List zaF:=out.take (out.takeWhile fun x=>zbl s x o).length++[o]++out.drop (out.takeWhile fun x=>zbl s x o).length
def za6 (s:Int)(o:zaF):Bool:=o.side==s
def zbq (s:Int)(l:List zaF):List zaF:=(l.filter (za6 s)).foldl (insO s) []
def zcn (l:List zaF):Prop:=l.Pairwise fun a b=>a.seq≠b.seq
theorem zed (s:Int)(out:List zaF)(o:zaF):(insO s out o).Perm (o::out):=zf8 out o _
theorem zds (s:Int):∀(l out:List zaF),(l.foldl (insO s) out).Perm (l++out)
 |[],out=>plr _
 |x::l,out=>by
  rw[List.foldl_cons]
  exact(zds s l (insO s out x)).trans ((List.Perm.append_left l (zed s out x)).trans List.perm_middle)
theorem zdt {l r:List zaF}(hp:r.Perm l)(h:zcn l):zcn r:=(hp.pairwise_iff (fun{a b} hab e=>hab e.symm)).2 h
theorem zeY {s:Int}(hs:isB s=true):∀(l out:List zaF),zcn (l++out)→out.Pairwise (fun a b=>zbl s a b=true)→(l.foldl (insO s) out).Pairwise (fun a b=>zbl s a b=true)
 |[],out,_,h=>h
 |x::l,out,hu,h=>by
  rw[List.foldl_cons]
  have hu2:zcn (l++insO s out x):=by
   have hp:(x::l++out).Perm (l++insO s out x):=List.perm_middle.symm.trans (List.Perm.append_left l (zed s out x).symm)
   exact zdt hp.symm hu
  refine zeY hs l (insO s out x) hu2 (zgY h (fun a b c=>zfO a b c) (fun y hy=> ?_) rfl)
  have hu3:zcn (x::(l++out)):=hu
  unfold zcn at hu3
  rw[List.pairwise_cons]at hu3
  exact zdr hs y x (fun e=>hu3.1 y (List.mem_append_right _ hy) e.symm)
theorem zb0 (s:Int)(l:List zaF):(zbq s l).Perm (l.filter (za6 s)):=by
 have:=zds s (l.filter (za6 s)) []
 rw[List.append_nil]at this;exact this
theorem zgr {s:Int}(hs:isB s=true){l:List zaF}(hu:zcn l):(zbq s l).Pairwise (fun a b=>zbl s a b=true):=
 zeY hs _ [] (by rw[List.append_nil];exact hu.sublist List.filter_sublist) List.Pairwise.nil
theorem zfR (s:Int)(l:List zaF):(zbq s l).length≤l.length:=by
 rw[(zb0 s l).length_eq];exact List.length_filter_le _ _
theorem zdu {s:Int}{l:List zaF}{o:zaF}(h:o∈zbq s l):o∈l∧o.side=s:=by
 have:=(zb0 s l).mem_iff.1 h
 rw[List.mem_filter]at this
 exact⟨this.1,by simpa [za6]using this.2⟩
/-- what the sort leaves is the side by its order -/
theorem zeA {s:Int}{l m:List zaF}(hu:zcn l)(hv:∀o∈l,isB o.side=true)(hp:m.Perm (l.filter (za6 s)))(hs:m.Pairwise (fun a b=>¬cfO b a<0)):m=zbq s l:=by
 by_cases hb:isB s=true
 ·refine zgE (p:=zbl s) (fun x y=>zfP x y) ?_ (zgr hb hu) (hp.trans (zb0 s l).symm)
  have hmu:zcn m:=zdt hp (hu.sublist List.filter_sublist)
  have hms:∀o∈m,o.side=s:=fun o ho=>by
   have:=hp.mem_iff.1 ho
   rw[List.mem_filter]at this
   simpa [za6]using this.2
  refine List.Pairwise.imp_of_mem (fun{a b} ha hb' hab=> ?_) (hs.and hmu)
  rcases zdr hb a b hab.2 with h|h
  ·exact h
  ·exact absurd ((zfQ hb (hms b hb') (hms a ha)).2 h) hab.1
 ·have he:l.filter (za6 s)=[]:=by
   rw[List.filter_eq_nil_iff]
   intro o ho hos
   have:=hv o ho
   simp only[za6,beq_iff_eq]at hos
   rw[hos]at this
   exact hb this
  rw[he]at hp
  rw[List.perm_nil.1 hp]
  unfold zbq;rw[he];rfl
/-! ### levels -/
structure Lvl where
 price:Int
 qty:Int
 deriving DecidableEq
def Lvl.enc (v:Lvl):List Value:=[.int .i64 v.price,.int .i64 v.qty]
theorem Lvl.enc_len (v:Lvl):v.enc.length=2:=rfl
theorem Lvl.enc_one (v:Lvl):∀x∈v.enc,x.oneCell'=true:=List.all_eq_true.1 (rfl:v.enc.all Value.oneCell'=true)
def zb1 (v:List Lvl)(o:zaF):List Lvl:=match v.getLast? with
 |some x=>if x.price=o.price then v.dropLast++[⟨x.price,x.qty+o.left⟩]else v++[⟨o.price,o.left⟩]
 |none=>[⟨o.price,o.left⟩]
def zaV (o:List zaF):List Lvl:=o.foldl zb1 []
theorem zfS (v:List Lvl)(o:zaF):(zb1 v o).length≤v.length+1:=by
 unfold zb1
 split
 ·rename_i x hx
  have hne:v≠[]:=fun e=>by rw[e]at hx;cases hx
  split
  ·simp
   (try(have:=List.length_pos_iff.2 hne;omega))
  ·simp
 ·simp
theorem zc7 (o:List zaF)(x:zaF):zaV (o++[x])=zb1 (zaV o) x:=by simp[zaV,List.foldl_append]
end Go.Proofs.YteocfhdocpeokaaGreat
set_option linter.unusedSimpArgs false
set_option linter.unusedVariables false
namespace Go.Proofs.YteocfhdocpeokaaGreat
open Go Go.Sl
attribute [local irreducible] AW ES EP Ld RetQ
set_option maxRecDepth 100000
def okO (o:zaF):Bool:=decide (o.id≥1)&&decide (o.seq≥1)&&decide (o.price≥1)&&decide (o.price≤1000000)&&decide (o.left≥1)&&decide (o.left≤1000000)&&decide (o.owner≥0)&&isB o.side
def hasO (id:Int)(o:zaF):Bool:=o.id==id
/-! ### Add -/
def zeZ (o x:zaF):Bool:=x.id==o.id||x.seq==o.seq
def zhe (o:zaF)(l:List zaF):Int:=if okO o=false∨zbf (zeZ o) l≥0 then 1 else if l.length≥64 then 3 else 0
def addO (o:zaF)(l:List zaF):List zaF:=if zhe o l=0 then l++[o]else l
/-! ### Get, Drop, Less -/
def getO (id:Int)(l:List zaF):Option zaF:=l.find? (hasO id)
theorem zfT {α:Type}{p:α→Bool}(r:List α):(zbf p r= -1∧r.find? p=none)∨(∃(i:Nat) (x:α),zbf p r=i∧r[i]? =some x∧p x=true∧r.find? p=some x):=by
 by_cases h:zbf p r<0
 ·left
  have:=zeP (p:=p) (l:=r)
  refine⟨by omega,?_⟩
  rw[List.find?_eq_none]
  intro x hx
  have:=zbZ.1 h x hx
  simp[this]
 ·right
  obtain⟨i,hi⟩:=Int.eq_ofNat_of_zero_le (show 0≤zbf p r by omega)
  obtain⟨x,hx,hp,hb⟩:=zcQ (p:=p) (l:=r) (i:=i) hi
  refine⟨i,x,hi,hx,hp,?_⟩
  rw[List.find?_eq_some_iff_getElem]
  obtain⟨hlt,hxe⟩:=gsi.1 hx
  refine⟨hp,i,hlt,hxe,fun j hj=> ?_⟩
  have:=hb j r[j] hj (gge (by omega))
  simp[this]
def zff (id left:Int)(l:List zaF):Int:=match getO id l with
 |none=>4
 |some x=>if left<1∨left>x.left then 1 else 0
def zgs (id left:Int)(l:List zaF):List zaF:=match getO id l with
 |none=>l
 |some x=>if zff id left l=0 then l.set (zbf (hasO id) l).toNat {x with left:=left}else l
theorem zee (W:World)(s:Int):zaC Tryz.prog W 82 [.pointer none,.int .i64 s] [] (.slice none 0 0):=by
 refine zaC.ofD (fun h' hs=> ?_)
 refine zau Tryz.func82 rfl rfl Tryz.results82 Tryz.ntmps82 rfl rfl ?_
 repeat' (first
  |apply zaA|apply zaa|apply zaz|apply zam|apply zan|apply zae|apply zay
  |(apply zaj hT;(iterate 4 exact rfl))|(apply zak;(iterate 3 exact rfl))|(apply zad;(iterate 2 exact rfl))
  |(apply zax hT;(iterate 4 exact rfl);(iterate 2 omega))
  |(apply zas [] [] hmix;decide+kernel)
  |(apply zab;(iterate 5 exact rfl);first|exact zat hT rfl rfl mem0 rfl rfl|exact zar hT rfl rfl mem0 rfl)
  |(apply zab;(iterate 5 exact rfl);first|exact zat hT rfl rfl mem1 rfl rfl|exact zar hT rfl rfl mem1 rfl)
  |(apply zab;(iterate 5 exact rfl);first|exact zat hT rfl rfl mem2 rfl rfl|exact zar hT rfl rfl mem2 rfl)
  |(apply zav;(iterate 5 exact rfl);intro _)|(apply zac hT;(iterate 5 exact rfl);intro _)
  |(apply zaf;(iterate 2 exact rfl))|(apply zag;(iterate 2 exact rfl))
  |(apply zal;exact rfl;all_goals intro hb;all_goals(try simp only[hb]);all_goals(first|replace hb:=of_decide_eq_true hb|replace hb:=of_decide_eq_false hb|replace hb:=zap hb|replace hb:=zaq hb|skip);all_goals(try(exfalso;omega)))
  |(apply zao;exact rfl;all_goals intro hb;all_goals(try simp only[hb]);all_goals(first|replace hb:=of_decide_eq_true hb|replace hb:=of_decide_eq_false hb|replace hb:=zap hb|replace hb:=zaq hb|skip);all_goals(try(exfalso;omega))))
 apply ret1;exact rfl
 exact⟨rfl,dX⟩
end Go.Proofs.YteocfhdocpeokaaGreat
set_option linter.unusedSimpArgs false
set_option linter.unusedVariables false
namespace Go.Sl
open Go Go.RowKit Go.Sort Go.Proofs Go.Shelf
theorem zdv {α:Type}[Inhabited α]{enc:α→List Value}{k:Nat}(hk:∀x,(enc x).length=k)(d:Array α):(flatK enc k d).toList=d.toList.flatMap enc:=by
 apply List.ext_getElem?
 intro t
 have hl:=zbW (enc:=enc) hk d.toList
 by_cases ht:t<d.size*k
 ·have k0:0<k:=by
   rcases Nat.eq_zero_or_pos k with h|h
   ·subst h;simp at ht
   ·exact h
  have hi:t / k<d.size:=(Nat.div_lt_iff_lt_mul k0).2 ht
  have hx:d.toList[t / k]? =some d[t / k]! :=by
   rw[Array.getElem?_toList,getElem!_pos d _ hi];simp[hi]
  have e:=zdz hk d.toList (t / k) (t%k) _ hx (Nat.mod_lt _ k0)
  rw[Nat.div_add_mod' t k]at e
  rw[e]
  have h1:=get_flatK enc k d t ht
  have hs:t<(flatK enc k d).size:=by simpa using ht
  rw[Array.getElem?_toList,Array.getElem?_eq_getElem hs,←getElem!_pos _ t hs,h1]
  have hm:t%k<(enc d[t / k]!).length:=by rw[hk];exact Nat.mod_lt _ k0
  rw[gge hm,getElem!_pos (enc d[t / k]!) (t%k) hm]
 ·rw[List.getElem?_eq_none (by simp;omega),List.getElem?_eq_none (by rw[hl];simp;omega)]
theorem zeB {α:Type}[Inhabited α]{d d':Array α}(h:PermIn 0 d.size d d'):d'.toList.Perm d.toList:=by
 obtain⟨h1,_,h3⟩:=h
 have e1:d'.extract 0 d.size=d':=by rw[←h1];simp
 have e2:d.extract 0 d.size=d:=by simp
 rw[e1,e2]at h3
 exact h3
theorem zdL {α:Type}[Inhabited α]{lt:α→α→Bool}{d':Array α}{n:Nat}(h:SortedIn lt 0 n d')(hn:d'.size=n):d'.toList.Pairwise fun a b=>lt b a=false:=by
 rw[List.pairwise_iff_getElem]
 intro i j hi hj hij
 have hj':j<d'.size:=by simpa using hj
 have:=h i j (Nat.zero_le _) hij (by omega)
 rw[getElem!_pos d' j hj',getElem!_pos d' i (by omega)]at this
 simpa using this
section
variable {P : Program} {W w : World} {F : List zah} {α : Type} [Inhabited α] {enc : α → List Value} {k : Nat}
theorem zfU {g m:Nat}{os:Array Obj}{cur:Array Value}{t:TypeId}{fr:Nat×Nat}(d:Array α)(hb:w.heap[g]? =some (.cells cur t fr)):
 (sortWorldK enc k w g 0 m d os).heap[g]? =some (.cells (putCells id 0 (flatK enc k d) cur) t fr):=by
 have hg:g<w.heap.size:=(Array.getElem?_eq_some_iff.1 hb).1
 unfold sortWorldK putRowK
 rw[Go.Sort.heap_grow_old _ _ (by simpa using hg)]
 simp[putRow,mapBlock,Sort.ahead,Array.getElem?_modify,hb,onCells]
theorem zef {g m:Nat}{os:Array Obj}(d:Array α):w.grownBy (sortWorldK enc k w g 0 m d os) (some g):=by
 unfold sortWorldK putRowK
 refine⟨rfl,rfl,rfl,by simp,fun j hj hne=> ?_⟩
 rw[Go.Sort.heap_grow_old _ _ (by simpa using hj)]
 have:g≠j:=fun e=>hne (by rw[e])
 simp[putRow,mapBlock,Sort.ahead,Array.getElem?_modify,this]
theorem zgt {g n c m:Nat}{t:TypeId}{os:Array Obj}{l:List α}(hk:∀x,(enc x).length=k)(h1:∀x,∀v∈enc x,v.oneCell'=true)(hn:l.length=n)(hw:Rep W (.own (some ⟨g,0,none⟩) n c t k (l.flatMap enc)::F) w)(d':Array α)(hd:d'.size=n):
 Rep W (.own (some ⟨g,0,none⟩) n c t k (d'.toList.flatMap enc)::F) (sortWorldK enc k w g 0 m d' os):=by
 have ho:=hw.holds _ mem0
 rcases ho.1.2 with ⟨hv,_⟩|⟨g',cap,cur,hv,hbb,hgb,hnc,hcm,hcs,htk⟩
 ·cases hv
 ·injection hv with hA _ hc
  injection hA with hA
  injection hA with hA _ _
  subst hA hc
  have hlen:(d'.toList.flatMap enc).length=n*k:=by rw[zbW hk];simp[hd]
  have hle:n*k≤cur.size:=by rw[hcs];exact Nat.mul_le_mul_right k hnc
  refine hw.change (zef d') (fun j e=>by simp[zah.keys];exact(Option.some.inj e).symm) ⟨⟨hlen,.inr ⟨g,c,_,rfl,hbb,zfU d' hgb,hnc,hcm,by simp[putCells,hcs],?_⟩⟩,fun v hv=> ?_⟩ (fun j hj=>.inl (by simpa [zah.keys]using hj))
  ·rw[←zdv hk d']
   apply List.ext_getElem?
   intro j
   have hsz:(flatK enc k d').size=n*k:=by simp[hd]
   by_cases hj:j<n*k
   ·rw[List.getElem?_take_of_lt hj,Array.getElem?_toList,Array.getElem?_toList]
    have hjc:j<cur.size:=by omega
    have hjf:j<(flatK enc k d').size:=by omega
    simp[putCells,hjc,hjf]
    rw[if_pos (by rw[hd];exact hj),Array.getElem?_eq_getElem hjf,getElem!_pos _ j hjf]
   ·rw[List.getElem?_take_eq_none (by omega),List.getElem?_eq_none (by simp[hd];omega)]
  ·obtain⟨x,_,hx⟩:=List.mem_flatMap.1 hv
   exact h1 x v hx
theorem sort_holds {g n c:Nat}{t:TypeId}{l:List α}(hk:∀x,(enc x).length=k)(hn:l.length=n)(hw:Rep W (.own (some ⟨g,0,none⟩) n c t k (l.flatMap enc)::F) w):HoldsK enc k w g 0 l.toArray∧g<w.heap.size:=by
 have ho:=hw.holds _ mem0
 rcases ho.1.2 with ⟨hv,_⟩|⟨g',cap,cur,hv,hbb,hgb,hnc,hcm,hcs,htk⟩
 ·cases hv
 ·injection hv with hA _ hc
  injection hA with hA
  injection hA with hA _ _
  subst hA hc
  refine⟨fun j hj=> ?_,(Array.getElem?_eq_some_iff.1 hgb).1⟩
  have hj':j<n*k:=by simpa [hn]using hj
  refine⟨?_,by simp[World.frozen?,hgb]⟩
  have h2:(flatK enc k l.toArray).toList=l.flatMap enc:=by rw[zdv hk]
  have h3:(cur.toList.take (n*k))[j]? =((flatK enc k l.toArray).toList)[j]? :=by rw[htk,h2]
  rw[List.getElem?_take_of_lt hj',Array.getElem?_toList,Array.getElem?_toList]at h3
  simp only[World.cell?,hgb,Nat.zero_add,Option.isSome_none,Bool.false_eq_true,if_false]
  rw[h3,Array.getElem?_eq_getElem hj,getElem!_pos _ j hj]
  rfl
/-- **slices.SortFunc**, of a row of the call's own -/
theorem zhf {ρ:Ren}(L:SlLaysF0.n6 P ρ)(hf:zfn P (ρ.f 6))(aE:∀w,(isAgg (ρ.t 24)).run P w=.ok true w)(zE:∀w,(Go.sizeOf (ρ.t 24)).run P w=.ok k w)(hk:∀x,(enc x).length=k)(h1:∀x,∀v∈enc x,v.oneCell'=true)(cf:α→α→Int)(hO:SWO (ltOf cf))(g:Nat)
 (eg:∀args w,(callFunc g args).run P w=.ok (.enter g args) w) (hcmp:∀(x y:α) (W:World),Calls P g #[.agg (enc x).toArray,.agg (enc y).toArray] W fun e w'=>e=.returned (.int .i64 (cf x y))∧∃q os',w'=grow (W.drewN q) os')
 (A:Option Addr)(c:Nat)(t:TypeId)(l:List α)(hb:l.length≤1000000):
 zaI P W (ρ.f 6) [.slice A l.length c,.func (.func g) #[] #[]] (.own A l.length c t k (l.flatMap enc)::F) (fun v h'=>v=.tuple #[]∧∃l':List α,l'.Perm l∧l'.Pairwise (fun a b=>ltOf cf b a=false)∧h'=.own A l'.length c t k (l'.flatMap enc)::F):=by
 refine⟨hf,fun w hw=> ?_⟩
 cases l with
 |nil=>exact(AnyF.slices_SortFunc_none L A c _ w).mono fun e w' ⟨he,hww⟩=>⟨_,_,he,⟨rfl,[],plr _,List.Pairwise.nil,rfl⟩,by rw[hww];exact hw⟩
 |cons x0 l0=>
  generalize hl:x0::l0=l at*
  have hpos:0<l.length:=by rw[←hl];simp
  obtain⟨g',hA⟩:=(hw.ownF mem0).at_ hpos
  subst hA
  obtain⟨hH,hblk⟩:=sort_holds hk rfl hw
  have hlays:CmpLays P g #[] enc k cf g' 0 l.toArray.size w:=fun m os dk _ x y=>by simpa using hcmp x y _
  have hcon:=AnyQ.slices_SortFunc L k aE zE enc hk h1 cf hO g #[] g' 0 c l.toArray w eg hlays hH hblk (by simp;omega)
  refine hcon.mono ?_
  rintro e w' ⟨rfl,d',n,os,hp,hs,rfl⟩
  have hd:d'.size=l.length:=by have:=hp.1;simpa using this
  refine⟨_,_,rfl,⟨rfl,d'.toList,by simpa using zeB hp,zdL hs (by simpa using hd),rfl⟩,?_⟩
  have:=zgt (m:=n) (os:=os) hk h1 rfl hw d' hd
  simpa [hd]using this
end
end Go.Sl
namespace Go.Proofs.YteocfhdocpeokaaGreat
open Go.Shelf
def zfV :Go.Shelf.Ren:=⟨fun|6=>124|15=>167|14=>166|28=>205|29=>206|20=>197|21=>198|22=>199|23=>200|24=>201|25=>202|26=>203|27=>204|46=>220|47=>221|48=>222|49=>223|50=>224|57=>237|n=>n,fun|22=>150|24=>168|25=>200|3=>3|39=>130|0=>0|53=>268|55=>73|4=>4|46=>262|45=>261|50=>194|5=>5|9=>9|66=>289|70=>292|76=>301|77=>302|n=>n,fun|n=>n⟩
theorem zit :Go.Proofs.SlLaysF0.n6 Tryz.prog zfV:={
 mixed:=by kernel_rfl
 f6:=⟨Tryz.f124.name,by decide,Tryz.func124.trans (congrArg some (by kernel_rfl))⟩
 f14:=⟨Tryz.f166.name,by decide,Tryz.func166.trans (congrArg some (by kernel_rfl))⟩
 f15:=Tryz.func167.trans (congrArg some (by kernel_rfl))
 f20:=⟨Tryz.f197.name,by decide,Tryz.func197.trans (congrArg some (by kernel_rfl))⟩
 f21:=⟨Tryz.f198.name,by decide,Tryz.func198.trans (congrArg some (by kernel_rfl))⟩
 f22:=⟨Tryz.f199.name,by decide,Tryz.func199.trans (congrArg some (by kernel_rfl))⟩
 f23:=⟨Tryz.f200.name,by decide,Tryz.func200.trans (congrArg some (by kernel_rfl))⟩
 f24:=⟨Tryz.f201.name,by decide,Tryz.func201.trans (congrArg some (by kernel_rfl))⟩
 f25:=⟨Tryz.f202.name,by decide,Tryz.func202.trans (congrArg some (by kernel_rfl))⟩
 f26:=⟨Tryz.f203.name,by decide,Tryz.func203.trans (congrArg some (by kernel_rfl))⟩
 f27:=⟨Tryz.f204.name,by decide,Tryz.func204.trans (congrArg some (by kernel_rfl))⟩
 f28:=Tryz.func205.trans (congrArg some (by kernel_rfl))
 f29:=Tryz.func206.trans (congrArg some (by kernel_rfl))
 f46:=⟨Tryz.f220.name,by decide,Tryz.func220.trans (congrArg some (by kernel_rfl))⟩
 f47:=Tryz.func221.trans (congrArg some (by kernel_rfl))
 f48:=Tryz.func222.trans (congrArg some (by kernel_rfl))
 f49:=⟨Tryz.f223.name,by decide,Tryz.func223.trans (congrArg some (by kernel_rfl))⟩
 f50:=⟨Tryz.f224.name,by decide,Tryz.func224.trans (congrArg some (by kernel_rfl))⟩
 f57:=⟨Tryz.f237.name,by decide,Tryz.func237.trans (congrArg some (by kernel_rfl))⟩
 t0:=Tryz.underlying0
 a0:=Tryz.isAgg0
 z0:=Tryz.sizeOf0
 v0:=Tryz.zeroValue0
 t3:=Tryz.underlying3
 a3:=Tryz.isAgg3
 z3:=Tryz.sizeOf3
 v3:=Tryz.zeroValue3
 t4:=Tryz.underlying4
 a4:=Tryz.isAgg4
 z4:=Tryz.sizeOf4
 v4:=Tryz.zeroValue4
 t5:=Tryz.underlying5
 a5:=Tryz.isAgg5
 z5:=Tryz.sizeOf5
 v5:=Tryz.zeroValue5
 t9:=Tryz.underlying9
 a9:=Tryz.isAgg9
 z9:=Tryz.sizeOf9
 v9:=Tryz.zeroValue9
 t22:=Tryz.underlying150
 a22:=Tryz.isAgg150
 z22:=Tryz.sizeOf150
 v22:=Tryz.zeroValue150
 t25:=Tryz.underlying200
 a25:=Tryz.isAgg200
 z25:=Tryz.sizeOf200
 v25:=Tryz.zeroValue200
 t39:=Tryz.underlying130
 a39:=Tryz.isAgg130
 z39:=Tryz.sizeOf130
 v39:=Tryz.zeroValue130
 t45:=Tryz.underlying261
 a45:=Tryz.isAgg261
 z45:=Tryz.sizeOf261
 v45:=Tryz.zeroValue261
 t46:=Tryz.underlying262
 a46:=Tryz.isAgg262
 z46:=Tryz.sizeOf262
 v46:=Tryz.zeroValue262
 t50:=Tryz.underlying194
 a50:=Tryz.isAgg194
 z50:=Tryz.sizeOf194
 v50:=Tryz.zeroValue194
 t53:=Tryz.underlying268
 a53:=Tryz.isAgg268
 z53:=Tryz.sizeOf268
 v53:=Tryz.zeroValue268
 t55:=Tryz.underlying73
 a55:=Tryz.isAgg73
 z55:=Tryz.sizeOf73
 v55:=Tryz.zeroValue73
 t66:=Tryz.underlying289
 a66:=Tryz.isAgg289
 z66:=Tryz.sizeOf289
 v66:=Tryz.zeroValue289
 t70:=Tryz.underlying292
 a70:=Tryz.isAgg292
 z70:=Tryz.sizeOf292
 v70:=Tryz.zeroValue292
 t76:=Tryz.underlying301
 a76:=Tryz.isAgg301
 z76:=Tryz.sizeOf301
 v76:=Tryz.zeroValue301
 t77:=Tryz.underlying302
 a77:=Tryz.isAgg302
 z77:=Tryz.sizeOf302
 v77:=Tryz.zeroValue302}
end Go.Proofs.YteocfhdocpeokaaGreat
set_option linter.unusedSimpArgs false
set_option linter.unusedVariables false
namespace Go.Proofs.YteocfhdocpeokaaGreat
open Go Go.Sl Go.RowKit Go.Sort
theorem zgZ (s a b:Int)(W:World):Calls Tryz.prog 168 #[.int .i64 s,.int .i64 a,.int .i64 b] W fun e w'=>e=.returned (.bool (zbC s a b))∧w'=W:=by
 go_enter Tryz.func168,Tryz.ntmps168
 go_wp2
 all_goals
  go_ret
  refine⟨?_,rfl⟩
  simp[zbC, *]
theorem zhg (x:Int)(W:World):Calls Tryz.prog 193 #[.int .i64 x] W fun e w'=>e=.returned (.bool false)∧w'=W:=by
 go_enter Tryz.func193,Tryz.ntmps193
 go_wp2
 all_goals
  go_ret
  exact⟨by simp,rfl⟩
theorem cmpK (x y:Int)(W:World):Calls Tryz.prog 161 #[.int .i64 x,.int .i64 y] W fun e w'=>e=.returned (.int .i64 (cmpI x y))∧w'=W:=by
 have h1:=fun z W=>zhg z W
 go_enter Tryz.func161,Tryz.ntmps161
 go_wp2_with (go_at_call 193;refine(h1 _ _).mono ?_;rintro e w' ⟨rfl,rfl⟩)
 all_goals
  go_ret
  refine⟨?_,rfl⟩
  simp[cmpI, *]
  try(split<;>(try split)<;>omega)
theorem zhh (a b:zaF)(W:World):Calls Tryz.prog 125 #[.agg a.enc.toArray,.agg b.enc.toArray] W fun e w'=>e=.returned (.int .i64 (cfO a b))∧∃q os',w'=grow (W.drewN q) os':=by
 obtain⟨a0,a1,a2,a3,a4,a5⟩:=a
 obtain⟨b0,b1,b2,b3,b4,b5⟩:=b
 have h1:=fun s x y W=>zgZ s x y W
 have h2:=fun x y W=>cmpK x y W
 unfold cfO
 dsimp only[zaF.enc]
 go_enter Tryz.func125,Tryz.ntmps125
 go_wp2_with (first|(go_at_call 168;refine(h1 _ _ _ _).mono ?_;rintro e w' ⟨rfl,rfl⟩)|(go_at_call 161;refine(h2 _ _ _).mono ?_;rintro e w' ⟨rfl,rfl⟩))
 all_goals
  go_ret
  refine⟨?_,0,_,by rw[alloc_eq_grow,alloc_eq_grow,grow_grow];rfl⟩
  simp[*]
end Go.Proofs.YteocfhdocpeokaaGreat
