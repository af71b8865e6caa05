/- The statements' walks, and what they stand on, joined into few texts: part 4. Conditions stand in each statement. -/
import Derived.Test.YtakilgkpfjhfdaaGreatBndF3
set_option linter.all false
namespace Go.Proofs.YtakilgkpfjhfdaaGreat
open Go Go.Sl
attribute [local irreducible] AW ES EP Ld RetQ
set_option maxRecDepth 100000
theorem zn5 {a : Nat} (ha : a < 2 ^ 64) : a ^^^ 18446744073709551615 = 18446744073709551615 - a := by
 have h : (BitVec.ofNat 64 a ^^^ BitVec.allOnes 64).toNat = (~~~ (BitVec.ofNat 64 a)).toNat := by
  rw [BitVec.xor_allOnes]
 rw [BitVec.toNat_xor, BitVec.toNat_not, BitVec.toNat_ofNat, Nat.mod_eq_of_lt ha, BitVec.toNat_allOnes] at h
 exact h
theorem zmE {n : Int} (hn : inW n) : bitI .xor .u64 (IntKind.u64.wrap (n % 18446744073709551616 * 2 ^ (min (Int.toNat 1) IntKind.u64.bits))) (n / ((2 ^ 63 : Nat) : Int) % 18446744073709551616) = ((zigN n : Nat) : Int) := by
 unfold inW at hn
 have e1 : IntKind.u64.wrap (n % 18446744073709551616 * 2 ^ (min (Int.toNat 1) IntKind.u64.bits)) = (n % 18446744073709551616 * 2) % 18446744073709551616 := by
  rw [IntKind.wrap_u64]; rfl
 rw [e1]
 by_cases h0 : n < 0
 ·have e2 : n / ((2 ^ 63 : Nat) : Int) % 18446744073709551616 = ((18446744073709551615 : Nat) : Int) := by
   rw [show ((2 ^ 63 : Nat) : Int) = 9223372036854775808 from by simp]; omega
  obtain ⟨m, hm⟩ := Int.eq_ofNat_of_zero_le (show 0 ≤ 2 * n + 18446744073709551616 by omega)
  have e3 : n % 18446744073709551616 * 2 % 18446744073709551616 = (m : Int) := by omega
  have hml : m < 2 ^ 64 := by omega
  rw [e2, e3, zgK hml (by omega), zn5 hml]
  unfold zigN
  rw [if_pos h0]
  omega
 ·have e2 : n / ((2 ^ 63 : Nat) : Int) % 18446744073709551616 = ((0 : Nat) : Int) := by
   rw [show ((2 ^ 63 : Nat) : Int) = 9223372036854775808 from by simp]; omega
  obtain ⟨m, hm⟩ := Int.eq_ofNat_of_zero_le (show 0 ≤ 2 * n by omega)
  have e3 : n % 18446744073709551616 * 2 % 18446744073709551616 = (m : Int) := by omega
  have hml : m < 2 ^ 64 := by omega
  rw [e2, e3, zgK hml (by omega), Nat.xor_zero]
  unfold zigN
  rw [if_neg h0]
  omega
theorem zjP (W : World) (n : Int) (hn : inW n) : zaL Tryz.prog W 220 [.int .i64 n] [] (.int .u64 (zigN n : Nat)) := by
 refine zaL.ofD (fun h' hs => ?_)
 have ht := zmE hn
 refine zan Tryz.func220 rfl rfl Tryz.results220 Tryz.ntmps220 rfl rfl ?_
 repeat' (first | apply zae | apply zaa | apply zaj | apply zad | apply zab hT; iterate 4 exact rfl | apply zlC hT; iterate 4 exact rfl | apply zou; (iterate 5 exact rfl); omega | apply zlD (n := 63); (iterate 6 exact rfl); exact nle rfl | apply zcZ; (iterate 6 exact rfl); exact ht)
 all_goals first
  | (apply ret1; exact rfl; exact ⟨rfl, by (repeat (first | exact zar))⟩)
  | skip
theorem zqX (m : Nat) (hm : m < 256) : bitI .or .u8 (m : Int) 128 = ((m % 128 + 128 : Nat) : Int) := by
 have key : ∀ m : Fin 256, bitI .or .u8 ((m.val : Nat) : Int) 128 = ((m.val % 128 + 128 : Nat) : Int) := by decide +kernel
 exact key ⟨m, hm⟩
theorem zid {z : Nat} (h : ¬ z < 128) : oneN z = (z % 128 + 128) :: oneN (z / 128) := by
 rw [oneN]; rw [dif_neg h]
theorem zes {z : Nat} (h : z < 128) : oneN z = [z] := by
 rw [oneN]; rw [dif_pos h]
theorem zpc : ∀ (z : Nat), ∀ b ∈ oneN z, b < 256 := fun z => by
 induction z using Nat.strongRecOn with
 | _ z ih =>
   intro b hb
   by_cases h : z < 128
   ·rw [zes h] at hb
    rw [List.mem_singleton.1 hb]; omega
   ·rw [zid h] at hb
    rcases List.mem_cons.1 hb with rfl | hb
    ·omega
    ·exact ih (z / 128) (by omega) b hb
theorem zkh : ∀ (k z : Nat), z < 128 ^ (k + 1) → (oneN z).length ≤ k + 1
 | 0, z, h => by rw [zes (by simpa using h)]; simp
 | k + 1, z, h => by
   by_cases hz : z < 128
   ·rw [zes hz]; simp
   ·rw [zid hz]
    have := zkh k (z / 128) (by
     rw [Nat.div_lt_iff_lt_mul (by decide)]
     rw [Nat.pow_succ] at h
     exact h)
    simp; omega
theorem zn6 (l : List Int) : ∀ b ∈ zdP l, b < 256 := fun b hb => by
 obtain ⟨n, _, hn⟩ := List.mem_flatMap.1 hb
 exact zpc _ b hn
theorem zmF {n : Int} (hn : inW n) : zigN n < 2 ^ 64 := by
 unfold inW at hn
 unfold zigN
 split <;> omega
theorem zfd {l : List Int} (h : ∀ n ∈ l, inW n) : (zdP l).length ≤ 10 * l.length := by
 induction l with
 | nil => simp [zdP]
 | cons n l ih =>
   have h1 := zkh 9 (zigN n) (Nat.lt_of_lt_of_le (zmF (h n mcs)) (by decide))
   have h2 := ih (fun m hm => h m (mcm _ hm))
   have e : zdP (n :: l) = oneN (zigN n) ++ zdP l := rfl
   rw [e, List.length_append, List.length_cons]
   omega
theorem zkZ {l : List Int} {k : Nat} {n : Int} (h : l[k]? = some n) : zdP (l.take (k + 1)) = zdP (l.take k) ++ oneN (zigN n) := by
 rw [List.take_add_one, h]
 unfold zdP
 rw [List.flatMap_append]
 simp
set_option maxHeartbeats 2000000 in
theorem zn7 (W : World) (h : List zax) (A : Option Addr) (c : Nat) (l : List Int) (hwl : ∀ n ∈ l, inW n) (hr : zaJ W h A l.length 1 (l.map (Value.int .i64))) (hb : l.length ≤ 1000) :
 zaB Tryz.prog W 206 [.slice A l.length c] h (fun v h' => ∃ A' c', v = .slice A' (zdP l).length c' ∧ h' = .own A' (zdP l).length c' 5 1 ((zdP l).map byV) :: h) := by
 refine zaB.dropTo ?_
 have hpl := zfd hwl
 refine zan Tryz.func206 rfl rfl Tryz.results206 Tryz.ntmps206 rfl rfl ?_
 refine zaU hr rfl (fun hA => ?_)
 repeat' (first | apply zae | apply zaa | apply zaf | apply zad | apply zab hT; iterate 4 exact rfl)
 refine zbV (fun w hw => ⟨_, hw.own_nil 5 1, ?_⟩)
 refine zbj (α := Nat × Option Addr × Nat) (E := fun x => [(3, .slice x.2.1 (zdP (l.take x.1)).length x.2.2), (7, .slice A l.length c), (8, .int .i64 l.length), (9, .int .i64 x.1)]) (H := fun x => .own x.2.1 (zdP (l.take x.1)).length x.2.2 5 1 ((zdP (l.take x.1)).map byV) :: h) (μ := fun x => l.length - x.1)
  (S := fun x => x.1 ≤ l.length) (0, none, 0) (Nat.zero_le _) ⟨rfl, rfl, rfl, rfl, trivial⟩ (by (repeat (first | exact zar))) ?_
 rintro ⟨k, A3, c3⟩ hk
 dsimp only at hk ⊢
 have hlk : (zdP (l.take k)).length ≤ 10 * l.length := Nat.le_trans (zfd (fun n hn => hwl n (List.mem_of_mem_take hn))) (by simp; omega)
 by_cases hlt : k < l.length
 ·obtain ⟨n, hn⟩ : ∃ n, l[k]? = some n := ⟨l[k]'(by omega), List.getElem?_eq_getElem (by omega)⟩
  have hn2 : l[(k : Int).toNat]? = some n := by simpa using hn
  have hA' := hA (by omega)
  have hd1 : decide ((k : Int) < (l.length : Int)) = true := by simp; omega
  have hnw := hwl n (List.mem_of_getElem? hn)
  have hT1 := zjP W n hnw
  have hst := zkZ hn
  have hlk1 : (zdP (l.take (k + 1))).length ≤ 10 * l.length := Nat.le_trans (zfd (fun n hn => hwl n (List.mem_of_mem_take hn))) (by simp; omega)
  have hix := zed (kd := .i64) hn2
  have hz0 := zmF hnw
  generalize zdP (l.take k) = p0 at *
  obtain ⟨p1, hp1e⟩ : ∃ p, zdP (l.take (k + 1)) = p := ⟨_, rfl⟩
  rw [hp1e] at hst hlk1
  repeat' (first | apply zae | apply zaa | apply zah | apply zaf | apply zad | apply zab hT; iterate 4 exact rfl | apply zaS hT; (iterate 8 exact rfl); (iterate 2 omega); exact hA' | (apply zal; (iterate 5 exact rfl); exact zbl hT rfl rfl (hr.mono (by (intro c hc; (repeat (first | exact hc | apply mcm ))))) rfl hix) | (apply zac (hs := (hT1.mono (by simp))); iterate 7 exact rfl) | (apply zam; exact rfl; all_goals (intro hb; (try dsimp only at hb); (try simp only [hb]); (first | replace hb := odt hb | replace hb := odf hb ); (try omega))))
  all_goals try omega
  refine zbj (α := Nat × List Nat × Option Addr × Nat) (E := fun x => [(3, .slice x.2.2.1 x.2.1.length x.2.2.2), (6, .int .u64 (x.1 : Nat)), (7, .slice A l.length c), (8, .int .i64 l.length), (9, .int .i64 k)]) (H := fun x => .own x.2.2.1 x.2.1.length x.2.2.2 5 1 (x.2.1.map byV) :: h) (μ := fun x => x.1)
   (S := fun x => x.1 < 2 ^ 64 ∧ x.2.1 ++ oneN x.1 = p1) (zigN n, p0, A3, c3) ⟨hz0, hst.symm⟩ ⟨rfl, rfl, rfl, rfl, rfl, trivial⟩ (by (repeat (first | exact zar))) ?_
  rintro ⟨z, bs, A4, c4⟩ ⟨hz, hbs⟩
  dsimp only at hz hbs ⊢
  have hbl : bs.length ≤ p1.length := by rw [← hbs]; simp
  by_cases hz1 : z < 128
  ·have hd2 : decide (((z : Nat) : Int) ≥ 128) = false := by simp; omega
   rw [zes hz1] at hbs
   have hm : ((z : Nat) : Int) = IntKind.u8.wrap z := (IntWalk.u8_in _ ⟨by omega, by omega⟩).symm
   repeat' (first | apply zae | apply zaa | apply zas | apply zad | apply zab hT; iterate 4 exact rfl | (apply zaN hT; (iterate 4 exact rfl); (iterate 2 (first | omega ))) | apply zcQ hT; (iterate 4 exact rfl); rw [← hm] | apply zao hT; (iterate 12 exact rfl); intro g28 | (apply zbg hT; (iterate 10 exact rfl); (repeat (first | exact sel0 | apply selS )); exact zaJ.own mem0 rfl (List.all_eq_true.1 rfl); omega; (show (_ : Nat) * 1 ≤ _; omega); intro A' c') | (apply zam; exact rfl; all_goals (intro hb; (try dsimp only at hb); (try simp only [hb]); (first | replace hb := odt hb | replace hb := odf hb ); (try omega))))
   all_goals first
    | (exfalso; omega)
    | (refine zaR (k + 1, A', c') (by dsimp only; omega) (by dsimp only; omega) ⟨?_, rfl, rfl, rfl, trivial⟩ ?_
       ·dsimp only; rw [hp1e, ← hbs, List.length_append]; rfl
       ·dsimp only; rw [hp1e, ← hbs, List.length_append, List.map_append]; (repeat (first | exact zar | (apply zay; · (repeat (first | exact sel0 ))) | apply zat)))
  ·have hd2 : decide (((z : Nat) : Int) ≥ 128) = true := by simp; omega
   rw [zid hz1] at hbs
   have hm : ((z % 256 : Nat) : Int) = IntKind.u8.wrap z := by rw [IntKind.wrap_u8]; omega
   have hor : bitI .or .u8 ((z % 256 : Nat) : Int) 128 = ((z % 128 + 128 : Nat) : Int) := by rw [zqX _ (by omega)]; congr 1; omega
   have hsh : ((z : Nat) : Int) / ((2 ^ 7 : Nat) : Int) = ((z / 128 : Nat) : Int) := by
    rw [show ((2 ^ 7 : Nat) : Int) = 128 from by simp]; omega
   repeat' (first | apply zae | apply zaa | apply zah | apply zaf | apply zad | apply zab hT; iterate 4 exact rfl | apply zcQ hT; (iterate 4 exact rfl); rw [← hm] | apply zcZ; (iterate 6 exact rfl); exact hor | apply zlD (n := 7); (iterate 6 exact rfl); exact nle rfl; rw [hsh] | apply zao hT; (iterate 12 exact rfl); intro g21 | (apply zbg hT; (iterate 10 exact rfl); (repeat (first | exact sel0 | apply selS )); exact zaJ.own mem0 rfl (List.all_eq_true.1 rfl); omega; (show (_ : Nat) * 1 ≤ _; omega); intro A' c') | (apply zam; exact rfl; all_goals (intro hb; (try dsimp only at hb); (try simp only [hb]); (first | replace hb := odt hb | replace hb := odf hb ); (try omega))))
   all_goals first
    | (exfalso; omega)
    | (refine zaR (Q := fun _ _ _ => True) (z / 128, bs ++ [z % 128 + 128], A', c') (by dsimp only; omega) ⟨by dsimp only; omega, by dsimp only; rw [List.append_assoc]; exact hbs⟩ ⟨?_, rfl, rfl, rfl, rfl, trivial⟩ ?_
       ·dsimp only; rw [List.length_append]; rfl
       ·dsimp only; rw [List.length_append, List.map_append]; (repeat (first | exact zar | (apply zay; · (repeat (first | exact sel0 ))) | apply zat)))
 ·obtain rfl : k = l.length := by omega
  have hd1 : decide ((l.length : Int) < (l.length : Int)) = false := by simp
  rw [List.take_length] at *
  repeat' (first | apply zae | apply zaa | apply zaj | apply zas | apply zad | apply zab hT; iterate 4 exact rfl | (apply zam; exact rfl; all_goals (intro hb; (try dsimp only at hb); (try simp only [hb]); (first | replace hb := odt hb | replace hb := odf hb ); (try omega))))
  all_goals first
   | (exfalso; omega)
   | (apply ret1; exact rfl; exact ⟨_, zar, A3, c3, rfl, rfl⟩)
def zhB (t : zbc) : Prop := ∀ n ∈ [t.id, t.bond, t.buyer, t.seller, t.price, t.qty, t.ask, t.tick], inW n
theorem zqY {z a b c d e f g i : Value} (ha : a.cells = #[a]) (hb : b.cells = #[b]) (hc : c.cells = #[c]) (hd : d.cells = #[d]) (he : e.cells = #[e]) (hf : f.cells = #[f]) (hg : g.cells = #[g]) (hi : i.cells = #[i]) :
 zeG (fun i => some (i * 1, 1)) (repZ [z] 8) [(0, a), (1, b), (2, c), (3, d), (4, e), (5, f), (6, g), (7, i)] = some [a, b, c, d, e, f, g, i] := by
 simp [zeG, lay, repZ, ha, hb, hc, hd, he, hf, hg, hi]
theorem zk0 {t : zbc} (ht : zhB t) : (zcf t).length ≤ 80 := zfd ht
set_option maxHeartbeats 2000000 in
theorem zk1 (W : World) (h : List zax) (t : zbc) (ht : zhB t) :
 zaB Tryz.prog W 188 [.agg t.enc.toArray] h (fun v h' => ∃ A' c', v = .slice A' (zcf t).length c' ∧ h' = .own A' (zcf t).length c' 5 1 ((zcf t).map byV) :: h) := by
 have hP : ∀ h1 g, zaB Tryz.prog W 206 [.slice (some ⟨g, 0, none⟩) 8 8] (.own (some ⟨g, 0, none⟩) 8 8 2 1 [.int .i64 t.id, .int .i64 t.bond, .int .i64 t.buyer, .int .i64 t.seller, .int .i64 t.price, .int .i64 t.qty, .int .i64 t.ask, .int .i64 t.tick] :: h1) (fun v h' => ∃ A' c', v = .slice A' (zcf t).length c' ∧ h' = .own A' (zcf t).length c' 5 1 ((zcf t).map byV) :: .own (some ⟨g, 0, none⟩) 8 8 2 1 [.int .i64 t.id, .int .i64 t.bond, .int .i64 t.buyer, .int .i64 t.seller, .int .i64 t.price, .int .i64 t.qty, .int .i64 t.ask, .int .i64 t.tick] :: h1) := fun h1 g =>
  zn7 W _ (some ⟨g, 0, none⟩) 8 [t.id, t.bond, t.buyer, t.seller, t.price, t.qty, t.ask, t.tick] ht (zaJ.own mem0 rfl (List.all_eq_true.1 rfl)) (by simp)
 generalize zcf t = bs at *
 refine zaB.dropTo ?_
 refine zan Tryz.func188 rfl rfl Tryz.results188 Tryz.ntmps188 rfl rfl ?_
 repeat' (first | apply zae | apply zaa | apply zaj | apply zad | apply zab hT; iterate 4 exact rfl | apply zaK; (iterate 5 exact rfl); intro g1 | apply zao hT (cs := [.int .i64 t.id, .int .i64 t.bond, .int .i64 t.buyer, .int .i64 t.seller, .int .i64 t.price, .int .i64 t.qty, .int .i64 t.ask, .int .i64 t.tick]); (iterate 9 exact rfl); exact zqY rfl rfl rfl rfl rfl rfl rfl rfl; (iterate 2 exact rfl); intro g | apply zaz (hs := (hP _ g)); (iterate 7 exact rfl); rintro _ _ ⟨A1, c1, rfl, rfl⟩ | (apply zal; (iterate 5 exact rfl); first | (apply zaC hT; exact rfl; exact rfl; (repeat (first | exact mcs )); exact rfl; exact rfl) ))
 all_goals (apply ret1; exact rfl; exact ⟨_, by (repeat (first | exact zar | (apply zay; · (repeat (first | exact sel0 ))) | apply zat)), A1, c1, rfl, rfl⟩)
set_option maxHeartbeats 1000000 in
theorem zki (W : World) (F : List zax) (p : Nat) (A : Option Addr) (c : Nat) (l : List zbc) (x : Nat) (t0 t : zbc) (hx : x < 2 ^ 64) (hb : l.length ≤ 1000000) (e : { t0 with id := (l.length : Int) + 1 } = t) (ht : zhB t) :
 zaB Tryz.prog W 159 [.pointer (some ⟨p, 0, none⟩), .agg t0.enc.toArray] (.blk p 138 [.slice A l.length c, .int .u64 x] :: .own A l.length c 103 8 (l.flatMap zbc.enc) :: F)
  (fun v h' => v = .agg t.enc.toArray ∧ ∃ A' c', h' = .blk p 138 [.slice A' (l ++ [t]).length c', .int .u64 (zc8 x (zcf t) : Nat)] :: .own A' (l ++ [t]).length c' 103 8 ((l ++ [t]).flatMap zbc.enc) :: F) := by
 have hB := fun h' => zk1 W h' t ht
 have hC := fun h' A' c' hr => zmD W h' A' c' x (zcf t) hx (zn6 _) hr (Nat.le_trans (zk0 ht) (by omega))
 refine zaB.dropTo ?_
 refine zan Tryz.func159 rfl rfl Tryz.results159 Tryz.ntmps159 rfl rfl ?_
 obtain ⟨e1, e2, e3, e4, e5, e6, e7, e8⟩ := t0
 subst e
 repeat' (first | apply zae | apply zaa | apply zaj | apply zah | apply zad | apply zab hT; iterate 4 exact rfl | (apply zaN hT; (iterate 4 exact rfl); (iterate 2 (first | omega ))) | apply zaK; (iterate 5 exact rfl); intro g1 | (apply zaI hT; (iterate 5 exact rfl); first | (fail_if_success (have q := g3)); intro g3) | (apply zaF hT; (iterate 6 exact rfl); (repeat (first | exact sel0 | apply selS )); (iterate 3 exact rfl); exact nle rfl) | (apply zao hT (cs := zbc.enc ⟨(l.length : Int) + 1, e2, e3, e4, e5, e6, e7, e8⟩); (iterate 12 exact rfl); intro g) | (apply zbg hT; (iterate 10 exact rfl); (repeat (first | exact sel0 | apply selS )); exact zaJ.own mem0 rfl (zbc.enc_one _); omega; (show (_ : Nat) * 64 ≤ _; omega); intro A' c') | (apply zaM [] [188] hmix; decide +kernel) | (apply zdg (hs := (hB _)); (iterate 7 exact rfl); (rintro _ _ ⟨A1, c1, rfl, rfl⟩; refine ⟨[_], rfl, ?_⟩)) | (apply zac (hs := (hC _ A1 c1 (zaJ.own mem0 (by simp) (fun v hv => by obtain ⟨y, _, rfl⟩ := List.mem_map.1 hv; rfl)))); iterate 7 exact rfl) | (apply zal; (iterate 5 exact rfl); first | (apply zaC hT; exact rfl; exact rfl; (repeat (first | exact mcs | apply mcm )); exact rfl; exact rfl) | (apply zaQ hT; exact rfl; exact rfl; (repeat (first | exact mcs | apply mcm )); exact rfl)) | (apply zag; iterate 2 exact rfl))
 all_goals (apply zg5; exact rfl; (apply zaQ hT; exact rfl; exact rfl; (repeat (first | exact mcs)); exact rfl); exact ⟨_, by (rw [List.length_append, List.flatMap_append]; (repeat (first | exact zar | (apply zay; · (repeat (first | exact sel0 | apply selS ))) | apply zat))), rfl, A', c', rfl⟩)
def zpd (t : zbc) (s who other : Int) : OutR := outM who 28 [t.id, s, t.bond, t.price, t.qty, other]
theorem zn8 (W : World) (t : zbc) (s who other : Int) : zaL Tryz.prog W 186 [.agg t.enc.toArray, .int .i64 s, .int .i64 who, .int .i64 other] [] (.agg (zpd t s who other).enc.toArray) := by
 refine zaL.ofD (fun h' hs => ?_)
 refine zan Tryz.func186 rfl rfl Tryz.results186 Tryz.ntmps186 rfl rfl ?_
 repeat' (first | apply zae | apply zaa | apply zaj | apply zad | apply zab hT; iterate 4 exact rfl | apply zaK; (iterate 5 exact rfl); intro g4 | (apply zaI hT; (iterate 5 exact rfl); first | (fail_if_success (have q := g8)); intro g8 | (fail_if_success (have q := g9)); intro g9) | (apply zb7 hT (cs := [.int .i64 t.id, .int .i64 s, .int .i64 t.bond, .int .i64 t.price, .int .i64 t.qty, .int .i64 other]); iterate 4 exact rfl) | (apply zaO hT (cs := (zpd t s who other).msg.enc); iterate 4 exact rfl) | (apply zaO hT (cs := (zpd t s who other).enc); iterate 4 exact rfl) | (apply zaF hT; (iterate 6 exact rfl); (repeat (first | exact sel0 | apply selS )); (iterate 3 exact rfl); exact nle rfl) | (apply zal; (iterate 5 exact rfl); first | (apply zaC hT; exact rfl; exact rfl; (repeat (first | exact mcs | apply mcm )); exact rfl; exact rfl) | (apply zaQ hT; exact rfl; exact rfl; (repeat (first | exact mcs )); exact rfl)))
 all_goals first
  | (apply zg5; exact rfl; (apply zaQ hT; exact rfl; exact rfl; (repeat (first | exact mcs)); exact rfl); exact ⟨rfl, by (repeat (first | exact zar | apply zat))⟩)
  | skip
theorem zmG (W : World) (h : List zax) (t : zbc) : zaB Tryz.prog W 158 [.agg t.enc.toArray] h (fun v h' => ∃ g, v = .slice (some ⟨g, 0, none⟩) 2 2 ∧ h' = .own (some ⟨g, 0, none⟩) 2 2 45 8 ((zds t).flatMap OutR.enc) :: h) := by
 refine zaB.dropTo ?_
 refine zan Tryz.func158 rfl rfl Tryz.results158 Tryz.ntmps158 rfl rfl ?_
 repeat' (first | apply zae | apply zaa | apply zaj | apply zad | apply zab hT; iterate 4 exact rfl | apply zaM [186] [] hmix; decide +kernel | apply zaK; (iterate 5 exact rfl); intro g1 | (apply zac (hs := ((zn8 W t _ _ _).mono (by simp))); iterate 7 exact rfl) | apply zao hT; (iterate 12 exact rfl); intro g | (apply zal; (iterate 5 exact rfl); first | (apply zaC hT; exact rfl; exact rfl; (repeat (first | exact mcs )); exact rfl; exact rfl) | (apply zaQ hT; exact rfl; exact rfl; (repeat (first | exact mcs )); exact rfl)))
 all_goals first
  | (apply ret1; exact rfl; exact ⟨_, by (show zbk _ (.own (some ⟨g, 0, none⟩) 2 2 45 8 ((zds t).flatMap OutR.enc) :: h)); (repeat (first | exact zar | (apply zay; · (repeat (first | exact sel0 ))) | apply zat)), g, rfl, rfl⟩)
  | skip
theorem zn9 {kind : Int} {ns : List Int} {k : Nat} {v : Int} (hl : ns.length ≤ 6) (hv : ns[k]? = some v) : lay (zaw kind (ns.take k)).enc (1 + k * 1) (Value.cells (.int .i64 v)).toList = (zaw kind (ns.take (k + 1))).enc := by
 rcases ns with _ | ⟨a, _ | ⟨b, _ | ⟨c, _ | ⟨d, _ | ⟨e, _ | ⟨f, _ | ⟨g, t⟩⟩⟩⟩⟩⟩⟩ <;> rcases k with _ | _ | _ | _ | _ | _ | k <;> first
  | (exfalso; simp at hv; done)
  | (exfalso; simp only [List.length_cons] at hl; omega)
  | (simp at hv; subst hv; rfl)
theorem zmH (W : World) (h : List zax) (A : Option Addr) (c : Nat) (kind : Int) (ns : List Int) (hr : zaJ W h A ns.length 1 (ns.map (Value.int .i64))) (hl : ns.length ≤ 6) :
 zaL Tryz.prog W 12 [.int .i64 kind, .slice A ns.length c] h (.agg (zaw kind ns).enc.toArray) := by
 refine zaL.ofD (fun h' hs => ?_)
 have hrd := hr.mono hs
 refine zan Tryz.func12 rfl rfl Tryz.results12 Tryz.ntmps12 rfl rfl ?_
 refine zaU hrd rfl (fun hA => ?_)
 repeat' (first | apply zae | apply zaa | apply zaf | apply zad | apply zab hT; iterate 4 exact rfl | (apply zaI hT; (iterate 5 exact rfl); first | (fail_if_success (have q := g4)); intro g4 | (fail_if_success (have q := g5)); intro g5) | (apply zaO hT (cs := (zaw kind []).enc); iterate 4 exact rfl) | (apply zaF hT; (iterate 6 exact rfl); (repeat (first | exact sel0 )); (iterate 3 exact rfl); exact nle rfl))
 refine zbj (α := Nat) (E := fun k => [(0, .int .i64 kind), (1, .slice A ns.length c), (4, .pointer (some ⟨g4, 0, none⟩)), (5, .pointer (some ⟨g5, 0, none⟩)), (6, .int .i64 k)]) (H := fun k => .blk g5 25 (zaw kind (ns.take k)).enc :: .blk g4 25 (zaw 0 []).enc :: h') (μ := fun k => ns.length - k)
  (S := fun k => k ≤ ns.length) 0 (Nat.zero_le _) ⟨rfl, rfl, rfl, rfl, rfl, trivial⟩ (by (repeat (first | exact zar))) ?_
 intro k hk
 by_cases hlt : k < ns.length
 ·obtain ⟨v, hv⟩ : ∃ v, ns[k]? = some v := ⟨ns[k]'(by omega), List.getElem?_eq_getElem (by omega)⟩
  have hv2 : ns[(k : Int).toNat]? = some v := by simpa using hv
  have hA' := hA (by omega)
  have hd1 : decide ((k : Int) < (ns.length : Int)) = true := by simp; omega
  have hd2 : decide ((k : Int) < 6) = true := by simp; omega
  have hix := zed (kd := .i64) hv2
  have hst := zn9 (kind := kind) hl hv
  repeat' (first | apply zae | apply zaa | apply zah | apply zaf | apply zad | apply zab hT; iterate 4 exact rfl | (apply zaN hT; (iterate 4 exact rfl); (iterate 2 (first | omega ))) | apply zaZ hT; (iterate 9 exact rfl); (iterate 2 omega) | apply zaS hT; (iterate 8 exact rfl); (iterate 2 omega); exact hA' | (apply zal; (iterate 5 exact rfl); exact zbl hT rfl rfl (hrd.mono (by (intro c hc; (repeat (first | exact hc | apply mcm ))))) rfl hix) | (apply zaF hT; (iterate 6 exact rfl); (repeat (first | exact sel0 )); (iterate 3 exact rfl); (show 0 + 1 + (k : Int).toNat * 1 + 1 ≤ 7; omega)) | (apply zav; exact rfl; all_goals (intro hb; (fail_if_success (change true = true at hb)); (fail_if_success (change false = false at hb)); (try dsimp only at hb); (try simp only [hb]); (first | replace hb := odt hb | replace hb := odf hb ); (try omega))) | (apply zam; exact rfl; all_goals (intro hb; (try dsimp only at hb); (try simp only [hb]); (first | replace hb := odt hb | replace hb := odf hb ); (try omega))))
  all_goals first
   | (exfalso; omega)
   | exact zaR (k + 1) (by (try dsimp only); omega) (by (try dsimp only); omega) ⟨rfl, rfl, rfl, rfl, rfl, trivial⟩ (by dsimp only; rw [← hst]; (repeat (first | exact zar)))
   | skip
 ·obtain rfl : k = ns.length := by omega
  have hd1 : decide ((ns.length : Int) < (ns.length : Int)) = false := by simp
  rw [List.take_length]
  repeat' (first | apply zae | apply zaa | apply zaj | apply zas | apply zad | apply zab hT; iterate 4 exact rfl | apply zaq; iterate 3 exact rfl | (apply zaF hT; (iterate 6 exact rfl); (repeat (first | exact sel0 | apply selS )); (iterate 3 exact rfl); exact nle rfl) | (apply zal; (iterate 5 exact rfl); first | (apply zaQ hT; exact rfl; exact rfl; (repeat (first | exact mcs )); exact rfl)) | apply zag; iterate 2 exact rfl | (apply zav; exact rfl; all_goals (intro hb; (fail_if_success (change true = true at hb)); (fail_if_success (change false = false at hb)); (try dsimp only at hb); (try simp only [hb]); (first | replace hb := odt hb | replace hb := odf hb ); (try omega))))
  all_goals first
   | (exfalso; omega)
   | (apply zg5; exact rfl; (apply zaQ hT; exact rfl; exact rfl; (repeat (first | exact mcs)); exact rfl); exact ⟨rfl, by (repeat (first | exact zar | apply zat))⟩)
   | skip
def okI (n : Int) : Value := .tuple #[.int .i64 (if inI n then n else 0), .bool (inI n)]
theorem zie (W : World) (a b : Int) (ha : inW a) (hb : inW b) : zaL Tryz.prog W 183 [.int .i64 a, .int .i64 b] [] (okI (a + b)) := by
 unfold inW at *
 refine zaL.ofD (fun h' hs => ?_)
 unfold okI
 cases hI : inI (a + b)
 ·have hr := zoQ hI
  refine zan Tryz.func183 rfl rfl Tryz.results183 Tryz.ntmps183 rfl rfl ?_
  repeat' (first | apply zae | apply zaa | apply zaj | apply zad | apply zab hT; iterate 4 exact rfl | apply zaq; iterate 3 exact rfl | (apply zaN hT; (iterate 4 exact rfl); (iterate 2 (first | omega ))) | apply zak; iterate 2 exact rfl | (apply zav; exact rfl; all_goals (intro hb; (fail_if_success (change true = true at hb)); (fail_if_success (change false = false at hb)); (try dsimp only at hb); (try simp only [hb]); (first | replace hb := odt hb | replace hb := odf hb ); (try omega))) | (apply zam; exact rfl; all_goals (intro hb; (try dsimp only at hb); (try simp only [hb]); (first | replace hb := odt hb | replace hb := odf hb ); (try omega))))
  all_goals first
   | (exfalso; omega)
   | (apply ret2; exact rfl; exact rfl; exact ⟨rfl, by (repeat (first | exact zar))⟩)
   | skip
 ·have hr := zeJ hI
  refine zan Tryz.func183 rfl rfl Tryz.results183 Tryz.ntmps183 rfl rfl ?_
  repeat' (first | apply zae | apply zaa | apply zaj | apply zah | apply zad | apply zab hT; iterate 4 exact rfl | apply zaq; iterate 3 exact rfl | (apply zaN hT; (iterate 4 exact rfl); (iterate 2 (first | omega ))) | apply zag; iterate 2 exact rfl | (apply zav; exact rfl; all_goals (intro hb; (fail_if_success (change true = true at hb)); (fail_if_success (change false = false at hb)); (try dsimp only at hb); (try simp only [hb]); (first | replace hb := odt hb | replace hb := odf hb ); (try omega))) | (apply zam; exact rfl; all_goals (intro hb; (try dsimp only at hb); (try simp only [hb]); (first | replace hb := odt hb | replace hb := odf hb ); (try omega))))
  all_goals first
   | (exfalso; omega)
   | (apply ret2; exact rfl; exact rfl; exact ⟨rfl, by (repeat (first | exact zar))⟩)
   | skip
theorem zkj (W : World) (a b : Int) (ha : inW a) (hb : inW b) : zaL Tryz.prog W 185 [.int .i64 a, .int .i64 b] [] (okI (a - b)) := by
 unfold inW at *
 refine zaL.ofD (fun h' hs => ?_)
 unfold okI
 cases hI : inI (a - b)
 ·have hr := zoQ hI
  refine zan Tryz.func185 rfl rfl Tryz.results185 Tryz.ntmps185 rfl rfl ?_
  repeat' (first | apply zae | apply zaa | apply zaj | apply zad | apply zab hT; iterate 4 exact rfl | apply zaq; iterate 3 exact rfl | (apply zaN hT; (iterate 4 exact rfl); (iterate 2 (first | omega ))) | apply zak; iterate 2 exact rfl | (apply zav; exact rfl; all_goals (intro hb; (fail_if_success (change true = true at hb)); (fail_if_success (change false = false at hb)); (try dsimp only at hb); (try simp only [hb]); (first | replace hb := odt hb | replace hb := odf hb ); (try omega))) | (apply zam; exact rfl; all_goals (intro hb; (try dsimp only at hb); (try simp only [hb]); (first | replace hb := odt hb | replace hb := odf hb ); (try omega))))
  all_goals first
   | (exfalso; omega)
   | (apply ret2; exact rfl; exact rfl; exact ⟨rfl, by (repeat (first | exact zar))⟩)
   | skip
 ·have hr := zeJ hI
  refine zan Tryz.func185 rfl rfl Tryz.results185 Tryz.ntmps185 rfl rfl ?_
  repeat' (first | apply zae | apply zaa | apply zaj | apply zah | apply zad | apply zab hT; iterate 4 exact rfl | apply zaq; iterate 3 exact rfl | (apply zaN hT; (iterate 4 exact rfl); (iterate 2 (first | omega ))) | apply zag; iterate 2 exact rfl | (apply zav; exact rfl; all_goals (intro hb; (fail_if_success (change true = true at hb)); (fail_if_success (change false = false at hb)); (try dsimp only at hb); (try simp only [hb]); (first | replace hb := odt hb | replace hb := odf hb ); (try omega))) | (apply zam; exact rfl; all_goals (intro hb; (try dsimp only at hb); (try simp only [hb]); (first | replace hb := odt hb | replace hb := odf hb ); (try omega))))
  all_goals first
   | (exfalso; omega)
   | (apply ret2; exact rfl; exact rfl; exact ⟨rfl, by (repeat (first | exact zar))⟩)
   | skip
theorem zhC (W : World) (n : Nat) (hn : n < 340282366920938463463374607431768211456) : zaL Tryz.prog W 182 [.agg (zhX n).toArray] [] (okI n) := by
 refine zaL.ofD (fun h' hs => ?_)
 unfold okI
 cases hI : inI (n : Int)
 ·have hr := zoQ hI
  refine zan Tryz.func182 rfl rfl Tryz.results182 Tryz.ntmps182 rfl rfl ?_
  repeat' (first | apply zae | apply zaa | apply zaj | apply zad | apply zab hT; iterate 4 exact rfl | apply zaq; iterate 3 exact rfl | (apply zal; (iterate 5 exact rfl); first | (apply zaC hT; exact rfl; exact rfl; (repeat (first | exact mcs )); exact rfl; exact rfl) ) | apply zaK; (iterate 5 exact rfl); intro _ | apply zak; iterate 2 exact rfl | (apply zav; exact rfl; all_goals (intro hb; (fail_if_success (change true = true at hb)); (fail_if_success (change false = false at hb)); (try dsimp only at hb); (try simp only [hb]); (first | replace hb := odt hb | replace hb := odf hb ); (try omega))) | (apply zam; exact rfl; all_goals (intro hb; (try dsimp only at hb); (try simp only [hb]); (first | replace hb := odt hb | replace hb := odf hb ); (try omega))))
  all_goals first
   | (exfalso; omega)
   | (apply ret2; exact rfl; exact rfl; exact ⟨rfl, by (repeat (first | exact zar | apply zat))⟩)
   | skip
 ·have hr := zeJ hI
  refine zan Tryz.func182 rfl rfl Tryz.results182 Tryz.ntmps182 rfl rfl ?_
  repeat' (first | apply zae | apply zaa | apply zaj | apply zah | apply zad | apply zab hT; iterate 4 exact rfl | (apply zaN hT; (iterate 4 exact rfl); (iterate 2 (first | omega ))) | (apply zal; (iterate 5 exact rfl); first | (apply zaC hT; exact rfl; exact rfl; (repeat (first | exact mcs )); exact rfl; exact rfl) ) | apply zaK; (iterate 5 exact rfl); intro _ | (apply zav; exact rfl; all_goals (intro hb; (fail_if_success (change true = true at hb)); (fail_if_success (change false = false at hb)); (try dsimp only at hb); (try simp only [hb]); (first | replace hb := odt hb | replace hb := odf hb ); (try omega))) | (apply zam; exact rfl; all_goals (intro hb; (try dsimp only at hb); (try simp only [hb]); (first | replace hb := odt hb | replace hb := odf hb ); (try omega))))
  all_goals first
   | (exfalso; omega)
   | (apply ret2; exact rfl; exact rfl; exact ⟨by simp [Nat.mod_eq_of_lt (show n < 18446744073709551616 by omega)], by (repeat (first | exact zar | apply zat))⟩)
   | skip
theorem zkk {x y : zax} {h : List zax} (hx : x ∈ h) (hy : y ∈ h) : ∀ c ∈ [x, y], c ∈ h := fun c hc => by
 rcases List.mem_cons.1 hc with rfl | hc
 ·exact hx
 ·rw [List.mem_singleton.1 hc]; exact hy
def zgL (cash : List Int) (rs : List PRow) (who bond : Int) : Bool := decide (0 ≤ who) && (decide (who < cash.length) && (decide (0 ≤ bond) && decide (bond < ((rs[who.toNat]?).map fun r => r.l.length).getD 0)))
theorem zoy (W : World) (p : Nat) (AC : Option Addr) (cC : Nat) (AR : Option Addr) (cR : Nat) (cash : List Int) (rs : List PRow) (hl : rs.length = cash.length) (who bond : Int) :
 zaL Tryz.prog W 184 [.pointer (some ⟨p, 0, none⟩), .int .i64 who, .int .i64 bond] [.blk p 136 [.slice AR rs.length cR, .slice AC cash.length cC], .own AR rs.length cR 74 1 (rs.map PRow.hd)] (.bool (zgL cash rs who bond)) := by
 refine zaL.ofD (fun h' hs => ?_)
 have m0 := hs _ mem0
 have m1 := hs _ mem1
 have hrd : zaJ W h' AR rs.length 1 (rs.map PRow.hd) := zaJ.own m1 (by simp) (fun v hv => by
  obtain ⟨y, _, rfl⟩ := List.mem_map.1 hv
  rfl)
 refine zan Tryz.func184 rfl rfl Tryz.results184 Tryz.ntmps184 rfl rfl ?_
 refine zaU hrd rfl (fun hA => ?_)
 by_cases hw : 0 ≤ who ∧ who < cash.length
 ·obtain ⟨r, hr⟩ : ∃ r, rs[who.toNat]? = some r := ⟨rs[who.toNat]'(by omega), List.getElem?_eq_getElem (by omega)⟩
  have hA' := hA (by omega)
  have hix : (rs.map PRow.hd)[who.toNat * 1]? = some (.slice r.A r.l.length r.c) := by simp [hr]; rfl
  have hv : zgL cash rs who bond = (decide (0 ≤ bond) && decide (bond < r.l.length)) := by
   unfold zgL
   rw [hr, decide_eq_true hw.1, decide_eq_true hw.2]; rfl
  rw [hv]
  repeat' (first | apply zae | apply zaa | apply zaj | apply zad | apply zab hT; iterate 4 exact rfl | apply zaq; iterate 3 exact rfl | apply zaS hT; (iterate 8 exact rfl); (iterate 2 omega); exact hA' | apply zal; (iterate 5 exact rfl); exact zbl hT rfl rfl hrd rfl hix | (apply zal; (iterate 5 exact rfl); first | (apply zaC hT; exact rfl; exact rfl; (repeat (first | exact m0 )); exact rfl; exact rfl) ) | (apply zav; exact rfl; all_goals (intro hb; (fail_if_success (change true = true at hb)); (fail_if_success (change false = false at hb)); (try dsimp only at hb); (try simp only [hb]); (first | replace hb := odt hb | replace hb := odf hb ); (try omega))))
  all_goals first
   | (exfalso; omega)
   | (apply ret1; exact rfl; exact ⟨by (first | simp_all; done), by (repeat (first | exact zar))⟩)
   | skip
 ·have hv : zgL cash rs who bond = false := by
   unfold zgL
   by_cases h1 : 0 ≤ who
   ·rw [decide_eq_false (show ¬ who < cash.length by omega)]; simp
   ·rw [decide_eq_false h1]; simp
  rw [hv]
  repeat' (first | apply zae | apply zaa | apply zaj | apply zad | apply zab hT; iterate 4 exact rfl | apply zaq; iterate 3 exact rfl | (apply zal; (iterate 5 exact rfl); first | (apply zaC hT; exact rfl; exact rfl; (repeat (first | exact m0 )); exact rfl; exact rfl) ) | (apply zav; exact rfl; all_goals (intro hb; (fail_if_success (change true = true at hb)); (fail_if_success (change false = false at hb)); (try dsimp only at hb); (try simp only [hb]); (first | replace hb := odt hb | replace hb := odf hb ); (try omega))))
  all_goals first
   | (exfalso; omega)
   | (apply ret1; exact rfl; exact ⟨rfl, by (repeat (first | exact zar))⟩)
   | skip
end Go.Proofs.YtakilgkpfjhfdaaGreat
namespace Go.Proofs.YtakilgkpfjhfdaaGreat
open Go Go.Sl
structure PsOK (np nb : Nat) (p : Ps) : Prop where
 nc : p.cash.length = np
 np : p.pos.length = np
 row : ∀ r ∈ p.pos, r.length = nb
 wc : ∀ n ∈ p.cash, inW n
 wr : ∀ r ∈ p.pos, ∀ n ∈ r, inW n
theorem zkl {α : Type} {l : List α} {i : Nat} {x y : α} (h : y ∈ l.set i x) : y = x ∨ y ∈ l := (List.mem_or_eq_of_mem_set h).symm
theorem at0M {α : Type} {l : List α} {i : Int} {x : α} (h : at0 l i = some x) : x ∈ l := by
 unfold at0 at h
 split at h
 ·cases h
 ·exact List.mem_of_getElem? h
theorem zmI {α : Type} {l : List α} {i : Int} (h0 : 0 ≤ i) (h1 : i < l.length) : at0 l i = some (l[i.toNat]'(by omega)) := by
 unfold at0
 rw [if_neg (by omega)]
 exact List.getElem?_eq_getElem _
theorem zfe {np nb : Nat} {p : Ps} (h : PsOK np nb p) {who bond : Int} : zdr p who bond = true ↔ (0 ≤ who ∧ who < np) ∧ 0 ≤ bond ∧ bond < nb := by
 unfold zdr
 simp only [Bool.and_eq_true, decide_eq_true_eq]
 have h1 := h.nc
 have h2 := h.np
 constructor
 ·rintro ⟨a, b, c, d⟩
  rw [zmI a (by omega)] at d
  have := h.row _ (List.getElem_mem (l := p.pos) (n := who.toNat) (by omega))
  simp only [Option.getD_some] at d
  omega
 ·rintro ⟨⟨a, b⟩, c, d⟩
  refine ⟨a, by omega, c, ?_⟩
  rw [zmI a (by omega)]
  have := h.row _ (List.getElem_mem (l := p.pos) (n := who.toNat) (by omega))
  simp only [Option.getD_some]
  omega
theorem zhD {l : List (List Int)} {who bond n : Int} {b : Nat} (h : ∀ r ∈ l, r.length = b ∧ ∀ n ∈ r, inW n) (hw : 0 ≤ who ∧ who < l.length) (hn : inW n) : ∀ r ∈ setRow l who bond n, r.length = b ∧ ∀ n ∈ r, inW n := by
 intro r hr
 unfold setRow at hr
 rcases zkl hr with rfl | hr
 ·have hx := zmI hw.1 hw.2
  obtain ⟨h1, h2⟩ := h _ (at0M hx)
  rw [hx]
  refine ⟨by simpa using h1, fun m hm => ?_⟩
  rcases zkl hm with rfl | hm
  ·exact hn
  ·exact h2 m hm
 ·exact h r hr
theorem zk2 {p : Ps} {t : zbc} (h : putE p t = 0) : zdr p t.buyer t.bond = true ∧ zdr p t.seller t.bond = true ∧ t.buyer ≠ t.seller ∧ 1 ≤ t.price ∧ 1 ≤ t.qty ∧ inI (t.price * t.qty) = true ∧ inI (zg7 p t.buyer t.bond + t.qty) = true ∧ inI (zg7 p t.seller t.bond - t.qty) = true ∧ inI (zfO p t.buyer - t.price * t.qty) = true ∧ inI (zfO p t.seller + t.price * t.qty) = true := by
 unfold putE at h
 split at h
 ·cases h
 ·rename_i h1
  split at h
  ·rename_i h2
   simp only [Bool.and_eq_true] at h2
   simp only [not_or, Bool.not_eq_false] at h1
   exact ⟨h1.1, h1.2.1, h1.2.2.1, by omega, by omega, h2.1.1.1.1, h2.1.1.1.2, h2.1.1.2, h2.1.2, h2.2⟩
  ·cases h
theorem zoa {np nb : Nat} {p : Ps} (h : PsOK np nb p) (t : zbc) : PsOK np nb (putP p t) := by
 unfold putP
 split
 ·rename_i h0
  obtain ⟨b1, b2, _, _, _, _, a2, a3, a4, a5⟩ := zk2 h0
  have b1 := (zfe h).1 b1
  have b2 := (zfe h).1 b2
  have hn := h.np
  have hrow : ∀ r ∈ setRow (setRow p.pos t.buyer t.bond (zg7 p t.buyer t.bond + t.qty)) t.seller t.bond (zg7 p t.seller t.bond - t.qty), r.length = nb ∧ ∀ n ∈ r, inW n := by
   refine zhD (zhD (fun r hr => ⟨h.row r hr, h.wr r hr⟩) (by omega) (zeJ a2)) ?_ (zeJ a3)
   unfold setRow
   simp only [List.length_set]
   omega
  refine ⟨by simp [h.nc], by unfold setRow; simp [h.np], fun r hr => (hrow r hr).1, fun n hn => ?_, fun r hr => (hrow r hr).2⟩
  rcases zkl hn with rfl | hn
  ·exact zeJ a5
  ·rcases zkl hn with rfl | hn
   ·exact zeJ a4
   ·exact h.wc n hn
 ·exact h
end Go.Proofs.YtakilgkpfjhfdaaGreat
namespace Go.Proofs.YtakilgkpfjhfdaaGreat
open Go Go.Sl
attribute [local irreducible] AW ES EP Ld RetQ
set_option maxRecDepth 100000
def psOf (cash : List Int) (rs : List PRow) : Ps := ⟨cash, rs.map PRow.l⟩
theorem ziU {cash : List Int} {rs : List PRow} (who bond : Int) : zgL cash rs who bond = zdr (psOf cash rs) who bond := by
 unfold zgL zdr psOf at0
 by_cases h : 0 ≤ who
 ·rw [if_neg (by omega)]
  simp only [List.getElem?_map]
  rcases rs[who.toNat]? with _ | r <;> simp
 ·rw [decide_eq_false h]; simp
theorem zfF {W : World} {h : List zax} {AR : Option Addr} {cR : Nat} {t : TypeId} {rs : List PRow} (hm : zax.own AR rs.length cR t 1 (rs.map PRow.hd) ∈ h) : zaJ W h AR rs.length 1 (rs.map PRow.hd) := zaJ.own hm (by simp) (fun v hv => by
 obtain ⟨y, _, rfl⟩ := List.mem_map.1 hv
 rfl)
theorem zmJ {rs : List PRow} {i : Nat} {a : PRow} (h : rs[i]? = some a) : (rs.map PRow.hd)[i * 1]? = some (.slice a.A a.l.length a.c) := by simp [h]; rfl
structure zqZ (rs : List PRow) (nb : Nat) (i : Int) (a : PRow) : Prop where
 at_ : rs[i.toNat]? = some a
 len : a.l.length = nb
 wr : ∀ n ∈ a.l, inW n
theorem zoz {np nb : Nat} {cash : List Int} {rs : List PRow} (h : PsOK np nb (psOf cash rs)) {i : Int} (h0 : 0 ≤ i) (h1 : i < np) : ∃ a, zqZ rs nb i a := by
 have hl : rs.length = np := by have := h.np; simpa [psOf] using this
 have ha : rs[i.toNat]? = some (rs[i.toNat]'(by omega)) := List.getElem?_eq_getElem (by omega)
 have hm : (rs[i.toNat]'(by omega)).l ∈ (psOf cash rs).pos := List.mem_map.2 ⟨_, List.getElem_mem (by omega), rfl⟩
 exact ⟨_, ha, h.row _ hm, h.wr _ hm⟩
theorem zfZ {cash : List Int} {rs : List PRow} {i bond : Int} {a : PRow} (h0 : 0 ≤ i) (ha : rs[i.toNat]? = some a) (hb : 0 ≤ bond) {n : Int} (hn : a.l[bond.toNat]? = some n) : zg7 (psOf cash rs) i bond = n := by
 unfold zg7 psOf at0
 rw [if_neg (by omega)]
 simp only [List.getElem?_map, ha, Option.map_some, Option.bind_some]
 rw [if_neg (by omega), hn]; rfl
theorem zff {cash : List Int} {rs : List PRow} {i n : Int} (h0 : 0 ≤ i) (hn : cash[i.toNat]? = some n) : zfO (psOf cash rs) i = n := by
 unfold zfO psOf at0
 rw [if_neg (by omega)]
 dsimp only
 rw [hn]; rfl
theorem zk3 (W : World) (F : List zax) (p : Nat) (AC : Option Addr) (cC : Nat) (AR : Option Addr) (cR : Nat) (cash : List Int) (rs : List PRow) (np nb : Nat) (hP : PsOK np nb (psOf cash rs)) (t : zbc)
 (hbad : zdr (psOf cash rs) t.buyer t.bond = false ∨ zdr (psOf cash rs) t.seller t.bond = false ∨ t.buyer = t.seller ∨ t.price < 1 ∨ t.qty < 1) :
 zaB Tryz.prog W 157 [.pointer (some ⟨p, 0, none⟩), .agg t.enc.toArray] (zcE p AC cC AR cR cash rs F) (fun v h' => v = .int .i64 1 ∧ h' = zcE p AC cC AR cR cash rs F) := by
 refine zaB.dropTo ?_
 have hnc := hP.nc
 have hnp := hP.np
 simp only [psOf, List.length_map] at hnc hnp
 have hlc : rs.length = cash.length := by omega
 have hI := fun who bond h' m0 m1 => (zoy W p AC cC AR cR cash rs hlc who bond).mono (h' := h') (zkk m0 m1)
 simp only [ziU] at hI
 unfold zcE
 have h1 := hI t.buyer t.bond
 have h2 := hI t.seller t.bond
 generalize zdr (psOf cash rs) t.buyer t.bond = b1 at *
 generalize zdr (psOf cash rs) t.seller t.bond = b2 at *
 generalize rs.map PRow.ck ++ F = G
 refine zan Tryz.func157 rfl rfl Tryz.results157 Tryz.ntmps157 rfl rfl ?_
 repeat' (first | apply zae | apply zaa | apply zaj | apply zah | apply zad | apply zab hT; iterate 4 exact rfl | apply zaq; iterate 3 exact rfl | apply zaK; (iterate 5 exact rfl); intro g3 | (apply zac (hs := (h1 _ (by (repeat (first | exact mcs | apply mcm ))) (by (repeat (first | exact mcs | apply mcm ))))); iterate 7 exact rfl) | (apply zac (hs := (h2 _ (by (repeat (first | exact mcs | apply mcm ))) (by (repeat (first | exact mcs | apply mcm ))))); iterate 7 exact rfl) | (apply zal; (iterate 5 exact rfl); first | (apply zaC hT; exact rfl; exact rfl; (repeat (first | exact mcs )); exact rfl; exact rfl) ) | apply zak; iterate 2 exact rfl | (apply zav; exact rfl; all_goals (intro hb; (fail_if_success (change true = true at hb)); (fail_if_success (change false = false at hb)); (try dsimp only at hb); (try simp only [hb]); (first | replace hb := odt hb | replace hb := odf hb | skip); (try omega))) | (apply zam; exact rfl; all_goals (intro hb; (try dsimp only at hb); (try simp only [hb]); (first | replace hb := odt hb | replace hb := odf hb ); (try omega))))
 all_goals first
  | (exfalso; omega)
  | (exfalso; simp_all; done)
  | (apply ret1; exact rfl; exact ⟨_, by (show zbk _ (_ :: _ :: _ :: G)); (repeat (first | exact zar | (apply zay; · (repeat (first | exact sel0 | apply selS ))) | apply zat)), rfl, rfl⟩)
  | skip
theorem ziV (x : Int) : ∃ y f, okI x = .tuple #[.int .i64 y, .bool f] ∧ inW y ∧ inI x = f ∧ (f = true → y = x) := by
 refine ⟨if inI x then x else 0, inI x, rfl, ?_, rfl, fun h => by rw [if_pos h]⟩
 split
 ·rename_i h; exact zeJ h
 ·unfold inW; omega
theorem zgM {l : List Int} {i : Nat} {n : Int} {k : IntKind} (h : i < l.length) : lay (l.map (Value.int k)) (i * 1) (Value.cells (.int k n)).toList = (l.set i n).map (Value.int k) := by
 show lay _ _ [.int k n] = _
 rw [zn1 (by simpa using h), List.map_set]
theorem ziW {l : List (List Int)} {who bond n : Int} {r : List Int} (h : at0 l who = some r) : setRow l who bond n = l.set who.toNat (r.set bond.toNat n) := by
 unfold setRow
 rw [h]; rfl
set_option maxHeartbeats 4000000 in
theorem zmK (W : World) (F : List zax) (p : Nat) (AC : Option Addr) (cC : Nat) (AR : Option Addr) (cR : Nat) (cash : List Int) (rs : List PRow) (np nb : Nat) (hP : PsOK np nb (psOf cash rs)) (t : zbc) (hpr : inW t.price) (hqt : inW t.qty)
 (hbad : ¬ (zdr (psOf cash rs) t.buyer t.bond = false ∨ zdr (psOf cash rs) t.seller t.bond = false ∨ t.buyer = t.seller ∨ t.price < 1 ∨ t.qty < 1)) :
 zaB Tryz.prog W 157 [.pointer (some ⟨p, 0, none⟩), .agg t.enc.toArray] (zcE p AC cC AR cR cash rs F) (fun v h' => v = .int .i64 (putE (psOf cash rs) t) ∧ ∃ cash' rs', psOf cash' rs' = putP (psOf cash rs) t ∧ h' = zcE p AC cC AR cR cash' rs' F) := by
 refine zaB.dropTo ?_
 have hnc := hP.nc
 have hnp := hP.np
 simp only [psOf, List.length_map] at hnc hnp
 have hlc : rs.length = cash.length := by omega
 have hI := fun who bond h' m0 m1 => (zoy W p AC cC AR cR cash rs hlc who bond).mono (h' := h') (zkk m0 m1)
 simp only [ziU] at hI
 have h1 := hI t.buyer t.bond
 have h2 := hI t.seller t.bond
 have hbad' := hbad
 simp only [not_or, Bool.not_eq_false] at hbad'
 obtain ⟨hb1, hb2, hne, hp1, hq1⟩ := hbad'
 rw [hb1] at h1
 rw [hb2] at h2
 obtain ⟨⟨x1, x2⟩, x3, x4⟩ := (zfe hP).1 hb1
 obtain ⟨⟨y1, y2⟩, _, _⟩ := (zfe hP).1 hb2
 obtain ⟨a, ha⟩ := zoz hP x1 x2
 obtain ⟨b, hb⟩ := zoz hP y1 y2
 have hal := ha.len
 have hbl := hb.len
 obtain ⟨nB, hnB⟩ : ∃ n, a.l[t.bond.toNat]? = some n := ⟨a.l[t.bond.toNat]'(by omega), List.getElem?_eq_getElem (by omega)⟩
 obtain ⟨nS, hnS⟩ : ∃ n, b.l[t.bond.toNat]? = some n := ⟨b.l[t.bond.toNat]'(by omega), List.getElem?_eq_getElem (by omega)⟩
 obtain ⟨cB, hcB⟩ : ∃ n, cash[t.buyer.toNat]? = some n := ⟨cash[t.buyer.toNat]'(by omega), List.getElem?_eq_getElem (by omega)⟩
 obtain ⟨cS, hcS⟩ : ∃ n, cash[t.seller.toNat]? = some n := ⟨cash[t.seller.toNat]'(by omega), List.getElem?_eq_getElem (by omega)⟩
 have wnB := ha.wr _ (List.mem_of_getElem? hnB)
 have wnS := hb.wr _ (List.mem_of_getElem? hnS)
 have wcB := hP.wc _ (List.mem_of_getElem? hcB)
 have wcS := hP.wc _ (List.mem_of_getElem? hcS)
 obtain ⟨X, hX⟩ := Int.eq_ofNat_of_zero_le (show 0 ≤ t.price by omega)
 obtain ⟨Q, hQ⟩ := Int.eq_ofNat_of_zero_le (show 0 ≤ t.qty by omega)
 unfold inW at hpr hqt
 have hTm := zgp W X Q (by omega) (by omega)
 rw [← hX, ← hQ] at hTm
 have hXQ : X * Q < 340282366920938463463374607431768211456 := by
  have : X * Q ≤ 9223372036854775807 * 9223372036854775807 := Nat.mul_le_mul (by omega) (by omega)
  omega
 have hNr := zhC W (X * Q) hXQ
 have hcost : t.price * t.qty = ((X * Q : Nat) : Int) := by rw [hX, hQ]; simp
 obtain ⟨v1, f1, e1, w1, g1, k1⟩ := ziV ((X * Q : Nat) : Int)
 rw [e1] at hNr
 have hA2 := zie W nB t.qty wnB (by unfold inW; omega)
 obtain ⟨v2, f2, e2, w2, g2, k2⟩ := ziV (nB + t.qty)
 rw [e2] at hA2
 have hA3 := zkj W nS t.qty wnS (by unfold inW; omega)
 obtain ⟨v3, f3, e3, w3, g3', k3⟩ := ziV (nS - t.qty)
 rw [e3] at hA3
 have hA4 := zkj W cB v1 wcB w1
 obtain ⟨v4, f4, e4, w4, g4', k4⟩ := ziV (cB - v1)
 rw [e4] at hA4
 have hA5 := zie W cS v1 wcS w1
 obtain ⟨v5, f5, e5, w5, g5', k5⟩ := ziV (cS + v1)
 rw [e5] at hA5
 have hE : putE (psOf cash rs) t = if f1 && f2 && f3 && f4 && f5 then 0 else 15 := by
  unfold putE
  rw [if_neg hbad, zfZ x1 ha.at_ x3 hnB, zfZ y1 hb.at_ x3 hnS, zff x1 hcB, zff y1 hcS, hcost, g1, g2, g3']
  cases f1
  ·simp
  ·rw [← k1 rfl, g4', g5']
 have hEok : (f1 && f2 && f3 && f4 && f5) = true → (putP (psOf cash rs) t) = ⟨(cash.set t.buyer.toNat v4).set t.seller.toNat v5, setRow (setRow (rs.map PRow.l) t.buyer t.bond v2) t.seller t.bond v3⟩ := fun hf => by
  rw [hf, if_pos rfl] at hE
  simp only [Bool.and_eq_true] at hf
  obtain ⟨⟨⟨⟨z1, z2⟩, z3⟩, z4⟩, z5⟩ := hf
  unfold putP
  rw [if_pos hE, zfZ x1 ha.at_ x3 hnB, zfZ y1 hb.at_ x3 hnS, zff x1 hcB, zff y1 hcS, hcost, k2 z2, k3 z3, k4 z4, k5 z5, k1 z1]
  rfl
 rw [hE]
 obtain ⟨R, hR⟩ := zix (l := rs) (i := t.buyer.toNat) (j := t.seller.toNat) (by omega) (by omega) (by omega)
 have hR0 := hR a b
 rw [zcx ha.at_, zcx hb.at_] at hR0
 have hpull : (zcE p AC cC AR cR cash rs F).Perm (.blk p 136 [.slice AR rs.length cR, .slice AC cash.length cC] :: .own AC cash.length cC 2 1 (cash.map (Value.int .i64)) :: .own AR rs.length cR 74 1 (rs.map PRow.hd)
  :: .own a.A a.l.length a.c 2 1 (a.l.map (Value.int .i64)) :: .own b.A b.l.length b.c 2 1 (b.l.map (Value.int .i64)) :: (R.map PRow.ck ++ F)) := by
  unfold zcE
  refine ((List.Perm.append_right F (hR0.map PRow.ck)).cons _ |>.cons _ |>.cons _)
 have hixa := zmJ ha.at_
 have hixb := zmJ hb.at_
 have hiB := zed (kd := .i64) hnB
 have hiS := zed (kd := .i64) hnS
 have hjB := zed (kd := .i64) hcB
 have hjS := zed (kd := .i64) hcS
 generalize hG : R.map PRow.ck ++ F = G at hpull
 have hEno : (f1 && f2 && f3 && f4 && f5) = false → putP (psOf cash rs) t = psOf cash rs := fun hf => by
  rw [hf] at hE
  unfold putP
  rw [if_neg (by rw [hE]; decide)]
 have hdrop : ∀ k, zbk k (.blk p 136 [.slice AR rs.length cR, .slice AC cash.length cC] :: .own AC cash.length cC 2 1 (cash.map (Value.int .i64)) :: .own AR rs.length cR 74 1 (rs.map PRow.hd)
  :: .own a.A a.l.length a.c 2 1 (a.l.map (Value.int .i64)) :: .own b.A b.l.length b.c 2 1 (b.l.map (Value.int .i64)) :: G) → zbk k (zcE p AC cC AR cR cash rs F) := fun k hk => zem hk (zfx hpull.symm)
 have hfin : ∀ k, zbk k (.blk p 136 [.slice AR rs.length cR, .slice AC cash.length cC] :: .own AC cash.length cC 2 1 (lay (lay (cash.map (Value.int .i64)) (t.buyer.toNat * 1) (Value.cells (.int .i64 v4)).toList) (t.seller.toNat * 1) (Value.cells (.int .i64 v5)).toList) :: .own AR rs.length cR 74 1 (rs.map PRow.hd)
  :: .own a.A a.l.length a.c 2 1 (lay (a.l.map (Value.int .i64)) (t.bond.toNat * 1) (Value.cells (.int .i64 v2)).toList) :: .own b.A b.l.length b.c 2 1 (lay (b.l.map (Value.int .i64)) (t.bond.toNat * 1) (Value.cells (.int .i64 v3)).toList) :: G)
  → zbk k (zcE p AC cC AR cR ((cash.set t.buyer.toNat v4).set t.seller.toNat v5) ((rs.set t.buyer.toNat ⟨a.A, a.c, a.l.set t.bond.toNat v2⟩).set t.seller.toNat ⟨b.A, b.c, b.l.set t.bond.toNat v3⟩) F) := fun k hk => by
  refine zem hk (zfx ?_)
  rw [zgM (by omega), zgM (by simp only [List.length_set]; omega), zgM (by omega), zgM (by omega)]
  unfold zcE
  have e4 : ((rs.set t.buyer.toNat ⟨a.A, a.c, a.l.set t.bond.toNat v2⟩).set t.seller.toNat ⟨b.A, b.c, b.l.set t.bond.toNat v3⟩).map PRow.hd = rs.map PRow.hd := by
   rw [List.map_set, List.map_set]
   have f1 : PRow.hd ⟨a.A, a.c, a.l.set t.bond.toNat v2⟩ = PRow.hd a := by unfold PRow.hd; simp only [List.length_set]
   have f2 : PRow.hd ⟨b.A, b.c, b.l.set t.bond.toNat v3⟩ = PRow.hd b := by unfold PRow.hd; simp only [List.length_set]
   rw [f1, f2, zcx (l := rs.map PRow.hd) (i := t.buyer.toNat) (a := PRow.hd a) (by rw [List.getElem?_map, ha.at_]; rfl), zcx (l := rs.map PRow.hd) (i := t.seller.toNat) (a := PRow.hd b) (by rw [List.getElem?_map, hb.at_]; rfl)]
  rw [e4]
  simp only [List.length_set]
  refine List.Perm.cons _ (List.Perm.cons _ (List.Perm.cons _ ?_))
  have e5 := ((hR ⟨a.A, a.c, a.l.set t.bond.toNat v2⟩ ⟨b.A, b.c, b.l.set t.bond.toNat v3⟩).map PRow.ck).append_right F
  have f3 : PRow.ck ⟨a.A, a.c, a.l.set t.bond.toNat v2⟩ = .own a.A a.l.length a.c 2 1 ((a.l.set t.bond.toNat v2).map (Value.int .i64)) := by unfold PRow.ck; simp only [List.length_set]
  have f4 : PRow.ck ⟨b.A, b.c, b.l.set t.bond.toNat v3⟩ = .own b.A b.l.length b.c 2 1 ((b.l.set t.bond.toNat v3).map (Value.int .i64)) := by unfold PRow.ck; simp only [List.length_set]
  rw [List.map_cons, List.map_cons, f3, f4] at e5
  rw [← hG]
  exact e5.symm
 have hpsok : (f1 && f2 && f3 && f4 && f5) = true → psOf ((cash.set t.buyer.toNat v4).set t.seller.toNat v5) ((rs.set t.buyer.toNat ⟨a.A, a.c, a.l.set t.bond.toNat v2⟩).set t.seller.toNat ⟨b.A, b.c, b.l.set t.bond.toNat v3⟩) = putP (psOf cash rs) t := fun hf => by
  rw [hEok hf]
  unfold psOf
  congr 1
  rw [List.map_set, List.map_set]
  have q1 : at0 (rs.map PRow.l) t.buyer = some a.l := by unfold at0; rw [if_neg (by omega), List.getElem?_map, ha.at_]; rfl
  rw [ziW q1]
  have q2 : at0 ((rs.map PRow.l).set t.buyer.toNat (a.l.set t.bond.toNat v2)) t.seller = some b.l := by
   unfold at0
   rw [if_neg (by omega), List.getElem?_set_ne (by omega), List.getElem?_map, hb.at_]; rfl
  rw [ziW q2]
 generalize putP (psOf cash rs) t = PP at *
 refine zan Tryz.func157 rfl rfl Tryz.results157 Tryz.ntmps157 rfl rfl ?_
 refine zoI hpull ?_
 refine zaU (zfF (W := W) mem2) rfl (fun hAR => ?_)
 have hAR' := hAR (by omega)
 refine zaU (zaJ.ints (W := W) mem1 rfl) rfl (fun hAC => ?_)
 have hAC' := hAC (by omega)
 refine zaU (zaJ.ints (W := W) mem3 rfl) rfl (fun hAa => ?_)
 have hAa' := hAa (by omega)
 refine zaU (zaJ.ints (W := W) mem4 rfl) rfl (fun hAb => ?_)
 have hAb' := hAb (by omega)
 repeat' (first | apply zae | apply zaa | apply zaj | apply zah | apply zad | apply zab hT; iterate 4 exact rfl | apply zaq; iterate 3 exact rfl | apply zaM [183, 185] [] hmix; decide +kernel | (apply zb8 [] [] (.step 0 <| .step 1 <| .step 2 <| .step 3 <| .step 4 <| .step 5 <| .step 6 <| .step 7 <| .step 8 <| .step 9 <| .step 10 <| .step 11 <| .step 12 <| .step 13 <| .step 14 <| .step 15 <| .step 16 <| .step 17 <| .step 18 <| .step 20 <| .step 21 <| .step 22 <| .alt (.step 19 <| .step 23 <| .step 24 <| .step 25 <| .nil) ((.step 23 <| .step 19 <| .step 24 <| .step 25 <| .nil))) hmix; decide +kernel) | apply zcX | apply zeZ | apply zbN; exact rfl | (apply zb8 [] [] (.step 0 <| .step 1 <| .step 2 <| .step 3 <| .step 4 <| .step 5 <| .step 6 <| .step 7 <| .step 8 <| .step 9 <| .step 10 <| .step 12 <| .step 13 <| .step 14 <| .alt (.step 11 <| .step 15 <| .step 16 <| .step 17 <| .nil) ((.step 15 <| .step 11 <| .step 16 <| .step 17 <| .nil))) hmix; decide +kernel) | apply zaK; (iterate 5 exact rfl); intro g3 | (apply zac (hs := (h1 _ (by (repeat (first | exact mcs | apply mcm ))) (by (repeat (first | exact mcs | apply mcm ))))); iterate 7 exact rfl) | (apply zac (hs := (h2 _ (by (repeat (first | exact mcs | apply mcm ))) (by (repeat (first | exact mcs | apply mcm ))))); iterate 7 exact rfl) | (apply zac (hs := (hTm.mono (by simp))); iterate 7 exact rfl) | (apply zac (hs := (hNr.mono (by simp))); iterate 7 exact rfl) | (apply zac (hs := (hA2.mono (by simp))); iterate 7 exact rfl) | (apply zac (hs := (hA3.mono (by simp))); iterate 7 exact rfl) | (apply zac (hs := (hA4.mono (by simp))); iterate 7 exact rfl) | (apply zac (hs := (hA5.mono (by simp))); iterate 7 exact rfl) | (apply zaF hT; (iterate 6 exact rfl); (repeat (first | exact sel0 | apply selS )); (iterate 3 exact rfl); exact nle rfl) | (apply zaS hT; (iterate 8 exact rfl); (iterate 2 omega); first | exact hAR' | exact hAC' | exact hAa' | exact hAb') | (apply zal; (iterate 5 exact rfl); first | exact zbl hT rfl rfl (zfF (by (repeat (first | exact mcs | apply mcm )))) rfl hixa | exact zbl hT rfl rfl (zfF (by (repeat (first | exact mcs | apply mcm )))) rfl hixb | exact zbl hT rfl rfl (zaJ.ints (by (repeat (first | exact mcs | apply mcm ))) rfl) rfl hiB | exact zbl hT rfl rfl (zaJ.ints (by (repeat (first | exact mcs | apply mcm ))) rfl) rfl hiS | exact zbl hT rfl rfl (zaJ.ints (by (repeat (first | exact mcs | apply mcm ))) rfl) rfl hjB | exact zbl hT rfl rfl (zaJ.ints (by (repeat (first | exact mcs | apply mcm ))) rfl) rfl hjS) | (apply zbs (A := a.A) hT; (iterate 6 exact rfl); (repeat (first | exact sel0 | apply selS )); exact rfl; exact rfl; exact rfl; (show t.bond.toNat * 1 + 1 ≤ a.l.length * 1; omega); omega) | (apply zbs (A := b.A) hT; (iterate 6 exact rfl); (repeat (first | exact sel0 | apply selS )); exact rfl; exact rfl; exact rfl; (show t.bond.toNat * 1 + 1 ≤ b.l.length * 1; omega); omega) | (apply zbs (A := AC) hT; (iterate 6 exact rfl); (repeat (first | exact sel0 | apply selS )); exact rfl; exact rfl; exact rfl; (show t.buyer.toNat * 1 + 1 ≤ cash.length * 1; omega); omega) | (apply zbs (A := AC) hT; (iterate 6 exact rfl); (repeat (first | exact sel0 )); exact rfl; exact rfl; exact rfl; (show t.seller.toNat * 1 + 1 ≤ cash.length * 1; omega); omega) | (apply zal; (iterate 5 exact rfl); first | (apply zaC hT; exact rfl; exact rfl; (repeat (first | exact mcs | apply mcm )); exact rfl; exact rfl) | (apply zaQ hT; exact rfl; exact rfl; (repeat (first | exact mcs )); exact rfl)) | apply zaI hT; (iterate 5 exact rfl); intro _ | apply zak; iterate 2 exact rfl | (apply zav; exact rfl; all_goals (intro hb; (fail_if_success (change true = true at hb)); (fail_if_success (change false = false at hb)); (try dsimp only at hb); (try simp only [hb]); (first | replace hb := odt hb | replace hb := odf hb | skip); (try omega))) | (apply zam; exact rfl; all_goals (intro hb; (try dsimp only at hb); (try simp only [hb]); (first | replace hb := odt hb | replace hb := odf hb | skip); (try omega))))
 all_goals first
  | (exfalso; omega)
  | ((have flag0 : (f1 && f2 && f3 && f4 && f5) = false := by (clear hdrop hfin hpsok hEok hEno hE hI h1 h2 hpull; simp only [Bool.not_eq_true', Bool.not_eq_false'] at *; simp [*])); apply ret1; exact rfl; exact ⟨_, hdrop _ (by (repeat (first | exact zar | (apply zay; · (repeat (first | exact sel0 | apply selS ))) | apply zat))), by rw [flag0]; rfl, cash, rs, (hEno flag0).symm, rfl⟩)
  | ((have flag1 : (f1 && f2 && f3 && f4 && f5) = true := by (clear hdrop hfin hpsok hEok hEno hE hI h1 h2 hpull; simp only [Bool.not_eq_true', Bool.not_eq_false'] at *; simp [*])); apply ret1; exact rfl; exact ⟨_, hfin _ (by (repeat (first | exact zar | (apply zay; · (repeat (first | exact sel0 | apply selS ))) | apply zat))), by rw [flag1]; rfl, _, _, hpsok flag1, rfl⟩)
  | skip
theorem zhE (W : World) (b : za3) (p : Int) (hb : zcT b = true) : zaL Tryz.prog W 102 [.agg b.enc.toArray, .int .i64 p] [] (.int .i64 (zd6 b p)) := by
 obtain ⟨h1, h2, h3, h4, h5, h6⟩ := zeo hb
 refine zaL.ofD (fun h' hs => ?_)
 have hin := zjn W p b.low b.high
 unfold zd6
 cases hI : inB p b.low b.high
 ·rw [hI] at hin
  refine zan Tryz.func102 rfl rfl Tryz.results102 Tryz.ntmps102 rfl rfl ?_
  repeat' (first | apply zae | apply zaa | apply zaj | apply zaf | apply zad | apply zab hT; iterate 4 exact rfl | (apply zac (hs := (hin.mono (by simp))); iterate 7 exact rfl) | (apply zal; (iterate 5 exact rfl); first | (apply zaC hT; exact rfl; exact rfl; (repeat (first | exact mcs )); exact rfl; exact rfl) ) | apply zaK; (iterate 5 exact rfl); intro _ | apply zak; iterate 2 exact rfl)
  all_goals first
   | (exfalso; omega)
   | (apply ret1; exact rfl; exact ⟨by simp, by (repeat (first | exact zar | apply zat))⟩)
   | skip
 ·have hr := zck hI
  rw [hI] at hin
  refine zan Tryz.func102 rfl rfl Tryz.results102 Tryz.ntmps102 rfl rfl ?_
  repeat' (first | apply zae | apply zaa | apply zaj | apply zah | apply zaf | apply zad | apply zab hT; iterate 4 exact rfl | (apply zac (hs := (hin.mono (by simp))); iterate 7 exact rfl) | apply zlA; (iterate 5 exact rfl); omega; omega | (apply zal; (iterate 5 exact rfl); first | (apply zaC hT; exact rfl; exact rfl; (repeat (first | exact mcs )); exact rfl; exact rfl) ) | apply zaK; (iterate 5 exact rfl); intro _ | apply zag; iterate 2 exact rfl | (apply zam; exact rfl; all_goals (intro hb; (try dsimp only at hb); (try simp only [hb]); (first | replace hb := zaD hb | replace hb := zaE hb ); (try omega))))
  all_goals first
   | (exfalso; omega)
   | (apply ret1; exact rfl; exact ⟨by simp [*], by (repeat (first | exact zar | apply zat))⟩)
   | skip
theorem zif (W : World) (b : za3) (p : Int) (hb : zcT b = true) : zaL Tryz.prog W 115 [.agg b.enc.toArray, .int .i64 p] [] (.int .i64 (qtyE b p)) := by
 obtain ⟨h1, h2, h3, h4, h5, h6⟩ := zeo hb
 refine zaL.ofD (fun h' hs => ?_)
 have hin := zjn W p b.min b.max
 unfold qtyE
 cases hI : inB p b.min b.max
 ·rw [hI] at hin
  refine zan Tryz.func115 rfl rfl Tryz.results115 Tryz.ntmps115 rfl rfl ?_
  repeat' (first | apply zae | apply zaa | apply zaj | apply zaf | apply zad | apply zab hT; iterate 4 exact rfl | (apply zac (hs := (hin.mono (by simp))); iterate 7 exact rfl) | (apply zal; (iterate 5 exact rfl); first | (apply zaC hT; exact rfl; exact rfl; (repeat (first | exact mcs )); exact rfl; exact rfl) ) | apply zaK; (iterate 5 exact rfl); intro _ | apply zak; iterate 2 exact rfl)
  all_goals first
   | (exfalso; omega)
   | (apply ret1; exact rfl; exact ⟨by simp, by (repeat (first | exact zar | apply zat))⟩)
   | skip
 ·have hr := zck hI
  rw [hI] at hin
  refine zan Tryz.func115 rfl rfl Tryz.results115 Tryz.ntmps115 rfl rfl ?_
  repeat' (first | apply zae | apply zaa | apply zaj | apply zah | apply zaf | apply zad | apply zab hT; iterate 4 exact rfl | (apply zac (hs := (hin.mono (by simp))); iterate 7 exact rfl) | apply zlA; (iterate 5 exact rfl); omega; omega | (apply zal; (iterate 5 exact rfl); first | (apply zaC hT; exact rfl; exact rfl; (repeat (first | exact mcs )); exact rfl; exact rfl) ) | apply zaK; (iterate 5 exact rfl); intro _ | apply zag; iterate 2 exact rfl | (apply zam; exact rfl; all_goals (intro hb; (try dsimp only at hb); (try simp only [hb]); (first | replace hb := zaD hb | replace hb := zaE hb ); (try omega))))
  all_goals first
   | (exfalso; omega)
   | (apply ret1; exact rfl; exact ⟨by simp [*], by (repeat (first | exact zar | apply zat))⟩)
   | skip
theorem zhF (W : World) (b : za3) (p q : Int) (hb : zcT b = true) : zaL Tryz.prog W 144 [.agg b.enc.toArray, .int .i64 p, .int .i64 q] [] (.int .i64 (zc9 b p q)) := by
 refine zaL.ofD (fun h' hs => ?_)
 have h1 := zhE W b p hb
 have h2 := zif W b q hb
 unfold zc9
 generalize zd6 b p = pe at *
 generalize qtyE b q = qe at *
 refine zan Tryz.func144 rfl rfl Tryz.results144 Tryz.ntmps144 rfl rfl ?_
 repeat' (first | apply zae | apply zaa | apply zaj | apply zah | apply zad | apply zab hT; iterate 4 exact rfl | (apply zac (hs := (h1.mono (by simp))); iterate 7 exact rfl) | (apply zac (hs := (h2.mono (by simp))); iterate 7 exact rfl) | (apply zal; (iterate 5 exact rfl); first | (apply zaC hT; exact rfl; exact rfl; (repeat (first | exact mcs )); exact rfl; exact rfl) | (apply zaQ hT; exact rfl; exact rfl; (repeat (first | exact mcs )); exact rfl)) | apply zaK; (iterate 5 exact rfl); intro _ | (apply zam; exact rfl; all_goals (intro hb; (try dsimp only at hb); (try simp only [hb]); (first | replace hb := zaD hb | replace hb := zaE hb | skip); (try omega))))
 all_goals first
  | (exfalso; omega)
  | (apply ret1; exact rfl; exact ⟨by simp [*], by (repeat (first | exact zar | apply zat))⟩)
  | skip
theorem zgN (W : World) (p : Nat) (A : Option Addr) (c : Nat) (sl : Value) (ps : List zaV) (who : Int) :
 zaL Tryz.prog W 95 [.pointer (some ⟨p, 0, none⟩), .int .i64 who] [.blk p 127 [.slice A ps.length c, sl], .own A ps.length c 82 3 (ps.flatMap zaV.enc)] (.int .i64 (zcK ps who)) := by
 refine zaL.ofD (fun h' hs => ?_)
 have m0 := hs _ mem0
 have m1 := hs _ mem1
 have hrd : zaJ W h' A ps.length 3 (ps.flatMap zaV.enc) := zaJ.enc zaV.enc_len zaV.enc_one m1 rfl
 refine zan Tryz.func95 rfl rfl Tryz.results95 Tryz.ntmps95 rfl rfl ?_
 refine zaU hrd rfl (fun hA => ?_)
 by_cases hw : 0 ≤ who ∧ who < ps.length
 ·obtain ⟨q, hq⟩ : ∃ q, ps[who.toNat]? = some q := ⟨ps[who.toNat]'(by omega), List.getElem?_eq_getElem (by omega)⟩
  have hA' := hA (by omega)
  rw [zoR hw.1 hq]
  repeat' (first | apply zae | apply zaa | apply zaj | apply zah | apply zad | apply zab hT; iterate 4 exact rfl | apply zaS hT; (iterate 8 exact rfl); (iterate 2 omega); exact hA' | (apply zal; (iterate 5 exact rfl); exact zbb hT rfl rfl hrd zaV.enc_len (zaW _ _ _) hq (by decide) rfl) | (apply zal; (iterate 5 exact rfl); first | (apply zaC hT; exact rfl; exact rfl; (repeat (first | exact m0 )); exact rfl; exact rfl) ) | (apply zav; exact rfl; all_goals (intro hb; (fail_if_success (change true = true at hb)); (fail_if_success (change false = false at hb)); (try dsimp only at hb); (try simp only [hb]); (first | replace hb := odt hb | replace hb := odf hb ); (try omega))) | (apply zam; exact rfl; all_goals (intro hb; (try dsimp only at hb); (try simp only [hb]); (first | replace hb := odt hb | replace hb := odf hb ); (try omega))))
  all_goals first
   | (exfalso; omega)
   | (apply ret1; exact rfl; exact ⟨rfl, by (repeat (first | exact zar))⟩)
   | skip
 ·rw [znp (by omega)]
  repeat' (first | apply zae | apply zaa | apply zaj | apply zad | apply zab hT; iterate 4 exact rfl | apply zaq; iterate 3 exact rfl | (apply zal; (iterate 5 exact rfl); first | (apply zaC hT; exact rfl; exact rfl; (repeat (first | exact m0 )); exact rfl; exact rfl) ) | apply zak; iterate 2 exact rfl | (apply zav; exact rfl; all_goals (intro hb; (fail_if_success (change true = true at hb)); (fail_if_success (change false = false at hb)); (try dsimp only at hb); (try simp only [hb]); (first | replace hb := odt hb | replace hb := odf hb ); (try omega))) | (apply zam; exact rfl; all_goals (intro hb; (try dsimp only at hb); (try simp only [hb]); (first | replace hb := odt hb | replace hb := odf hb ); (try omega))))
  all_goals first
   | (exfalso; omega)
   | (apply ret1; exact rfl; exact ⟨rfl, by (repeat (first | exact zar))⟩)
   | skip
def zkm (p : Nat) (A : Option Addr) (c : Nat) (U : Option Addr) (u : Nat) (ps : List zaV) (used : List Int) : List zax :=
 [.blk p 127 [.slice A ps.length c, .slice U ps.length u], .own A ps.length c 82 3 (ps.flatMap zaV.enc), .own U ps.length u 2 1 (used.map (Value.int .i64))]
theorem zob (W : World) (p : Nat) (A : Option Addr) (c : Nat) (sl : Value) (ps : List zaV) (who kind : Int) :
 zaL Tryz.prog W 60 [.pointer (some ⟨p, 0, none⟩), .int .i64 who, .int .i64 kind] [.blk p 127 [.slice A ps.length c, sl], .own A ps.length c 82 3 (ps.flatMap zaV.enc)] (.bool (mayV ps who kind)) := by
 refine zaL.ofD (fun h' hs => ?_)
 have hR := (zgN W p A c sl ps who).mono hs
 unfold mayV
 generalize zcK ps who = r at *
 refine zan Tryz.func60 rfl rfl Tryz.results60 Tryz.ntmps60 rfl rfl ?_
 repeat' (first | apply zae | apply zaa | apply zaj | apply zah | apply zaf | apply zad | apply zab hT; iterate 4 exact rfl | apply zaq; iterate 3 exact rfl | apply zac (hs := hR); iterate 7 exact rfl | apply zak; iterate 2 exact rfl | (apply zav; exact rfl; all_goals (intro hb; (fail_if_success (change true = true at hb)); (fail_if_success (change false = false at hb)); (try dsimp only at hb); (try simp only [hb]); (first | replace hb := odt hb | replace hb := odf hb ); (try omega))) | (apply zam; exact rfl; all_goals (intro hb; (try dsimp only at hb); (try simp only [hb]); (first | replace hb := odt hb | replace hb := odf hb ); (try omega))))
 all_goals first
  | (exfalso; omega)
  | (apply ret1; exact rfl; exact ⟨by (first | simp_all; done), by (repeat (first | exact zar))⟩)
  | skip
theorem zk4 (W : World) (p : Nat) (A : Option Addr) (c : Nat) (sl : Value) (ps : List zaV) (who dealers : Int) :
 zaL Tryz.prog W 116 [.pointer (some ⟨p, 0, none⟩), .int .i64 who, .int .u64 dealers] [.blk p 127 [.slice A ps.length c, sl], .own A ps.length c 82 3 (ps.flatMap zaV.enc)] (.int .i64 (zgi ps who dealers)) := by
 refine zaL.ofD (fun h' hs => ?_)
 have m0 := hs _ mem0
 have m1 := hs _ mem1
 have hR := (zgN W p A c sl ps who).mono hs
 have hrd : zaJ W h' A ps.length 3 (ps.flatMap zaV.enc) := zaJ.enc zaV.enc_len zaV.enc_one m1 rfl
 unfold zgi
 by_cases hr : zcK ps who = 1
 ·obtain ⟨w0, w1, q, hq, _⟩ := zda (ps := ps) (who := who) (by rw [hr]; decide)
  have hat : at0 ps who = some q := by unfold at0; rw [if_neg (by omega), hq]
  rw [hr] at hR
  rw [hr, hat]
  dsimp only [Option.map_some, Option.getD_some]
  refine zan Tryz.func116 rfl rfl Tryz.results116 Tryz.ntmps116 rfl rfl ?_
  refine zaU hrd rfl (fun hA => ?_)
  have hA' := hA (by omega)
  repeat' (first | apply zae | apply zaa | apply zaj | apply zah | apply zaf | apply zad | apply zab hT; iterate 4 exact rfl | apply zaq; iterate 3 exact rfl | apply zac (hs := hR); iterate 7 exact rfl | apply zcJ; iterate 6 exact rfl | apply zaS hT; (iterate 8 exact rfl); (iterate 2 omega); exact hA' | (apply zal; (iterate 5 exact rfl); exact zbb hT rfl rfl hrd zaV.enc_len (zaW _ _ _) hq (by decide) rfl) | (apply zal; (iterate 5 exact rfl); first | (apply zaC hT; exact rfl; exact rfl; (repeat (first | exact m0 )); exact rfl; exact rfl) ) | apply zak; iterate 2 exact rfl | apply zag; iterate 2 exact rfl | (apply zav; exact rfl; all_goals (intro hb; (fail_if_success (change true = true at hb)); (fail_if_success (change false = false at hb)); (try dsimp only at hb); (try simp only [hb]); (first | replace hb := odt hb | replace hb := odf hb ); (try omega))) | (apply zam; exact rfl; all_goals (intro hb; (try dsimp only at hb); (try simp only [hb]); (first | replace hb := zaD hb | replace hb := zaE hb ); (try omega))))
  all_goals first
   | (exfalso; omega)
   | (apply ret1; exact rfl; exact ⟨by simp [*], by (repeat (first | exact zar))⟩)
   | skip
 ·rw [if_pos hr]
  generalize zcK ps who = r at *
  refine zan Tryz.func116 rfl rfl Tryz.results116 Tryz.ntmps116 rfl rfl ?_
  repeat' (first | apply zae | apply zaa | apply zaj | apply zaf | apply zad | apply zab hT; iterate 4 exact rfl | apply zac (hs := hR); iterate 7 exact rfl | apply zag; iterate 2 exact rfl | (apply zam; exact rfl; all_goals (intro hb; (try dsimp only at hb); (try simp only [hb]); (first | replace hb := zaD hb | replace hb := zaE hb ); (try omega))))
  all_goals first
   | (exfalso; omega)
   | (apply ret1; exact rfl; exact ⟨rfl, by (repeat (first | exact zar))⟩)
   | skip
def ziX (ps : List zaV) (used : List Int) (who price qty : Int) : Value :=
 .tuple #[.int .i64 (if zc0 ps used who price qty = 0 then zdU used who + price * qty else 0), .int .i64 (zc0 ps used who price qty)]
set_option maxHeartbeats 1000000 in
theorem ziY (W : World) (p : Nat) (A : Option Addr) (c : Nat) (U : Option Addr) (u : Nat) (ps : List zaV) (used : List Int) (who price qty : Int) (hl : used.length = ps.length) (hu : ∀ x ∈ used, 0 ≤ x ∧ x ≤ 9223372036854775807) (hp : inW price) (hq : inW qty) :
 zaL Tryz.prog W 156 [.pointer (some ⟨p, 0, none⟩), .int .i64 who, .int .i64 price, .int .i64 qty] (zkm p A c U u ps used) (ziX ps used who price qty) := by
 refine zaL.ofD (fun h' hs => ?_)
 have m0 := hs _ mem0
 have m1 := hs _ mem1
 have m2 := hs _ mem2
 have hR := (zgN W p A c (.slice U ps.length u) ps who).mono (h' := h') (zbx m0 m1)
 have hrd : zaJ W h' A ps.length 3 (ps.flatMap zaV.enc) := zaJ.enc zaV.enc_len zaV.enc_one m1 rfl
 have hru : zaJ W h' U ps.length 1 (used.map (Value.int .i64)) := zaJ.ints m2 hl
 unfold inW at hp hq
 by_cases hr : zcK ps who = 2
 ·obtain ⟨w0, w1, q, hq1, _⟩ := zda (ps := ps) (who := who) (by rw [hr]; decide)
  have hat : at0 ps who = some q := by unfold at0; rw [if_neg (by omega), hq1]
  obtain ⟨x, hx⟩ : ∃ x, used[who.toNat]? = some x := ⟨used[who.toNat]'(by omega), List.getElem?_eq_getElem (by omega)⟩
  have hxu := hu x (List.mem_of_getElem? hx)
  have hus : zdU used who = x := by unfold zdU at0; rw [if_neg (by omega), hx]; rfl
  rw [hr] at hR
  by_cases hpq : price < 1 ∨ qty < 1
  ·have hE : ziX ps used who price qty = .tuple #[.int .i64 0, .int .i64 1] := by
    have : zc0 ps used who price qty = 1 := by unfold zc0; rw [if_neg (by rw [hr]; decide), if_pos hpq]
    unfold ziX; rw [this]; rfl
   rw [hE]
   refine zan Tryz.func156 rfl rfl Tryz.results156 Tryz.ntmps156 rfl rfl ?_
   repeat' (first | apply zae | apply zaa | apply zaj | apply zaf | apply zad | apply zab hT; iterate 4 exact rfl | apply zaq; iterate 3 exact rfl | apply zac (hs := hR); iterate 7 exact rfl | apply zak; iterate 2 exact rfl | apply zag; iterate 2 exact rfl | (apply zav; exact rfl; all_goals (intro hb; (fail_if_success (change true = true at hb)); (fail_if_success (change false = false at hb)); (try dsimp only at hb); (try simp only [hb]); (first | replace hb := odt hb | replace hb := odf hb ); (try omega))) | (apply zam; exact rfl; all_goals (intro hb; (try dsimp only at hb); (try simp only [hb]); (first | replace hb := odt hb | replace hb := odf hb ); (try omega))))
   all_goals first
    | (exfalso; omega)
    | (apply ret2; exact rfl; exact rfl; exact ⟨rfl, by (repeat (first | exact zar))⟩)
    | skip
  ·obtain ⟨X, hX⟩ := Int.eq_ofNat_of_zero_le (show 0 ≤ price by omega)
   obtain ⟨Q, hQ⟩ := Int.eq_ofNat_of_zero_le (show 0 ≤ qty by omega)
   have hTm := zgp W X Q (by omega) (by omega)
   have hXQ : X * Q < 340282366920938463463374607431768211456 := by
    have : X * Q ≤ 9223372036854775807 * 9223372036854775807 := Nat.mul_le_mul (by omega) (by omega)
    omega
   have hNr := zhC W (X * Q) hXQ
   have hcost : price * qty = ((X * Q : Nat) : Int) := by rw [hX, hQ]; simp
   have hRE : zc0 ps used who price qty = if ((X * Q : Nat) : Int) > 9223372036854775807 then 15 else if x + ((X * Q : Nat) : Int) > 9223372036854775807 then 15 else if x + ((X * Q : Nat) : Int) > q.cap then 14 else 0 := by
    unfold zc0
    rw [if_neg (by rw [hr]; decide), if_neg hpq, hcost, hus, hat]; rfl
   unfold ziX
   rw [hus, hcost, hRE]
   rw [← hX, ← hQ] at hTm
   generalize X * Q = k at *
   have hA2 := fun (hk : inW (k : Int)) => zie W x k (by unfold inW; omega) hk
   unfold okI at hNr hA2
   by_cases h1 : ((k : Nat) : Int) > 9223372036854775807
   ·have e1 : inI ((k : Nat) : Int) = false := by cases h : inI ((k : Nat) : Int) with | false => rfl | true => exact absurd (zeJ h).2 (by omega)
    rw [e1] at hNr
    rw [if_pos h1]
    refine zan Tryz.func156 rfl rfl Tryz.results156 Tryz.ntmps156 rfl rfl ?_
    repeat' (first | apply zae | apply zaa | apply zaj | apply zah | apply zaf | apply zad | apply zab hT; iterate 4 exact rfl | apply zac (hs := hR); iterate 7 exact rfl | (apply zac (hs := (hTm.mono (by simp))); iterate 7 exact rfl) | (apply zac (hs := (hNr.mono (by simp))); iterate 7 exact rfl) | (apply zaI hT; (iterate 5 exact rfl); first | (fail_if_success (have q := g10)); intro g10) | (apply zaF hT; (iterate 6 exact rfl); (repeat (first | exact sel0 )); (iterate 3 exact rfl); exact nle rfl) | (apply zal; (iterate 5 exact rfl); first | (apply zaQ hT; exact rfl; exact rfl; (repeat (first | exact mcs )); exact rfl)) | (apply zak; iterate 2 exact rfl) | (apply zag; iterate 2 exact rfl) | (apply zav; exact rfl; all_goals (intro hb; (fail_if_success (change true = true at hb)); (fail_if_success (change false = false at hb)); (try dsimp only at hb); (try simp only [hb]); (first | replace hb := odt hb | replace hb := odf hb ); (try omega))) | (apply zam; exact rfl; all_goals (intro hb; (try dsimp only at hb); (try simp only [hb]); (first | replace hb := odt hb | replace hb := odf hb ); (try omega))))
    all_goals first
     | (exfalso; omega)
     | (apply ret2; exact rfl; exact rfl; exact ⟨rfl, by (repeat (first | exact zar | apply zat))⟩)
     | skip
   ·have e1 : inI ((k : Nat) : Int) = true := by
     unfold inI inB; simp; omega
    have hA3 := hA2 (zeJ e1)
    rw [e1, if_pos rfl] at hNr
    rw [if_neg h1]
    by_cases h2 : x + ((k : Nat) : Int) > 9223372036854775807
    ·have e2 : inI (x + ((k : Nat) : Int)) = false := by cases h : inI (x + ((k : Nat) : Int)) with | false => rfl | true => exact absurd (zeJ h).2 (by omega)
     rw [e2] at hA3
     rw [if_pos h2]
     refine zan Tryz.func156 rfl rfl Tryz.results156 Tryz.ntmps156 rfl rfl ?_
     refine zaU hru rfl (fun hU => ?_)
     have hU' := hU (by omega)
     repeat' (first | apply zae | apply zaa | apply zaj | apply zah | apply zaf | apply zad | apply zab hT; iterate 4 exact rfl | apply zac (hs := hR); iterate 7 exact rfl | (apply zac (hs := (hTm.mono (by simp))); iterate 7 exact rfl) | (apply zac (hs := (hNr.mono (by simp))); iterate 7 exact rfl) | (apply zac (hs := (hA3.mono (by simp))); iterate 7 exact rfl) | (apply zaI hT; (iterate 5 exact rfl); first | (fail_if_success (have q := g10)); intro g10) | (apply zaF hT; (iterate 6 exact rfl); (repeat (first | exact sel0 )); (iterate 3 exact rfl); exact nle rfl) | (apply zaS hT; (iterate 8 exact rfl); (iterate 2 omega); exact hU') | (apply zal; (iterate 5 exact rfl); exact zbl hT rfl rfl (hru.mono (by (intro c hc; (repeat (first | exact hc | apply mcm ))))) rfl (zed (kd := .i64) hx)) | (apply zal; (iterate 5 exact rfl); first | (apply zaC hT; exact rfl; exact rfl; (repeat (first | exact m0 | apply mcm )); exact rfl; exact rfl) | (apply zaQ hT; exact rfl; exact rfl; (repeat (first | exact mcs )); exact rfl)) | (apply zak; iterate 2 exact rfl) | (apply zag; iterate 2 exact rfl) | (apply zav; exact rfl; all_goals (intro hb; (fail_if_success (change true = true at hb)); (fail_if_success (change false = false at hb)); (try dsimp only at hb); (try simp only [hb]); (first | replace hb := odt hb | replace hb := odf hb ); (try omega))) | (apply zam; exact rfl; all_goals (intro hb; (try dsimp only at hb); (try simp only [hb]); (first | replace hb := odt hb | replace hb := odf hb ); (try omega))))
     all_goals first
      | (exfalso; omega)
      | (apply ret2; exact rfl; exact rfl; exact ⟨rfl, by (repeat (first | exact zar | apply zat))⟩)
      | skip
    ·have e2 : inI (x + ((k : Nat) : Int)) = true := by
      unfold inI inB; simp; omega
     rw [e2, if_pos rfl] at hA3
     rw [if_neg h2]
     refine zan Tryz.func156 rfl rfl Tryz.results156 Tryz.ntmps156 rfl rfl ?_
     refine zaU hru rfl (fun hU => ?_)
     have hU' := hU (by omega)
     refine zaU hrd rfl (fun hA => ?_)
     have hA' := hA (by omega)
     repeat' (first | apply zae | apply zaa | apply zaj | apply zah | apply zaf | apply zad | apply zab hT; iterate 4 exact rfl | apply zac (hs := hR); iterate 7 exact rfl | (apply zac (hs := (hTm.mono (by simp))); iterate 7 exact rfl) | (apply zac (hs := (hNr.mono (by simp))); iterate 7 exact rfl) | (apply zac (hs := (hA3.mono (by simp))); iterate 7 exact rfl) | (apply zaI hT; (iterate 5 exact rfl); first | (fail_if_success (have q := g10)); intro g10) | (apply zaF hT; (iterate 6 exact rfl); (repeat (first | exact sel0 )); (iterate 3 exact rfl); exact nle rfl) | (apply zaS hT; (iterate 8 exact rfl); (iterate 2 omega); first | exact hU' | exact hA') | (apply zal; (iterate 5 exact rfl); first | exact zbl hT rfl rfl (hru.mono (by (intro c hc; (repeat (first | exact hc | apply mcm ))))) rfl (zed (kd := .i64) hx) | exact zbb hT rfl rfl (hrd.mono (by (intro c hc; (repeat (first | exact hc | apply mcm ))))) zaV.enc_len (zaW _ _ _) hq1 (by decide) rfl) | (apply zal; (iterate 5 exact rfl); first | (apply zaC hT; exact rfl; exact rfl; (repeat (first | exact m0 | apply mcm )); exact rfl; exact rfl) | (apply zaQ hT; exact rfl; exact rfl; (repeat (first | exact mcs )); exact rfl)) | (apply zag; iterate 2 exact rfl) | (apply zav; exact rfl; all_goals (intro hb; (fail_if_success (change true = true at hb)); (fail_if_success (change false = false at hb)); (try dsimp only at hb); (try simp only [hb]); (first | replace hb := odt hb | replace hb := odf hb ); (try omega))) | (apply zam; exact rfl; all_goals (intro hb; (try dsimp only at hb); (try simp only [hb]); (first | replace hb := odt hb | replace hb := odf hb ); (try omega))))
     all_goals first
      | (exfalso; omega)
      | (apply ret2; exact rfl; exact rfl; exact ⟨by simp [*], by (repeat (first | exact zar | apply zat))⟩)
      | skip
 ·have hE : ziX ps used who price qty = .tuple #[.int .i64 0, .int .i64 5] := by
   have : zc0 ps used who price qty = 5 := by unfold zc0; rw [if_pos hr]
   unfold ziX; rw [this]; rfl
  rw [hE]
  generalize zcK ps who = r at *
  refine zan Tryz.func156 rfl rfl Tryz.results156 Tryz.ntmps156 rfl rfl ?_
  repeat' (first | apply zae | apply zaa | apply zaj | apply zaf | apply zad | apply zab hT; iterate 4 exact rfl | apply zac (hs := hR); iterate 7 exact rfl | apply zag; iterate 2 exact rfl | (apply zam; exact rfl; all_goals (intro hb; (try dsimp only at hb); (try simp only [hb]); (first | replace hb := zaD hb | replace hb := zaE hb ); (try omega))))
  all_goals first
   | (exfalso; omega)
   | (apply ret2; exact rfl; exact rfl; exact ⟨rfl, by (repeat (first | exact zar))⟩)
   | skip
theorem zmL (W : World) (p : Nat) (A : Option Addr) (c : Nat) (U : Option Addr) (u : Nat) (ps : List zaV) (used : List Int) (who price qty : Int) (hl : used.length = ps.length) (hu : ∀ x ∈ used, 0 ≤ x ∧ x ≤ 9223372036854775807) (hp : inW price) (hq : inW qty) :
 zaL Tryz.prog W 151 [.pointer (some ⟨p, 0, none⟩), .int .i64 who, .int .i64 price, .int .i64 qty] (zkm p A c U u ps used) (.int .i64 (zc0 ps used who price qty)) := by
 refine zaL.ofD (fun h' hs => ?_)
 have hA := (ziY W p A c U u ps used who price qty hl hu hp hq).mono hs
 unfold ziX at hA
 refine zan Tryz.func151 rfl rfl Tryz.results151 Tryz.ntmps151 rfl rfl ?_
 repeat' (first | apply zae | apply zaa | apply zaj | apply zad | apply zab hT; iterate 4 exact rfl | apply zac (hs := hA); iterate 7 exact rfl)
 all_goals first
  | (apply ret1; exact rfl; exact ⟨rfl, by (repeat (first | exact zar))⟩)
  | skip
theorem zoc (W : World) (F : List zax) (p : Nat) (A : Option Addr) (c : Nat) (U : Option Addr) (u : Nat) (ps : List zaV) (used : List Int) (who price qty : Int) (hl : used.length = ps.length) (hu : ∀ x ∈ used, 0 ≤ x ∧ x ≤ 9223372036854775807) (hp : inW price) (hq : inW qty) :
 zaB Tryz.prog W 112 [.pointer (some ⟨p, 0, none⟩), .int .i64 who, .int .i64 price, .int .i64 qty] (zdO p A c U u ps used F)
  (fun v h' => v = .int .i64 (zc0 ps used who price qty) ∧ h' = zdO p A c U u ps (if zc0 ps used who price qty = 0 then used.set who.toNat (zdU used who + price * qty) else used) F) := by
 refine zaB.dropTo ?_
 have hA := (ziY W p A c U u ps used who price qty hl hu hp hq).mono (h' := zdO p A c U u ps used F) (zd0 mem0 mem1 mem2)
 unfold ziX at hA
 refine zan Tryz.func112 rfl rfl Tryz.results112 Tryz.ntmps112 rfl rfl ?_
 by_cases hE : zc0 ps used who price qty = 0
 ·have hr : zcK ps who = 2 := by
   unfold zc0 at hE
   split at hE
   ·omega
   ·rename_i h; exact Decidable.not_not.1 h
  obtain ⟨w0, w1, _⟩ := zda (ps := ps) (who := who) (by rw [hr]; decide)
  rw [hE, if_pos rfl] at hA
  rw [hE, if_pos rfl]
  unfold zdO at *
  refine zaU (zaJ.ints (W := W) mem2 hl) rfl (fun hU => ?_)
  have hU' := hU (by omega)
  have hlay : lay (used.map (Value.int .i64)) (who.toNat * 1) (Value.cells (.int .i64 (zdU used who + price * qty))).toList = (used.set who.toNat (zdU used who + price * qty)).map (Value.int .i64) := zgM (by omega)
  generalize zdU used who + price * qty = n at *
  repeat' (first | apply zae | apply zaa | apply zaj | apply zad | apply zab hT; iterate 4 exact rfl | apply zac (hs := hA); iterate 7 exact rfl | apply zaS hT; (iterate 8 exact rfl); (iterate 2 omega); exact hU' | (apply zbs (A := U) hT; (iterate 6 exact rfl); (repeat (first | exact sel0 | apply selS )); exact rfl; exact rfl; exact rfl; (show who.toNat * 1 + 1 ≤ ps.length * 1; omega); omega) | (apply zal; (iterate 5 exact rfl); first | (apply zaC hT; exact rfl; exact rfl; (repeat (first | exact mcs )); exact rfl; exact rfl) ) | apply zak; iterate 2 exact rfl)
  all_goals first
   | (exfalso; omega)
   | (apply ret1; exact rfl; refine ⟨_, ?_, rfl, rfl⟩; rw [← hlay]; (repeat (first | exact zar | (apply zay; · (repeat (first | exact sel0 | apply selS ))))))
   | skip
 ·rw [if_neg hE]
  generalize zc0 ps used who price qty = e at *
  repeat' (first | apply zae | apply zaa | apply zaj | apply zah | apply zad | apply zab hT; iterate 4 exact rfl | apply zac (hs := hA); iterate 7 exact rfl | (apply zam; exact rfl; all_goals (intro hb; (try dsimp only at hb); (try simp only [hb]); (first | replace hb := odt hb | replace hb := odf hb ); (try omega))))
  all_goals first
   | (exfalso; omega)
   | (apply ret1; exact rfl; exact ⟨_, zar, rfl, rfl⟩)
   | skip
/-! ### what is told -/
theorem zpe (to kind : Int) {ns : List Int} (hl : ns.length ≤ 6) : lay (outM to kind []).enc 2 (ns.map (Value.int .i64)) = (outM to kind ns).enc := by
 rcases ns with _ | ⟨a, _ | ⟨b, _ | ⟨c, _ | ⟨d, _ | ⟨e, _ | ⟨f, _ | ⟨g, t⟩⟩⟩⟩⟩⟩⟩ <;> first
  | rfl
  | (exfalso; simp only [List.length_cons] at hl; omega)
theorem zkn (W : World) (h : List zax) (A : Option Addr) (c : Nat) (to kind : Int) (ns : List Int) (hr : zaJ W h A ns.length 1 (ns.map (Value.int .i64))) (hl : ns.length ≤ 6) :
 zaL Tryz.prog W 40 [.int .i64 to, .int .i64 kind, .slice A ns.length c] h (.agg (outM to kind ns).enc.toArray) := by
 refine zaL.ofD (fun h' hs => ?_)
 have hrd := hr.mono hs
 have hmin : Nat.min ns.length 6 = ns.length := Nat.min_eq_left hl
 have hlay := zpe to kind hl
 refine zan Tryz.func40 rfl rfl Tryz.results40 Tryz.ntmps40 rfl rfl ?_
 repeat' (first | apply zae | apply zaa | apply zaj | apply zad | apply zab hT; iterate 4 exact rfl | (apply zaI hT; (iterate 5 exact rfl); first | (fail_if_success (have q := g6)); intro g6 | (fail_if_success (have q := g7)); intro g7) | (apply zaO hT (cs := (zaw kind []).enc); iterate 4 exact rfl) | (apply zaO hT (cs := (outM to kind []).enc); iterate 4 exact rfl) | (apply zaF hT; (iterate 6 exact rfl); (repeat (first | exact sel0 | apply selS )); (iterate 3 exact rfl); exact nle rfl) | (apply zjO hT; (iterate 7 exact rfl); exact nle rfl) | (apply zcb (vs := ns.map (Value.int .i64)) (cur := (outM to kind []).enc) hT; (iterate 10 exact rfl); (repeat (first | exact sel0 )); exact rfl; (rw [hmin]; exact hrd.mono (by (intro c hc; (repeat (first | exact hc | apply mcm ))))); (rw [List.length_map]; show 0 + 1 + 1 + 0 + ns.length ≤ 8; omega); (show ES _ _ _ _ _ _ _ (.blk g7 _ (lay _ 2 _) :: _) _); rw [hlay]) | (apply zal; (iterate 5 exact rfl); first | (apply zaQ hT; exact rfl; exact rfl; (repeat (first | exact mcs )); exact rfl)))
 all_goals first
  | (apply zg5; exact rfl; (apply zaQ hT; exact rfl; exact rfl; (repeat (first | exact mcs)); exact rfl); exact ⟨rfl, by (repeat (first | exact zar | apply zat))⟩)
  | skip
def zap (g : Nat) (who id : Int) (o : Sp) (outs : List OutR) (F : List zax) : List zax :=
 .blk g 99 [.int .i64 who, .int .i64 id, o.sl outs.length] :: o.own outs.length 45 8 (outs.flatMap OutR.enc) :: F
theorem zbZ (W : World) (h : List zax) (g : Nat) (who id : Int) (o : Sp) (outs : List OutR) (F : List zax) (A : Option Addr) (c : Nat) (to kind : Int) (ns : List Int) (hp : h.Perm (zap g who id o outs F))
 (hm : zax.own A ns.length c 2 1 (ns.map (Value.int .i64)) ∈ F) (hl : ns.length ≤ 6) (hb : outs.length ≤ 1000000) :
 zaB Tryz.prog W 45 [ptrV g, .int .i64 to, .int .i64 kind, .slice A ns.length c] h (fun v h' => v = .tuple #[] ∧ ∃ o', h' = zap g who id o' (outs ++ [outM to kind ns]) F) := by
 refine zaB.perm ?_ hp
 refine zaB.dropTo ?_
 have hO := fun h' (hr : zaJ W h' A ns.length 1 (ns.map (Value.int .i64))) => zkn W h' A c to kind ns hr hl
 have hR : zaJ W F A ns.length 1 (ns.map (Value.int .i64)) := zaJ.ints hm rfl
 generalize outM to kind ns = x at *
 unfold zap
 refine zan Tryz.func45 rfl rfl Tryz.results45 Tryz.ntmps45 rfl rfl ?_
 repeat' (first | apply zad | apply zab hT; iterate 4 exact rfl | apply zaM [40] [] hmix; decide +kernel | (apply zac (hs := (hO _ (hR.mono (by (intro c hc; (repeat (first | exact hc | apply mcm ))))))); iterate 7 exact rfl) | apply zao (cs := x.enc) hT; (iterate 12 exact rfl); intro g17 | (apply zbg hT; (iterate 10 exact rfl); (repeat (first | exact sel0 | apply selS )); exact zaJ.own mem0 rfl (OutR.enc_one x); omega; (show (_ : Nat) * 64 ≤ _; omega); intro A' c') | (apply zaF hT; (iterate 6 exact rfl); (repeat (first | exact sel0 | apply selS )); (iterate 3 exact rfl); exact nle rfl) | (apply zal; (iterate 5 exact rfl); first | (apply zaC hT; exact rfl; exact rfl; (repeat (first | exact mcs )); exact rfl; exact rfl) ))
 all_goals first
  | (apply zkB; exact ⟨_, (show zbk _ (zap g who id ⟨A', c'⟩ (outs ++ [x]) F) by (unfold zap Sp.sl Sp.own; rw [List.length_append, List.flatMap_append]; (repeat (first | exact zar | (apply zay; · (repeat (first | exact sel0 ))) | apply zat)))), rfl, ⟨A', c'⟩, rfl⟩)
  | skip
theorem zfg (W : World) (n : Int) : zaL Tryz.prog W 103 [.int .i64 n] [] (.bool (zeM n)) := by
 refine zaL.ofD (fun h' hs => ?_)
 refine zan Tryz.func103 rfl rfl Tryz.results103 Tryz.ntmps103 rfl rfl ?_
 repeat' (first | apply zae | apply zaa | apply zaj | apply zad | apply zab hT; iterate 4 exact rfl | apply zaq; iterate 3 exact rfl | (apply zav; exact rfl; all_goals (intro hb; (fail_if_success (change true = true at hb)); (fail_if_success (change false = false at hb)); (try dsimp only at hb); (try simp only [hb]); (first | replace hb := odt hb | replace hb := odf hb ); (try omega))))
 all_goals first
  | (apply ret1; exact rfl; exact ⟨by (first | simp_all [zeM, inB]; done | simp [zeM, inB]; omega), by (repeat (first | exact zar))⟩)
  | skip
theorem zmM (W : World) (b : za3) (how p q : Int) (hb : zcT b = true) : zaL Tryz.prog W 142 [.agg b.enc.toArray, .int .i64 how, .int .i64 p, .int .i64 q] [] (.int .i64 (zlK b how p q)) := by
 refine zaL.ofD (fun h' hs => ?_)
 have hC := zhF W b p q hb
 have hQ := zif W b q hb
 unfold zlK
 generalize zc9 b p q = e1 at *
 generalize qtyE b q = e2 at *
 refine zan Tryz.func142 rfl rfl Tryz.results142 Tryz.ntmps142 rfl rfl ?_
 repeat' (first | apply zae | apply zaa | apply zaj | apply zah | apply zaf | apply zad | apply zab hT; iterate 4 exact rfl | apply zaK; (iterate 5 exact rfl); intro g4 | (apply zac (hs := (hC.mono (by simp))); iterate 7 exact rfl) | (apply zac (hs := (hQ.mono (by simp))); iterate 7 exact rfl) | (apply zal; (iterate 5 exact rfl); first | (apply zaC hT; exact rfl; exact rfl; (repeat (first | exact mcs )); exact rfl; exact rfl) | (apply zaQ hT; exact rfl; exact rfl; (repeat (first | exact mcs )); exact rfl)) | (apply zam; exact rfl; all_goals (intro hb; (try dsimp only at hb); (try simp only [hb]); (first | replace hb := zaD hb | replace hb := zaE hb | skip); (try omega))))
 all_goals first
  | (exfalso; omega)
  | (apply ret1; exact rfl; exact ⟨by (first | simp [*]; done), by (repeat (first | exact zar | apply zat))⟩)
  | skip
set_option maxHeartbeats 1000000 in
theorem zfh (W : World) (x : DAd) (s : Dk) (q : zaG) (hup : upA s.asks) (hb : s.asks.length ≤ 1000000) :
 zaL Tryz.prog W 47 [ptrV x.d, .agg q.enc.toArray] [.blk x.d 95 (zb0 x s), .blk x.a 131 [x.asks.sl s.asks.length], x.asks.own s.asks.length 68 10 (s.asks.flatMap AskR.enc)] (.bool (zep s q)) := by
 refine zaL.ofD (fun h' hs => ?_)
 have m0 := hs _ mem0
 have m1 := hs _ mem1
 have m2 := hs _ mem2
 have hG := (zgs W x.a x.asks.A x.asks.c s.asks q.ask hb hup).mono (h' := h') (zbx m1 m2)
 unfold zep
 rcases hg : getA q.ask s.asks with _ | a
 all_goals
  rw [hg] at hG
  refine zan Tryz.func47 rfl rfl Tryz.results47 Tryz.ntmps47 rfl rfl ?_
  repeat' (first | apply zae | apply zaa | apply zaj | apply zad | apply zab hT; iterate 4 exact rfl | apply zaq; iterate 3 exact rfl | apply zaM [51] [] hmix; decide +kernel | apply zaK; (iterate 5 exact rfl); intro g3 | (apply zaI hT; (iterate 5 exact rfl); first | (fail_if_success (have q := g5)); intro g5) | (apply zac (hs := (hG.mono (by (intro c hc; (repeat (first | exact hc | apply mcm )))))); iterate 7 exact rfl) | (apply zaF hT; (iterate 6 exact rfl); (repeat (first | exact sel0 )); (iterate 3 exact rfl); exact nle rfl) | (apply zal; (iterate 5 exact rfl); first | (apply zaC hT; exact rfl; exact rfl; (repeat (first | exact mcs | exact m0 | apply mcm )); exact rfl; exact rfl) ) | (apply zav; exact rfl; all_goals (intro hb; (fail_if_success (change true = true at hb)); (fail_if_success (change false = false at hb)); (try dsimp only at hb); (try simp only [hb]); (first | replace hb := odt hb | replace hb := odf hb ); (try omega))))
  all_goals first
   | (exfalso; omega)
   | (apply ret1; exact rfl; exact ⟨by (first | rfl), by (repeat (first | exact zar | apply zat))⟩)
   | skip
theorem zq0 {xs : Array Value} {e f : Int} (h : e = f) : Value.tuple #[.agg xs, .int .i64 e] = .tuple #[.agg xs, .int .i64 f] := by rw [h]
def zmN (s : Dk) (who id : Int) : Value := match getA id s.asks with
 | none => .tuple #[.agg zpF.enc.toArray, .int .i64 4]
 | some a => .tuple #[.agg a.enc.toArray, .int .i64 (zc3 s who id)]
set_option maxHeartbeats 1000000 in
theorem zgO (W : World) (x : DAd) (s : Dk) (g : Nat) (who id0 id : Int) (sl : Value) (hup : upA s.asks) (hb : s.asks.length ≤ 1000000) :
 zaL Tryz.prog W 107 [ptrV x.d, ptrV g, .int .i64 id] [.blk x.d 95 (zb0 x s), .blk x.a 131 [x.asks.sl s.asks.length], x.asks.own s.asks.length 68 10 (s.asks.flatMap AskR.enc), .blk g 99 [.int .i64 who, .int .i64 id0, sl]] (zmN s who id) := by
 refine zaL.ofD (fun h' hs => ?_)
 have m0 := hs _ mem0
 have m1 := hs _ mem1
 have m2 := hs _ mem2
 have m3 := hs _ mem3
 have hG := (zgs W x.a x.asks.A x.asks.c s.asks id hb hup).mono (h' := h') (zbx m1 m2)
 unfold zmN zc3
 rcases hg : getA id s.asks with _ | a
 all_goals
  rw [hg] at hG
  try unfold gotA at hG
  dsimp only at *
  refine zan Tryz.func107 rfl rfl Tryz.results107 Tryz.ntmps107 rfl rfl ?_
  repeat' (first | apply zae | apply zaa | apply zaj | apply zah | apply zaf | apply zad | apply zab hT; iterate 4 exact rfl | apply zaM [] [] hmix; decide +kernel | (apply zaI hT; (iterate 5 exact rfl); first | (fail_if_success (have q := g6)); intro g6 | (fail_if_success (have q := g8)); intro g8) | (apply zac (hs := (hG.mono (by (intro c hc; (repeat (first | exact hc | apply mcm )))))); iterate 7 exact rfl) | (apply zaF hT; (iterate 6 exact rfl); (repeat (first | exact sel0 | apply selS )); (iterate 3 exact rfl); exact nle rfl) | (apply zal; (iterate 5 exact rfl); first | (apply zaC hT; exact rfl; exact rfl; (repeat (first | exact mcs | exact m0 | exact m3 | apply mcm )); exact rfl; exact rfl) | (apply zaQ hT; exact rfl; exact rfl; (repeat (first | exact mcs )); exact rfl)) | (apply zak; iterate 2 exact rfl) | (apply zag; iterate 2 exact rfl) | (apply zam; exact rfl; all_goals (intro hb; (try dsimp only at hb); (try simp only [hb]); (first | replace hb := zaD hb | replace hb := zaE hb ); (try omega))))
  all_goals first
   | (exfalso; omega)
   | (apply zew; exact rfl; (apply zaQ hT; exact rfl; exact rfl; (repeat (first | exact mcs)); exact rfl); exact rfl; exact ⟨zq0 (by first | rfl | simp [*]; done), by (repeat (first | exact zar | apply zat))⟩)
   | skip
set_option maxHeartbeats 1000000 in
theorem ziZ (W : World) (x : DAd) (s : Dk) (bks : List BAd) (a : AskR) (q : zaG) (bd : BAd) (hl : bks.length = s.books.length) (h4 : bks.length ≤ 1000000) (h0 : 0 ≤ a.bond) (hbd : bks[a.bond.toNat]? = some bd) (hbn : s.bonds[a.bond.toNat]? = some (zbz s a.bond)) (hbk : zbA s a.bond.toNat = bd.l) (hB : zbh bd.l) (hp : q.price ≤ 9223372036854775807) (hq : a.qty ≤ 9223372036854775807) :
 zaL Tryz.prog W 111 [ptrV x.d, .agg a.enc.toArray, .agg q.enc.toArray] [.blk x.d 95 (zb0 x s), x.bonds.own s.bonds.length 79 7 (s.bonds.flatMap za3.enc), x.books.own s.books.length 48 1 (bks.map BAd.ptr), .blk bd.p 106 [bd.s.sl bd.l.length], bd.s.own bd.l.length 52 6 (bd.l.flatMap zaA.enc)] (.int .i64 (zcA s a q)) := by
 refine zaL.ofD (fun h' hs => ?_)
 have m0 := hs _ mem0
 have m1 := hs _ mem1
 have m2 := hs _ mem2
 have m3 := hs _ mem3
 have m4 := hs _ mem4
 have hil := (List.getElem?_eq_some_iff.1 hbd).1
 have hbl := (List.getElem?_eq_some_iff.1 hbn).1
 have hC := (zkH W bd.p bd.s.A bd.s.c bd.l a.side q.price a.qty hB hp hq).mono (h' := h') (zbx m3 m4)
 have hrd : zaJ W h' x.books.A s.books.length 1 (bks.map BAd.ptr) := zaJ.own m2 (by simp [hl]) (fun v hv => by
  obtain ⟨y, _, rfl⟩ := List.mem_map.1 hv
  rfl)
 have hrb : zaJ W h' x.bonds.A s.bonds.length 7 (s.bonds.flatMap za3.enc) := zaJ.enc za3.enc_len za3.enc_one m1 rfl
 have hix : (bks.map BAd.ptr)[a.bond.toNat * 1]? = some (ptrV bd.p) := by simp [hbd]; rfl
 unfold zcA
 rw [hbk]
 generalize zeC a.side q.price a.qty bd.l = e at *
 generalize zbz s a.bond = b at *
 refine zan Tryz.func111 rfl rfl Tryz.results111 Tryz.ntmps111 rfl rfl ?_
 refine zaU hrd rfl (fun hA => ?_)
 refine zaU hrb rfl (fun hA2 => ?_)
 have hA' := hA (by omega)
 have hA2' := hA2 (by omega)
 repeat' (first | apply zae | apply zaa | apply zaj | apply zah | apply zad | apply zab hT; iterate 4 exact rfl | apply zaM [] [] hmix; decide +kernel | (apply zaK; (iterate 5 exact rfl); first | (fail_if_success (have q := g4)); intro g4 | intro g5) | (apply zaS hT; (iterate 8 exact rfl); (iterate 2 omega); first | exact hA' | exact hA2') | (apply zal; (iterate 5 exact rfl); first | exact zbl hT rfl rfl (hrd.mono (by (intro c hc; (repeat (first | exact hc | apply mcm ))))) rfl hix | exact zbb hT rfl rfl (hrb.mono (by (intro c hc; (repeat (first | exact hc | apply mcm ))))) za3.enc_len (zaW _ _ _) hbn (by decide) rfl) | (apply zac (hs := (hC.mono (by (intro c hc; (repeat (first | exact hc | apply mcm )))))); iterate 7 exact rfl) | (apply zal; (iterate 5 exact rfl); first | (apply zaC hT; exact rfl; exact rfl; (repeat (first | exact mcs | exact m0 | apply mcm )); exact rfl; exact rfl) ) | (apply zam; exact rfl; all_goals (intro hb; (try dsimp only at hb); (try simp only [hb]); (first | skip); (try omega))))
 all_goals first
  | (exfalso; omega)
  | (apply ret1; exact rfl; exact ⟨by (first | rfl), by (repeat (first | exact zar | apply zat))⟩)
  | skip
def DAd.at (y : DAd) (d : Nat) : DAd := { y with d := d }
set_option maxHeartbeats 2000000 in
theorem zhG (W : World) (F : List zax) (x : DAd) (s : Dk) (bks : List BAd) (rows : List PRow) (id : Int) (hq : s.quotes.length ≤ 1000000) (hd : s.due.length ≤ 1000000) :
 zaB Tryz.prog W 83 [ptrV x.d, .int .i64 id] (zai x s bks rows F) (fun v h' => v = .tuple #[] ∧ ∃ y : DAd, h' = zai (y.at x.d) (zd9 s id) bks rows F) := by
 refine zaB.dropTo ?_
 have hC := fun G => zml W G x.q x.quotes.A x.quotes.c s.quotes id hq
 unfold zd9
 generalize hfl : s.quotes.filter (zdw id) = ids at *
 generalize (s.quotes.filter fun q => !zdw id q) = qs at *
 have hids : ids.length ≤ 1000000 := by rw [← hfl]; exact Nat.le_trans (List.length_filter_le _ _) hq
 unfold zai
 refine zan Tryz.func83 rfl rfl Tryz.results83 Tryz.ntmps83 rfl rfl ?_
 repeat' (first | apply zae | apply zaa | apply zaf | apply zad | apply zab hT; iterate 4 exact rfl | (apply zaz (hs := (zaB.perm (hC _) (by (repeat (first | exact List.Perm.refl _ | (apply zaX; · (repeat (first | exact sel0 | apply selS ))) ))))); (iterate 7 exact rfl); rintro _ _ ⟨A1, c1, rfl, rfl, hf1⟩) | (apply zal; (iterate 5 exact rfl); first | (apply zaC hT; exact rfl; exact rfl; (repeat (first | exact mcs )); exact rfl; exact rfl) ))
 refine zbj (α := Nat × Sp) (E := fun z => [(0, ptrV x.d), (1, .int .i64 id), (11, .slice A1 ids.length c1), (12, .int .i64 ids.length), (13, .int .i64 z.1)])
  (H := fun z => .own A1 ids.length c1 2 1 (ids.flatMap idC) :: zai { x with due := z.2 } { s with quotes := qs, due := (ids.take z.1).foldl (fun l q => zbn l 3 q.id) s.due } bks rows F) (μ := fun z => ids.length - z.1)
  (S := fun z => z.1 ≤ ids.length) (0, x.due) (Nat.zero_le _) ⟨rfl, rfl, rfl, rfl, rfl, trivial⟩ ?_ ?_
 ·unfold zai
  (repeat (first | exact zar | (apply zay; · (repeat (first | exact sel0 | apply selS )))))
 ·rintro ⟨k, u⟩ hk
  dsimp only at hk ⊢
  have hdl : ((ids.take k).foldl (fun l q => zbn l 3 q.id) s.due).length ≤ 1000000 := Nat.le_trans (zgG _ _) hd
  unfold zai
  by_cases hlt : k < ids.length
  ·obtain ⟨q, hq1⟩ : ∃ q, ids[k]? = some q := ⟨ids[k]'hlt, List.getElem?_eq_getElem hlt⟩
   have hd1 : decide ((k : Int) < (ids.length : Int)) = true := by simp; omega
   have hst : (ids.take (k + 1)).foldl (fun l q => zbn l 3 q.id) s.due = zbn ((ids.take k).foldl (fun l q => zbn l 3 q.id) s.due) 3 q.id := by
    rw [List.take_add_one, hq1, List.foldl_append]; rfl
   have hD := fun G => zfc W G x.u u.A u.c ((ids.take k).foldl (fun l q => zbn l 3 q.id) s.due) 3 q.id hdl
   rw [← hst] at hD
   generalize (ids.take k).foldl (fun l q => zbn l 3 q.id) s.due = l1 at *
   generalize hl2 : (ids.take (k + 1)).foldl (fun l q => zbn l 3 q.id) s.due = l2 at *
   have hrd : zaJ W (.own A1 ids.length c1 2 1 (ids.flatMap idC) :: []) A1 ids.length 1 (ids.flatMap idC) := hf1.reads mem0
   have hix : (ids.flatMap idC)[(k : Int).toNat * 1]? = some (.int .i64 q.id) := by
    rw [Int.toNat_natCast]
    exact zf9 (enc := idC) (k := 1) (fun _ => rfl) ids k 0 q hq1 (by decide)
   refine zaU (hf1.reads mem0) rfl (fun hAi => ?_)
   have hA := hAi (by omega)
   repeat' (first | apply zae | apply zaa | apply zah | apply zaf | apply zad | apply zab hT; iterate 4 exact rfl | (apply zaN hT; (iterate 4 exact rfl); (iterate 2 (first | omega ))) | apply zaS hT; (iterate 8 exact rfl); (iterate 2 omega); exact hA | (apply zal; (iterate 5 exact rfl); exact zbl hT rfl rfl (hrd.mono (by intro c hc; rw [List.mem_singleton.1 hc]; (repeat (first | exact mcs )))) rfl hix) | (apply zaz (hs := (zaB.perm (hD _) (by (repeat (first | exact List.Perm.refl _ | (apply zaX; · (repeat (first | exact sel0 | apply selS ))) ))))); (iterate 7 exact rfl); rintro _ _ ⟨rfl, A3, c3, rfl⟩) | (apply zal; (iterate 5 exact rfl); first | (apply zaC hT; exact rfl; exact rfl; (repeat (first | exact mcs | apply mcm )); exact rfl; exact rfl) ) | (apply zam; exact rfl; all_goals (intro hb; (try dsimp only at hb); (try simp only [hb]); (first | replace hb := odt hb | replace hb := odf hb ); (try omega))))
   all_goals first
    | (exfalso; omega)
    | exact zaR (k + 1, ⟨A3, c3⟩) (by (try dsimp only); omega) (by (try dsimp only); omega) ⟨rfl, rfl, rfl, rfl, rfl, trivial⟩ (by dsimp only; rw [hl2]; (repeat (first | exact zar | (apply zay; · (repeat (first | exact sel0 | apply selS ))))))
    | skip
  ·obtain rfl : k = ids.length := by omega
   have hd1 : decide ((ids.length : Int) < (ids.length : Int)) = false := by simp
   rw [List.take_length] at *
   generalize ids.foldl (fun l q => zbn l 3 q.id) s.due = l1 at *
   have hD1 := fun G => zfc W G x.u u.A u.c l1 1 id hdl
   have hD2 := fun G A c => zfc W G x.u A c (zbn l1 1 id) 2 id (Nat.le_trans (zcD _ _ _) hdl)
   repeat' (first | apply zae | apply zaa | apply zas | apply zad | apply zab hT; iterate 4 exact rfl | (apply zaz (hs := (zaB.perm (hD1 _) (by (repeat (first | exact List.Perm.refl _ | (apply zaX; · (repeat (first | exact sel0 | apply selS | apply zbO))) ))))); (iterate 7 exact rfl); rintro _ _ ⟨rfl, A3, c3, rfl⟩) | (apply zaz (hs := (zaB.perm (hD2 _ A3 c3) (by (repeat (first | exact List.Perm.refl _ ))))); (iterate 7 exact rfl); rintro _ _ ⟨rfl, A4, c4, rfl⟩) | (apply zal; (iterate 5 exact rfl); first | (apply zaC hT; exact rfl; exact rfl; (repeat (first | exact mcs | apply mcm )); exact rfl; exact rfl) ) | (apply zam; exact rfl; all_goals (intro hb; (try dsimp only at hb); (try simp only [hb]); (first | replace hb := odt hb | replace hb := odf hb ); (try omega))))
   all_goals first
    | (exfalso; omega)
    | (apply zkB; exact ⟨_, (show zbk _ (zai ({ x with due := ⟨A4, c4⟩ } : DAd) { s with quotes := qs, due := zbn (zbn l1 1 id) 2 id } bks rows F) by unfold zai; (repeat (first | exact zar | (apply zay; · (repeat (first | exact sel0 | apply selS ))) | apply zat))), rfl, { x with due := ⟨A4, c4⟩ }, rfl⟩)
    | skip
def za7 (x : DAd) (g : Nat) (who : Int) (outs : List OutR) (F : List zax) (r : Rs) (v : Value) (h' : List zax) : Prop :=
 v = .int .i64 r.err ∧ ∃ (y : DAd) (o : Sp) (bks : List BAd) (rows : List PRow) (id : Int) (os : List OutR),
  h' = zap g who id o os (zai (y.at x.d) r.d bks rows F) ∧ za6 r.d bks rows ∧ (r.err = 0 → id = r.id ∧ os = outs ++ r.outs)
theorem za7.bad' {x : DAd} {g : Nat} {who : Int} {outs : List OutR} {F : List zax} {s : Dk} {bks : List BAd} {rows : List PRow} {id : Int} {o : Sp} {os : List OutR} {e : Int} (he : e ≠ 0) (hf : za6 s bks rows) :
 za7 x g who outs F (bad s e) (.int .i64 e) (zap g who id o os (zai x s bks rows F)) := ⟨rfl, x, o, bks, rows, id, os, rfl, hf, fun h => absurd h he⟩
theorem za7.ok' {x y : DAd} {g : Nat} {who : Int} {outs : List OutR} {F : List zax} {s : Dk} {bks : List BAd} {rows : List PRow} {id : Int} {o : Sp} {os : List OutR} (hf : za6 s bks rows) :
 za7 x g who outs F ⟨s, id, os, 0⟩ (.int .i64 0) (zap g who id o (outs ++ os) (zai (y.at x.d) s bks rows F)) := ⟨rfl, y, o, bks, rows, id, _, rfl, hf, fun _ => ⟨rfl, rfl⟩⟩
set_option maxHeartbeats 2000000 in
theorem zgP (W : World) (F : List zax) (x : DAd) (s : Dk) (bks : List BAd) (rows : List PRow) (g : Nat) (who id : Int) (o : Sp) (outs : List OutR) (a : AskR) (hup : upA s.asks) (ha : s.asks.length ≤ 1000000) (hq : s.quotes.length ≤ 1000000) (hd : s.due.length ≤ 1000000) (hbo : outs.length ≤ 1000000) :
 zaB Tryz.prog W 53 [ptrV x.d, ptrV g, .agg a.enc.toArray] (zap g who id o outs (zai x s bks rows F)) (fun v h' => v = .tuple #[] ∧ ∃ (y : DAd) (o' : Sp), h' = zap g who id o' (outs ++ zh7 a) (zai (y.at x.d) (zfC s a) bks rows F)) := by
 refine zaB.dropTo ?_
 have hE := fun G => zmb W G x.a x.asks.A x.asks.c s.asks a.id 4 ha hup
 have hlen : (endA a.id 4 s.asks).length = s.asks.length := (zfE hup).2
 have hC := fun G => zhG W G x { s with asks := endA a.id 4 s.asks } bks rows a.id hq hd
 unfold zfC zh7
 unfold zai
 unfold zap
 refine zan Tryz.func53 rfl rfl Tryz.results53 Tryz.ntmps53 rfl rfl ?_
 repeat' (first | apply zae | apply zaa | apply zad | apply zab hT; iterate 4 exact rfl | apply zaM [] [] hmix; decide +kernel | apply zaK; (iterate 5 exact rfl); intro g5 | (apply zaz (hs := (zaB.perm (hE _) (by (repeat (first | exact List.Perm.refl _ | (apply zaX; · (repeat (first | exact sel0 | apply selS | apply zbO))) ))))); (iterate 7 exact rfl); rintro _ _ ⟨rfl, rfl⟩) | (apply zaz (hs := (zaB.perm (hC _) (by (repeat (first | exact List.Perm.refl _ | (apply zaX; · (repeat (first | exact sel0 | apply selS | apply zbO))) | (apply za0; · (repeat (first | exact zaP | apply zaT )))))))); (iterate 7 exact rfl); rintro _ _ ⟨rfl, y, rfl⟩) | apply zao (cs := [.int .i64 a.id]) hT; (iterate 12 exact rfl); intro g22 | (apply zaz (hs := (zbZ W _ g who id o outs _ (some ⟨g22, 0, none⟩) 1 a.client 27 [a.id] (by (repeat (first | exact List.Perm.refl _ | (apply zaX; · (repeat (first | exact sel0 | apply selS | apply zbO))) ))) (by (repeat (first | exact mcs ))) (Nat.le_of_ble_eq_true rfl) hbo)); (iterate 7 exact rfl); rintro _ _ ⟨rfl, o2, rfl⟩) | (apply zal; (iterate 5 exact rfl); first | (apply zaC hT; exact rfl; exact rfl; (repeat (first | exact mcs | apply mcm | apply mar)); exact rfl; exact rfl) ))
 all_goals first
  | (apply zkB; exact ⟨zap g who id o2 (outs ++ [outM a.client 27 [a.id]]) (zai (y.at x.d) (zd9 { s with asks := endA a.id 4 s.asks } a.id) bks rows F), by (unfold zap zai; (repeat (first | exact zar | (apply zay; · (repeat (first | exact sel0 | apply selS ))) | apply zat | apply zdN))), rfl, y, o2, rfl⟩)
  | skip
set_option maxHeartbeats 2000000 in
theorem zfi (W : World) (F : List zax) (x : DAd) (s : Dk) (bks : List BAd) (rows : List PRow) (g : Nat) (who id : Int) (o : Sp) (outs : List OutR) (a : AskR) (hup : upA s.asks) (hupq : upQ s.quotes) (ha : s.asks.length ≤ 1000000) (hq : s.quotes.length ≤ 1000000) (hd : s.due.length ≤ 1000000) (hbo : outs.length ≤ 1000000) :
 zaB Tryz.prog W 52 [ptrV x.d, ptrV g, .agg a.enc.toArray] (zap g who id o outs (zai x s bks rows F)) (fun v h' => v = .tuple #[] ∧ ∃ (y : DAd) (o' : Sp), h' = zap g who id o' (outs ++ (zbe false s a).2) (zai (y.at x.d) (zbe false s a).1 bks rows F)) := by
 refine zaB.dropTo ?_
 have hK := fun G => zfX W G x.q x.quotes.A x.quotes.c s.quotes a.hit hq hupq
 have hkl : (zcm a.hit s.quotes).length ≤ 1000000 := by rw [zgF]; exact hq
 by_cases hn : s.now ≥ a.ends
 ·have e : zbe false s a = (zfC { s with quotes := zcm a.hit s.quotes } a, zh7 a) := by
   unfold zbe; dsimp only; rw [if_pos hn]; rfl
  rw [e]
  have hD := fun G => zgP W G x { s with quotes := zcm a.hit s.quotes } bks rows g who id o outs a hup ha hkl hd hbo
  unfold zai
  unfold zap
  refine zan Tryz.func52 rfl rfl Tryz.results52 Tryz.ntmps52 rfl rfl ?_
  repeat' (first | apply zae | apply zaa | apply zaj | apply zad | apply zab hT; iterate 4 exact rfl | apply zaM [] [] hmix; decide +kernel | apply zaK; (iterate 5 exact rfl); intro g5 | (apply zaz (hs := (zaB.perm (hK _) (by (repeat (first | exact List.Perm.refl _ | (apply zaX; · (repeat (first | exact sel0 | apply selS | apply zbO))) ))))); (iterate 7 exact rfl); rintro _ _ ⟨rfl, rfl⟩) | (apply zaz (hs := (zaB.perm (hD _) (by (repeat (first | exact List.Perm.refl _ | (apply zaX; · (repeat (first | exact sel0 | apply selS ))) | (apply za0; · (repeat (first | exact zaP | apply zaT )))))))); (iterate 7 exact rfl); rintro _ _ ⟨rfl, y, o2, rfl⟩) | (apply zal; (iterate 5 exact rfl); first | (apply zaC hT; exact rfl; exact rfl; (repeat (first | exact mcs | apply mcm )); exact rfl; exact rfl) | (apply zaQ hT; exact rfl; exact rfl; (repeat (first | exact mcs | apply mcm )); exact rfl)) | (apply zam; exact rfl; all_goals (intro hb; (try dsimp only at hb); (try simp only [hb]); (first | replace hb := odt hb | replace hb := odf hb ); (try omega))))
  all_goals first
   | (exfalso; omega)
   | (apply ret0; exact ⟨zap g who id o2 (outs ++ zh7 a) (zai (y.at x.d) (zfC { s with quotes := zcm a.hit s.quotes } a) bks rows F), by (unfold zap zai; (repeat (first | exact zar | (apply zay; · (repeat (first | exact sel0 ))) | apply zat | apply zdN))), rfl, y, o2, rfl⟩)
   | skip
 ·have e : zbe false s a = ({ s with quotes := zcm a.hit s.quotes, asks := zey a.id s.asks }, [outM a.client 25 [a.id, a.hit]]) := by
   unfold zbe; dsimp only; rw [if_neg hn]; rfl
  rw [e]
  have hB := fun G => znH W G x.a x.asks.A x.asks.c s.asks a.id ha hup
  unfold zai
  unfold zap
  refine zan Tryz.func52 rfl rfl Tryz.results52 Tryz.ntmps52 rfl rfl ?_
  repeat' (first | apply zae | apply zaa | apply zah | apply zad | apply zab hT; iterate 4 exact rfl | apply zaM [] [] hmix; decide +kernel | apply zaK; (iterate 5 exact rfl); intro g5 | (apply zaz (hs := (zaB.perm (hK _) (by (repeat (first | exact List.Perm.refl _ | (apply zaX; · (repeat (first | exact sel0 | apply selS | apply zbO))) ))))); (iterate 7 exact rfl); rintro _ _ ⟨rfl, rfl⟩) | (apply zaz (hs := (zaB.perm (hB _) (by (repeat (first | exact List.Perm.refl _ | (apply zaX; · (repeat (first | exact sel0 | apply selS | apply zbO))) ))))); (iterate 7 exact rfl); rintro _ _ ⟨rfl, rfl⟩) | apply zao (cs := [.int .i64 a.id, .int .i64 a.hit]) hT; (iterate 12 exact rfl); intro g22 | (apply zaz (hs := (zbZ W _ g who id o outs _ (some ⟨g22, 0, none⟩) 2 a.client 25 [a.id, a.hit] (by (repeat (first | exact List.Perm.refl _ | (apply zaX; · (repeat (first | exact sel0 | apply selS ))) ))) (by (repeat (first | exact mcs ))) (Nat.le_of_ble_eq_true rfl) hbo)); (iterate 7 exact rfl); rintro _ _ ⟨rfl, o2, rfl⟩) | (apply zal; (iterate 5 exact rfl); first | (apply zaC hT; exact rfl; exact rfl; (repeat (first | exact mcs | apply mcm )); exact rfl; exact rfl) ) | (apply zam; exact rfl; all_goals (intro hb; (try dsimp only at hb); (try simp only [hb]); (first | replace hb := odt hb | replace hb := odf hb ); (try omega))))
  all_goals first
   | (exfalso; omega)
   | (apply zkB; exact ⟨zap g who id o2 (outs ++ [outM a.client 25 [a.id, a.hit]]) (zai x { s with quotes := zcm a.hit s.quotes, asks := zey a.id s.asks } bks rows F), by (unfold zap zai; (repeat (first | exact zar | (apply zay; · (repeat (first | exact sel0 | apply selS ))) | apply zat))), rfl, x, o2, rfl⟩)
   | skip
set_option maxHeartbeats 2000000 in
theorem zmO (W : World) (F : List zax) (x : DAd) (s : Dk) (bks : List BAd) (rows : List PRow) (g : Nat) (who id0 id : Int) (o : Sp) (outs : List OutR) (hf : za6 s bks rows) (hup : upA s.asks) (ha : s.asks.length ≤ 1000000) (hq : s.quotes.length ≤ 1000000) (hd : s.due.length ≤ 1000000) (hbo : outs.length ≤ 1000000) :
 zaB Tryz.prog W 65 [ptrV x.d, ptrV g, .int .i64 id] (zap g who id0 o outs (zai x s bks rows F)) (za7 x g who outs F (zb2 s who id)) := by
 refine zaB.dropTo ?_
 have hM := zgO W x s g who id0 id (o.sl outs.length) hup ha
 unfold zmN at hM
 rcases hg : getA id s.asks with _ | a
 ·have e : zb2 s who id = bad s 4 := by
   have : zc3 s who id = 4 := by unfold zc3; rw [hg]
   unfold zb2; rw [this]; rfl
  rw [hg] at hM
  rw [e]
  unfold zai
  unfold zap
  refine zan Tryz.func65 rfl rfl Tryz.results65 Tryz.ntmps65 rfl rfl ?_
  repeat' (first | apply zae | apply zaa | apply zaj | apply zah | apply zad | apply zab hT; iterate 4 exact rfl | (apply zac (hs := (hM.mono (zhd (by (repeat (first | exact mcs | apply mcm ))) (by (repeat (first | exact mcs | apply mcm ))) (by (repeat (first | exact mcs | apply mcm ))) (by (repeat (first | exact mcs )))))); iterate 7 exact rfl) | (apply zaI hT; (iterate 5 exact rfl); first | (fail_if_success (have q := g7)); intro g7) | (apply zaF hT; (iterate 6 exact rfl); (repeat (first | exact sel0 )); (iterate 3 exact rfl); exact nle rfl) | (apply zag; iterate 2 exact rfl))
  all_goals first
   | (exfalso; omega)
   | (apply ret1; exact rfl; exact ⟨zap g who id0 o outs (zai x s bks rows F), by (unfold zap zai; (repeat (first | exact zar | (apply zay; · (repeat (first | exact sel0 | apply selS ))) | apply zat))), za7.bad' (by decide) hf⟩)
   | skip
 ·rw [hg] at hM
  dsimp only at hM
  by_cases hm : zc3 s who id = 0
  ·have e : zb2 s who id = ⟨zfC s a, id, zh7 a, 0⟩ := by
    unfold zb2; rw [if_neg (by rw [hm]; decide), hg]
   rw [hm] at hM
   rw [e]
   have hD := fun G => zgP W G x s bks rows g who id o outs a hup ha hq hd hbo
   unfold zai
   unfold zap
   refine zan Tryz.func65 rfl rfl Tryz.results65 Tryz.ntmps65 rfl rfl ?_
   repeat' (first | apply zae | apply zaa | apply zaj | apply zad | apply zab hT; iterate 4 exact rfl | (apply zac (hs := (hM.mono (zhd (by (repeat (first | exact mcs | apply mcm ))) (by (repeat (first | exact mcs | apply mcm ))) (by (repeat (first | exact mcs | apply mcm ))) (by (repeat (first | exact mcs | apply mcm | apply mar)))))); iterate 7 exact rfl) | (apply zaI hT; (iterate 5 exact rfl); first | (fail_if_success (have q := g7)); intro g7) | (apply zaF hT; (iterate 6 exact rfl); (repeat (first | exact sel0 | apply selS )); (iterate 3 exact rfl); exact nle rfl) | (apply zaz (hs := (zaB.perm (hD _) (by (repeat (first | exact List.Perm.refl _ | (apply zaX; · (repeat (first | exact sel0 | apply selS ))) | (apply za0; · (repeat (first | exact zaP | apply zaT )))))))); (iterate 7 exact rfl); rintro _ _ ⟨rfl, y, o2, rfl⟩) | (apply zal; (iterate 5 exact rfl); first | (apply zaQ hT; exact rfl; exact rfl; (repeat (first | exact mcs | apply mcm )); exact rfl)) | (apply zak; iterate 2 exact rfl))
   all_goals first
    | (exfalso; omega)
    | (apply ret1; exact rfl; exact ⟨zap g who id o2 (outs ++ zh7 a) (zai (y.at x.d) (zfC s a) bks rows F), by (unfold zap zai; (repeat (first | exact zar | (apply zay; · (repeat (first | exact sel0 ))) | apply zat | apply zdN))), za7.ok' hf⟩)
    | skip
  ·have e : zb2 s who id = bad s (zc3 s who id) := by
    unfold zb2; rw [if_pos hm]
   rw [e]
   generalize zc3 s who id = er at *
   unfold zai
   unfold zap
   refine zan Tryz.func65 rfl rfl Tryz.results65 Tryz.ntmps65 rfl rfl ?_
   repeat' (first | apply zae | apply zaa | apply zaj | apply zah | apply zad | apply zab hT; iterate 4 exact rfl | (apply zac (hs := (hM.mono (zhd (by (repeat (first | exact mcs | apply mcm ))) (by (repeat (first | exact mcs | apply mcm ))) (by (repeat (first | exact mcs | apply mcm ))) (by (repeat (first | exact mcs )))))); iterate 7 exact rfl) | (apply zaI hT; (iterate 5 exact rfl); first | (fail_if_success (have q := g7)); intro g7) | (apply zaF hT; (iterate 6 exact rfl); (repeat (first | exact sel0 )); (iterate 3 exact rfl); exact nle rfl) | (apply zam; exact rfl; all_goals (intro hb; (try dsimp only at hb); (try simp only [hb]); (first | replace hb := odt hb | replace hb := odf hb ); (try omega))))
   all_goals first
    | (exfalso; omega)
    | (apply ret1; exact rfl; exact ⟨zap g who id0 o outs (zai x s bks rows F), by (unfold zap zai; (repeat (first | exact zar | (apply zay; · (repeat (first | exact sel0 | apply selS ))) | apply zat))), za7.bad' hm hf⟩)
    | skip
theorem zmP {id who : Int} {l : List zaG} {q : zaG} (hg : getQ id l = some q) (h : pullE id who l ≠ 0) : zex id who l = l := by
 unfold zex
 split
 ·unfold zcm
  rw [hg]
  dsimp only
  have hl : q.live = false := by
   unfold pullE at h
   rename_i h12
   unfold pullE at h12
   rw [hg] at h h12
   dsimp only at h h12
   cases hv : q.live with
   | false => rfl
   | true => rw [hv] at h h12; simp at h h12; omega
  have hi : l[bsN (cQ id) l]? = some q := by
   unfold getQ at hg
   split at hg
   ·exact hg
   ·cases hg
  refine zcx (l := l) (i := bsN (cQ id) l) (a := { q with live := false }) ?_
  rw [hi]
  congr 1
  cases q
  simp at hl
  simp [hl]
 ·rfl
set_option maxHeartbeats 2000000 in
theorem zmQ (W : World) (F : List zax) (x : DAd) (s : Dk) (bks : List BAd) (rows : List PRow) (g : Nat) (who id0 id : Int) (o : Sp) (outs : List OutR) (hf : za6 s bks rows) (hup : upA s.asks) (hupq : upQ s.quotes) (ha : s.asks.length ≤ 1000000) (hq : s.quotes.length ≤ 1000000) :
 zaB Tryz.prog W 101 [ptrV x.d, ptrV g, .int .i64 id] (zap g who id0 o outs (zai x s bks rows F)) (za7 x g who outs F (zdl false s who id)) := by
 refine zaB.dropTo ?_
 have hG := zh3 W x.q x.quotes.A x.quotes.c s.quotes id hq hupq
 rcases hg : getQ id s.quotes with _ | q
 ·have e : zdl false s who id = bad s 4 := by unfold zdl; rw [hg]
  rw [hg] at hG
  rw [e]
  unfold zai
  unfold zap
  refine zan Tryz.func101 rfl rfl Tryz.results101 Tryz.ntmps101 rfl rfl ?_
  repeat' (first | apply zae | apply zaa | apply zaj | apply zaf | apply zad | apply zab hT; iterate 4 exact rfl | (apply zac (hs := (hG.mono (zbx (by (repeat (first | exact mcs | apply mcm ))) (by (repeat (first | exact mcs | apply mcm )))))); iterate 7 exact rfl) | (apply zaI hT; (iterate 5 exact rfl); first | (fail_if_success (have q := g7)); intro g7) | (apply zaF hT; (iterate 6 exact rfl); (repeat (first | exact sel0 )); (iterate 3 exact rfl); exact nle rfl) | (apply zal; (iterate 5 exact rfl); first | (apply zaC hT; exact rfl; exact rfl; (repeat (first | exact mcs | apply mcm )); exact rfl; exact rfl) ) | (apply zak; iterate 2 exact rfl))
  all_goals first
   | (exfalso; omega)
   | (apply ret1; exact rfl; exact ⟨zap g who id0 o outs (zai x s bks rows F), by (unfold zap zai; (repeat (first | exact zar | (apply zay; · (repeat (first | exact sel0 | apply selS ))) | apply zat))), za7.bad' (by decide) hf⟩)
   | skip
 ·rw [hg] at hG
  have hL := zfh W x s q hup ha
  have hP := fun G => znD W G x.q x.quotes.A x.quotes.c s.quotes id who hq hupq
  by_cases h1 : q.dealer = who
  ·cases h2 : zep s q
   ·by_cases h3 : pullE id who s.quotes = 0
    ·have e : zdl false s who id = ⟨{ s with quotes := zex id who s.quotes }, id, [], 0⟩ := by
      unfold zdl; rw [hg]; dsimp only; rw [if_neg (by simp [h1]), if_neg (by simp [h2]), if_neg (by simp [h3])]; rfl
     rw [e]
     rw [h2] at hL
     rw [h3] at hP
     rw [← List.append_nil outs]
     generalize hqs : zex id who s.quotes = qs at *
     rw [List.append_nil]
     unfold zai
     unfold zap
     refine zan Tryz.func101 rfl rfl Tryz.results101 Tryz.ntmps101 rfl rfl ?_
     repeat' (first | apply zae | apply zaa | apply zaj | apply zah | apply zaf | apply zad | apply zab hT; iterate 4 exact rfl | apply zaM [] [] hmix; decide +kernel | (apply zac (hs := (hG.mono (zbx (by (repeat (first | exact mcs | apply mcm ))) (by (repeat (first | exact mcs | apply mcm )))))); iterate 7 exact rfl) | (apply zac (hs := (hL.mono (zd0 (by (repeat (first | exact mcs | apply mcm ))) (by (repeat (first | exact mcs | apply mcm ))) (by (repeat (first | exact mcs | apply mcm )))))); iterate 7 exact rfl) | (apply zaz (hs := (zaB.perm (hP _) (by (repeat (first | exact List.Perm.refl _ | (apply zaX; · (repeat (first | exact sel0 | apply selS ))) ))))); (iterate 7 exact rfl); rintro _ _ ⟨rfl, rfl⟩) | (apply zaI hT; (iterate 5 exact rfl); first | (fail_if_success (have q := g7)); intro g7) | (apply zaF hT; (iterate 6 exact rfl); (repeat (first | exact sel0 | apply selS )); (iterate 3 exact rfl); exact nle rfl) | (apply zal; (iterate 5 exact rfl); first | (apply zaC hT; exact rfl; exact rfl; (repeat (first | exact mcs | apply mcm )); exact rfl; exact rfl) | (apply zaQ hT; exact rfl; exact rfl; (repeat (first | exact mcs )); exact rfl)) | (apply zag; iterate 2 exact rfl) | (apply zam; exact rfl; all_goals (intro hb; (try dsimp only at hb); (try simp only [hb]); (first | replace hb := zaD hb | replace hb := zaE hb ); (try omega))))
     all_goals first
      | (exfalso; omega)
      | (apply ret1; exact rfl; exact ⟨zap g who id o (outs ++ []) (zai (x.at x.d) { s with quotes := qs } bks rows F), by (rw [List.append_nil]; unfold zap zai; (repeat (first | exact zar | (apply zay; · (repeat (first | exact sel0 | apply selS ))) | apply zat))), za7.ok' hf⟩)
      | skip
    ·have e : zdl false s who id = bad s (pullE id who s.quotes) := by
      unfold zdl; rw [hg]; dsimp only; rw [if_neg (by simp [h1]), if_neg (by simp [h2]), if_pos h3]
     rw [e]
     rw [h2] at hL
     have hsame := zmP hg h3
     rw [hsame] at hP
     generalize pullE id who s.quotes = er at *
     unfold zai
     unfold zap
     refine zan Tryz.func101 rfl rfl Tryz.results101 Tryz.ntmps101 rfl rfl ?_
     repeat' (first | apply zae | apply zaa | apply zaj | apply zah | apply zaf | apply zad | apply zab hT; iterate 4 exact rfl | apply zaM [] [] hmix; decide +kernel | (apply zac (hs := (hG.mono (zbx (by (repeat (first | exact mcs | apply mcm ))) (by (repeat (first | exact mcs | apply mcm )))))); iterate 7 exact rfl) | (apply zac (hs := (hL.mono (zd0 (by (repeat (first | exact mcs | apply mcm ))) (by (repeat (first | exact mcs | apply mcm ))) (by (repeat (first | exact mcs | apply mcm )))))); iterate 7 exact rfl) | (apply zaz (hs := (zaB.perm (hP _) (by (repeat (first | exact List.Perm.refl _ | (apply zaX; · (repeat (first | exact sel0 | apply selS ))) ))))); (iterate 7 exact rfl); rintro _ _ ⟨rfl, rfl⟩) | (apply zaI hT; (iterate 5 exact rfl); first | (fail_if_success (have q := g7)); intro g7) | (apply zaF hT; (iterate 6 exact rfl); (repeat (first | exact sel0 | apply selS )); (iterate 3 exact rfl); exact nle rfl) | (apply zal; (iterate 5 exact rfl); first | (apply zaC hT; exact rfl; exact rfl; (repeat (first | exact mcs | apply mcm )); exact rfl; exact rfl) | (apply zaQ hT; exact rfl; exact rfl; (repeat (first | exact mcs )); exact rfl)) | (apply zag; iterate 2 exact rfl) | (apply zam; exact rfl; all_goals (intro hb; (try dsimp only at hb); (try simp only [hb]); (first | replace hb := zaD hb | replace hb := zaE hb ); (try omega))))
     all_goals first
      | (exfalso; omega)
      | (apply ret1; exact rfl; exact ⟨zap g who id o outs (zai x s bks rows F), by (unfold zap zai; (repeat (first | exact zar | (apply zay; · (repeat (first | exact sel0 | apply selS ))) | apply zat))), za7.bad' h3 hf⟩)
      | skip
   ·have e : zdl false s who id = bad s 11 := by
     unfold zdl; rw [hg]; dsimp only; rw [if_neg (by simp [h1]), if_pos h2]
    rw [e]
    rw [h2] at hL
    unfold zai
    unfold zap
    refine zan Tryz.func101 rfl rfl Tryz.results101 Tryz.ntmps101 rfl rfl ?_
    repeat' (first | apply zae | apply zaa | apply zaj | apply zaf | apply zad | apply zab hT; iterate 4 exact rfl | apply zaM [] [] hmix; decide +kernel | (apply zac (hs := (hG.mono (zbx (by (repeat (first | exact mcs | apply mcm ))) (by (repeat (first | exact mcs | apply mcm )))))); iterate 7 exact rfl) | (apply zac (hs := (hL.mono (zd0 (by (repeat (first | exact mcs | apply mcm ))) (by (repeat (first | exact mcs | apply mcm ))) (by (repeat (first | exact mcs | apply mcm )))))); iterate 7 exact rfl) | (apply zaI hT; (iterate 5 exact rfl); first | (fail_if_success (have q := g7)); intro g7) | (apply zaF hT; (iterate 6 exact rfl); (repeat (first | exact sel0 )); (iterate 3 exact rfl); exact nle rfl) | (apply zal; (iterate 5 exact rfl); first | (apply zaC hT; exact rfl; exact rfl; (repeat (first | exact mcs | apply mcm )); exact rfl; exact rfl) | (apply zaQ hT; exact rfl; exact rfl; (repeat (first | exact mcs )); exact rfl)) | (apply zak; iterate 2 exact rfl) | (apply zag; iterate 2 exact rfl) | (apply zam; exact rfl; all_goals (intro hb; (try dsimp only at hb); (try simp only [hb]); (first | replace hb := zaD hb | replace hb := zaE hb ); (try omega))))
    all_goals first
     | (exfalso; omega)
     | (apply ret1; exact rfl; exact ⟨zap g who id0 o outs (zai x s bks rows F), by (unfold zap zai; (repeat (first | exact zar | (apply zay; · (repeat (first | exact sel0 | apply selS ))) | apply zat))), za7.bad' (by decide) hf⟩)
     | skip
  ·have e : zdl false s who id = bad s 5 := by
    unfold zdl; rw [hg]; dsimp only; rw [if_pos h1]
   rw [e]
   unfold zai
   unfold zap
   refine zan Tryz.func101 rfl rfl Tryz.results101 Tryz.ntmps101 rfl rfl ?_
   repeat' (first | apply zae | apply zaa | apply zaj | apply zaf | apply zad | apply zab hT; iterate 4 exact rfl | apply zaM [] [] hmix; decide +kernel | (apply zac (hs := (hG.mono (zbx (by (repeat (first | exact mcs | apply mcm ))) (by (repeat (first | exact mcs | apply mcm )))))); iterate 7 exact rfl) | (apply zaI hT; (iterate 5 exact rfl); first | (fail_if_success (have q := g7)); intro g7) | (apply zaF hT; (iterate 6 exact rfl); (repeat (first | exact sel0 )); (iterate 3 exact rfl); exact nle rfl) | (apply zal; (iterate 5 exact rfl); first | (apply zaC hT; exact rfl; exact rfl; (repeat (first | exact mcs | apply mcm )); exact rfl; exact rfl) ) | (apply zag; iterate 2 exact rfl) | (apply zam; exact rfl; all_goals (intro hb; (try dsimp only at hb); (try simp only [hb]); (first | replace hb := zaD hb | replace hb := zaE hb ); (try omega))))
   all_goals first
    | (exfalso; omega)
    | (apply ret1; exact rfl; exact ⟨zap g who id0 o outs (zai x s bks rows F), by (unfold zap zai; (repeat (first | exact zar | (apply zay; · (repeat (first | exact sel0 | apply selS ))) | apply zat))), za7.bad' (by decide) hf⟩)
    | skip
/-! ### places -/
theorem zod {s : Dk} {bks : List BAd} {rows : List PRow} (hf : za6 s bks rows) {n : Nat} (hn : n < s.books.length) : ∃ bd, bks[n]? = some bd ∧ zbA s n = bd.l ∧ s.books[n]? = some bd.l := by
 have hl : bks.length = s.books.length := by rw [← hf.1]; simp
 refine ⟨bks[n]'(by omega), List.getElem?_eq_getElem (by omega), ?_, ?_⟩
 ·unfold zbA
  rw [← hf.1]
  simp [List.getD, List.getElem?_eq_getElem (show n < bks.length by omega)]
 ·rw [← hf.1]
  simp [List.getElem?_eq_getElem (show n < bks.length by omega)]
theorem zfj {s : Dk} {bks : List BAd} {rows : List PRow} (hf : za6 s bks rows) : bks.length = s.books.length := by rw [← hf.1]; simp
theorem DOK.few {N : Nat} {s : Dk} (h : DOK N s) : s.books.length ≤ 4 ∧ s.bonds.length ≤ 4 ∧ s.parties.length ≤ 8 := by
 have := zcp h.rules
 have := h.nbk
 omega
theorem zee (W : World) (x : DAd) (s : Dk) (n : Int) : zaL Tryz.prog W 41 [ptrV x.d, .int .i64 n] [.blk x.d 95 (zb0 x s)] (.bool (zcz s n)) :=
 (zgJ W x s n).cast rfl
theorem zfk (W : World) (F : List zax) (x : DAd) (s : Dk) (bks : List BAd) (rows : List PRow) (N : Nat) (hD : DOK N s) (hf : za6 s bks rows) (a : AskR) (q : zaG) (haO : zhc s a) (hqp : q.price ≤ 1000000) :
 zaL Tryz.prog W 111 [ptrV x.d, .agg a.enc.toArray, .agg q.enc.toArray] (zai x s bks rows F) (.int .i64 (zcA s a q)) := by
 obtain ⟨_, ⟨b0, b1⟩, _, ⟨q0, q1⟩, _⟩ := haO
 have hn := hD.nbk
 have hl := zfj hf
 have h4 := hD.few
 obtain ⟨bd, h1, h2, h3⟩ := zod hf (n := a.bond.toNat) (by omega)
 obtain ⟨_, hbn, _⟩ := zdm (s := s) (n := a.bond) hn (by unfold zcz; simp; omega)
 have hbl : (bks.flatMap BAd.ck).length ≥ 0 := Nat.zero_le _
 have hm1 : ∀ c ∈ BAd.ck bd, c ∈ bks.flatMap BAd.ck := fun c hc => List.mem_flatMap.2 ⟨bd, List.mem_of_getElem? h1, hc⟩
 refine (ziZ W x s bks a q bd hl (by omega) b0 h1 hbn h2 (hD.bks _ (List.mem_of_getElem? h3)) (by omega) (by omega)).mono ?_
 intro c hc
 simp only [List.mem_cons, List.not_mem_nil, or_false] at hc
 rcases hc with rfl | rfl | rfl | rfl | rfl
 ·unfold zai; (repeat (first | exact mcs))
 ·unfold zai; (repeat (first | exact mcs | apply mcm))
 ·unfold zai; (repeat (first | exact mcs | apply mcm))
 ·unfold zai
  iterate 18 (apply mcm)
  exact List.mem_append_left _ (hm1 _ (by unfold BAd.ck; exact mem0))
 ·unfold zai
  iterate 18 (apply mcm)
  exact List.mem_append_left _ (hm1 _ (by unfold BAd.ck; exact mem1))
theorem zko {x i : Int} (h0 : 0 ≤ x) (h1 : x ≤ 18446744073709551615) (hi : 0 ≤ i ∧ i < 64) : bitI .and .u64 (Int.fdiv x (2 ^ (min i.toNat (IntKind.bits .u64)))) 1 = if zhV x i then 1 else 0 := by
 obtain ⟨n, rfl⟩ := Int.eq_ofNat_of_zero_le h0
 obtain ⟨k, rfl⟩ := Int.eq_ofNat_of_zero_le hi.1
 have hk : min ((k : Int).toNat) (IntKind.bits .u64) = k := by
  rw [Int.toNat_natCast]
  exact Nat.min_eq_left (by show k ≤ 64; omega)
 rw [hk]
 have hdiv : Int.fdiv (n : Int) (2 ^ k) = ((n / 2 ^ k : Nat) : Int) := by
  rw [show ((2 : Int) ^ k) = ((2 ^ k : Nat) : Int) by push_cast; rfl, Int.fdiv_eq_ediv_of_nonneg _ (Int.natCast_nonneg _)]
  exact (Int.natCast_ediv n (2 ^ k)).symm
 rw [hdiv]
 generalize hm : n / 2 ^ k = m
 have hmlt : m < 2 ^ 64 := by
  rw [← hm]
  exact Nat.lt_of_le_of_lt (Nat.div_le_self _ _) (by omega)
 have hbit : zhV (n : Int) (k : Int) = decide (m % 2 = 1) := by
  unfold zhV
  rw [Int.toNat_natCast, ← hm]
  have : ((n : Int) / 2 ^ k % 2) = ((n / 2 ^ k % 2 : Nat) : Int) := by push_cast; rfl
  rw [this]
  congr 1
  simp only [eq_iff_iff]
  omega
 rw [hbit]
 show IntKind.wrap .u64 ((BitVec.ofInt 64 (m : Int) &&& BitVec.ofInt 64 1).toNat : Int) = _
 have hv : (BitVec.ofInt 64 (m : Int) &&& BitVec.ofInt 64 1).toNat = m % 2 := by
  rw [BitVec.toNat_and]
  have e1 : (BitVec.ofInt 64 (m : Int)).toNat = m := by
   rw [BitVec.ofInt_natCast, BitVec.toNat_ofNat, Nat.mod_eq_of_lt hmlt]
  rw [e1]
  exact Nat.and_one_is_mod m
 rw [hv]
 have h2 : m % 2 = 0 ∨ m % 2 = 1 := by omega
 rcases h2 with h2 | h2 <;> rw [h2] <;> rfl
def MsgW (m : MsgR) : Prop := inW m.f0 ∧ inW m.f1 ∧ inW m.f2 ∧ inW m.f3 ∧ inW m.f4 ∧ inW m.f5
set_option maxHeartbeats 2000000 in
theorem zmR (W : World) (F : List zax) (x : DAd) (s : Dk) (bks : List BAd) (rows : List PRow) (N : Nat) (hD : DOK N s) (hf : za6 s bks rows) (g : Nat) (who id0 n is : Int) (o : Sp) (outs : List OutR) :
 zaB Tryz.prog W 67 [ptrV x.d, ptrV g, .int .i64 n, .int .i64 is] (zap g who id0 o outs (zai x s bks rows F)) (za7 x g who outs F (zeN s n is)) := by
 refine zaB.dropTo ?_
 have hI := zee W x s n
 cases hn : zcz s n
 ·have e : zeN s n is = bad s 4 := by unfold zeN; rw [if_pos hn]
  rw [hn] at hI
  rw [e]
  unfold zai
  unfold zap
  refine zan Tryz.func67 rfl rfl Tryz.results67 Tryz.ntmps67 rfl rfl ?_
  repeat' (first | apply zae | apply zaa | apply zaj | apply zaf | apply zad | apply zab hT; iterate 4 exact rfl | (apply zac (hs := (hI.mono (zdZ (by (repeat (first | exact mcs | apply mcm )))))); iterate 7 exact rfl) | apply zak; iterate 2 exact rfl)
  all_goals first
   | (exfalso; omega)
   | (apply ret1; exact rfl; exact ⟨zap g who id0 o outs (zai x s bks rows F), by (unfold zap zai; (repeat (first | exact zar))), za7.bad' (by decide) hf⟩)
   | skip
 ·rw [hn] at hI
  by_cases hi : is ≠ 0 ∧ is ≠ 1
  ·have e : zeN s n is = bad s 1 := by unfold zeN; rw [if_neg (by rw [hn]; decide), if_pos hi]
   rw [e]
   unfold zai
   unfold zap
   refine zan Tryz.func67 rfl rfl Tryz.results67 Tryz.ntmps67 rfl rfl ?_
   repeat' (first | apply zae | apply zaa | apply zaj | apply zaf | apply zad | apply zab hT; iterate 4 exact rfl | (apply zac (hs := (hI.mono (zdZ (by (repeat (first | exact mcs | apply mcm )))))); iterate 7 exact rfl) | apply zag; iterate 2 exact rfl | (apply zav; exact rfl; all_goals (intro hb; (fail_if_success (change true = true at hb)); (fail_if_success (change false = false at hb)); (try dsimp only at hb); (try simp only [hb]); (first | replace hb := zaD hb | replace hb := zaE hb ); (try omega))) | (apply zam; exact rfl; all_goals (intro hb; (try dsimp only at hb); (try simp only [hb]); (first | replace hb := zaD hb | replace hb := zaE hb ); (try omega))))
   all_goals first
    | (exfalso; omega)
    | (apply ret1; exact rfl; exact ⟨zap g who id0 o outs (zai x s bks rows F), by (unfold zap zai; (repeat (first | exact zar))), za7.bad' (by decide) hf⟩)
    | skip
  ·obtain ⟨⟨n0, n1⟩, hbn, _⟩ := zdm hD.nbk hn
   have hbl := (List.getElem?_eq_some_iff.1 hbn).1
   have e : zeN s n is = ⟨{ s with bonds := s.bonds.set n.toNat { zbz s n with halted := is == 1 } }, n, [], 0⟩ := by unfold zeN; rw [if_neg (by rw [hn]; decide), if_neg hi]
   rw [e]
   generalize zbz s n = b at *
   have hlay : ∀ v : Bool, lay (s.bonds.flatMap za3.enc) (n.toNat * 7 + 6) [.bool v] = (s.bonds.set n.toNat { b with halted := v }).flatMap za3.enc := fun v => zbS za3.enc_len hbn (Nat.le_of_ble_eq_true rfl) rfl
   have hrb : zaJ W (zap g who id0 o outs (zai x s bks rows F)) x.bonds.A s.bonds.length 7 (s.bonds.flatMap za3.enc) := zaJ.enc (c := x.bonds.c) za3.enc_len za3.enc_one (by unfold zap zai; (repeat (first | exact mcs | apply mcm))) rfl
   rw [← List.append_nil outs]
   generalize hbv : (is == 1) = bv
   generalize hbs : s.bonds.set n.toNat { b with halted := bv } = bs
   have hbsl : bs.length = s.bonds.length := by rw [← hbs]; simp
   have hlb := hlay bv
   rw [hbs] at hlb
   have hcs : zb0 (x.at x.d) { s with bonds := bs } = zb0 x s := by simp only [zb0, DAd.at, hbsl]
   rw [List.append_nil]
   refine zan Tryz.func67 rfl rfl Tryz.results67 Tryz.ntmps67 rfl rfl ?_
   refine zaU hrb rfl (fun hAi => ?_)
   have hA := hAi (by omega)
   unfold zai
   unfold zap
   have hcase : is = 0 ∨ is = 1 := by omega
   rcases hcase with rfl | rfl
   all_goals
    have hbv2 := hbv
    (first | rw [show ((0 : Int) == 1) = false from rfl] at hbv2 | rw [show ((1 : Int) == 1) = true from rfl] at hbv2)
    subst hbv2
    repeat' (first | apply zae | apply zaa | apply zaj | apply zah | apply zaf | apply zad | apply zab hT; iterate 4 exact rfl | apply zaq; iterate 3 exact rfl | (apply zac (hs := (hI.mono (zdZ (by (repeat (first | exact mcs | apply mcm )))))); iterate 7 exact rfl) | apply zaS hT; (iterate 8 exact rfl); (iterate 2 omega); exact hA | (apply zaF hT; (iterate 6 exact rfl); (repeat (first | exact sel0 | apply selS | apply zbO)); (iterate 3 exact rfl); exact nle rfl) | (apply zbs (A := x.bonds.A) hT; (iterate 6 exact rfl); (repeat (first | exact sel0 | apply selS )); exact zaW _ _ _; exact rfl; exact rfl; (show n.toNat * 7 + 6 + 1 ≤ s.bonds.length * 7; omega); omega) | (apply zal; (iterate 5 exact rfl); first | (apply zaC hT; exact rfl; exact rfl; (repeat (first | exact mcs | apply mcm )); exact rfl; exact rfl) ) | apply zag; iterate 2 exact rfl)
    all_goals first
     | (exfalso; omega)
     | (apply ret1; exact rfl; exact ⟨zap g who n o (outs ++ []) (zai (x.at x.d) { s with bonds := bs } bks rows F), by (rw [List.append_nil]; unfold zap zai; rw [hcs, ← hlb, hbsl]; (repeat (first | exact zar | (apply zay; · (repeat (first | exact sel0 | apply selS )))))), za7.ok' hf⟩)
     | skip
set_option maxHeartbeats 8000000 in
theorem zk5 (W : World) (F : List zax) (x : DAd) (s : Dk) (bks : List BAd) (rows : List PRow) (N : Nat) (hD : DOK N s) (hN : N ≤ 10000) (hf : za6 s bks rows) (g : Nat) (who id0 : Int) (o : Sp) (outs : List OutR) (m : MsgR) (hk : m.kind = 10) (hmw : MsgW m) (hw : 0 ≤ who ∧ who < 8) (hbo : outs.length ≤ 1000000) :
 zaB Tryz.prog W 62 [ptrV x.d, ptrV g, .agg m.enc.toArray] (zap g who id0 o outs (zai x s bks rows F)) (za7 x g who outs F (zdA false s who m)) := by
 refine zaB.dropTo ?_
 have hla : s.asks.length ≤ 1000000 := by have := hD.na; omega
 have hlq : s.quotes.length ≤ 1000000 := by have := hD.nq; omega
 have hld : s.due.length ≤ 1000000 := by have := hD.nd; omega
 have hnq := hD.quote
 have hnw := hD.now
 have hG := zgs W x.a x.asks.A x.asks.c s.asks m.f0 hla hD.upa
 rcases hg : getA m.f0 s.asks with _ | a
 ·have e : zdA false s who m = bad s 4 := by unfold zdA; rw [hg]
  rw [hg] at hG
  rw [e]
  unfold zai
  unfold zap
  refine zan Tryz.func62 rfl rfl Tryz.results62 Tryz.ntmps62 rfl rfl ?_
  repeat' (first | apply zae | apply zaa | apply zaj | apply zah | apply zaf | apply zad | apply zab hT; iterate 4 exact rfl | apply zaM [51] [] hmix; decide +kernel | apply zaK; (iterate 5 exact rfl); intro g5 | (apply zaI hT; (iterate 5 exact rfl); first | (fail_if_success (have q := g7)); intro g7) | (apply zaF hT; (iterate 6 exact rfl); (repeat (first | exact sel0 )); (iterate 3 exact rfl); exact nle rfl) | (apply zaZ hT; (iterate 9 exact rfl); (iterate 2 omega)) | (apply zac (hs := (hG.mono (zbx (by (repeat (first | exact mcs | apply mcm ))) (by (repeat (first | exact mcs | apply mcm )))))); iterate 7 exact rfl) | (apply zal; (iterate 5 exact rfl); first | (apply zaC hT; exact rfl; exact rfl; (repeat (first | exact mcs | apply mcm )); exact rfl; exact rfl) ) | (apply zak; iterate 2 exact rfl) | (apply zam; exact rfl; all_goals (intro hb; (try dsimp only at hb); (try simp only [hb]); (first | replace hb := odt hb | replace hb := odf hb ); (try omega))))
  all_goals first
   | (exfalso; omega)
   | (apply ret1; exact rfl; exact ⟨zap g who id0 o outs (zai x s bks rows F), by (unfold zap zai; (repeat (first | exact zar | (apply zay; · (repeat (first | exact sel0 | apply selS ))) | apply zat))), za7.bad' (by decide) hf⟩)
   | skip
 ·rw [hg] at hG
  have ham := zbH hg
  have haO := hD.as_ a ham.1
  obtain ⟨_, ⟨b0, b1⟩, _, ⟨q0, q1⟩, ⟨c0, c1⟩, ⟨d0, d1⟩, ⟨e0, e1⟩⟩ := haO
  obtain ⟨hbN, hbI⟩ := hD.bondA ham.1
  obtain ⟨_, hbn, _⟩ := zdm hD.nbk hbN
  have hbl := (List.getElem?_eq_some_iff.1 hbn).1
  have hPr := zhE W (zbz s a.bond) m.f1 hbI
  have hWn := zfg W m.f2
  have hrb : zaJ W (zap g who id0 o outs (zai x s bks rows F)) x.bonds.A s.bonds.length 7 (s.bonds.flatMap za3.enc) := zaJ.enc (c := x.bonds.c) za3.enc_len za3.enc_one (by unfold zap zai; (repeat (first | exact mcs | apply mcm))) rfl
  have hbit0 := zko (x := a.dealers) (i := who) d0 d1 (by omega)
  unfold zdA
  rw [hg]
  dsimp only
  generalize hbb : zbz s a.bond = b at *
  generalize zhV a.dealers who = db at *
  cases db
  ·have hbit : bitI .and .u64 (Int.fdiv a.dealers (2 ^ (min who.toNat (IntKind.bits .u64)))) 1 = 0 := hbit0
   have hhal : (za3.enc b)[6]? = some (.bool b.halted) := rfl
   rw [if_pos rfl]
   refine zan Tryz.func62 rfl rfl Tryz.results62 Tryz.ntmps62 rfl rfl ?_
   refine zaU hrb rfl (fun hAi => ?_)
   have hA := hAi (by omega)
   unfold zai
   unfold zap
   repeat' (first | apply zae | apply zaa | apply zaj | apply zah | apply zaf | apply zad | apply zab hT; iterate 4 exact rfl | apply zaM [51] [] hmix; decide +kernel | apply zaK; (iterate 5 exact rfl); intro g5 | (apply zaI hT; (iterate 5 exact rfl); first | (fail_if_success (have q := g7)); intro g7) | (apply zaF hT; (iterate 6 exact rfl); (repeat (first | exact sel0 )); (iterate 3 exact rfl); exact nle rfl) | (apply zaZ hT; (iterate 9 exact rfl); (iterate 2 omega)) | (apply zac (hs := (hG.mono (zbx (by (repeat (first | exact mcs | apply mcm ))) (by (repeat (first | exact mcs | apply mcm )))))); iterate 7 exact rfl) | (apply zdL; (iterate 5 exact rfl); omega) | (apply zcJ; (iterate 6 exact rfl); rw [hbit]) | (apply zal; (iterate 5 exact rfl); first | (apply zaC hT; exact rfl; exact rfl; (repeat (first | exact mcs | apply mcm )); exact rfl; exact rfl) ) | (apply zak; iterate 2 exact rfl) | (apply zag; iterate 2 exact rfl) | (apply zam; exact rfl; all_goals (intro hb; (try dsimp only at hb); (try simp only [hb]); (first | replace hb := odt hb | replace hb := odf hb ); (try omega))))
   all_goals first
    | (exfalso; omega)
    | (apply ret1; exact rfl; exact ⟨zap g who id0 o outs (zai x s bks rows F), by (unfold zap zai; (repeat (first | exact zar | (apply zay; · (repeat (first | exact sel0 | apply selS ))) | apply zat))), za7.bad' (by decide) hf⟩)
    | skip
  ·have hbit : bitI .and .u64 (Int.fdiv a.dealers (2 ^ (min who.toNat (IntKind.bits .u64)))) 1 = 1 := hbit0
   rw [if_neg (by decide)]
   by_cases hst : a.state ≠ 1
   ·have hhal : (za3.enc b)[6]? = some (.bool b.halted) := rfl
    rw [if_pos hst]
    refine zan Tryz.func62 rfl rfl Tryz.results62 Tryz.ntmps62 rfl rfl ?_
    refine zaU hrb rfl (fun hAi => ?_)
    have hA := hAi (by omega)
    unfold zai
    unfold zap
    repeat' (first | apply zae | apply zaa | apply zaj | apply zah | apply zaf | apply zad | apply zab hT; iterate 4 exact rfl | apply zaM [51] [] hmix; decide +kernel | apply zaK; (iterate 5 exact rfl); intro g5 | (apply zaI hT; (iterate 5 exact rfl); first | (fail_if_success (have q := g7)); intro g7) | (apply zaF hT; (iterate 6 exact rfl); (repeat (first | exact sel0 )); (iterate 3 exact rfl); exact nle rfl) | (apply zaZ hT; (iterate 9 exact rfl); (iterate 2 omega)) | (apply zac (hs := (hG.mono (zbx (by (repeat (first | exact mcs | apply mcm ))) (by (repeat (first | exact mcs | apply mcm )))))); iterate 7 exact rfl) | (apply zdL; (iterate 5 exact rfl); omega) | (apply zcJ; (iterate 6 exact rfl); rw [hbit]) | (apply zal; (iterate 5 exact rfl); first | (apply zaC hT; exact rfl; exact rfl; (repeat (first | exact mcs | apply mcm )); exact rfl; exact rfl) ) | (apply zag; iterate 2 exact rfl) | (apply zam; exact rfl; all_goals (intro hb; (try dsimp only at hb); (try simp only [hb]); (first | replace hb := odt hb | replace hb := odf hb | replace hb := zaD hb | replace hb := zaE hb ); (try omega))))
    all_goals first
     | (exfalso; omega)
     | (apply ret1; exact rfl; exact ⟨zap g who id0 o outs (zai x s bks rows F), by (unfold zap zai; (repeat (first | exact zar | (apply zay; · (repeat (first | exact sel0 | apply selS ))) | apply zat))), za7.bad' (by decide) hf⟩)
     | skip
   ·rw [if_neg hst]
    cases hh : b.halted
    ·have hhal : (za3.enc b)[6]? = some (.bool false) := by rw [← hh]; rfl
     rw [if_neg (by decide)]
     by_cases hp : zd6 b m.f1 ≠ 0
     ·rw [if_pos hp]
      generalize zd6 b m.f1 = pe at *
      refine zan Tryz.func62 rfl rfl Tryz.results62 Tryz.ntmps62 rfl rfl ?_
      refine zaU hrb rfl (fun hAi => ?_)
      have hA := hAi (by omega)
      unfold zai
      unfold zap
      repeat' (first | apply zae | apply zaa | apply zaj | apply zah | apply zaf | apply zad | apply zab hT; iterate 4 exact rfl | apply zaM [51] [] hmix; decide +kernel | apply zaK; (iterate 5 exact rfl); intro g5 | (apply zaI hT; (iterate 5 exact rfl); first | (fail_if_success (have q := g7)); intro g7) | (apply zaF hT; (iterate 6 exact rfl); (repeat (first | exact sel0 )); (iterate 3 exact rfl); exact nle rfl) | (apply zaZ hT; (iterate 9 exact rfl); (iterate 2 omega)) | (apply zac (hs := (hG.mono (zbx (by (repeat (first | exact mcs | apply mcm ))) (by (repeat (first | exact mcs | apply mcm )))))); iterate 7 exact rfl) | (apply zdL; (iterate 5 exact rfl); omega) | (apply zcJ; (iterate 6 exact rfl); rw [hbit]) | (apply zaS hT; (iterate 8 exact rfl); (iterate 2 omega); exact hA) | (apply zal; (iterate 5 exact rfl); first | exact zbb hT rfl rfl (hrb.mono (by (intro c hc; (repeat (first | exact hc | apply mcm ))))) za3.enc_len (zaW _ _ _) hbn (by decide) hhal | exact zaY hT rfl rfl (hrb.mono (by (intro c hc; (repeat (first | exact hc | apply mcm ))))) za3.enc_len rfl hbn rfl) | (apply zac (hs := (hPr.mono (by simp))); iterate 7 exact rfl) | (apply zal; (iterate 5 exact rfl); first | (apply zaC hT; exact rfl; exact rfl; (repeat (first | exact mcs | apply mcm )); exact rfl; exact rfl) ) | (apply zag; iterate 2 exact rfl) | (apply zam; exact rfl; all_goals (intro hb; (try dsimp only at hb); (try simp only [hb]); (first | replace hb := odt hb | replace hb := odf hb | replace hb := zaD hb | replace hb := zaE hb ); (try omega))))
      all_goals first
       | (exfalso; omega)
       | (apply ret1; exact rfl; exact ⟨zap g who id0 o outs (zai x s bks rows F), by (unfold zap zai; (repeat (first | exact zar | (apply zay; · (repeat (first | exact sel0 | apply selS ))) | apply zat))), za7.bad' hp hf⟩)
       | skip
     ·rw [if_neg hp]
      have hp := Decidable.not_not.1 hp
      rw [hp] at hPr
      cases hwn : zeM m.f2
      ·rw [hwn] at hWn
       rw [if_pos rfl]
       refine zan Tryz.func62 rfl rfl Tryz.results62 Tryz.ntmps62 rfl rfl ?_
       refine zaU hrb rfl (fun hAi => ?_)
       have hA := hAi (by omega)
       unfold zai
       unfold zap
       repeat' (first | apply zae | apply zaa | apply zaj | apply zah | apply zaf | apply zad | apply zab hT; iterate 4 exact rfl | apply zaM [51] [] hmix; decide +kernel | apply zaK; (iterate 5 exact rfl); intro g5 | (apply zaI hT; (iterate 5 exact rfl); first | (fail_if_success (have q := g7)); intro g7) | (apply zaF hT; (iterate 6 exact rfl); (repeat (first | exact sel0 )); (iterate 3 exact rfl); exact nle rfl) | (apply zaZ hT; (iterate 9 exact rfl); (iterate 2 omega)) | (apply zac (hs := (hG.mono (zbx (by (repeat (first | exact mcs | apply mcm ))) (by (repeat (first | exact mcs | apply mcm )))))); iterate 7 exact rfl) | (apply zdL; (iterate 5 exact rfl); omega) | (apply zcJ; (iterate 6 exact rfl); rw [hbit]) | (apply zaS hT; (iterate 8 exact rfl); (iterate 2 omega); exact hA) | (apply zal; (iterate 5 exact rfl); first | exact zbb hT rfl rfl (hrb.mono (by (intro c hc; (repeat (first | exact hc | apply mcm ))))) za3.enc_len (zaW _ _ _) hbn (by decide) hhal | exact zaY hT rfl rfl (hrb.mono (by (intro c hc; (repeat (first | exact hc | apply mcm ))))) za3.enc_len rfl hbn rfl) | (apply zac (hs := (hPr.mono (by simp))); iterate 7 exact rfl) | (apply zac (hs := (hWn.mono (by simp))); iterate 7 exact rfl) | (apply zal; (iterate 5 exact rfl); first | (apply zaC hT; exact rfl; exact rfl; (repeat (first | exact mcs | apply mcm )); exact rfl; exact rfl) ) | (apply zak; iterate 2 exact rfl) | (apply zag; iterate 2 exact rfl) | (apply zam; exact rfl; all_goals (intro hb; (try dsimp only at hb); (try simp only [hb]); (first | replace hb := odt hb | replace hb := odf hb | replace hb := zaD hb | replace hb := zaE hb ); (try omega))))
       all_goals first
        | (exfalso; omega)
        | (apply ret1; exact rfl; exact ⟨zap g who id0 o outs (zai x s bks rows F), by (unfold zap zai; (repeat (first | exact zar | (apply zay; · (repeat (first | exact sel0 | apply selS ))) | apply zat))), za7.bad' (by decide) hf⟩)
        | skip
      ·rw [hwn] at hWn
       rw [if_neg (by decide)]
       have hwin : 1 ≤ m.f2 ∧ m.f2 ≤ 1000 := zck hwn
       have hPut := fun G => zo1 W G x.q x.quotes.A x.quotes.c s.quotes ⟨s.quote + 1, a.id, who, m.f1, s.now + m.f2, true⟩ hlq hD.upq
       generalize hqq : (⟨s.quote + 1, a.id, who, m.f1, s.now + m.f2, true⟩ : zaG) = q at *
       cases hbq : badQ q s.quotes
       ·have hv : putV q s.quotes = .tuple #[.int .i64 (oldQ q s.quotes), .int .i64 0] := by unfold putV; rw [hbq]; rfl
        rw [hv] at hPut
        rw [if_neg (by decide)]
        rw [show (if (false = true) then zbn s.due 3 (oldQ q s.quotes) else s.due) = s.due from rfl]
        have hAdd := fun G => zjy W G x.u x.due.A x.due.c s.due ⟨s.now + m.f2, 3, s.quote + 1⟩ hld hD.row.mono
        subst hqq
        generalize hqs : putQ ⟨s.quote + 1, a.id, who, m.f1, s.now + m.f2, true⟩ s.quotes = qs at *
        generalize hds : addD s.due ⟨s.now + m.f2, 3, s.quote + 1⟩ = ds at *
        generalize oldQ ⟨s.quote + 1, a.id, who, m.f1, s.now + m.f2, true⟩ s.quotes = old at *
        refine zan Tryz.func62 rfl rfl Tryz.results62 Tryz.ntmps62 rfl rfl ?_
        refine zaU hrb rfl (fun hAi => ?_)
        have hA := hAi (by omega)
        unfold zai
        unfold zap
        repeat' (first | apply zae | apply zaa | apply zaj | apply zah | apply zaf | apply zad | apply zab hT; iterate 4 exact rfl | (apply zaN hT; (iterate 4 exact rfl); (iterate 2 (first | omega ))) | apply zaM [51] [] hmix; decide +kernel | apply zaK; (iterate 5 exact rfl); intro g5 | (apply zaI hT; (iterate 5 exact rfl); first | (fail_if_success (have q := g7)); intro g7 | (fail_if_success (have q := g12)); intro g12) | (apply zaF hT; (iterate 6 exact rfl); (repeat (first | exact sel0 | apply selS )); (iterate 3 exact rfl); exact nle rfl) | (apply zaO hT (cs := Due.enc ⟨s.now + m.f2, 3, s.quote + 1⟩); iterate 4 exact rfl) | (apply zaO hT (cs := zaG.enc ⟨s.quote + 1, a.id, who, m.f1, s.now + m.f2, true⟩); iterate 4 exact rfl) | (apply zaZ hT; (iterate 9 exact rfl); (iterate 2 omega)) | (apply zac (hs := (hG.mono (zbx (by (repeat (first | exact mcs | apply mcm ))) (by (repeat (first | exact mcs | apply mcm )))))); iterate 7 exact rfl) | (apply zdL; (iterate 5 exact rfl); omega) | (apply zcJ; (iterate 6 exact rfl); rw [hbit]) | (apply zaS hT; (iterate 8 exact rfl); (iterate 2 omega); exact hA) | (apply zal; (iterate 5 exact rfl); first | exact zbb hT rfl rfl (hrb.mono (by (intro c hc; (repeat (first | exact hc | apply mcm ))))) za3.enc_len (zaW _ _ _) hbn (by decide) hhal | exact zaY hT rfl rfl (hrb.mono (by (intro c hc; (repeat (first | exact hc | apply mcm | apply mar))))) za3.enc_len rfl hbn rfl) | (apply zac (hs := (hPr.mono (by simp))); iterate 7 exact rfl) | (apply zac (hs := (hWn.mono (by simp))); iterate 7 exact rfl) | (apply zaz (hs := (zaB.perm (hPut _) (by (repeat (first | exact List.Perm.refl _ | (apply zaX; · (repeat (first | exact sel0 | apply selS | apply zbO))) ))))); (iterate 7 exact rfl); rintro _ _ ⟨rfl, A3, c3, rfl⟩) | (apply zaz (hs := (zaB.perm (hAdd _) (by (repeat (first | exact List.Perm.refl _ | (apply zaX; · (repeat (first | exact sel0 | apply selS | apply zbO))) ))))); (iterate 7 exact rfl); rintro _ _ ⟨rfl, A4, c4, rfl⟩) | (apply zao (cs := [.int .i64 a.id, .int .i64 (s.quote + 1), .int .i64 m.f1, .int .i64 (s.now + m.f2)]) hT; (iterate 12 exact rfl); intro g151) | (apply zaz (hs := (zbZ W _ g who (s.quote + 1) o outs _ (some ⟨g151, 0, none⟩) 4 a.client 23 [a.id, s.quote + 1, m.f1, s.now + m.f2] (by (repeat (first | exact List.Perm.refl _ | (apply zaX; · (repeat (first | exact sel0 | apply selS ))) ))) (by (repeat (first | exact mcs ))) (Nat.le_of_ble_eq_true rfl) hbo)); (iterate 7 exact rfl); rintro _ _ ⟨rfl, o2, rfl⟩) | (apply zal; (iterate 5 exact rfl); first | (apply zaC hT; exact rfl; exact rfl; (repeat (first | exact mcs | apply mcm )); exact rfl; exact rfl) | (apply zaQ hT; exact rfl; exact rfl; (repeat (first | exact mcs )); exact rfl)) | (apply zag; iterate 2 exact rfl) | (apply zam; exact rfl; all_goals (intro hb; (try dsimp only at hb); (try simp only [hb]); (first | replace hb := odt hb | replace hb := odf hb | replace hb := zaD hb | replace hb := zaE hb ); (try omega))))
        all_goals first
         | (exfalso; omega)
         | (apply ret1; exact rfl; exact ⟨zap g who (s.quote + 1) o2 (outs ++ [outM a.client 23 [a.id, s.quote + 1, m.f1, s.now + m.f2]]) (zai (({ x with quotes := ⟨A3, c3⟩, due := ⟨A4, c4⟩ } : DAd).at x.d) { s with quotes := qs, quote := s.quote + 1, due := ds } bks rows F), by (unfold zap zai; (repeat (first | exact zar | (apply zay; · (repeat (first | exact sel0 | apply selS ))) | apply zat))), za7.ok' hf⟩)
         | skip
       ·have hv : putV q s.quotes = .tuple #[.int .i64 0, .int .i64 1] := by unfold putV; rw [hbq]; rfl
        have hsame : putQ q s.quotes = s.quotes := by unfold putQ; rw [hbq]; rfl
        rw [hv, hsame] at hPut
        rw [if_pos rfl]
        subst hqq
        refine zan Tryz.func62 rfl rfl Tryz.results62 Tryz.ntmps62 rfl rfl ?_
        refine zaU hrb rfl (fun hAi => ?_)
        have hA := hAi (by omega)
        unfold zai
        unfold zap
        repeat' (first | apply zae | apply zaa | apply zaj | apply zah | apply zaf | apply zad | apply zab hT; iterate 4 exact rfl | (apply zaN hT; (iterate 4 exact rfl); (iterate 2 (first | omega ))) | apply zaM [51] [] hmix; decide +kernel | apply zaK; (iterate 5 exact rfl); intro g5 | (apply zaI hT; (iterate 5 exact rfl); first | (fail_if_success (have q := g7)); intro g7 | (fail_if_success (have q := g12)); intro g12) | (apply zaF hT; (iterate 6 exact rfl); (repeat (first | exact sel0 )); (iterate 3 exact rfl); exact nle rfl) | (apply zaO hT (cs := zaG.enc ⟨s.quote + 1, a.id, who, m.f1, s.now + m.f2, true⟩); iterate 4 exact rfl) | (apply zaZ hT; (iterate 9 exact rfl); (iterate 2 omega)) | (apply zac (hs := (hG.mono (zbx (by (repeat (first | exact mcs | apply mcm ))) (by (repeat (first | exact mcs | apply mcm )))))); iterate 7 exact rfl) | (apply zdL; (iterate 5 exact rfl); omega) | (apply zcJ; (iterate 6 exact rfl); rw [hbit]) | (apply zaS hT; (iterate 8 exact rfl); (iterate 2 omega); exact hA) | (apply zal; (iterate 5 exact rfl); first | exact zbb hT rfl rfl (hrb.mono (by (intro c hc; (repeat (first | exact hc | apply mcm ))))) za3.enc_len (zaW _ _ _) hbn (by decide) hhal | exact zaY hT rfl rfl (hrb.mono (by (intro c hc; (repeat (first | exact hc | apply mcm ))))) za3.enc_len rfl hbn rfl) | (apply zac (hs := (hPr.mono (by simp))); iterate 7 exact rfl) | (apply zac (hs := (hWn.mono (by simp))); iterate 7 exact rfl) | (apply zaz (hs := (zaB.perm (hPut _) (by (repeat (first | exact List.Perm.refl _ | (apply zaX; · (repeat (first | exact sel0 | apply selS ))) ))))); (iterate 7 exact rfl); rintro _ _ ⟨rfl, A3, c3, rfl⟩) | (apply zal; (iterate 5 exact rfl); first | (apply zaC hT; exact rfl; exact rfl; (repeat (first | exact mcs | apply mcm )); exact rfl; exact rfl) | (apply zaQ hT; exact rfl; exact rfl; (repeat (first | exact mcs )); exact rfl)) | (apply zak; iterate 2 exact rfl) | (apply zag; iterate 2 exact rfl) | (apply zam; exact rfl; all_goals (intro hb; (try dsimp only at hb); (try simp only [hb]); (first | replace hb := odt hb | replace hb := odf hb | replace hb := zaD hb | replace hb := zaE hb ); (try omega))))
        all_goals first
         | (exfalso; omega)
         | (apply ret1; exact rfl; exact ⟨zap g who id0 o outs (zai ({ x with quotes := ⟨A3, c3⟩ } : DAd) s bks rows F), by (unfold zap zai; (repeat (first | exact zar | (apply zay; · (repeat (first | exact sel0 | apply selS ))) | apply zat))), ⟨rfl, { x with quotes := ⟨A3, c3⟩ }, o, bks, rows, id0, outs, rfl, hf, fun h => absurd h (by simp [bad])⟩⟩)
         | skip
    ·have hhal : (za3.enc b)[6]? = some (.bool true) := by rw [← hh]; rfl
     rw [if_pos rfl]
     refine zan Tryz.func62 rfl rfl Tryz.results62 Tryz.ntmps62 rfl rfl ?_
     refine zaU hrb rfl (fun hAi => ?_)
     have hA := hAi (by omega)
     unfold zai
     unfold zap
     repeat' (first | apply zae | apply zaa | apply zaj | apply zah | apply zaf | apply zad | apply zab hT; iterate 4 exact rfl | apply zaM [51] [] hmix; decide +kernel | apply zaK; (iterate 5 exact rfl); intro g5 | (apply zaI hT; (iterate 5 exact rfl); first | (fail_if_success (have q := g7)); intro g7) | (apply zaF hT; (iterate 6 exact rfl); (repeat (first | exact sel0 )); (iterate 3 exact rfl); exact nle rfl) | (apply zaZ hT; (iterate 9 exact rfl); (iterate 2 omega)) | (apply zac (hs := (hG.mono (zbx (by (repeat (first | exact mcs | apply mcm ))) (by (repeat (first | exact mcs | apply mcm )))))); iterate 7 exact rfl) | (apply zdL; (iterate 5 exact rfl); omega) | (apply zcJ; (iterate 6 exact rfl); rw [hbit]) | (apply zaS hT; (iterate 8 exact rfl); (iterate 2 omega); exact hA) | (apply zal; (iterate 5 exact rfl); first | exact zbb hT rfl rfl (hrb.mono (by (intro c hc; (repeat (first | exact hc | apply mcm ))))) za3.enc_len (zaW _ _ _) hbn (by decide) hhal ) | (apply zal; (iterate 5 exact rfl); first | (apply zaC hT; exact rfl; exact rfl; (repeat (first | exact mcs | apply mcm )); exact rfl; exact rfl) ) | (apply zak; iterate 2 exact rfl) | (apply zag; iterate 2 exact rfl) | (apply zam; exact rfl; all_goals (intro hb; (try dsimp only at hb); (try simp only [hb]); (first | replace hb := odt hb | replace hb := odf hb | replace hb := zaD hb | replace hb := zaE hb ); (try omega))))
     all_goals first
      | (exfalso; omega)
      | (apply ret1; exact rfl; exact ⟨zap g who id0 o outs (zai x s bks rows F), by (unfold zap zai; (repeat (first | exact zar | (apply zay; · (repeat (first | exact sel0 | apply selS ))) | apply zat))), za7.bad' (by decide) hf⟩)
      | skip
def hasI (id : Int) (q : zaG) : Bool := q.id == id
def uqQ (r : List zaG) : Prop := r.Pairwise fun a b => a.id ≠ b.id
def zmS (x : zaG) : zaG := { x with live := false }
def zeR (id : Int) (l : List zaG) : List zaG := l.map fun x => if hasI id x then zmS x else x
theorem zk6 {id : Int} {l : List zaG} (h : l.find? (hasI id) = none) : zeR id l = l := by
 unfold zeR
 rw [List.find?_eq_none] at h
 conv => rhs; rw [← List.map_id l]
 exact List.map_congr_left (fun x hx => by rw [if_neg (h x hx)]; rfl)
theorem zk7 {id : Int} {l : List zaG} {i : Nat} {x : zaG} (hu : uqQ l) (hx : l[i]? = some x) (hp : hasI id x = true) : zeR id l = l.set i (zmS x) := by
 obtain ⟨hlt, hxe⟩ := List.getElem?_eq_some_iff.1 hx
 apply List.ext_getElem?
 intro j
 unfold zeR
 rw [List.getElem?_map]
 by_cases hij : i = j
 ·subst hij
  rw [hx, List.getElem?_set_self hlt]; simp [hp]
 ·rw [List.getElem?_set_ne hij]
  cases hy : l[j]? with
  | none => rfl
  | some y =>
    simp only [Option.map_some]
    obtain ⟨hjl, hye⟩ := List.getElem?_eq_some_iff.1 hy
    have hne : y.id ≠ x.id := by
     rcases Nat.lt_or_gt_of_ne hij with h | h
     ·have := List.pairwise_iff_getElem.1 hu i j hlt hjl h
      rw [hxe, hye] at this; exact fun e => this e.symm
     ·have := List.pairwise_iff_getElem.1 hu j i hjl hlt h
      rw [hxe, hye] at this; exact this
    have : hasI id y = false := by
     simp only [hasI, beq_iff_eq] at hp ⊢
     simp; omega
    rw [this]; rfl
def zpL (id dealer : Int) (l : List zaG) : Int := match l.find? (hasI id) with
 | none => 4
 | some x => if x.dealer = dealer then (if x.live then 0 else 12) else 5
end Go.Proofs.YtakilgkpfjhfdaaGreat
namespace Go.Proofs.YtakilgkpfjhfdaaGreat
open Go Go.Sl
theorem TabQ.uq {l : List zaG} (h : upQ l) : uqQ l := h.imp (fun {a b} hab => by omega)
theorem zmT {l r : List zaG} (hp : r.Perm l) (h : uqQ l) : uqQ r := (hp.pairwise_iff (fun {a b} hab e => hab e.symm)).2 h
theorem zmU {l r : List zaG} (hp : r.Perm l) (hu : uqQ l) (id : Int) : r.find? (hasI id) = l.find? (hasI id) := by
 have key : ∀ {l r : List zaG}, r.Perm l → uqQ l → ∀ x, l.find? (hasI id) = some x → r.find? (hasI id) = some x := by
  intro l r hp hu x hx
  have hxl := List.mem_of_find?_eq_some hx
  have hxp := List.find?_some hx
  cases hr : r.find? (hasI id) with
  | none =>
    rw [List.find?_eq_none] at hr
    exact absurd hxp (hr x (hp.mem_iff.2 hxl))
  | some y =>
    have hyr := List.mem_of_find?_eq_some hr
    have hyp := List.find?_some hr
    have hyl := hp.mem_iff.1 hyr
    by_cases hxy : x = y
    ·rw [hxy]
    ·exfalso
     have : ∀ a ∈ l, ∀ b ∈ l, a ≠ b → a.id ≠ b.id := by
      intro a ha b hb hab
      obtain ⟨i, hi⟩ := List.getElem?_of_mem ha
      obtain ⟨j, hj⟩ := List.getElem?_of_mem hb
      obtain ⟨hil, hie⟩ := List.getElem?_eq_some_iff.1 hi
      obtain ⟨hjl, hje⟩ := List.getElem?_eq_some_iff.1 hj
      rcases Nat.lt_trichotomy i j with h | h | h
      ·have := List.pairwise_iff_getElem.1 hu i j hil hjl h
       rw [hie, hje] at this; exact this
      ·subst h; rw [hie] at hje; exact absurd hje hab
      ·have := List.pairwise_iff_getElem.1 hu j i hjl hil h
       rw [hie, hje] at this; exact fun e => this e.symm
     have h2 := this x hxl y hyl hxy
     simp only [hasI, beq_iff_eq] at hxp hyp
     omega
 cases hl : l.find? (hasI id) with
 | some x => exact key hp hu x hl
 | none =>
   cases hr : r.find? (hasI id) with
   | none => rfl
   | some y =>
     have := key hp.symm (zmT hp hu) y hr
     rw [hl] at this; cases this
theorem zgQ {l : List zaG} (hup : upQ l) (id : Int) : getQ id l = l.find? (hasI id) := by
 cases hB : bsB (cQ id) l
 ·rw [zdy hB]
  symm
  rw [List.find?_eq_none]
  intro x hx
  have := zgA hup hB x hx
  simp [hasI, this]
 ·obtain ⟨x, hx, hid, hg⟩ := zdx hB
  rw [hg]
  symm
  rw [List.find?_eq_some_iff_getElem]
  obtain ⟨hlt, hxe⟩ := List.getElem?_eq_some_iff.1 hx
  refine ⟨by simp [hasI, hid], _, hlt, hxe, fun j hj => ?_⟩
  have := List.pairwise_iff_getElem.1 hup j (bsN (cQ id) l) (by omega) hlt hj
  rw [hxe] at this
  simp [hasI]; omega
theorem zmV {l : List zaG} (hup : upQ l) (id : Int) : zcm id l = zeR id l := by
 unfold zcm
 rw [zgQ hup]
 cases hf : l.find? (hasI id) with
 | none => rw [zk6 hf]
 | some x =>
   dsimp only
   have hg : getQ id l = some x := by rw [zgQ hup, hf]
   cases hB : bsB (cQ id) l
   ·rw [zdy hB] at hg; cases hg
   ·obtain ⟨y, hy, hid, hgy⟩ := zdx hB
    rw [hg] at hgy; cases hgy
    have hp : hasI id x = true := by simp [hasI, hid]
    rw [zk7 (TabQ.uq hup) hy hp]; rfl
theorem zk8 {l r : List zaG} (hp : r.Perm l) (id : Int) : (zeR id r).Perm (zeR id l) := hp.map _
theorem zmW {id : Int} {l : List zaG} : (zeR id l).map zaG.id = l.map zaG.id := by
 unfold zeR
 rw [List.map_map]
 exact List.map_congr_left (fun x _ => by simp only [Function.comp]; split <;> rfl)
theorem zpf {l m : List zaG} (h : upQ l) (he : m.map zaG.id = l.map zaG.id) : upQ m := by
 unfold upQ at *
 rw [← List.pairwise_map (f := zaG.id) (R := (· < ·))] at h ⊢
 rw [he]; exact h
theorem zmX {id : Int} {l : List zaG} (h : TabQ l) : TabQ (zeR id l) := by
 refine ⟨zpf h.up zmW, ?_⟩
 unfold oneQ zeR
 rw [List.pairwise_map]
 refine h.one.imp (fun {a b} hab ha hb => ?_)
 have e1 : ∀ x : zaG, (if hasI id x then zmS x else x).live = true → x.live = true ∧ (if hasI id x then zmS x else x) = x := by
  intro x hx
  split at hx
  ·cases hx
  ·rename_i hn; exact ⟨hx, by rw [if_neg hn]⟩
 rw [(e1 a ha).2, (e1 b hb).2]
 exact hab (e1 a ha).1 (e1 b hb).1
structure zcM (l r : List zaG) : Prop where
 tab : TabQ l
 perm : r.Perm l
 pos : ∀ x ∈ l, 1 ≤ x.id
theorem zcM.uq {l r : List zaG} (h : zcM l r) : uqQ r := zmT h.perm (TabQ.uq h.tab.up)
theorem zcM.kill {l r : List zaG} (h : zcM l r) (id : Int) : zcM (zcm id l) (zeR id r) := by
 rw [zmV h.tab.up]
 refine ⟨zmX h.tab, zk8 h.perm id, fun x hx => ?_⟩
 obtain ⟨y, hy, rfl⟩ := List.mem_map.1 hx
 have := h.pos y hy
 split <;> simp_all [zmS]
theorem zcM.find {l r : List zaG} (h : zcM l r) (id : Int) : r.find? (hasI id) = getQ id l := by
 rw [zmU h.perm (TabQ.uq h.tab.up), zgQ h.tab.up]
theorem zcM.pullE {l r : List zaG} (h : zcM l r) (id dealer : Int) : zpL id dealer r = pullE id dealer l := by
 unfold zpL Go.Proofs.YtakilgkpfjhfdaaGreat.pullE
 rw [h.find]
 cases getQ id l with
 | none => rfl
 | some x => dsimp only
/-! ### put -/
def badR (q : zaG) (r : List zaG) : Bool := (r.find? (hasI q.id)).isSome || decide (q.id < 1) || decide (q.ask < 1) || decide (q.price < 1) || decide (q.dealer < 0) || !q.live
def zpM (q : zaG) (r : List zaG) : List zaG := if badR q r then r else zeR (oldQ q r) r ++ [q]
def zpN (q : zaG) (r : List zaG) : Value := if badR q r then .tuple #[.int .i64 0, .int .i64 1] else .tuple #[.int .i64 (oldQ q r), .int .i64 0]
theorem zcM.bad {l r : List zaG} (h : zcM l r) (q : zaG) : badR q r = badQ q l := by
 unfold badR badQ
 rw [h.find]
 congr 5
 cases hB : bsB (cQ q.id) l
 ·rw [zdy hB]; rfl
 ·obtain ⟨x, _, _, hg⟩ := zdx hB
  rw [hg]; rfl
theorem zfG {q : zaG} : ∀ {r : List zaG}, r.Pairwise (fun a b => ¬ (metQ q a = true ∧ metQ q b = true)) → ∀ o : Int, (r.foldl (fun o x => if metQ q x then x.id else o) o = o ∧ ∀ x ∈ r, metQ q x = false) ∨ (∃ x ∈ r, metQ q x = true ∧ r.foldl (fun o x => if metQ q x then x.id else o) o = x.id ∧ ∀ y ∈ r, metQ q y = true → y = x)
 | [], _, o => .inl ⟨rfl, fun x hx => by cases hx⟩
 | a :: r, h, o => by
   rw [List.pairwise_cons] at h
   rw [List.foldl_cons]
   cases ha : metQ q a
   ·simp only [Bool.false_eq_true, if_false]
    rcases zfG h.2 o with ⟨h1, h2⟩ | ⟨x, hx, hm, h1, h2⟩
    ·exact .inl ⟨h1, fun x hx => by
      rcases List.mem_cons.1 hx with rfl | hx
      ·exact ha
      ·exact h2 x hx⟩
    ·exact .inr ⟨x, mcm _ hx, hm, h1, fun y hy hym => by
      rcases List.mem_cons.1 hy with rfl | hy
      ·rw [ha] at hym; cases hym
      ·exact h2 y hy hym⟩
   ·simp only [if_true]
    have hno : ∀ x ∈ r, metQ q x = false := fun x hx => by
     cases hx2 : metQ q x
     ·rfl
     ·exact absurd ⟨ha, hx2⟩ (h.1 x hx)
    rcases zfG h.2 a.id with ⟨h1, h2⟩ | ⟨x, hx, hm, h1, h2⟩
    ·exact .inr ⟨a, mcs, ha, h1, fun y hy hym => by
      rcases List.mem_cons.1 hy with rfl | hy
      ·rfl
      ·rw [hno y hy] at hym; cases hym⟩
    ·rw [hno x hx] at hm; cases hm
theorem zig {q : zaG} {l : List zaG} (h : oneQ l) : l.Pairwise (fun a b => ¬ (metQ q a = true ∧ metQ q b = true)) := by
 refine h.imp (fun {a b} hab hm => ?_)
 simp only [metQ, Bool.and_eq_true, beq_iff_eq] at hm
 obtain ⟨⟨⟨a1, a2⟩, a3⟩, ⟨b1, b2⟩, b3⟩ := hm
 exact hab a3 b3 ⟨a1.trans b1.symm, a2.trans b2.symm⟩
theorem zkp {q : zaG} {l r : List zaG} (hp : r.Perm l) (h : oneQ l) : r.Pairwise (fun a b => ¬ (metQ q a = true ∧ metQ q b = true)) :=
 (hp.pairwise_iff (fun {a b} hab hm => hab ⟨hm.2, hm.1⟩)).2 (zig h)
theorem zcM.old {l r : List zaG} (h : zcM l r) (q : zaG) : oldQ q r = oldQ q l := by
 unfold oldQ
 rcases zfG (zkp (q := q) h.perm h.tab.one) 0 with ⟨h1, h2⟩ | ⟨x, hx, hm, h1, h2⟩
 ·rcases zfG (zig (q := q) h.tab.one) 0 with ⟨k1, k2⟩ | ⟨y, hy, hym, k1, k2⟩
  ·rw [h1, k1]
  ·rw [h2 y (h.perm.mem_iff.2 hy)] at hym; cases hym
 ·rcases zfG (zig (q := q) h.tab.one) 0 with ⟨k1, k2⟩ | ⟨y, hy, hym, k1, k2⟩
  ·rw [k2 x (h.perm.mem_iff.1 hx)] at hm; cases hm
  ·rw [h1, k1, h2 y (h.perm.mem_iff.2 hy) hym]
theorem zcM.off {l r : List zaG} (h : zcM l r) (q : zaG) : zeR (oldQ q r) r = r.map (offQ q) := by
 unfold zeR
 refine List.map_congr_left (fun x hx => ?_)
 unfold oldQ
 have hpos := fun y (hy : y ∈ r) => h.pos y (h.perm.mem_iff.1 hy)
 rcases zfG (zkp (q := q) h.perm h.tab.one) 0 with ⟨h1, h2⟩ | ⟨y, hy, hm, h1, h2⟩
 ·rw [h1]
  have := hpos x hx
  rw [if_neg (by simp [hasI]; omega), offQ, h2 x hx]; rfl
 ·rw [h1]
  by_cases hxy : x = y
  ·subst hxy
   rw [if_pos (by simp [hasI]), offQ, hm]; rfl
  ·have hne : x.id ≠ y.id := by
    obtain ⟨i, hi⟩ := List.getElem?_of_mem hx
    obtain ⟨j, hj⟩ := List.getElem?_of_mem hy
    obtain ⟨hil, hie⟩ := List.getElem?_eq_some_iff.1 hi
    obtain ⟨hjl, hje⟩ := List.getElem?_eq_some_iff.1 hj
    rcases Nat.lt_trichotomy i j with h' | h' | h'
    ·have := List.pairwise_iff_getElem.1 h.uq i j hil hjl h'
     rw [hie, hje] at this; exact this
    ·subst h'; rw [hie] at hje; exact absurd hje hxy
    ·have := List.pairwise_iff_getElem.1 h.uq j i hjl hil h'
     rw [hie, hje] at this; exact fun e => this e.symm
   rw [if_neg (by simp [hasI]; exact hne), offQ]
   have : metQ q x = false := by
    cases hmx : metQ q x
    ·rfl
    ·exact absurd (h2 x hx hmx) hxy
   rw [this]; rfl
theorem zcM.put {l r : List zaG} (h : zcM l r) (q : zaG) : zcM (putQ q l) (zpM q r) := by
 refine ⟨znO h.tab, ?_, ?_⟩
 ·unfold putQ zpM
  rw [h.bad]
  split
  ·exact h.perm
  ·rw [h.off]
   have h1 := zfT (l.map (offQ q)) q (bsN (cQ q.id) l)
   have h2 : (r.map (offQ q) ++ [q]).Perm (q :: r.map (offQ q)) := List.perm_append_comm
   exact h2.trans ((List.Perm.cons q (h.perm.map _)).trans h1.symm)
 ·unfold putQ
  split
  ·exact h.pos
  ·rename_i hb
   have hbad : badQ q l = false := by simpa using hb
   simp only [badQ, Bool.or_eq_false_iff, decide_eq_false_iff_not] at hbad
   intro x hx
   have hx2 := (zfT (l.map (offQ q)) q (bsN (cQ q.id) l)).mem_iff.1 hx
   rcases List.mem_cons.1 hx2 with rfl | hx2
   ·omega
   ·obtain ⟨y, hy, rfl⟩ := List.mem_map.1 hx2
    rw [zdS]; exact h.pos y hy
theorem zcM.putV {l r : List zaG} (h : zcM l r) (q : zaG) : zpN q r = putV q l := by
 unfold zpN Go.Proofs.YtakilgkpfjhfdaaGreat.putV
 rw [h.bad, h.old]
/-! ### by number -/
theorem zcM.clear {l r : List zaG} (h : zcM l r) (p : zaG → Bool) : zcM (l.filter p) (r.filter p) :=
 ⟨⟨h.tab.up.sublist List.filter_sublist, h.tab.one.sublist List.filter_sublist⟩, h.perm.filter p, fun x hx => h.pos x (List.mem_filter.1 hx).1⟩
theorem zcM.nil : zcM [] [] := ⟨⟨List.Pairwise.nil, List.Pairwise.nil⟩, List.Perm.refl _, fun x hx => by cases hx⟩
end Go.Proofs.YtakilgkpfjhfdaaGreat
namespace Go.Proofs.YtakilgkpfjhfdaaGreat
open Go Go.Sl
attribute [local irreducible] AW ES EP Ld RetQ
set_option maxRecDepth 100000
section
variable {P : Program} {W : World} {T : Tab} {N : Nat} {env : Env} {h : List zax} {kf : KF} {ops : Array Oper} {K : Env → List zax → Prop} {rest : List Oper}
theorem zq1 {c1 c2 : zax} {h : List zax} (h1 : c1 ∈ h) (h2 : c2 ∈ h) (hne : c2 ≠ c1) : ∃ F, h.Perm (c1 :: c2 :: F) := by
 obtain ⟨s, t, rfl⟩ := List.append_of_mem h1
 have h3 : c2 ∈ s ++ t := by
  rcases List.mem_append.1 h2 with h | h
  ·exact List.mem_append_left _ h
  ·rcases List.mem_cons.1 h with h | h
   ·exact absurd h hne
   ·exact mar _ h
 obtain ⟨u, v, he⟩ := List.append_of_mem h3
 refine ⟨u ++ v, List.perm_middle.trans ?_⟩
 rw [he]
 exact List.Perm.cons _ List.perm_middle
end
theorem zmY (W : World) (h : List zax) (p : Nat) (A : Option Addr) (c : Nat) (l : List zaG) (ask tick : Int) (m1 : zax.blk p 129 [.slice A l.length c] ∈ h) (m2 : zax.own A l.length c 115 6 (l.flatMap zaG.enc) ∈ h) (hb : l.length ≤ 1000000) :
 zaB Tryz.prog W 110 [.pointer (some ⟨p, 0, none⟩), .int .i64 ask, .int .i64 tick] h
  (fun v h' => ∃ A' c', v = .slice A' (l.filter (zcy ask tick)).length c' ∧ h' = .own A' (l.filter (zcy ask tick)).length c' 115 6 ((l.filter (zcy ask tick)).flatMap zaG.enc) :: h ∧ OwnF A' (l.filter (zcy ask tick)).length c' 6 ((l.filter (zcy ask tick)).flatMap zaG.enc)) := by
 obtain ⟨F, hp⟩ := zq1 m1 m2 (by intro e; cases e)
 exact ((znC W F p A c l ask tick hb).perm hp).conv (by
  rintro v h' ⟨A', c', rfl, rfl, hf⟩ w hw
  exact ⟨_, hw.perm (hp.symm.cons _), A', c', rfl, rfl, hf⟩)
structure zoe where
 kind : Int
 quote : zaG
def zoe.enc (a : zoe) : List Value := .int .i64 a.kind :: a.quote.enc
theorem zoe.enc_len (a : zoe) : a.enc.length = 7 := rfl
theorem zcM.len {l r : List zaG} (h : zcM l r) : r.length = l.length := h.perm.length_eq
end Go.Proofs.YtakilgkpfjhfdaaGreat
namespace Go.Proofs.YtakilgkpfjhfdaaGreat
open Go Go.Sl
attribute [local irreducible] AW ES EP Ld RetQ
set_option maxRecDepth 100000
set_option maxHeartbeats 4000000 in
theorem zkq (W : World) (F : List zax) (x : DAd) (s : Dk) (bks : List BAd) (rows : List PRow) (N : Nat) (hD : DOK N s) (hN : N ≤ 10000) (hf : za6 s bks rows) (g : Nat) (who id0 : Int) (o : Sp) (outs : List OutR) (a : AskR) (q : zaG) (haO : zhc s a) (hqO : zcV s q) (hbo : outs.length ≤ 1000000) :
 zaB Tryz.prog W 108 [ptrV x.d, ptrV g, .agg a.enc.toArray, .agg q.enc.toArray] (zap g who id0 o outs (zai x s bks rows F)) (za7 x g who outs F (hitQ s a q)) := by
 refine zaB.dropTo ?_
 have hla : s.asks.length ≤ 1000000 := by have := hD.na; omega
 have hld : s.due.length ≤ 1000000 := by have := hD.nd; omega
 have hnw := hD.now
 have hlk := (zcp hD.rules).2.2.1
 have hTr := zfk W F x s bks rows N hD hf a q haO hqO.2.2.1.2
 obtain ⟨_, ⟨b0, b1⟩, _, ⟨q0, q1⟩, ⟨c0, c1⟩, ⟨d0, d1⟩, ⟨e0, e1⟩⟩ := haO
 obtain ⟨_, _, ⟨p0, p1⟩, _⟩ := hqO
 have hRk := zmL W x.f x.fparties.A x.fparties.c x.used.A x.used.c s.parties s.used q.dealer q.price a.qty hD.nus hD.us (by unfold inW; omega) (by unfold inW; omega)
 have hLk := fun G => znG W G x.a x.asks.A x.asks.c s.asks a.id q.id (s.now + s.look) hla hD.upa
 have hAdd := fun G => zjy W G x.u x.due.A x.due.c s.due ⟨s.now + s.look, 2, a.id⟩ hld hD.row.mono
 unfold hitQ
 rcases q with ⟨qi, qa, qd, qp, qe, ql⟩
 dsimp only at *
 by_cases h1 : ql = false ∨ qe ≤ s.now
 ·rw [if_pos h1]
  cases ql
  ·skip
   unfold zai
   unfold zap
   refine zan Tryz.func108 rfl rfl Tryz.results108 Tryz.ntmps108 rfl rfl ?_
   repeat' (first | apply zae | apply zaa | apply zaj | apply zad | apply zab hT; iterate 4 exact rfl | apply zaq; iterate 3 exact rfl | apply zaM [] [] hmix; decide +kernel | (apply zaK; (iterate 5 exact rfl); first | (fail_if_success (have q := g6)); intro g6 | intro g7) | (apply zal; (iterate 5 exact rfl); first | (apply zaC hT; exact rfl; exact rfl; (repeat (first | exact mcs )); exact rfl; exact rfl) ) | (apply zak; iterate 2 exact rfl))
   all_goals first
    | (exfalso; omega)
    | (apply ret1; exact rfl; exact ⟨zap g who id0 o outs (zai x s bks rows F), by (unfold zap zai; (repeat (first | exact zar | (apply zay; · (repeat (first | exact sel0 | apply selS ))) | apply zat))), za7.bad' (by decide) hf⟩)
    | skip
  ·have h1 : qe ≤ s.now := by simpa using h1
   unfold zai
   unfold zap
   refine zan Tryz.func108 rfl rfl Tryz.results108 Tryz.ntmps108 rfl rfl ?_
   repeat' (first | apply zae | apply zaa | apply zaj | apply zad | apply zab hT; iterate 4 exact rfl | apply zaM [] [] hmix; decide +kernel | (apply zaK; (iterate 5 exact rfl); first | (fail_if_success (have q := g6)); intro g6 | intro g7) | (apply zal; (iterate 5 exact rfl); first | (apply zaC hT; exact rfl; exact rfl; (repeat (first | exact mcs | apply mcm )); exact rfl; exact rfl) ) | (apply zam; exact rfl; all_goals (intro hb; (try dsimp only at hb); (try simp only [hb]); (first | replace hb := odt hb | replace hb := odf hb ); (try omega))))
   all_goals first
    | (exfalso; omega)
    | (apply ret1; exact rfl; exact ⟨zap g who id0 o outs (zai x s bks rows F), by (unfold zap zai; (repeat (first | exact zar | (apply zay; · (repeat (first | exact sel0 | apply selS ))) | apply zat))), za7.bad' (by decide) hf⟩)
    | skip
 ·rw [if_neg h1]
  have hl : ql = true := by cases ql <;> simp_all
  subst hl
  have h1 : ¬ qe ≤ s.now := by simpa using h1
  by_cases h2 : zcA s a ⟨qi, qa, qd, qp, qe, true⟩ ≠ 0
  ·rw [if_pos h2]
   generalize zcA s a ⟨qi, qa, qd, qp, qe, true⟩ = er at *
   unfold zai
   unfold zap
   refine zan Tryz.func108 rfl rfl Tryz.results108 Tryz.ntmps108 rfl rfl ?_
   repeat' (first | apply zae | apply zaa | apply zaj | apply zah | apply zad | apply zab hT; iterate 4 exact rfl | apply zaM [] [] hmix; decide +kernel | (apply zaK; (iterate 5 exact rfl); first | (fail_if_success (have q := g6)); intro g6 | intro g7) | (apply zac (hs := (hTr.mono (by (intro c hc; (repeat (first | exact hc | apply mcm )))))); iterate 7 exact rfl) | (apply zal; (iterate 5 exact rfl); first | (apply zaC hT; exact rfl; exact rfl; (repeat (first | exact mcs | apply mcm )); exact rfl; exact rfl) | (apply zaQ hT; exact rfl; exact rfl; (repeat (first | exact mcs | apply mcm )); exact rfl)) | (apply zam; exact rfl; all_goals (intro hb; (try dsimp only at hb); (try simp only [hb]); (first | replace hb := odt hb | replace hb := odf hb | replace hb := zaD hb | replace hb := zaE hb ); (try omega))))
   all_goals first
    | (exfalso; omega)
    | (apply ret1; exact rfl; exact ⟨zap g who id0 o outs (zai x s bks rows F), by (unfold zap zai; (repeat (first | exact zar | (apply zay; · (repeat (first | exact sel0 | apply selS ))) | apply zat))), za7.bad' h2 hf⟩)
    | skip
  ·rw [if_neg h2]
   have h2 := Decidable.not_not.1 h2
   rw [h2] at hTr
   by_cases h3 : zc0 s.parties s.used qd qp a.qty ≠ 0
   ·rw [if_pos h3]
    generalize zc0 s.parties s.used qd qp a.qty = er at *
    unfold zai
    unfold zap
    refine zan Tryz.func108 rfl rfl Tryz.results108 Tryz.ntmps108 rfl rfl ?_
    repeat' (first | apply zae | apply zaa | apply zaj | apply zah | apply zad | apply zab hT; iterate 4 exact rfl | apply zaM [] [] hmix; decide +kernel | (apply zaK; (iterate 5 exact rfl); first | (fail_if_success (have q := g6)); intro g6 | intro g7) | (apply zac (hs := (hTr.mono (by (intro c hc; (repeat (first | exact hc | apply mcm )))))); iterate 7 exact rfl) | (apply zac (hs := (hRk.mono (zd0 (by (repeat (first | exact mcs | apply mcm ))) (by (repeat (first | exact mcs | apply mcm ))) (by (repeat (first | exact mcs | apply mcm )))))); iterate 7 exact rfl) | (apply zal; (iterate 5 exact rfl); first | (apply zaC hT; exact rfl; exact rfl; (repeat (first | exact mcs | apply mcm )); exact rfl; exact rfl) | (apply zaQ hT; exact rfl; exact rfl; (repeat (first | exact mcs | apply mcm )); exact rfl)) | (apply zag; iterate 2 exact rfl) | (apply zam; exact rfl; all_goals (intro hb; (try dsimp only at hb); (try simp only [hb]); (first | replace hb := odt hb | replace hb := odf hb | replace hb := zaD hb | replace hb := zaE hb ); (try omega))))
    all_goals first
     | (exfalso; omega)
     | (apply ret1; exact rfl; exact ⟨zap g who id0 o outs (zai x s bks rows F), by (unfold zap zai; (repeat (first | exact zar | (apply zay; · (repeat (first | exact sel0 | apply selS ))) | apply zat))), za7.bad' h3 hf⟩)
     | skip
   ·rw [if_neg h3]
    have h3 := Decidable.not_not.1 h3
    rw [h3] at hRk
    by_cases h4 : zfb a.id qi (s.now + s.look) s.asks ≠ 0
    ·rw [if_pos h4]
     have hsame : zdX a.id qi (s.now + s.look) s.asks = s.asks := by
      unfold zdX
      split
      ·rfl
      ·rw [if_neg h4]
     rw [hsame] at hLk
     generalize zfb a.id qi (s.now + s.look) s.asks = er at *
     unfold zai
     unfold zap
     refine zan Tryz.func108 rfl rfl Tryz.results108 Tryz.ntmps108 rfl rfl ?_
     repeat' (first | apply zae | apply zaa | apply zaj | apply zah | apply zad | apply zab hT; iterate 4 exact rfl | (apply zaN hT; (iterate 4 exact rfl); (iterate 2 (first | omega ))) | apply zaM [] [] hmix; decide +kernel | (apply zaK; (iterate 5 exact rfl); first | (fail_if_success (have q := g6)); intro g6 | intro g7) | (apply zac (hs := (hTr.mono (by (intro c hc; (repeat (first | exact hc | apply mcm )))))); iterate 7 exact rfl) | (apply zac (hs := (hRk.mono (zd0 (by (repeat (first | exact mcs | apply mcm ))) (by (repeat (first | exact mcs | apply mcm ))) (by (repeat (first | exact mcs | apply mcm )))))); iterate 7 exact rfl) | (apply zaz (hs := (zaB.perm (hLk _) (by (repeat (first | exact List.Perm.refl _ | (apply zaX; · (repeat (first | exact sel0 | apply selS ))) ))))); (iterate 7 exact rfl); rintro _ _ ⟨rfl, rfl⟩) | (apply zal; (iterate 5 exact rfl); first | (apply zaC hT; exact rfl; exact rfl; (repeat (first | exact mcs | apply mcm )); exact rfl; exact rfl) | (apply zaQ hT; exact rfl; exact rfl; (repeat (first | exact mcs | apply mcm )); exact rfl)) | (apply zag; iterate 2 exact rfl) | (apply zam; exact rfl; all_goals (intro hb; (try dsimp only at hb); (try simp only [hb]); (first | replace hb := odt hb | replace hb := odf hb | replace hb := zaD hb | replace hb := zaE hb ); (try omega))))
     all_goals first
      | (exfalso; omega)
      | (apply ret1; exact rfl; exact ⟨zap g who id0 o outs (zai x s bks rows F), by (unfold zap zai; (repeat (first | exact zar | (apply zay; · (repeat (first | exact sel0 | apply selS ))) | apply zat))), za7.bad' h4 hf⟩)
      | skip
    ·rw [if_neg h4]
     have h4 := Decidable.not_not.1 h4
     rw [h4] at hLk
     generalize hds : addD s.due ⟨s.now + s.look, 2, a.id⟩ = ds at *
     generalize has : zdX a.id qi (s.now + s.look) s.asks = as' at *
     unfold zai
     unfold zap
     refine zan Tryz.func108 rfl rfl Tryz.results108 Tryz.ntmps108 rfl rfl ?_
     repeat' (first | apply zae | apply zaa | apply zaj | apply zah | apply zad | apply zab hT; iterate 4 exact rfl | (apply zaN hT; (iterate 4 exact rfl); (iterate 2 (first | omega ))) | apply zaM [] [] hmix; decide +kernel | (apply zaK; (iterate 5 exact rfl); first | (fail_if_success (have q := g6)); intro g6 | intro g7) | (apply zac (hs := (hTr.mono (by (intro c hc; (repeat (first | exact hc | apply mcm | apply mar)))))); iterate 7 exact rfl) | (apply zac (hs := (hRk.mono (zd0 (by (repeat (first | exact mcs | apply mcm ))) (by (repeat (first | exact mcs | apply mcm ))) (by (repeat (first | exact mcs | apply mcm )))))); iterate 7 exact rfl) | (apply zaO hT (cs := Due.enc ⟨s.now + s.look, 2, a.id⟩); iterate 4 exact rfl) | (apply zaF hT; (iterate 6 exact rfl); (repeat (first | exact sel0 | apply selS )); (iterate 3 exact rfl); exact nle rfl) | (apply zaz (hs := (zaB.perm (hLk _) (by (repeat (first | exact List.Perm.refl _ | (apply zaX; · (repeat (first | exact sel0 | apply selS | apply zbO))) ))))); (iterate 7 exact rfl); rintro _ _ ⟨rfl, rfl⟩) | (apply zaz (hs := (zaB.perm (hAdd _) (by (repeat (first | exact List.Perm.refl _ | (apply zaX; · (repeat (first | exact sel0 | apply selS | apply zbO))) ))))); (iterate 7 exact rfl); rintro _ _ ⟨rfl, A4, c4, rfl⟩) | (apply zao (cs := [.int .i64 a.id, .int .i64 qi, .int .i64 (s.now + s.look)]) hT; (iterate 12 exact rfl); intro g91) | (apply zaz (hs := (zbZ W _ g who a.id o outs _ (some ⟨g91, 0, none⟩) 3 qd 24 [a.id, qi, s.now + s.look] (by (repeat (first | exact List.Perm.refl _ | (apply zaX; · (repeat (first | exact sel0 | apply selS ))) ))) (by (repeat (first | exact mcs ))) (Nat.le_of_ble_eq_true rfl) hbo)); (iterate 7 exact rfl); rintro _ _ ⟨rfl, o2, rfl⟩) | (apply zal; (iterate 5 exact rfl); first | (apply zaC hT; exact rfl; exact rfl; (repeat (first | exact mcs | apply mcm )); exact rfl; exact rfl) | (apply zaQ hT; exact rfl; exact rfl; (repeat (first | exact mcs | apply mcm )); exact rfl)) | (apply zag; iterate 2 exact rfl) | (apply zam; exact rfl; all_goals (intro hb; (try dsimp only at hb); (try simp only [hb]); (first | replace hb := odt hb | replace hb := odf hb ); (try omega))))
     all_goals first
      | (exfalso; omega)
      | (apply ret1; exact rfl; exact ⟨zap g who a.id o2 (outs ++ [outM qd 24 [a.id, qi, s.now + s.look]]) (zai (({ x with due := ⟨A4, c4⟩ } : DAd).at x.d) { s with asks := as', due := ds } bks rows F), by (unfold zap zai; (repeat (first | exact zar | (apply zay; · (repeat (first | exact sel0 | apply selS ))) | apply zat))), za7.ok' hf⟩)
      | skip
set_option maxHeartbeats 4000000 in
theorem zmZ (W : World) (F : List zax) (x : DAd) (s : Dk) (bks : List BAd) (rows : List PRow) (N : Nat) (hD : DOK N s) (hN : N ≤ 10000) (hf : za6 s bks rows) (g : Nat) (who id0 : Int) (o : Sp) (outs : List OutR) (m : MsgR) (hk : m.kind = 12) (hbo : outs.length ≤ 1000000) :
 zaB Tryz.prog W 63 [ptrV x.d, ptrV g, .agg m.enc.toArray] (zap g who id0 o outs (zai x s bks rows F)) (za7 x g who outs F (hitD s who m.f0)) := by
 refine zaB.dropTo ?_
 have hla : s.asks.length ≤ 1000000 := by have := hD.na; omega
 have hlq : s.quotes.length ≤ 1000000 := by have := hD.nq; omega
 have hG := zh3 W x.q x.quotes.A x.quotes.c s.quotes m.f0 hlq hD.upq
 unfold hitD
 rcases hg : getQ m.f0 s.quotes with _ | q
 ·rw [hg] at hG
  have hM := hG
  unfold zai
  unfold zap
  refine zan Tryz.func63 rfl rfl Tryz.results63 Tryz.ntmps63 rfl rfl ?_
  repeat' (first | apply zae | apply zaa | apply zaj | apply zad | apply zab hT; iterate 4 exact rfl | apply zaM [106, 109] [110] hmix; decide +kernel | apply zaK; (iterate 5 exact rfl); intro g5 | (apply zaI hT; (iterate 5 exact rfl); first | (fail_if_success (have q := g7)); intro g7) | (apply zaF hT; (iterate 6 exact rfl); (repeat (first | exact sel0 )); (iterate 3 exact rfl); exact nle rfl) | (apply zaZ hT; (iterate 9 exact rfl); (iterate 2 omega)) | (apply zac (hs := (hG.mono (zbx (by (repeat (first | exact mcs | apply mcm ))) (by (repeat (first | exact mcs | apply mcm )))))); iterate 7 exact rfl) | (apply zal; (iterate 5 exact rfl); first | (apply zaC hT; exact rfl; exact rfl; (repeat (first | exact mcs | apply mcm )); exact rfl; exact rfl) ) | (apply zak; iterate 2 exact rfl) | (apply zam; exact rfl; all_goals (intro hb; (try dsimp only at hb); (try simp only [hb]); (first | replace hb := odt hb | replace hb := odf hb ); (try omega))))
  all_goals first
   | (exfalso; omega)
   | (apply ret1; exact rfl; exact ⟨zap g who id0 o outs (zai x s bks rows F), by (unfold zap zai; (repeat (first | exact zar | (apply zay; · (repeat (first | exact sel0 | apply selS ))) | apply zat))), za7.bad' (by decide) hf⟩)
   | skip
 ·rw [hg] at hG
  dsimp only
  have hqO := hD.qs q (zib hg).1
  have hM := zgO W x s g who id0 q.ask (o.sl outs.length) hD.upa hla
  unfold zmN at hM
  by_cases h1 : zc3 s who q.ask ≠ 0
  ·rw [if_pos h1]
   rcases hga : getA q.ask s.asks with _ | a
   ·rw [hga] at hM
    dsimp only at hM
    have h4 : zc3 s who q.ask = 4 := by unfold zc3; rw [hga]
    rw [h4]
    unfold zai
    unfold zap
    refine zan Tryz.func63 rfl rfl Tryz.results63 Tryz.ntmps63 rfl rfl ?_
    repeat' (first | apply zae | apply zaa | apply zaj | apply zah | apply zad | apply zab hT; iterate 4 exact rfl | apply zaM [106, 109] [110] hmix; decide +kernel | apply zaK; (iterate 5 exact rfl); intro g5 | (apply zaI hT; (iterate 5 exact rfl); first | (fail_if_success (have q := g7)); intro g7 | (fail_if_success (have q := g9)); intro g9) | (apply zaF hT; (iterate 6 exact rfl); (repeat (first | exact sel0 )); (iterate 3 exact rfl); exact nle rfl) | (apply zaZ hT; (iterate 9 exact rfl); (iterate 2 omega)) | (apply zac (hs := (hG.mono (zbx (by (repeat (first | exact mcs | apply mcm ))) (by (repeat (first | exact mcs | apply mcm )))))); iterate 7 exact rfl) | (apply zac (hs := (hM.mono (zhd (by (repeat (first | exact mcs | apply mcm ))) (by (repeat (first | exact mcs | apply mcm ))) (by (repeat (first | exact mcs | apply mcm ))) (by (repeat (first | exact mcs | apply mcm )))))); iterate 7 exact rfl) | (apply zal; (iterate 5 exact rfl); first | (apply zaC hT; exact rfl; exact rfl; (repeat (first | exact mcs | apply mcm )); exact rfl; exact rfl) ) | (apply zak; iterate 2 exact rfl) | (apply zag; iterate 2 exact rfl) | (apply zam; exact rfl; all_goals (intro hb; (try dsimp only at hb); (try simp only [hb]); (first | replace hb := odt hb | replace hb := odf hb ); (try omega))))
    all_goals first
     | (exfalso; omega)
     | (apply ret1; exact rfl; exact ⟨zap g who id0 o outs (zai x s bks rows F), by (unfold zap zai; (repeat (first | exact zar | (apply zay; · (repeat (first | exact sel0 | apply selS ))) | apply zat))), za7.bad' (by decide) hf⟩)
     | skip
   ·rw [hga] at hM
    dsimp only at hM
    generalize zc3 s who q.ask = er at *
    unfold zai
    unfold zap
    refine zan Tryz.func63 rfl rfl Tryz.results63 Tryz.ntmps63 rfl rfl ?_
    repeat' (first | apply zae | apply zaa | apply zaj | apply zah | apply zad | apply zab hT; iterate 4 exact rfl | apply zaM [106, 109] [110] hmix; decide +kernel | apply zaK; (iterate 5 exact rfl); intro g5 | (apply zaI hT; (iterate 5 exact rfl); first | (fail_if_success (have q := g7)); intro g7 | (fail_if_success (have q := g9)); intro g9) | (apply zaF hT; (iterate 6 exact rfl); (repeat (first | exact sel0 )); (iterate 3 exact rfl); exact nle rfl) | (apply zaZ hT; (iterate 9 exact rfl); (iterate 2 omega)) | (apply zac (hs := (hG.mono (zbx (by (repeat (first | exact mcs | apply mcm ))) (by (repeat (first | exact mcs | apply mcm )))))); iterate 7 exact rfl) | (apply zac (hs := (hM.mono (zhd (by (repeat (first | exact mcs | apply mcm ))) (by (repeat (first | exact mcs | apply mcm ))) (by (repeat (first | exact mcs | apply mcm ))) (by (repeat (first | exact mcs | apply mcm )))))); iterate 7 exact rfl) | (apply zal; (iterate 5 exact rfl); first | (apply zaC hT; exact rfl; exact rfl; (repeat (first | exact mcs | apply mcm )); exact rfl; exact rfl) ) | (apply zag; iterate 2 exact rfl) | (apply zam; exact rfl; all_goals (intro hb; (try dsimp only at hb); (try simp only [hb]); (first | replace hb := odt hb | replace hb := odf hb | replace hb := zaD hb | replace hb := zaE hb ); (try omega))))
    all_goals first
     | (exfalso; omega)
     | (apply ret1; exact rfl; exact ⟨zap g who id0 o outs (zai x s bks rows F), by (unfold zap zai; (repeat (first | exact zar | (apply zay; · (repeat (first | exact sel0 | apply selS ))) | apply zat))), za7.bad' h1 hf⟩)
     | skip
  ·rw [if_neg h1]
   have h1 := Decidable.not_not.1 h1
   rcases hga : getA q.ask s.asks with _ | a
   ·exfalso
    unfold zc3 at h1
    rw [hga] at h1
    simp at h1
   ·rw [hga] at hM
    dsimp only at hM ⊢
    rw [h1] at hM
    have haO := hD.as_ a (zbH hga).1
    have hH := fun G => zkq W G x s bks rows N hD hN hf g who id0 o outs a q haO hqO hbo
    generalize hitQ s a q = r at *
    unfold zai
    unfold zap
    refine zan Tryz.func63 rfl rfl Tryz.results63 Tryz.ntmps63 rfl rfl ?_
    repeat' (first | apply zae | apply zaa | apply zaj | apply zah | apply zad | apply zab hT; iterate 4 exact rfl | apply zaM [106, 109] [110] hmix; decide +kernel | apply zaK; (iterate 5 exact rfl); intro g5 | (apply zaI hT; (iterate 5 exact rfl); first | (fail_if_success (have q := g7)); intro g7 | (fail_if_success (have q := g9)); intro g9) | (apply zaF hT; (iterate 6 exact rfl); (repeat (first | exact sel0 )); (iterate 3 exact rfl); exact nle rfl) | (apply zaZ hT; (iterate 9 exact rfl); (iterate 2 omega)) | (apply zac (hs := (hG.mono (zbx (by (repeat (first | exact mcs | apply mcm ))) (by (repeat (first | exact mcs | apply mcm )))))); iterate 7 exact rfl) | (apply zac (hs := (hM.mono (zhd (by (repeat (first | exact mcs | apply mcm ))) (by (repeat (first | exact mcs | apply mcm ))) (by (repeat (first | exact mcs | apply mcm ))) (by (repeat (first | exact mcs | apply mcm )))))); iterate 7 exact rfl) | (apply zaz (hs := (zaB.perm (hH _) (by (repeat (first | exact List.Perm.refl _ | (apply zaX; · (repeat (first | exact sel0 | apply selS ))) | (apply za0; · (repeat (first | exact zaP | apply zaT )))))))); (iterate 7 exact rfl); rintro _ _ ⟨rfl, y2, o2, bks2, rows2, id2, os2, rfl, hf2, hok2⟩) | (apply zal; (iterate 5 exact rfl); first | (apply zaC hT; exact rfl; exact rfl; (repeat (first | exact mcs | apply mcm )); exact rfl; exact rfl) | (apply zaQ hT; exact rfl; exact rfl; (repeat (first | exact mcs | apply mcm )); exact rfl)) | (apply zag; iterate 2 exact rfl) | (apply zam; exact rfl; all_goals (intro hb; (try dsimp only at hb); (try simp only [hb]); (first | replace hb := odt hb | replace hb := odf hb ); (try omega))))
    all_goals first
     | (exfalso; omega)
     | (apply ret1; exact rfl; exact ⟨zap g who id2 o2 os2 (zai (y2.at x.d) r.d bks2 rows2 F), by (unfold zap zai; (repeat (first | exact zar | (apply zay; · (repeat (first | exact sel0 ))) | apply zat | apply zdN))), rfl, y2, o2, bks2, rows2, id2, os2, rfl, hf2, hok2⟩)
     | skip
theorem zi0 {s : Int} : ∀ (l : List zaG) (x : zaG), l.foldl (zhY s) x = x ∨ l.foldl (zhY s) x ∈ l
 | [], x => .inl rfl
 | y :: l, x => by
   rw [List.foldl_cons]
   have hq : zhY s x y = x ∨ zhY s x y = y := by unfold zhY; split <;> simp
   rcases zi0 l (zhY s x y) with h | h
   ·rw [h]
    rcases hq with h | h <;> rw [h]
    ·exact .inl rfl
    ·exact .inr mcs
   ·exact .inr (mcm _ h)
theorem zof {s : Int} {l : List zaG} {q : zaG} (h : zh0 s l = some q) : q ∈ l := by
 unfold zh0 at h
 split at h
 ·split at h
  ·cases h
  ·rename_i x r
   cases h
   unfold zhZ
   rcases zi0 (s := s) (x :: r) x with h | h
   ·rw [h]; exact mcs
   ·exact h
 ·cases h
set_option maxHeartbeats 4000000 in
theorem zk9 (W : World) (F : List zax) (x : DAd) (s : Dk) (bks : List BAd) (rows : List PRow) (N : Nat) (hD : DOK N s) (hN : N ≤ 10000) (hf : za6 s bks rows) (g : Nat) (who id0 : Int) (o : Sp) (outs : List OutR) (m : MsgR) (hk : m.kind = 13) (hbo : outs.length ≤ 1000000) :
 zaB Tryz.prog W 63 [ptrV x.d, ptrV g, .agg m.enc.toArray] (zap g who id0 o outs (zai x s bks rows F)) (za7 x g who outs F (zha s who m.f0)) := by
 refine zaB.dropTo ?_
 have hla : s.asks.length ≤ 1000000 := by have := hD.na; omega
 have hlq : s.quotes.length ≤ 1000000 := by have := hD.nq; omega
 have hM := zgO W x s g who id0 m.f0 (o.sl outs.length) hD.upa hla
 have hG := hM
 unfold zmN at hM
 unfold zha
 by_cases h1 : zc3 s who m.f0 ≠ 0
 ·rw [if_pos h1]
  rcases hga : getA m.f0 s.asks with _ | a
  ·rw [hga] at hM
   dsimp only at hM
   have h4 : zc3 s who m.f0 = 4 := by unfold zc3; rw [hga]
   rw [h4]
   unfold zai
   unfold zap
   refine zan Tryz.func63 rfl rfl Tryz.results63 Tryz.ntmps63 rfl rfl ?_
   repeat' (first | apply zae | apply zaa | apply zaj | apply zah | apply zad | apply zab hT; iterate 4 exact rfl | apply zaK; (iterate 5 exact rfl); intro g5 | (apply zaI hT; (iterate 5 exact rfl); first | (fail_if_success (have q := g7)); intro g7) | (apply zaF hT; (iterate 6 exact rfl); (repeat (first | exact sel0 )); (iterate 3 exact rfl); exact nle rfl) | (apply zaZ hT; (iterate 9 exact rfl); (iterate 2 omega)) | (apply zac (hs := (hM.mono (zhd (by (repeat (first | exact mcs | apply mcm ))) (by (repeat (first | exact mcs | apply mcm ))) (by (repeat (first | exact mcs | apply mcm ))) (by (repeat (first | exact mcs | apply mcm )))))); iterate 7 exact rfl) | (apply zal; (iterate 5 exact rfl); first | (apply zaC hT; exact rfl; exact rfl; (repeat (first | exact mcs )); exact rfl; exact rfl) ) | (apply zak; iterate 2 exact rfl) | (apply zam; exact rfl; all_goals (intro hb; (try dsimp only at hb); (try simp only [hb]); (first | replace hb := odt hb | replace hb := odf hb ); (try omega))))
   all_goals first
    | (exfalso; omega)
    | (apply ret1; exact rfl; exact ⟨zap g who id0 o outs (zai x s bks rows F), by (unfold zap zai; (repeat (first | exact zar | (apply zay; · (repeat (first | exact sel0 | apply selS ))) | apply zat))), za7.bad' (by decide) hf⟩)
    | skip
  ·rw [hga] at hM
   dsimp only at hM
   generalize zc3 s who m.f0 = er at *
   unfold zai
   unfold zap
   refine zan Tryz.func63 rfl rfl Tryz.results63 Tryz.ntmps63 rfl rfl ?_
   repeat' (first | apply zae | apply zaa | apply zaj | apply zah | apply zad | apply zab hT; iterate 4 exact rfl | apply zaK; (iterate 5 exact rfl); intro g5 | (apply zaI hT; (iterate 5 exact rfl); first | (fail_if_success (have q := g7)); intro g7) | (apply zaF hT; (iterate 6 exact rfl); (repeat (first | exact sel0 )); (iterate 3 exact rfl); exact nle rfl) | (apply zaZ hT; (iterate 9 exact rfl); (iterate 2 omega)) | (apply zac (hs := (hM.mono (zhd (by (repeat (first | exact mcs | apply mcm ))) (by (repeat (first | exact mcs | apply mcm ))) (by (repeat (first | exact mcs | apply mcm ))) (by (repeat (first | exact mcs | apply mcm )))))); iterate 7 exact rfl) | (apply zal; (iterate 5 exact rfl); first | (apply zaC hT; exact rfl; exact rfl; (repeat (first | exact mcs )); exact rfl; exact rfl) ) | (apply zam; exact rfl; all_goals (intro hb; (try dsimp only at hb); (try simp only [hb]); (first | replace hb := odt hb | replace hb := odf hb | replace hb := zaD hb | replace hb := zaE hb ); (try omega))))
   all_goals first
    | (exfalso; omega)
    | (apply ret1; exact rfl; exact ⟨zap g who id0 o outs (zai x s bks rows F), by (unfold zap zai; (repeat (first | exact zar | (apply zay; · (repeat (first | exact sel0 | apply selS ))) | apply zat))), za7.bad' h1 hf⟩)
    | skip
 ·rw [if_neg h1]
  have h1 := Decidable.not_not.1 h1
  rcases hga : getA m.f0 s.asks with _ | a
  ·exfalso
   unfold zc3 at h1
   rw [hga] at h1
   simp at h1
  ·rw [hga] at hM
   dsimp only at hM ⊢
   rw [h1] at hM
   have haO := hD.as_ a (zbH hga).1
   have hLv := fun h m1 m2 => zmY W h x.q x.quotes.A x.quotes.c s.quotes a.id s.now m1 m2 hlq
   have hmemL : ∀ q ∈ s.quotes.filter (zcy a.id s.now), zcV s q := fun q hq => hD.qs q ((List.mem_filter.1 hq).1)
   have hlen : (s.quotes.filter (zcy a.id s.now)).length ≤ 1000000 := Nat.le_trans (List.length_filter_le _ _) hlq
   generalize s.quotes.filter (zcy a.id s.now) = lv at *
   have hBs := fun h A c hr => zl2 W h A c lv a.side hr hlen
   rcases hbv : zh0 a.side lv with _ | q
   ·rw [hbv] at hBs
    dsimp only
    unfold zai
    unfold zap
    refine zan Tryz.func63 rfl rfl Tryz.results63 Tryz.ntmps63 rfl rfl ?_
    repeat' (first | apply zae | apply zaa | apply zaj | apply zah | apply zad | apply zab hT; iterate 4 exact rfl | (apply zb8 [109] [110] (.step 0 <| .step 1 <| .step 2 <| .step 3 <| .step 4 <| .step 5 <| .step 6 <| .step 7 <| .step 8 <| .step 9 <| .step 10 <| .step 11 <| .alt (.step 12 <| .step 13 <| .step 14 <| .step 15 <| .step 16 <| .step 17 <| .step 18 <| .step 19 <| .nil) ((.step 17 <| .step 12 <| .step 13 <| .step 14 <| .step 15 <| .step 16 <| .step 18 <| .step 19 <| .nil))) hmix; decide +kernel) | apply zcX | apply zeZ | apply zbN; exact rfl | apply zaK; (iterate 5 exact rfl); intro g5 | (apply zaI hT; (iterate 5 exact rfl); first | (fail_if_success (have q := g7)); intro g7 | (fail_if_success (have q := g9)); intro g9) | (apply zaF hT; (iterate 6 exact rfl); (repeat (first | exact sel0 | apply selS )); (iterate 3 exact rfl); exact nle rfl) | (apply zaZ hT; (iterate 9 exact rfl); (iterate 2 omega)) | (apply zac (hs := (hM.mono (zhd (by (repeat (first | exact mcs | apply mcm ))) (by (repeat (first | exact mcs | apply mcm ))) (by (repeat (first | exact mcs | apply mcm ))) (by (repeat (first | exact mcs | apply mcm )))))); iterate 7 exact rfl) | (apply zdg (hs := (hLv _ (by (repeat (first | exact mcs | apply mcm ))) (by (repeat (first | exact mcs | apply mcm ))))); (iterate 7 exact rfl); (rintro _ _ ⟨A9, c9, rfl, rfl, hf9⟩; refine ⟨[_], rfl, ?_⟩)) | (apply zac (hs := ((hBs _ A9 c9 (hf9.reads mem0)).mono (by (intro c hc; (repeat (first | exact hc )))))); iterate 7 exact rfl) | (apply zal; (iterate 5 exact rfl); first | (apply zaC hT; exact rfl; exact rfl; (repeat (first | exact mcs | apply mcm )); exact rfl; exact rfl) ) | (apply zak; iterate 2 exact rfl) | (apply zag; iterate 2 exact rfl) | (apply zam; exact rfl; all_goals (intro hb; (try dsimp only at hb); (try simp only [hb]); (first | replace hb := odt hb | replace hb := odf hb ); (try omega))))
    all_goals first
     | (exfalso; omega)
     | (apply ret1; exact rfl; exact ⟨zap g who id0 o outs (zai x s bks rows F), by (unfold zap zai; (repeat (first | exact zar | (apply zay; · (repeat (first | exact sel0 | apply selS ))) | apply zat))), za7.bad' (by decide) hf⟩)
     | skip
   ·rw [hbv] at hBs
    dsimp only
    have hqO := hmemL q (zof hbv)
    have hH := fun G => zkq W G x s bks rows N hD hN hf g who id0 o outs a q haO hqO hbo
    generalize hitQ s a q = r at *
    unfold zai
    unfold zap
    refine zan Tryz.func63 rfl rfl Tryz.results63 Tryz.ntmps63 rfl rfl ?_
    repeat' (first | apply zae | apply zaa | apply zaj | apply zah | apply zad | apply zab hT; iterate 4 exact rfl | (apply zb8 [109] [110] (.step 0 <| .step 1 <| .step 2 <| .step 3 <| .step 4 <| .step 5 <| .step 6 <| .step 7 <| .step 8 <| .step 9 <| .step 10 <| .step 11 <| .alt (.step 12 <| .step 13 <| .step 14 <| .step 15 <| .step 16 <| .step 17 <| .step 18 <| .step 19 <| .nil) ((.step 17 <| .step 12 <| .step 13 <| .step 14 <| .step 15 <| .step 16 <| .step 18 <| .step 19 <| .nil))) hmix; decide +kernel) | apply zcX | apply zeZ | apply zbN; exact rfl | apply zaK; (iterate 5 exact rfl); intro g5 | (apply zaI hT; (iterate 5 exact rfl); first | (fail_if_success (have q := g7)); intro g7 | (fail_if_success (have q := g9)); intro g9) | (apply zaF hT; (iterate 6 exact rfl); (repeat (first | exact sel0 | apply selS )); (iterate 3 exact rfl); exact nle rfl) | (apply zaZ hT; (iterate 9 exact rfl); (iterate 2 omega)) | (apply zac (hs := (hM.mono (zhd (by (repeat (first | exact mcs | apply mcm ))) (by (repeat (first | exact mcs | apply mcm ))) (by (repeat (first | exact mcs | apply mcm ))) (by (repeat (first | exact mcs | apply mcm )))))); iterate 7 exact rfl) | (apply zdg (hs := (hLv _ (by (repeat (first | exact mcs | apply mcm ))) (by (repeat (first | exact mcs | apply mcm ))))); (iterate 7 exact rfl); (rintro _ _ ⟨A9, c9, rfl, rfl, hf9⟩; refine ⟨[_], rfl, ?_⟩)) | (apply zac (hs := ((hBs _ A9 c9 (hf9.reads mem0)).mono (by (intro c hc; (repeat (first | exact hc | apply mcm )))))); iterate 7 exact rfl) | (apply zaz (hs := (zaB.perm (hH _) (by (repeat (first | exact List.Perm.refl _ | (apply zaX; · (repeat (first | exact sel0 | apply selS ))) | (apply za0; · (repeat (first | exact zaP | apply zaT )))))))); (iterate 7 exact rfl); rintro _ _ ⟨rfl, y2, o2, bks2, rows2, id2, os2, rfl, hf2, hok2⟩) | (apply zal; (iterate 5 exact rfl); first | (apply zaC hT; exact rfl; exact rfl; (repeat (first | exact mcs | apply mcm )); exact rfl; exact rfl) | (apply zaQ hT; exact rfl; exact rfl; (repeat (first | exact mcs | apply mcm )); exact rfl)) | (apply zag; iterate 2 exact rfl) | (apply zam; exact rfl; all_goals (intro hb; (try dsimp only at hb); (try simp only [hb]); (first | replace hb := odt hb | replace hb := odf hb ); (try omega))))
    all_goals first
     | (exfalso; omega)
     | (apply ret1; exact rfl; exact ⟨zap g who id2 o2 os2 (zai (y2.at x.d) r.d bks2 rows2 F), by (unfold zap zai; (repeat (first | exact zar | (apply zay; · (repeat (first | exact sel0 ))) | apply zat | apply zdN))), rfl, y2, o2, bks2, rows2, id2, os2, rfl, hf2, hok2⟩)
     | skip
end Go.Proofs.YtakilgkpfjhfdaaGreat
