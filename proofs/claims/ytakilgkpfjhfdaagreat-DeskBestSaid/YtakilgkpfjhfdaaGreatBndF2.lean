/- The statements' walks, and what they stand on, joined into few texts: part 2. Conditions stand in each statement. -/
import Derived.Test.YtakilgkpfjhfdaaGreatBndF1
set_option linter.all false
namespace Go.Proofs.YtakilgkpfjhfdaaGreat
open Go Go.Sl
attribute [local irreducible] AW ES EP Ld RetQ
set_option maxRecDepth 100000
def zj9 (s : Int) (a b : zaG) : Bool := if a.price = b.price then decide (a.id < b.id) else zct (zcG s) a.price b.price
theorem zkK (W : World) (s : Int) (a b : zaG) : zaL Tryz.prog W 153 [.int .i64 s, .agg a.enc.toArray, .agg b.enc.toArray] [] (.bool (zj9 s a b)) := by
 refine zaL.ofD (fun h' hs => ?_)
 have hO := zfB W s
 have hBt := zgj W (zcG s) a.price b.price
 refine zan Tryz.func153 rfl rfl Tryz.results153 Tryz.ntmps153 rfl rfl ?_
 repeat' (first | apply zae | apply zaa | apply zaj | apply zah | apply zad | apply zab hT; iterate 4 exact rfl | apply zaM [178, 70] [] hmix; decide +kernel | (apply zac (hs := (hO.mono (by simp))); iterate 7 exact rfl) | (apply zac (hs := (hBt.mono (by simp))); iterate 7 exact rfl) | (apply zal; (iterate 5 exact rfl); first | (apply zaC hT; exact rfl; exact rfl; (repeat (first | exact mcs | apply mcm)); exact rfl; exact rfl) ) | apply zaK; (iterate 5 exact rfl); intro _ | (apply zam; exact rfl; all_goals (intro hb; (try simp only [hb]); (first | replace hb := odt hb | replace hb := odf hb ); (try omega))))
 all_goals
  apply ret1; exact rfl
  refine ⟨?_, by (repeat (first | exact zar | apply zat))⟩
  simp [zj9, *]
def zhY (s : Int) (b q : zaG) : zaG := if zj9 s q b then q else b
def zhZ (s : Int) (x : zaG) (l : List zaG) : zaG := l.foldl (zhY s) x
theorem zkL {s : Int} {x y : zaG} {l : List zaG} {k : Nat} (h : l[k]? = some y) : zhZ s x (l.take (k + 1)) = zhY s (zhZ s x (l.take k)) y := by
 rw [zhZ, List.take_add_one, h, List.foldl_append]; rfl
def zpD : zaG := ⟨0, 0, 0, 0, 0, false⟩
def gotQ : Option zaG → Value
 | some x => .tuple #[.agg x.enc.toArray, .bool true]
 | none => .tuple #[.agg zpD.enc.toArray, .bool false]
def zh0 (s : Int) (l : List zaG) : Option zaG := if isB s then (match l with
 | [] => none
 | x :: r => some (zhZ s x (x :: r))) else none
set_option maxHeartbeats 1000000 in
theorem zl2 (W : World) (h : List zax) (A : Option Addr) (c : Nat) (l : List zaG) (s : Int) (hr : zaJ W h A l.length 6 (l.flatMap zaG.enc)) (hb : l.length ≤ 1000000) :
 zaL Tryz.prog W 109 [.int .i64 s, .slice A l.length c] h (gotQ (zh0 s l)) := by
 refine zaL.ofD (fun h' hs => ?_)
 have hr := hr.mono hs
 have hI := zd7 W s
 refine zan Tryz.func109 rfl rfl Tryz.results109 Tryz.ntmps109 rfl rfl ?_
 refine zaU hr (by rfl) (fun hA => ?_)
 cases hB : isB s
 ·rw [hB] at hI
  repeat' (first | apply zae | apply zaa | apply zaj | apply zad | apply zab hT; iterate 4 exact rfl | apply zaq; iterate 3 exact rfl | apply zaI hT; (iterate 5 exact rfl); intro g4 | (apply zac (hs := (hI.mono (by simp))); iterate 7 exact rfl) | apply zb7 hT; iterate 4 exact rfl | (apply zaF hT; (iterate 6 exact rfl); (repeat (first | exact sel0 )); (iterate 3 exact rfl); exact nle rfl) | apply zak; iterate 2 exact rfl)
  all_goals first
   | (exfalso; omega)
   | (apply zew; exact rfl; exact zaQ hT rfl rfl mem0 rfl; exact rfl; exact ⟨by simp [zh0, hB]; rfl, by (repeat (first | exact zar | apply zat))⟩)
 rw [hB] at hI
 cases l with
 | nil =>
   have hd : (((([] : List zaG).length : Nat) : Int) == 0) = true := by decide
   repeat' (first | apply zae | apply zaa | apply zaj | apply zad | apply zab hT; iterate 4 exact rfl | apply zaI hT; (iterate 5 exact rfl); intro g4 | (apply zac (hs := (hI.mono (by simp))); iterate 7 exact rfl) | apply zb7 hT; iterate 4 exact rfl | (apply zaF hT; (iterate 6 exact rfl); (repeat (first | exact sel0 )); (iterate 3 exact rfl); exact nle rfl) | apply zak; iterate 2 exact rfl)
   all_goals first
    | (exfalso; omega)
    | (apply zew; exact rfl; exact zaQ hT rfl rfl mem0 rfl; exact rfl; exact ⟨by simp [zh0, hB]; rfl, by (repeat (first | exact zar | apply zat))⟩)
    | (exfalso; simp at hb; done)
 | cons x0 r =>
   have hv : zh0 s (x0 :: r) = some (zhZ s x0 (x0 :: r)) := by simp [zh0, hB]
   rw [hv]
   have h0 : (x0 :: r)[(0 : Int).toNat]? = some x0 := rfl
   generalize hl : x0 :: r = l at *
   have hpos : 0 < l.length := by rw [← hl]; simp
   have hA := hA hpos
   have hd : (((l.length : Nat) : Int) == 0) = false := beq_eq_false_iff_ne.2 (by omega)
   repeat' (first | apply zae | apply zaa | apply zah | apply zaf | apply zad | apply zab hT; iterate 4 exact rfl | apply zaI hT; (iterate 5 exact rfl); intro g4 | (apply zac (hs := (hI.mono (by simp))); iterate 7 exact rfl) | apply zaS hT; (iterate 8 exact rfl); (iterate 2 omega); exact hA | apply zal; (iterate 5 exact rfl); exact zaY hT rfl rfl (hr.mono (fun _ h => .tail _ h)) zaG.enc_len rfl h0 rfl | (apply zaF hT; (iterate 6 exact rfl); (repeat (first | exact sel0 )); (iterate 3 exact rfl); exact nle rfl) | (apply zam; exact rfl; all_goals (intro hb; (try simp only [hb]); (first | replace hb := odt hb | replace hb := odf hb ); (try omega))))
   all_goals try omega
   rename_i g0
   refine zbj (α := Nat) (E := fun k => [(0, .int .i64 s), (4, .pointer (some ⟨g0, 0, none⟩)), (6, .pointer (some ⟨g4, 0, none⟩)), (21, .slice A l.length c), (22, .int .i64 l.length), (23, .int .i64 k)])
    (H := fun k => .blk g4 115 (zhZ s x0 (l.take k)).enc :: .blk g0 115 zpD.enc :: h') (μ := fun k => l.length - k)
    (S := fun k => k ≤ l.length) 0 (Nat.zero_le _) ⟨rfl, rfl, rfl, rfl, rfl, rfl, trivial⟩ (by rw [List.take_zero, show zhZ s x0 [] = x0 from rfl]; (repeat (first | exact zar))) ?_
   intro k hk
   by_cases hlt : k < l.length
   ·obtain ⟨y, hy⟩ : ∃ y, l[k]? = some y := ⟨l[k]'(by omega), List.getElem?_eq_getElem (by omega)⟩
    have hy2 : l[(k : Int).toNat]? = some y := by simpa using hy
    have hd1 : decide ((k : Int) < (l.length : Int)) = true := by simp; omega
    have hst := zkL (s := s) (x := x0) hy
    generalize zhZ s x0 (l.take k) = bk at hst ⊢
    have hah := zkK W s y bk
    unfold zhY at hst
    cases hc : zj9 s y bk
    ·rw [hc] at hah hst
     rw [if_neg (by decide)] at hst
     repeat' (first | apply zae | apply zaa | apply zah | apply zaf | apply zad | apply zab hT; iterate 4 exact rfl | apply zaN hT; (iterate 4 exact rfl); (iterate 2 omega) | apply zaS hT; (iterate 8 exact rfl); (iterate 2 omega); exact hA | apply zal; (iterate 5 exact rfl); exact zaY hT rfl rfl (hr.mono (fun _ h => .tail _ (.tail _ h))) zaG.enc_len rfl hy2 rfl | apply zaI hT; (iterate 5 exact rfl); intro g8 | (apply zac (hs := (hah.mono (by simp))); iterate 7 exact rfl) | (apply zaF hT; (iterate 6 exact rfl); (repeat (first | exact sel0 )); (iterate 3 exact rfl); exact nle rfl) | (apply zal; (iterate 5 exact rfl); first | (apply zaQ hT; exact rfl; exact rfl; (repeat (first | exact mcs | apply mcm)); exact rfl)) | apply zag; iterate 2 exact rfl | (apply zam; exact rfl; all_goals (intro hb; (try simp only [hb]); (first | replace hb := odt hb | replace hb := odf hb ); (try omega))))
     all_goals first
      | (exfalso; omega)
      | (refine zaR (k + 1) (by (try dsimp only); omega) (by (try dsimp only); omega) ⟨rfl, rfl, rfl, rfl, rfl, rfl, trivial⟩ ?_
         (try dsimp only)
         rw [hst]
         (repeat (first | exact zar | (apply zay; · (repeat (first | exact sel0 | apply selS))) | apply zat)))
      | (apply zdh; refine zaR (k + 1) (by (try dsimp only); omega) (by (try dsimp only); omega) ⟨rfl, rfl, rfl, rfl, rfl, rfl, trivial⟩ ?_
         (try dsimp only)
         rw [hst]
         (repeat (first | exact zar | (apply zay; · (repeat (first | exact sel0 | apply selS))) | apply zat)))
      | skip
    ·rw [hc] at hah hst
     rw [if_pos rfl] at hst
     repeat' (first | apply zae | apply zaa | apply zah | apply zaf | apply zad | apply zab hT; iterate 4 exact rfl | apply zaN hT; (iterate 4 exact rfl); (iterate 2 omega) | apply zaS hT; (iterate 8 exact rfl); (iterate 2 omega); exact hA | apply zal; (iterate 5 exact rfl); exact zaY hT rfl rfl (hr.mono (fun _ h => .tail _ (.tail _ h))) zaG.enc_len rfl hy2 rfl | apply zaI hT; (iterate 5 exact rfl); intro g8 | (apply zac (hs := (hah.mono (by simp))); iterate 7 exact rfl) | (apply zaF hT; (iterate 6 exact rfl); (repeat (first | exact sel0 | apply selS)); (iterate 3 exact rfl); exact nle rfl) | (apply zal; (iterate 5 exact rfl); first | (apply zaQ hT; exact rfl; exact rfl; (repeat (first | exact mcs | apply mcm)); exact rfl)) | apply zak; iterate 2 exact rfl | (apply zam; exact rfl; all_goals (intro hb; (try simp only [hb]); (first | replace hb := odt hb | replace hb := odf hb ); (try omega))))
     all_goals first
      | (exfalso; omega)
      | (refine zaR (k + 1) (by (try dsimp only); omega) (by (try dsimp only); omega) ⟨rfl, rfl, rfl, rfl, rfl, rfl, trivial⟩ ?_
         (try dsimp only)
         rw [hst]
         (repeat (first | exact zar | (apply zay; · (repeat (first | exact sel0 | apply selS))) | apply zat)))
      | (apply zdh; refine zaR (k + 1) (by (try dsimp only); omega) (by (try dsimp only); omega) ⟨rfl, rfl, rfl, rfl, rfl, rfl, trivial⟩ ?_
         (try dsimp only)
         rw [hst]
         (repeat (first | exact zar | (apply zay; · (repeat (first | exact sel0 | apply selS))) | apply zat)))
      | skip
   ·obtain rfl : k = l.length := by omega
    have hd1 : decide ((l.length : Int) < (l.length : Int)) = false := by simp
    rw [List.take_length]
    repeat' (first | apply zae | apply zaa | apply zaj | apply zas | apply zad | apply zab hT; iterate 4 exact rfl | (apply zaF hT; (iterate 6 exact rfl); (repeat (first | exact sel0 | apply selS)); (iterate 3 exact rfl); exact nle rfl) | (apply zal; (iterate 5 exact rfl); first | (apply zaQ hT; exact rfl; exact rfl; (repeat (first | exact mcs )); exact rfl)) | (apply zam; exact rfl; all_goals (intro hb; (try simp only [hb]); (first | replace hb := odt hb | replace hb := odf hb ); (try omega))))
    all_goals first
     | (exfalso; omega)
     | (apply zew; exact rfl; exact zaQ hT rfl rfl mem0 rfl; exact rfl; exact ⟨rfl, by (repeat (first | exact zar | apply zat))⟩)
     | skip
end Go.Proofs.YtakilgkpfjhfdaaGreat
namespace Go.Proofs.YtakilgkpfjhfdaaGreat
open Go Go.Sl
attribute [local irreducible] AW ES Ld RetQ
set_option maxRecDepth 100000
theorem zg9 (W : World) (h : List zax) (A : Option Addr) (n c : Nat) (l : List zaG) (hn : l.length = n) (hr : zaJ W h A n 6 (l.flatMap zaG.enc)) (fn : FuncId) (cap : List Value) (p : zaG → Bool)
 (hf : ∀ x ∈ l, zaL Tryz.prog W fn ([.agg x.enc.toArray] ++ cap) h (.bool (p x))) (hb : n ≤ 4611686018427387903) :
 zaL Tryz.prog W 192 [.slice A n c, .func (.func fn) #[] cap.toArray] h (.int .i64 (za4 p l)) := by
 refine zaL.of (fun h' hs => ?_)
 have hr' := hr.mono hs
 refine zan Tryz.func192 rfl rfl Tryz.results192 Tryz.ntmps192 rfl rfl ?_
 refine zaU hr' rfl (fun hA => ?_)
 repeat' (first | apply zae | apply zaa | apply zaf | apply zad | apply zab hT; iterate 4 exact rfl)
 refine zbU (α := Nat) (E := fun k => [(0, .slice A n c), (1, .func (.func fn) #[] cap.toArray), (7, .int .i64 n), (8, .int .i64 k)]) (H := fun _ => h') (μ := fun k => n - k)
  (S := fun k => k ≤ n ∧ ∀ (j : Nat) y, j < k → l[j]? = some y → p y = false) 0 (J := []) ⟨Nat.zero_le _, fun j y hj => by omega⟩ ⟨rfl, rfl, rfl, rfl, trivial⟩ (List.Perm.refl _) ?_
 rintro k ⟨hk1, hk2⟩
 by_cases hlt : k < n
 ·obtain ⟨x, hx⟩ : ∃ x, l[k]? = some x := ⟨l[k]'(by omega), List.getElem?_eq_getElem (by omega)⟩
  have hx2 : l[(k : Int).toNat]? = some x := by simpa using hx
  have hfx := (hf x (List.mem_of_getElem? hx)).mono hs
  have hA' := hA (by omega)
  repeat' (first | apply zae | apply zaa | apply zaj | apply zah | apply zaf | apply zad | apply zab hT; iterate 4 exact rfl | apply zaN hT; (iterate 4 exact rfl); (iterate 2 omega) | apply zaS hT; (iterate 8 exact rfl); (iterate 2 omega); exact hA' | apply zal; (iterate 5 exact rfl); exact zaY hT rfl rfl hr' zaG.enc_len rfl hx2 rfl | apply zac (hs := hfx); iterate 7 exact rfl | (apply zam; exact rfl; all_goals (intro hb; (try simp only [hb]); (first | replace hb := odt hb | replace hb := odf hb | skip); (try omega))))
  ·exact zch (J := []) rfl (by rw [zdK hx hb hk2]) (List.Perm.refl _)
  ·have hpx := hb
   refine ⟨k + 1, [], by dsimp only; omega, ⟨by omega, fun j y hj hy => ?_⟩, ⟨rfl, rfl, rfl, rfl, trivial⟩, List.Perm.refl _⟩
   by_cases hjk : j < k
   ·exact hk2 j y hjk hy
   ·obtain rfl : j = k := by omega
    rw [hx] at hy; cases hy; exact hpx
 ·repeat' (first | apply zae | apply zaa | apply zaj | apply zas | apply zad | apply zab hT; iterate 4 exact rfl | (apply zam; exact rfl; all_goals (intro hb; (try simp only [hb]); (first | replace hb := odt hb | replace hb := odf hb ); (try omega))))
  exact zch (J := []) rfl (by rw [zcc (fun (j : Nat) y hj => hk2 j y (by have := (List.getElem?_eq_some_iff.1 hj).1; omega) hj)]) (List.Perm.refl _)
theorem ziF (W : World) (h : List zax) (A : Option Addr) (n c : Nat) (l : List zaG) (hn : l.length = n) (hr : zaJ W h A n 6 (l.flatMap zaG.enc)) (tgt : Value) (htg : ∃ a, tgt = .int .i64 a) (fn : FuncId) (cap : List Value) (cf : zaG → Int)
 (hf : ∀ x ∈ l, zaL Tryz.prog W fn ([.agg x.enc.toArray, tgt] ++ cap) h (.int .i64 (cf x))) (hmono : ∀ (i j : Nat) x y, i ≤ j → l[i]? = some x → l[j]? = some y → cf y < 0 → cf x < 0) (hb : n ≤ 2305843009213693951) :
 zaL Tryz.prog W 131 [.slice A n c, tgt, .func (.func fn) #[] cap.toArray] h (.tuple #[.int .i64 (bsN cf l), .bool (bsB cf l)]) := by
 obtain ⟨ta, rfl⟩ := htg
 refine zaL.of (fun h' hs => ?_)
 have hr' := hr.mono hs
 refine zan Tryz.func131 rfl rfl Tryz.results131 Tryz.ntmps131 rfl rfl ?_
 refine zaU hr' rfl (fun hA => ?_)
 repeat' (first | apply zae | apply zaa | apply zaf | apply zad | apply zab hT; iterate 4 exact rfl)
 refine zbU (α := Int × Int) (E := fun p => [(0, .slice A n c), (2, .func (.func fn) #[] cap.toArray), (1, .int .i64 ta), (8, .int .i64 n), (9, .int .i64 p.1), (10, .int .i64 p.2)]) (H := fun _ => _) (μ := fun p => (p.2 - p.1).toNat)
  (S := fun p => 0 ≤ p.1 ∧ p.1 ≤ p.2 ∧ p.2 ≤ n ∧ (∀ (k : Nat) y, (k : Int) < p.1 → l[k]? = some y → cf y < 0) ∧ (∀ (k : Nat) y, p.2 ≤ (k : Int) → l[k]? = some y → ¬ cf y < 0)) (0, (n : Int)) (J := [])
  ⟨by simp, by simp, by simp, fun k y hk => by simp at hk; omega, fun k y hk hy => by have := (List.getElem?_eq_some_iff.1 hy).1; simp at hk; omega⟩ ⟨rfl, rfl, rfl, rfl, rfl, rfl, trivial⟩ (List.Perm.refl _) ?_
 rintro ⟨i, j⟩ ⟨s1, s2, s3, s4, s5⟩
 simp only at s1 s2 s3 s4 s5
 by_cases hlt : i < j
 ·obtain ⟨m, hm⟩ : ∃ m : Nat, (i + j) / 2 = (m : Int) := ⟨((i + j) / 2).toNat, by omega⟩
  have hm2 : ((i + j) / 2).toNat = m := by omega
  obtain ⟨x, hx⟩ : ∃ x, l[m]? = some x := ⟨l[m]'(by omega), List.getElem?_eq_getElem (by omega)⟩
  have hx2 : l[((i + j) / 2).toNat]? = some x := by rw [hm2]; exact hx
  have hfx := (hf x (List.mem_of_getElem? hx)).mono hs
  have hA' := hA (by omega)
  repeat' (first | apply zae | apply zaa | apply zah | apply zaf | apply zad | apply zab hT; iterate 4 exact rfl | apply zaN hT; (iterate 4 exact rfl); (iterate 2 omega) | apply zit hT; (iterate 4 exact rfl); (iterate 2 omega) | apply zjk; iterate 6 exact rfl | apply zaS hT; (iterate 8 exact rfl); (iterate 2 omega); exact hA' | (apply zal; (iterate 5 exact rfl); first | exact zaY hT rfl rfl hr' zaG.enc_len rfl hx2 rfl ) | apply zac (hs := hfx); iterate 7 exact rfl | (apply zam; exact rfl; all_goals (intro hb; (try simp only [hb]); (first | replace hb := odt hb | replace hb := odf hb ); (try omega))))
  ·have hcx := hb
   refine ⟨((i + j) / 2 + 1, j), [], by dsimp only; omega, ⟨by dsimp only; omega, by dsimp only; omega, s3, fun k y hk hy => ?_, s5⟩, ⟨rfl, rfl, rfl, rfl, rfl, rfl, trivial⟩, List.Perm.refl _⟩
   exact hmono k m y x (by dsimp only at hk; omega) hy hx hcx
  ·have hcx := hb
   refine ⟨(i, (i + j) / 2), [], by dsimp only; omega, ⟨s1, by dsimp only; omega, by dsimp only; omega, s4, fun k y hk hy hneg => hcx (hmono m k x y (by dsimp only at hk; omega) hx hy hneg)⟩, ⟨rfl, rfl, rfl, rfl, rfl, rfl, trivial⟩, List.Perm.refl _⟩
 ·obtain ⟨m, hm⟩ : ∃ m : Nat, i = (m : Int) := ⟨i.toNat, by omega⟩
  subst hm
  obtain rfl : j = (m : Int) := by omega
  have hbs : bsN cf l = m := zhp (by omega) (fun k y hk hy => s4 k y (by omega) hy) (fun y hy => s5 m y (by omega) hy)
  by_cases hmn : m < n
  ·obtain ⟨x, hx⟩ : ∃ x, l[m]? = some x := ⟨l[m]'(by omega), List.getElem?_eq_getElem (by omega)⟩
   have hx2 : l[(m : Int).toNat]? = some x := by simpa using hx
   have hfx := (hf x (List.mem_of_getElem? hx)).mono hs
   have hA' := hA (by omega)
   have hd : decide ((m : Int) < (n : Int)) = true := by simp; omega
   repeat' (first | apply zae | apply zaa | apply zaj | apply zas | apply zad | apply zab hT; iterate 4 exact rfl | apply zaS hT; (iterate 8 exact rfl); (iterate 2 omega); exact hA' | (apply zal; (iterate 5 exact rfl); first | exact zaY hT rfl rfl hr' zaG.enc_len rfl hx2 rfl ) | apply zac (hs := hfx); iterate 7 exact rfl | (apply zav; exact rfl; all_goals (intro hb; (try simp only [hb]); (first | replace hb := odt hb | replace hb := odf hb ); (try omega))) | (apply zam; exact rfl; all_goals (intro hb; (try simp only [hb]); (first | replace hb := odt hb | replace hb := odf hb ); (try omega))))
   apply ret2; exact rfl; exact rfl
   exact ⟨by rw [bsB, hbs, hx], [], List.Perm.refl _⟩
  ·have hx : l[m]? = none := List.getElem?_eq_none (by omega)
   repeat' (first | apply zae | apply zaa | apply zaj | apply zas | apply zad | apply zab hT; iterate 4 exact rfl | apply zaq; iterate 3 exact rfl | (apply zav; exact rfl; all_goals (intro hb; (try simp only [hb]); (first | replace hb := odt hb | replace hb := odf hb ); (try omega))) | (apply zam; exact rfl; all_goals (intro hb; (try simp only [hb]); (first | replace hb := odt hb | replace hb := odf hb ); (try omega))))
   apply ret2; exact rfl; exact rfl
   exact ⟨by rw [bsB, hbs, hx], [], List.Perm.refl _⟩
theorem zh1 (W : World) (h : List zax) (gv g n c o m2 c2 : Nat) (vs cur : List Value) (hv : zax.own (some ⟨gv, 0, none⟩) 1 1 115 6 vs ∈ h) (hg : zax.blk g 115 cur ∈ h) (hne : gv ≠ g) (hcur : cur.length ≠ 0) :
 ∀ w, RepS W h w → (callFunc 172 [Value.slice (some ⟨gv, 0, none⟩) 1 1, .slice (some ⟨g, o, none⟩) m2 c2].toArray).run Tryz.prog w = .ok (.value (.bool false)) w := fun w hw => by
 have h1 := hw.heap_blk hg
 have h2 := (hw.holds _ hv).1
 rcases h2.2 with ⟨hx, _⟩ | ⟨g', cap, cv, hx, _, hgv, _⟩
 ·cases hx
 ·injection hx with hA _ _
  injection hA with hA
  injection hA with hA _ _
  subst hA
  have hz : ∀ w, (Go.sizeOf 115).run Tryz.prog w = .ok 6 w := fun w => (hT _ _ (rfl : TT.lookup 115 = some ti115)).sz w
  rw [run_callFunc_extern Tryz.func172 (by kernel_rfl) (by kernel_rfl) (by kernel_rfl) (e := Extern.SlicesOverlaps.overlaps #[112, 112] #[4]) (by kernel_rfl)]
  have := Lib.run_overlaps_apart (P := Tryz.prog) w 112 4 115 Tryz.underlying112 6 hz ⟨gv, 0, none⟩ ⟨g, o, none⟩ 1 1 m2 c2 hne 115 115 cv.size cur.length (by simp [World.shape?, hgv]) (by simp [World.shape?, h1]) hcur (by simp [World.frozen?, hgv]) (by simp [World.frozen?, hgv])
  rw [this]
  rfl
theorem zju (W : World) (F : List zax) (A : Option Addr) (n c : Nat) (i : Int) (cs : List Value) (gv : Nat) (vs : List Value) (hv : zax.own (some ⟨gv, 0, none⟩) 1 1 115 6 vs ∈ F) (h0 : 0 ≤ i) (hin : i ≤ n) (hb : (n + 1) * 48 ≤ 140737488355328) :
 zaB Tryz.prog W 147 [.slice A n c, .int .i64 i, .slice (some ⟨gv, 0, none⟩) 1 1] (.own A n c 115 6 cs :: F)
  (fun v h' => ∃ A' c', v = .slice A' (n + 1) c' ∧ h' = .own A' (n + 1) c' 115 6 (cs.take (i.toNat * 6) ++ vs ++ cs.drop (i.toNat * 6)) :: F) := by
 obtain ⟨i, rfl⟩ := Int.eq_ofNat_of_zero_le h0
 simp only [Int.toNat_natCast]
 refine zaB.drop ?_
 refine zan Tryz.func147 rfl rfl Tryz.results147 Tryz.ntmps147 rfl rfl ?_
 refine zbm mem0 (fun hl hnc hcc hsome hnone hone => ?_)
 refine zbm (mcm _ hv) (fun hvl _ _ _ _ hvone => ?_)
 have hvl : vs.length = 6 := by simpa using hvl
 have hrvG : ∀ c0, zaJ W (c0 :: F) (some ⟨gv, 0, none⟩) 1 6 vs := fun c0 => zaJ.own (mcm _ hv) (by simpa using hvl) hvone
 have hrv := hrvG (.own A n c 115 6 cs)
 have hmin1 : ∀ m, 0 < m → Nat.min 1 m = 1 := fun m hm => by show min 1 m = 1; omega
 have hrs : zaJ W (.own A n c 115 6 cs :: F) A n 6 cs := zaJ.own mem0 hl hone
 by_cases hi : i = n
 ·subst hi
  have he : ((i : Int) == (i : Int)) = true := by simp
  repeat' (first | apply zae | apply zaa | apply zaj | apply zah | apply zad | apply zab hT; iterate 4 exact rfl | apply zby hT; (iterate 8 exact rfl); (iterate 3 omega); exact rfl | apply zak; exact rfl; exact he | apply zbg hT; (iterate 10 exact rfl); exact sel0; exact hrv; omega; (show (i + 1) * 48 ≤ _; omega); intro A' c' | apply zag; iterate 2 exact rfl)
  apply ret1; exact rfl
  refine ⟨[], _, List.Perm.refl _, A', c', rfl, ?_⟩
  show zax.own A' (i + 1) c' 115 6 (cs ++ vs) :: F = _
  rw [List.take_of_length_le (by omega), List.drop_of_length_le (by omega), List.append_nil]
 ·have hlt : i < n := by omega
  have he : ((i : Int) == (n : Int)) = false := by simp; omega
  obtain ⟨g, rfl⟩ := hsome (by omega)
  by_cases hroom : n + 1 ≤ c
  ·
   refine zbV (fun w hw => ?_)
   have hnd := hw.nodup
   have hgv : gv ≠ g := by
    intro e
    simp only [List.flatMap_cons, List.nodup_append] at hnd
    exact hnd.2.2 g (by simp [zax.keys]) g (List.mem_flatMap.2 ⟨_, hv, by simp [zax.keys, e]⟩) rfl
   refine ⟨_, hw, ?_⟩
   refine zfs sel0 (fun cur hcl htk _ _ _ _ => ?_)
   have hr0 : zaJ W (.blk g 115 cur :: F) (some ⟨g, 0, none⟩) n 6 cs := zaJ.blk mem0 (by simpa using htk) hl hone
   have hr1 := hr0.cut hnc (show i ≤ n by omega) (Nat.le_refl n)
   rw [List.take_of_length_le (by rw [List.length_drop, hl, Nat.sub_mul]; omega), zcs (by omega)] at hr1
   have hdl : (cs.drop (i * 6)).length = (n - i) * 6 := hr1.len
   have hmin2 : Nat.min (n + 1 - i) (n + 1 - (i + 1)) = n - i := by show min (n + 1 - i) (n + 1 - (i + 1)) = n - i; omega
   have hov := zh1 W (.blk g 115 cur :: F) gv g n c ((i + 1) * 6) (n + 1 - (i + 1)) (c - (i + 1)) vs cur (mcm _ hv) mem0 hgv (by omega)
   refine zfv (Q' := RetQ Tryz.prog W #[ResultVar.tmp 6].toList (fun v h' => v = .slice (some ⟨g, 0, none⟩) (n + 1) c ∧ h' = .blk g 115 (lay (lay cur (i * 6 + vs.length) (cs.drop (i * 6))) (i * 6) vs) :: F)) (zdq ?_) ?_
   ·rintro v h' ⟨hv', rfl⟩ w hw
    have hb2 := zfu (cur := cur) (v := vs) (S := cs.drop (i * 6)) (a := i * 6) (by omega)
    rw [hb2] at hw
    have htk2 : cur.take (i * 6) = cs.take (i * 6) := by rw [← htk, List.take_take, Nat.min_eq_left (by omega)]
    have hone2 : ∀ u ∈ cs.take (i * 6) ++ vs ++ cs.drop (i * 6), u.oneCell' = true := fun u hu => by
     simp only [List.mem_append] at hu
     rcases hu with (hu | hu) | hu
     ·exact hone u (List.mem_of_mem_take hu)
     ·exact hvone u hu
     ·exact hone u (List.mem_of_mem_drop hu)
    have hl2 : (cs.take (i * 6) ++ vs ++ cs.drop (i * 6)).length = (n + 1) * 6 := by simp only [List.length_append, List.length_take, hdl, hvl, hl]; omega
    refine ⟨_, hw.shut_ (n := n + 1) (c := c) (k := 6) ?_ ?_ hl2 hroom hcc hone2, [], _, List.Perm.refl _, some ⟨g, 0, none⟩, c, hv', rfl⟩
    ·simp only [List.length_append, List.length_take, List.length_drop, hvl, hcl, hl]; omega
    ·rw [htk2, ← hl2, List.take_left]
   ·repeat' (first | apply zae | apply zaa | apply zaj | apply zah | apply zad | apply zab hT; iterate 4 exact rfl | apply zaN hT; (iterate 4 exact rfl); (iterate 2 omega) | apply zaM [] [] hmix; decide +kernel | (apply zby hT; (iterate 8 exact rfl); (iterate 3 omega); first | exact zcs (by omega) ) | apply zhn hT; iterate 6 exact rfl | apply zbX hT; (iterate 8 exact rfl); (iterate 2 omega) | apply zag; exact rfl; exact he | apply ze2; (iterate 6 exact rfl); exact hov | (apply zcb hT (k := 6); (iterate 10 exact rfl); exact sel0; exact rfl; exact (show zaJ W (.blk g 115 cur :: F) (some ⟨g, i * 6, none⟩) (Nat.min (n + 1 - i) (n + 1 - (i + 1))) 6 (cs.drop (i * 6)) from (by rw [hmin2]; exact hr1)); (show (i + 1) * 6 + (cs.drop (i * 6)).length ≤ cur.length; omega)) | (apply zcb hT (k := 6); (iterate 10 exact rfl); exact sel0; exact rfl; exact (show zaJ W _ (some ⟨gv, 0, none⟩) (Nat.min 1 (n + 1 - i)) 6 vs from (by rw [hmin1 _ (by omega)]; exact hrvG _)); (show i * 6 + vs.length ≤ (lay cur ((i + 1) * 6) (cs.drop (i * 6))).length; rw [zcI (by omega)]; omega)) | apply zak; iterate 2 exact rfl | apply zag; iterate 2 exact rfl | (apply zam; exact rfl; all_goals (intro hb; (try simp only [hb]); (first | replace hb := odt hb | replace hb := odf hb ); (try omega))))
    apply ret1; exact rfl
    refine ⟨rfl, ?_⟩
    show zax.blk g 115 (lay (lay cur ((i + 1) * 6) (cs.drop (i * 6))) (i * 6) vs) :: F = _
    rw [hvl, ← Nat.succ_mul]
  ·
   have hz : (ti115.zero.cells.toList).length = 6 := rfl
   have hr1 : ∀ c0, zaJ W (c0 :: .own (some ⟨g, 0, none⟩) n c 115 6 cs :: F) (some ⟨g, i * 6, none⟩) (n - i) 6 (cs.drop (i * 6)) := fun c0 => by
    have := (zaJ.own (W := W) (h := c0 :: .own (some ⟨g, 0, none⟩) n c 115 6 cs :: F) mem1 hl hone).cut hnc (show i ≤ n by omega) (Nat.le_refl n)
    rw [List.take_of_length_le (by rw [List.length_drop, hl, Nat.sub_mul]; omega), zcs (by omega)] at this
    exact this
   have hdl : (cs.drop (i * 6)).length = (n - i) * 6 := (hr1 (.blk 0 0 [])).len
   have hmin3 : Nat.min (n - i) (i + (n + 1 - i) - (i + 1)) = n - i := by show min (n - i) (i + (n + 1 - i) - (i + 1)) = n - i; omega
   refine zfv (Q' := RetQ Tryz.prog W #[ResultVar.tmp 6].toList (fun v h' => ∃ (g2 c2 : Nat) (cur : List Value), n + 1 ≤ c2 ∧ c2 ≤ 9223372036854775807 ∧ cur.length = c2 * 6 ∧ cur.take (i * 6) = cs.take (i * 6) ∧ v = .slice (some ⟨g2, 0, none⟩) (n + 1) c2 ∧
    h' = .blk g2 115 (lay (lay cur (i * 6) vs) (i * 6 + vs.length) (cs.drop (i * 6))) :: .own (some ⟨g, 0, none⟩) n c 115 6 cs :: F)) (zdq ?_) ?_
   ·rintro v h' ⟨g2, c2, cur, k1, k2, k3, k4, hv', rfl⟩ w hw
    have ha2 := zge (cur := cur) (v := vs) (S := cs.drop (i * 6)) (a := i * 6) (by omega)
    rw [ha2, k4] at hw
    have hone2 : ∀ u ∈ cs.take (i * 6) ++ vs ++ cs.drop (i * 6), u.oneCell' = true := fun u hu => by
     simp only [List.mem_append] at hu
     rcases hu with (hu | hu) | hu
     ·exact hone u (List.mem_of_mem_take hu)
     ·exact hvone u hu
     ·exact hone u (List.mem_of_mem_drop hu)
    have hl2 : (cs.take (i * 6) ++ vs ++ cs.drop (i * 6)).length = (n + 1) * 6 := by simp only [List.length_append, List.length_take, hdl, hvl, hl]; omega
    refine ⟨_, hw.shut_ (n := n + 1) (c := c2) (k := 6) ?_ ?_ hl2 k1 k2 hone2, [.own (some ⟨g, 0, none⟩) n c 115 6 cs], _, sel1, some ⟨g2, 0, none⟩, c2, hv', rfl⟩
    ·simp only [List.length_append, List.length_take, List.length_drop, hvl, k3, hl]; omega
    ·rw [← hl2, List.take_left]
   ·repeat' (first | apply zae | apply zaa | apply zaj | apply zah | apply zad | apply zab hT; iterate 4 exact rfl | apply zaN hT; (iterate 4 exact rfl); (iterate 2 omega) | apply zaM [] [] hmix; decide +kernel | apply zhn hT; iterate 6 exact rfl | apply zbX hT; (iterate 8 exact rfl); (iterate 2 omega) | (apply zby hT; (iterate 8 exact rfl); (iterate 3 omega); first | exact zcs (by omega) ) | apply zag; exact rfl; exact he | (apply zft hT (m := n + 1 - i); (iterate 12 exact rfl); omega; exact hrs.take (show i ≤ n by omega); omega; omega; omega; (show (i + (n + 1 - i)) * 48 ≤ _; omega); intro g2 c2 hc2) | (apply zcb hT (k := 6); (iterate 10 exact rfl); exact sel0; exact rfl; exact (show zaJ W _ (some ⟨gv, 0, none⟩) (Nat.min 1 (i + (n + 1 - i) - i)) 6 vs from (by rw [hmin1 _ (by omega)]; exact (hrvG _).cons)); (show i * 6 + vs.length ≤ cur.length; omega)) | (apply zcb hT (k := 6); (iterate 10 exact rfl); exact sel0; exact rfl; exact (show zaJ W _ (some ⟨g, i * 6, none⟩) (Nat.min (n - i) (i + (n + 1 - i) - (i + 1))) 6 (cs.drop (i * 6)) from (by rw [hmin3]; exact hr1 _)); (show (i + 1) * 6 + (cs.drop (i * 6)).length ≤ (lay cur (i * 6) vs).length; rw [zcI (by omega)]; omega)) | apply zjj rfl sel0; intro cur hcl htk hc3 hc4; replace hcl : cur.length = c2 * 6 := hcl | apply zag; iterate 2 exact rfl | (apply zam; exact rfl; all_goals (intro hb; (try simp only [hb]); (first | replace hb := odt hb | replace hb := odf hb ); (try omega))))
    apply ret1; exact rfl
    refine ⟨g2, c2, cur, by omega, hc4, hcl, ?_, by show Value.slice (some ⟨g2, 0, none⟩) (i + (n + 1 - i)) c2 = _; rw [show i + (n + 1 - i) = n + 1 by omega], ?_⟩
    ·have e1 : cur.take ((i + (n + 1 - i)) * 6) = cs.take (i * 6) ++ repZ ti115.zero.cells.toList (n + 1 - i) := htk
     have e2 := congrArg (List.take (i * 6)) e1
     rw [List.take_take, Nat.min_eq_left (by omega), List.take_append_of_le_length (by rw [List.length_take]; omega), List.take_take, Nat.min_self] at e2
     exact e2
    ·show zax.blk g2 115 (lay (lay cur (i * 6) vs) ((i + 1) * 6) (cs.drop (i * 6))) :: _ = _
     rw [hvl, ← Nat.succ_mul]
end Go.Proofs.YtakilgkpfjhfdaaGreat
namespace Go.Proofs.YtakilgkpfjhfdaaGreat
open Go Go.Sl
attribute [local irreducible] AW ES EP Ld RetQ
set_option maxRecDepth 100000
def zbo (p : Nat) (A : Option Addr) (c : Nat) (l : List zaG) (F : List zax) : List zax :=
 .blk p 129 [.slice A l.length c] :: .own A l.length c 115 6 (l.flatMap zaG.enc) :: F
def cQ (id : Int) (q : zaG) : Int := cmpI q.id id
def upQ (l : List zaG) : Prop := l.Pairwise fun a b => a.id < b.id
theorem ziG {id : Int} {q : zaG} : cQ id q < 0 ↔ q.id < id := by unfold cQ cmpI; split <;> (try split) <;> omega
theorem znB {l : List zaG} (h : upQ l) (id : Int) : ∀ (i j : Nat) x y, i ≤ j → l[i]? = some x → l[j]? = some y → cQ id y < 0 → cQ id x < 0 := by
 intro i j x y hij hx hy hd
 rw [ziG] at *
 rcases Nat.lt_or_ge i j with hlt | hge
 ·obtain ⟨hi, rfl⟩ := List.getElem?_eq_some_iff.1 hx
  obtain ⟨hj, rfl⟩ := List.getElem?_eq_some_iff.1 hy
  have := List.pairwise_iff_getElem.1 h i j hi hj hlt
  omega
 ·obtain rfl : i = j := by omega
  rw [hx] at hy; cases hy; exact hd
theorem zl3 (W : World) (q : zaG) (id : Int) : zaL Tryz.prog W 132 [.agg q.enc.toArray, .int .i64 id] [] (.int .i64 (cQ id q)) := by
 refine zaL.ofD (fun h' hs => ?_)
 refine zan Tryz.func132 rfl rfl Tryz.results132 Tryz.ntmps132 rfl rfl ?_
 repeat' (first | apply zae | apply zaa | apply zaj | apply zad | apply zab hT; iterate 4 exact rfl | (apply zac (hs := ((zoM W _ _).mono (by simp))); iterate 7 exact rfl) | (apply zal; (iterate 5 exact rfl); first | exact zaC hT rfl rfl mem0 rfl rfl ) | apply zaK; (iterate 5 exact rfl); intro _)
 apply ret1; exact rfl
 exact ⟨rfl, zat zar⟩
def zl4 (id : Int) (l : List zaG) : Value := .tuple #[.int .i64 (bsN (cQ id) l), .bool (bsB (cQ id) l)]
theorem zh2 (W : World) (p : Nat) (A : Option Addr) (c : Nat) (l : List zaG) (id : Int) (hb : l.length ≤ 1000000) (hup : upQ l) :
 zaL Tryz.prog W 76 [.pointer (some ⟨p, 0, none⟩), .int .i64 id] (zbo p A c l []) (zl4 id l) := by
 refine zaL.ofD (fun h' hs => ?_)
 have m1 := hs _ mem0
 have m2 := hs _ mem1
 refine zan Tryz.func76 rfl rfl Tryz.results76 Tryz.ntmps76 rfl rfl ?_
 refine zbm m2 (fun hl hnc hcc hsome hnone hone => ?_)
 have hr := zaJ.own (W := W) m2 hl hone
 have hq : zaL Tryz.prog W 131 [.slice A l.length c, .int .i64 id, .func (.func 132) #[] #[]] h' (.tuple #[.int .i64 (bsN (cQ id) l), .bool (bsB (cQ id) l)]) :=
  ziF W _ A _ c l rfl hr _ ⟨id, rfl⟩ _ [] (cQ id) (fun x _ => (zl3 W x id).mono (by simp)) (znB hup id) (by omega)
 repeat' (first | apply zae | apply zaa | apply zaj | apply zah | apply zad | apply zab hT; iterate 4 exact rfl | apply zac (hs := hq); iterate 7 exact rfl | (apply zal; (iterate 5 exact rfl); first | exact zaC hT rfl rfl m1 rfl rfl ) | apply zag; iterate 2 exact rfl)
 apply ret2; exact rfl; exact rfl
 exact ⟨rfl, zar⟩
theorem zjv (W : World) (h : List zax) (p : Nat) (A : Option Addr) (c : Nat) (l : List zaG) (m1 : zax.blk p 129 [.slice A l.length c] ∈ h) (hr : zaJ W h A l.length 6 (l.flatMap zaG.enc)) (hb : l.length ≤ 1000000)
 (fn : FuncId) (cap : List Value) (is : zaG → Bool) (hf : ∀ x ∈ l, zaL Tryz.prog W fn ([.agg x.enc.toArray] ++ cap) h (.bool (is x))) :
 zaB Tryz.prog W 74 [.pointer (some ⟨p, 0, none⟩), .func (.func fn) #[] cap.toArray] h (fun v h' => ∃ A' c', v = .slice A' (l.filter is).length c' ∧ h' = .own A' (l.filter is).length c' 115 6 ((l.filter is).flatMap zaG.enc) :: h ∧ OwnF A' (l.filter is).length c' 6 ((l.filter is).flatMap zaG.enc)) := by
 refine zaB.dropF ?_
 refine zan Tryz.func74 rfl rfl Tryz.results74 Tryz.ntmps74 rfl rfl ?_
 refine zaU hr (by rfl) (fun hA => ?_)
 repeat' (first | apply zae | apply zaa | apply zah | apply zaf | apply zad | apply zab hT; iterate 4 exact rfl | (apply zal; (iterate 5 exact rfl); first | exact zaC hT rfl rfl m1 rfl rfl ) | apply zag; iterate 2 exact rfl)
 refine zbV (fun w hw => ⟨_, hw.own_nil 115 6, ?_⟩)
 have hfl : ∀ k, ((l.take k).filter is).length ≤ k := fun k => by
  have := List.length_filter_le is (l.take k); simp at this; omega
 refine zbU (α := Nat × List zaG × Option Addr × Nat) (E := fun x => [(1, .func (.func fn) #[] cap.toArray), (5, .slice x.2.2.1 x.2.1.length x.2.2.2), (13, .slice A l.length c), (14, .int .i64 l.length), (15, .int .i64 x.1)])
  (H := fun x => .own x.2.2.1 x.2.1.length x.2.2.2 115 6 (x.2.1.flatMap zaG.enc) :: h) (μ := fun x => l.length - x.1)
  (S := fun x => x.1 ≤ l.length ∧ x.2.1 = (l.take x.1).filter is) (0, [], none, 0) (J := []) ⟨Nat.zero_le _, rfl⟩ ⟨rfl, rfl, rfl, rfl, rfl, trivial⟩ (List.Perm.refl _) ?_
 rintro ⟨k, m, A5, c5⟩ ⟨hk, hm⟩
 dsimp only at hk hm ⊢
 have hfk := hfl k
 rw [← hm] at hfk
 by_cases hlt : k < l.length
 ·obtain ⟨x, hx⟩ : ∃ x, l[k]? = some x := ⟨l[k]'(by omega), List.getElem?_eq_getElem (by omega)⟩
  have hx2 : l[(k : Int).toNat]? = some x := by simpa using hx
  have hA := hA (by omega)
  have hd1 : decide ((k : Int) < (l.length : Int)) = true := by simp; omega
  have hfx := hf x (List.mem_of_getElem? hx)
  have hstep : (l.take (k + 1)).filter is = m ++ if is x then [x] else [] := by
   rw [List.take_add_one, hx, List.filter_append, ← hm]
   cases hh : is x <;> simp [hh]
  cases hh : is x
  ·rw [hh] at hfx hstep
   repeat' (first | apply zae | apply zaa | apply zah | apply zaf | apply zad | apply zab hT; iterate 4 exact rfl | apply zaN hT; (iterate 4 exact rfl); (iterate 2 omega) | apply zaS hT; (iterate 8 exact rfl); (iterate 2 omega); exact hA | apply zal; (iterate 5 exact rfl); exact zaY hT rfl rfl hr.cons zaG.enc_len rfl hx2 rfl | apply zaI hT; (iterate 5 exact rfl); intro g7 | apply zaF hT; (iterate 6 exact rfl); exact sel0; (iterate 3 exact rfl); exact nle rfl | apply zac (hs := (hfx.mono (fun c hc => .tail _ (.tail _ hc)))); iterate 7 exact rfl | (apply zal; (iterate 5 exact rfl); first | exact zaQ hT rfl rfl mem0 rfl) | apply zag; iterate 2 exact rfl | (apply zam; exact rfl; all_goals (intro hb; (try simp only [hb]); (first | replace hb := odt hb | replace hb := odf hb ); (try omega))))
   exact zaR (k + 1, m, A5, c5) (by dsimp only; omega) ⟨by dsimp only; omega, by dsimp only; rw [hstep]; simp⟩ ⟨rfl, rfl, rfl, rfl, rfl, trivial⟩ (by apply zay; (first | exact sel1); (repeat (first | exact zar | apply zat)))
  ·rw [hh] at hfx hstep
   repeat' (first | apply zae | apply zaa | apply zah | apply zaf | apply zad | apply zab hT; iterate 4 exact rfl | apply zaN hT; (iterate 4 exact rfl); (iterate 2 omega) | apply zaS hT; (iterate 8 exact rfl); (iterate 2 omega); exact hA | apply zal; (iterate 5 exact rfl); exact zaY hT rfl rfl hr.cons zaG.enc_len rfl hx2 rfl | apply zaI hT; (iterate 5 exact rfl); intro g7 | apply zaF hT; (iterate 6 exact rfl); exact sel0; (iterate 3 exact rfl); exact nle rfl | apply zac (hs := (hfx.mono (fun c hc => .tail _ (.tail _ hc)))); iterate 7 exact rfl | apply zao hT; (iterate 12 exact rfl); intro g | (apply zbg hT; (iterate 10 exact rfl); (first | exact selS sel1 ); exact zaJ.own mem0 rfl (zaG.enc_one x); omega; (show (_ : Nat) * 48 ≤ _; omega); intro A' c') | (apply zal; (iterate 5 exact rfl); first | exact zaQ hT rfl rfl mem0 rfl) | apply zak; iterate 2 exact rfl | (apply zam; exact rfl; all_goals (intro hb; (try simp only [hb]); (first | replace hb := odt hb | replace hb := odf hb ); (try omega))))
   refine zaR (k + 1, m ++ [x], A', c') (by dsimp only; omega) ⟨by dsimp only; omega, by dsimp only; rw [hstep]; simp⟩ ?_ ?_
   ·dsimp only; rw [List.length_append]; exact ⟨rfl, rfl, rfl, rfl, rfl, trivial⟩
   ·dsimp only; rw [List.length_append, List.flatMap_append, List.flatMap_singleton]
    apply zay; (first | exact sel0)
    (repeat (first | exact zar | apply zat))
 ·obtain rfl : k = l.length := by omega
  rw [List.take_length] at hm
  subst hm
  have hd1 : decide ((l.length : Int) < (l.length : Int)) = false := by simp
  repeat' (first | apply zae | apply zaa | apply zaj | apply zas | apply zad | apply zab hT; iterate 4 exact rfl | (apply zam; exact rfl; all_goals (intro hb; (try simp only [hb]); (first | replace hb := odt hb | replace hb := odf hb ); (try omega))))
  apply ret1; exact rfl
  exact ⟨_, zar, fun w hw => ⟨A5, c5, rfl, rfl, hw.ownF mem0⟩⟩
end Go.Proofs.YtakilgkpfjhfdaaGreat
namespace Go.Proofs.YtakilgkpfjhfdaaGreat
open Go Go.Sl
attribute [local irreducible] AW ES Ld RetQ
set_option maxRecDepth 100000
theorem zgq (W : World) (F : List zax) (A : Option Addr) (c : Nat) (l : List zaG) (fn : FuncId) (cap : List Value) (p : zaG → Bool)
 (hf : ∀ x ∈ l, zaL Tryz.prog W fn ([.agg x.enc.toArray] ++ cap) F (.bool (p x))) (hb : l.length ≤ 1000000) :
 zaB Tryz.prog W 169 [.slice A l.length c, .func (.func fn) #[] cap.toArray] (.own A l.length c 115 6 (l.flatMap zaG.enc) :: F)
  (fun v h' => v = .slice A (l.filter fun x => !p x).length c ∧ h' = .own A (l.filter fun x => !p x).length c 115 6 ((l.filter fun x => !p x).flatMap zaG.enc) :: F) := by
 have hz : (ti115.zero.cells.toList).length = 6 := rfl
 refine zaB.conv (R := fun v h' => v = .slice A (l.filter fun x => !p x).length c ∧ (h' = .own A (l.filter fun x => !p x).length c 115 6 ((l.filter fun x => !p x).flatMap zaG.enc) :: F ∨
  ∃ (g i : Nat) (m : List zaG) (cur : List Value), A = some ⟨g, 0, none⟩ ∧ i = (l.filter fun x => !p x).length ∧ m.take i = (l.filter fun x => !p x) ∧ m.length = l.length ∧ i ≤ l.length ∧ cur.length = c * 6 ∧ cur.take (l.length * 6) = m.flatMap zaG.enc ∧ l.length ≤ c ∧ c ≤ 9223372036854775807 ∧ (∀ v ∈ m.flatMap zaG.enc, v.oneCell' = true) ∧
   h' = .blk g 115 (lay cur (i * 6) (repZ ti115.zero.cells.toList (l.length - i))) :: F)) ?_ ?_
 rotate_left
 ·rintro v h' ⟨hv, h | ⟨g, i, m, cur, rfl, hi, htm, hml, hil, hcl, htk, hnc, hcc, hone, rfl⟩⟩ w hw
  ·exact ⟨h', hw, hv, h⟩
  ·have hzl : (repZ ti115.zero.cells.toList (l.length - i)).length = (l.length - i) * 6 := by rw [zdI, hz]
   have hcut : (lay cur (i * 6) (repZ ti115.zero.cells.toList (l.length - i))).take (i * 6) = (l.filter fun x => !p x).flatMap zaG.enc := by
    rw [zd3 (by omega), ← htm, ← zci zaG.enc_len, ← htk, List.take_take, Nat.min_eq_left (by omega)]
   refine ⟨_, hw.shut_ (n := i) (c := c) (k := 6) (by rw [zcI (by omega)]; exact hcl) hcut (by rw [zdf zaG.enc_len, ← hi]) (by omega) hcc ?_, hv, by rw [← hi]⟩
   intro u hu
   rw [← htm, ← zci zaG.enc_len] at hu
   exact hone u (List.mem_of_mem_take hu)
 refine zan Tryz.func169 rfl rfl Tryz.results169 Tryz.ntmps169 rfl rfl ?_
 refine zbm mem0 (fun hl hnc hcc hsome hnone hone => ?_)
 have hr : zaJ W (.own A l.length c 115 6 (l.flatMap zaG.enc) :: F) A l.length 6 (l.flatMap zaG.enc) := zaJ.own mem0 hl hone
 have hix := zg9 W _ A l.length c l rfl hr fn cap p (fun x hx => (hf x hx).mono (fun c hc => .tail _ hc)) (by omega)
 have hge := zhT (p := p) (l := l)
 have hlt0 := zhS (p := p) (l := l)
 by_cases hi : za4 p l = -1
 ·have hd : (za4 p l == -1) = true := by simp [hi]
  have hfl : (l.filter fun x => !p x) = l := List.filter_eq_self.2 (fun x hx => by
   have := zcu.1 (show za4 p l < 0 by omega) x hx
   simp [this])
  repeat' (first | apply zae | apply zaa | apply zaj | apply zad | apply zab hT; iterate 4 exact rfl | apply zac (hs := hix); iterate 7 exact rfl | (apply zam; exact rfl; all_goals (intro hb; (try simp only [hb]); (first | replace hb := odt hb | replace hb := odf hb ); (try omega))))
  apply ret1; exact rfl
  rw [hfl]
  exact ⟨rfl, .inl rfl⟩
 ·have hd : (za4 p l == -1) = false := by simpa using hi
  obtain ⟨i0, hi0⟩ : ∃ k : Nat, za4 p l = k := ⟨(za4 p l).toNat, by omega⟩
  obtain ⟨x0, hx0, hpx0, hbef⟩ := zeH hi0
  rw [hi0] at hix hd hlt0
  obtain ⟨g, rfl⟩ := hsome (by omega)
  repeat' (first | apply zae | apply zaa | apply zah | apply zaf | apply zad | apply zab hT; iterate 4 exact rfl | apply zaN hT; (iterate 4 exact rfl); (iterate 2 omega) | apply zac (hs := hix); iterate 7 exact rfl | apply zag; iterate 2 exact rfl)
  refine zbU (α := Nat × Nat × List zaG) (E := fun x => [(0, .slice (some ⟨g, 0, none⟩) l.length c), (1, .func (.func fn) #[] cap.toArray), (5, .int .i64 x.2.1), (6, .int .i64 x.1)]) (H := fun x => .own (some ⟨g, 0, none⟩) l.length c 115 6 (x.2.2.flatMap zaG.enc) :: F) (μ := fun x => l.length - x.1)
   (S := fun x => x.1 ≤ l.length ∧ x.2.1 < x.1 ∧ x.2.2.length = l.length ∧ x.2.2.take x.2.1 = (l.take x.1).filter (fun x => !p x) ∧ x.2.2.drop x.1 = l.drop x.1) (i0 + 1, i0, l) (J := []) ⟨by dsimp only; omega, by dsimp only; omega, rfl, by
     dsimp only
     rw [List.take_add_one, hx0, List.filter_append]
     simp only [Option.toList_some, List.filter_cons, hpx0, Bool.not_true, Bool.false_eq_true, if_false, List.filter_nil, List.append_nil]
     refine (List.filter_eq_self.2 (fun y hy => ?_)).symm
     obtain ⟨j, hj⟩ := List.getElem?_of_mem hy
     have hj2 := (List.getElem?_eq_some_iff.1 hj).1
     rw [List.getElem?_take_of_lt (by simp at hj2; omega)] at hj
     simp [hbef j y (by simp at hj2; omega) hj], rfl⟩ ⟨rfl, rfl, rfl, rfl, trivial⟩ (List.Perm.refl _) ?_
  rintro ⟨j, i, m⟩ ⟨s1, s2, s3, s4, s5⟩
  dsimp only at s1 s2 s3 s4 s5 ⊢
  refine zbm mem0 (fun hl2 hnc2 _ _ _ hone2 => ?_)
  have hrm : zaJ W (.own (some ⟨g, 0, none⟩) l.length c 115 6 (m.flatMap zaG.enc) :: F) (some ⟨g, 0, none⟩) l.length 6 (m.flatMap zaG.enc) := zaJ.own mem0 hl2 hone2
  by_cases hlt : j < l.length
  ·obtain ⟨x, hx⟩ : ∃ x, l[j]? = some x := ⟨l[j]'(by omega), List.getElem?_eq_getElem (by omega)⟩
   have hxm : m[j]? = some x := by
    have : (m.drop j)[0]? = some x := by rw [s5, List.getElem?_drop]; simpa using hx
    rw [List.getElem?_drop] at this; simpa using this
   have hx2 : m[(j : Int).toNat]? = some x := by simpa using hxm
   have hd1 : decide ((j : Int) < (l.length : Int)) = true := by simp; omega
   have hfx := hf x (List.mem_of_getElem? hx)
   have hstep : (l.take (j + 1)).filter (fun x => !p x) = m.take i ++ if p x then [] else [x] := by
    rw [List.take_add_one, hx, List.filter_append, ← s4]
    cases hh : p x <;> simp [hh]
   have hd5 : m.drop (j + 1) = l.drop (j + 1) := by
    rw [← List.drop_drop (i := 1) (j := j), s5, List.drop_drop]
   obtain ⟨y, hy⟩ : ∃ y, m[i]? = some y := ⟨m[i]'(by omega), List.getElem?_eq_getElem (by omega)⟩
   cases hh : p x
   ·rw [hh] at hfx hstep
    have hlay : lay (m.flatMap zaG.enc) (i * 6) x.enc = (m.set i x).flatMap zaG.enc := zbS zaG.enc_len (f := 0) hy (Nat.le_of_ble_eq_true rfl) (by simp [lay, zaG.enc_len])
    repeat' (first | apply zae | apply zaa | apply zah | apply zaf | apply zad | apply zab hT; iterate 4 exact rfl | apply zaN hT; (iterate 4 exact rfl); (iterate 2 omega) | apply zaS hT; (iterate 8 exact rfl); (iterate 2 omega); exact rfl | apply zal; (iterate 5 exact rfl); exact zaY hT rfl rfl hrm zaG.enc_len rfl hx2 rfl | apply zaI hT; (iterate 5 exact rfl); intro g7 | apply zaF hT; (iterate 6 exact rfl); exact sel0; (iterate 3 exact rfl); exact nle rfl | apply zac (hs := (hfx.mono (fun c hc => .tail _ (.tail _ hc)))); iterate 7 exact rfl | (apply zbs hT; (iterate 6 exact rfl); (first | exact sel1 ); exact rfl; exact rfl; exact rfl; (show i * 6 + 6 ≤ l.length * 6; omega); omega) | (apply zal; (iterate 5 exact rfl); first | exact zaQ hT rfl rfl mem0 rfl) | apply zak; iterate 2 exact rfl | (apply zam; exact rfl; all_goals (intro hb; (try simp only [hb]); (first | replace hb := odt hb | replace hb := odf hb ); (try omega))))
    refine zaR (j + 1, i + 1, m.set i x) (by dsimp only; omega) ⟨by dsimp only; omega, by dsimp only; omega, by dsimp only; simpa using s3, ?_, ?_⟩ ⟨rfl, rfl, rfl, rfl, trivial⟩ ?_
    ·dsimp only
     rw [hstep, List.take_add_one, List.getElem?_set_self (by omega), List.take_set_of_le (Nat.le_refl i)]
     simp
    ·dsimp only
     rw [List.drop_set_of_lt (by omega), hd5]
    ·dsimp only
     rw [← hlay]
     apply zay; (first | exact sel0)
     (repeat (first | exact zar | apply zat))
   ·rw [hh] at hfx hstep
    repeat' (first | apply zae | apply zaa | apply zah | apply zaf | apply zad | apply zab hT; iterate 4 exact rfl | apply zaN hT; (iterate 4 exact rfl); (iterate 2 omega) | apply zaS hT; (iterate 8 exact rfl); (iterate 2 omega); exact rfl | apply zal; (iterate 5 exact rfl); exact zaY hT rfl rfl hrm zaG.enc_len rfl hx2 rfl | apply zaI hT; (iterate 5 exact rfl); intro g7 | apply zaF hT; (iterate 6 exact rfl); exact sel0; (iterate 3 exact rfl); exact nle rfl | apply zac (hs := (hfx.mono (fun c hc => .tail _ (.tail _ hc)))); iterate 7 exact rfl | (apply zal; (iterate 5 exact rfl); first | exact zaQ hT rfl rfl mem0 rfl) | apply zag; iterate 2 exact rfl | (apply zam; exact rfl; all_goals (intro hb; (try simp only [hb]); (first | replace hb := odt hb | replace hb := odf hb ); (try omega))))
    refine zaR (j + 1, i, m) (by dsimp only; omega) ⟨by dsimp only; omega, by dsimp only; omega, s3, by dsimp only; rw [hstep]; simp, hd5⟩ ⟨rfl, rfl, rfl, rfl, trivial⟩ ?_
    apply zay; (first | exact sel1)
    (repeat (first | exact zar | apply zat))
  ·obtain rfl : j = l.length := by omega
   rw [List.take_length] at s4
   have hd1 : decide ((l.length : Int) < (l.length : Int)) = false := by simp
   have hil : i = (l.filter fun x => !p x).length := by rw [← s4]; simp; omega
   refine zfs sel0 (fun cur hcl htk _ _ _ _ => ?_)
   repeat' (first | apply zae | apply zaa | apply zaj | apply zas | apply zad | apply zab hT; iterate 4 exact rfl | apply zbX hT; (iterate 8 exact rfl); (iterate 2 omega) | (apply zby hT; (iterate 8 exact rfl); (iterate 3 omega); exact zcs (by omega)) | apply zhR hT (k := 6); (iterate 9 exact rfl); exact sel0; exact rfl; (show i * 6 + (l.length - i) * 6 ≤ cur.length; omega) | (apply zam; exact rfl; all_goals (intro hb; (try simp only [hb]); (first | replace hb := odt hb | replace hb := odf hb ); (try omega))))
   apply ret1; exact rfl
   exact ⟨by rw [← hil]; simp, .inr ⟨g, i, m, cur, rfl, hil, s4, s3, by omega, hcl, htk, hnc, hcc, hone2, rfl⟩⟩
end Go.Proofs.YtakilgkpfjhfdaaGreat
namespace Go.Proofs.YtakilgkpfjhfdaaGreat
open Go Go.Sl
attribute [local irreducible] AW ES EP Ld RetQ
set_option maxRecDepth 100000
def zcy (ask tick : Int) (q : zaG) : Bool := q.ask == ask && q.live && decide (q.expires > tick)
def isOf (dealer : Int) (q : zaG) : Bool := q.dealer == dealer && q.live
def zdw (ask : Int) (q : zaG) : Bool := q.ask == ask
theorem zl5 (W : World) (q : zaG) (b1 b2 : Nat) (ask tick : Int) :
 zaL Tryz.prog W 154 [.agg q.enc.toArray, .pointer (some ⟨b1, 0, none⟩), .pointer (some ⟨b2, 0, none⟩)] [.blk b1 2 [.int .i64 ask], .blk b2 2 [.int .i64 tick]] (.bool (zcy ask tick q)) := by
 refine zaL.ofD (fun h' hs => ?_)
 have m1 := hs _ mem0
 have m2 := hs _ mem1
 refine zan Tryz.func154 rfl rfl Tryz.results154 Tryz.ntmps154 rfl rfl ?_
 cases hl : q.live
 all_goals
  have e : q.enc = [.int .i64 q.id, .int .i64 q.ask, .int .i64 q.dealer, .int .i64 q.price, .int .i64 q.expires, .bool q.live] := rfl
  rw [hl] at e
  rw [e]
  repeat' (first | apply zae | apply zaa | apply zaj | apply zad | apply zab hT; iterate 4 exact rfl | apply zaq; iterate 3 exact rfl | (apply zal; (iterate 5 exact rfl); first | exact zaC hT rfl rfl mem0 rfl rfl ) | (apply zal; (iterate 5 exact rfl); first | exact zaC hT rfl rfl (mcm _ m1) rfl rfl ) | (apply zal; (iterate 5 exact rfl); first | exact zaC hT rfl rfl (mcm _ m2) rfl rfl ) | apply zaK; (iterate 5 exact rfl); intro _ | (apply zav; exact rfl; all_goals (intro hb; (try simp only [hb]); (first | replace hb := odt hb | replace hb := odf hb ); (try omega))))
 all_goals
  apply ret1; exact rfl
  refine ⟨?_, zat zar⟩
  simp [zcy, hl, *]
theorem zo0 (W : World) (q : zaG) (b1 : Nat) (dealer : Int) :
 zaL Tryz.prog W 75 [.agg q.enc.toArray, .pointer (some ⟨b1, 0, none⟩)] [.blk b1 3 [.int .i64 dealer]] (.bool (isOf dealer q)) := by
 refine zaL.ofD (fun h' hs => ?_)
 have m1 := hs _ mem0
 refine zan Tryz.func75 rfl rfl Tryz.results75 Tryz.ntmps75 rfl rfl ?_
 repeat' (first | apply zae | apply zaa | apply zaj | apply zad | apply zab hT; iterate 4 exact rfl | apply zaq; iterate 3 exact rfl | (apply zal; (iterate 5 exact rfl); first | exact zaC hT rfl rfl mem0 rfl rfl ) | (apply zal; (iterate 5 exact rfl); first | exact zaC hT rfl rfl (mcm _ m1) rfl rfl ) | apply zaK; (iterate 5 exact rfl); intro _ | (apply zav; exact rfl; all_goals (intro hb; (try simp only [hb]); (first | replace hb := odt hb | replace hb := odf hb ); (try omega))))
 all_goals
  apply ret1; exact rfl
  refine ⟨?_, zat zar⟩
  simp [isOf, *]
theorem zkM (W : World) (q : zaG) (b1 : Nat) (ask : Int) :
 zaL Tryz.prog W 168 [.agg q.enc.toArray, .pointer (some ⟨b1, 0, none⟩)] [.blk b1 2 [.int .i64 ask]] (.bool (zdw ask q)) := by
 refine zaL.ofD (fun h' hs => ?_)
 have m1 := hs _ mem0
 refine zan Tryz.func168 rfl rfl Tryz.results168 Tryz.ntmps168 rfl rfl ?_
 repeat' (first | apply zae | apply zaa | apply zaj | apply zad | apply zab hT; iterate 4 exact rfl | (apply zal; (iterate 5 exact rfl); first | exact zaC hT rfl rfl mem0 rfl rfl ) | (apply zal; (iterate 5 exact rfl); first | exact zaC hT rfl rfl (mcm _ m1) rfl rfl ) | apply zaK; (iterate 5 exact rfl); intro _)
 apply ret1; exact rfl
 exact ⟨rfl, zat zar⟩
theorem zkN (W : World) (q : zaG) (b1 : Nat) (ask : Int) :
 zaL Tryz.prog W 170 [.agg q.enc.toArray, .pointer (some ⟨b1, 0, none⟩)] [.blk b1 2 [.int .i64 ask]] (.bool (zdw ask q)) := by
 refine zaL.ofD (fun h' hs => ?_)
 have m1 := hs _ mem0
 refine zan Tryz.func170 rfl rfl Tryz.results170 Tryz.ntmps170 rfl rfl ?_
 repeat' (first | apply zae | apply zaa | apply zaj | apply zad | apply zab hT; iterate 4 exact rfl | (apply zal; (iterate 5 exact rfl); first | exact zaC hT rfl rfl mem0 rfl rfl ) | (apply zal; (iterate 5 exact rfl); first | exact zaC hT rfl rfl (mcm _ m1) rfl rfl ) | apply zaK; (iterate 5 exact rfl); intro _)
 apply ret1; exact rfl
 exact ⟨rfl, zat zar⟩
theorem znC (W : World) (F : List zax) (p : Nat) (A : Option Addr) (c : Nat) (l : List zaG) (ask tick : Int) (hb : l.length ≤ 1000000) :
 zaB Tryz.prog W 110 [.pointer (some ⟨p, 0, none⟩), .int .i64 ask, .int .i64 tick] (zbo p A c l F)
  (fun v h' => ∃ A' c', v = .slice A' (l.filter (zcy ask tick)).length c' ∧ h' = .own A' (l.filter (zcy ask tick)).length c' 115 6 ((l.filter (zcy ask tick)).flatMap zaG.enc) :: zbo p A c l F ∧ OwnF A' (l.filter (zcy ask tick)).length c' 6 ((l.filter (zcy ask tick)).flatMap zaG.enc)) := by
 refine zaB.dropF ?_
 refine zan Tryz.func110 rfl rfl Tryz.results110 Tryz.ntmps110 rfl rfl ?_
 refine zbm (h := zbo p A c l F) mem1 (fun hl hnc hcc hsome hnone hone => ?_)
 have hall : ∀ g1 g2, zaB Tryz.prog W 74 [.pointer (some ⟨p, 0, none⟩), .func (.func 154) #[] #[.pointer (some ⟨g1, 0, none⟩), .pointer (some ⟨g2, 0, none⟩)]] (.blk g2 2 [.int .i64 tick] :: .blk g1 2 [.int .i64 ask] :: zbo p A c l F) _ := fun g1 g2 =>
  zjv W _ p A c l mem2 (zaJ.own mem3 hl hone) hb _ [_, _] (zcy ask tick) (fun x _ => (zl5 W x g1 g2 ask tick).mono (by intro c hc; simp only [List.mem_cons, List.not_mem_nil, or_false] at hc; rcases hc with rfl | rfl <;> simp))
 repeat' (first | apply zae | apply zaa | apply zaj | apply zad | apply zab hT; iterate 4 exact rfl | apply zaz (hs := (hall _ _)); (iterate 7 exact rfl); rintro _ _ ⟨A', c', rfl, rfl, hf⟩ | apply zaK; (iterate 5 exact rfl); intro _)
 apply ret1; exact rfl
 exact ⟨.own A' (l.filter (zcy ask tick)).length c' 115 6 ((l.filter (zcy ask tick)).flatMap zaG.enc) :: zbo p A c l F, by apply zay; (first | exact sel0); (repeat (first | exact zar | apply zat)), fun w hw => ⟨A', c', rfl, rfl, hf⟩⟩
theorem zpE (W : World) (F : List zax) (p : Nat) (A : Option Addr) (c : Nat) (l : List zaG) (dealer : Int) (hb : l.length ≤ 1000000) :
 zaB Tryz.prog W 46 [.pointer (some ⟨p, 0, none⟩), .int .i64 dealer] (zbo p A c l F)
  (fun v h' => ∃ A' c', v = .slice A' (l.filter (isOf dealer)).length c' ∧ h' = .own A' (l.filter (isOf dealer)).length c' 115 6 ((l.filter (isOf dealer)).flatMap zaG.enc) :: zbo p A c l F ∧ OwnF A' (l.filter (isOf dealer)).length c' 6 ((l.filter (isOf dealer)).flatMap zaG.enc)) := by
 refine zaB.dropF ?_
 refine zan Tryz.func46 rfl rfl Tryz.results46 Tryz.ntmps46 rfl rfl ?_
 refine zbm (h := zbo p A c l F) mem1 (fun hl hnc hcc hsome hnone hone => ?_)
 have hall : ∀ g1, zaB Tryz.prog W 74 [.pointer (some ⟨p, 0, none⟩), .func (.func 75) #[] #[.pointer (some ⟨g1, 0, none⟩)]] (.blk g1 3 [.int .i64 dealer] :: zbo p A c l F) _ := fun g1 =>
  zjv W _ p A c l mem1 (zaJ.own mem2 hl hone) hb _ [_] (isOf dealer) (fun x _ => (zo0 W x g1 dealer).mono (by intro c hc; simp only [List.mem_cons, List.not_mem_nil, or_false] at hc; rcases hc with rfl; simp))
 repeat' (first | apply zae | apply zaa | apply zaj | apply zad | apply zab hT; iterate 4 exact rfl | apply zaz (hs := (hall _)); (iterate 7 exact rfl); rintro _ _ ⟨A', c', rfl, rfl, hf⟩ | apply zaK; (iterate 5 exact rfl); intro _)
 apply ret1; exact rfl
 exact ⟨.own A' (l.filter (isOf dealer)).length c' 115 6 ((l.filter (isOf dealer)).flatMap zaG.enc) :: zbo p A c l F, by apply zay; (first | exact sel0); (repeat (first | exact zar | apply zat)), fun w hw => ⟨A', c', rfl, rfl, hf⟩⟩
/-! ### getting, killing -/
def zqV : zaG := ⟨0, 0, 0, 0, 0, false⟩
def getQ (id : Int) (l : List zaG) : Option zaG := if bsB (cQ id) l then l[bsN (cQ id) l]? else none
theorem zdx {id : Int} {l : List zaG} (h : bsB (cQ id) l = true) : ∃ x, l[bsN (cQ id) l]? = some x ∧ x.id = id ∧ getQ id l = some x := by
 unfold bsB at h
 split at h
 ·rename_i x hx
  refine ⟨x, hx, ?_, ?_⟩
  ·have : cQ id x = 0 := by simpa using h
   unfold cQ cmpI at this; split at this <;> (try split at this) <;> omega
  ·unfold getQ bsB; rw [hx]; simp only at h ⊢; rw [if_pos h]
 ·cases h
theorem zdy {id : Int} {l : List zaG} (h : bsB (cQ id) l = false) : getQ id l = none := by unfold getQ; rw [h]; rfl
def zcm (id : Int) (l : List zaG) : List zaG := match getQ id l with
 | some x => l.set (bsN (cQ id) l) { x with live := false }
 | none => l
def getV (o : Option zaG) : Value := match o with
 | some x => .tuple #[.agg x.enc.toArray, .bool true]
 | none => .tuple #[.agg zqV.enc.toArray, .bool false]
theorem zh3 (W : World) (p : Nat) (A : Option Addr) (c : Nat) (l : List zaG) (id : Int) (hb : l.length ≤ 1000000) (hup : upQ l) :
 zaL Tryz.prog W 106 [.pointer (some ⟨p, 0, none⟩), .int .i64 id] (zbo p A c l []) (getV (getQ id l)) := by
 refine zaL.ofD (fun h' hs => ?_)
 have m1 := hs _ mem0
 have m2 := hs _ mem1
 refine zan Tryz.func106 rfl rfl Tryz.results106 Tryz.ntmps106 rfl rfl ?_
 refine zbm m2 (fun hl hnc hcc hsome hnone hone => ?_)
 have hr : zaJ W h' A l.length 6 (l.flatMap zaG.enc) := zaJ.own m2 hl hone
 have hfind := (zh2 W p A c l id hb hup).mono (h' := h') hs
 unfold zl4 at hfind
 cases hB : bsB (cQ id) l
 ·rw [hB] at hfind
  repeat' (first | apply zae | apply zaa | apply zaj | apply zad | apply zab hT; iterate 4 exact rfl | apply zaI hT; (iterate 5 exact rfl); intro g4 | apply zac (hs := (hfind.mono (fun c hc => .tail _ hc))); iterate 7 exact rfl | apply zb7 hT; iterate 4 exact rfl | (apply zaF hT; (iterate 6 exact rfl); (first | exact sel0 ); (iterate 3 exact rfl); exact nle rfl) | apply zak; iterate 2 exact rfl)
  apply zew; exact rfl; exact zaQ hT rfl rfl mem0 rfl; exact rfl
  exact ⟨by rw [zdy hB]; rfl, zat zar⟩
 ·obtain ⟨x, hx, _, hg⟩ := zdx hB
  rw [hB] at hfind
  have hlt := (List.getElem?_eq_some_iff.1 hx).1
  have hx2 : l[((bsN (cQ id) l : Nat) : Int).toNat]? = some x := by simpa using hx
  obtain ⟨g, hA⟩ := hsome (by omega)
  have hA2 : A.isSome = true := by rw [hA]; rfl
  repeat' (first | apply zae | apply zaa | apply zaj | apply zah | apply zad | apply zab hT; iterate 4 exact rfl | apply zaI hT; (iterate 5 exact rfl); intro g4 | apply zac (hs := (hfind.mono (fun c hc => .tail _ hc))); iterate 7 exact rfl | apply zaS hT; (iterate 8 exact rfl); (iterate 2 omega); exact hA2 | apply zal; (iterate 5 exact rfl); exact zaY hT rfl rfl hr.cons zaG.enc_len rfl hx2 rfl | (apply zaF hT; (iterate 6 exact rfl); (first | exact sel0 ); (iterate 3 exact rfl); exact nle rfl) | (apply zal; (iterate 5 exact rfl); first | exact zaC hT rfl rfl (mcm _ m1) rfl rfl ) | apply zag; iterate 2 exact rfl)
  apply zew; exact rfl; exact zaQ hT rfl rfl mem0 rfl; exact rfl
  exact ⟨by rw [hg]; rfl, zat zar⟩
theorem zfX (W : World) (F : List zax) (p : Nat) (A : Option Addr) (c : Nat) (l : List zaG) (id : Int) (hb : l.length ≤ 1000000) (hup : upQ l) :
 zaB Tryz.prog W 48 [.pointer (some ⟨p, 0, none⟩), .int .i64 id] (zbo p A c l F) (fun v h' => v = .bool ((getQ id l).any (·.live)) ∧ h' = zbo p A c (zcm id l) F) := by
 refine zaB.dropTo ?_
 refine zan Tryz.func48 rfl rfl Tryz.results48 Tryz.ntmps48 rfl rfl ?_
 refine zbm (h := zbo p A c l F) mem1 (fun hl hnc hcc hsome hnone hone => ?_)
 have hr : zaJ W (zbo p A c l F) A l.length 6 (l.flatMap zaG.enc) := zaJ.own mem1 hl hone
 have hfind := (zh2 W p A c l id hb hup).mono (h' := zbo p A c l F) (by intro c hc; simp only [zbo, List.mem_cons, List.not_mem_nil, or_false] at hc ⊢; rcases hc with rfl | rfl <;> simp)
 unfold zl4 at hfind
 cases hB : bsB (cQ id) l
 ·rw [hB] at hfind
  repeat' (first | apply zae | apply zaa | apply zaj | apply zad | apply zab hT; iterate 4 exact rfl | apply zaq; iterate 3 exact rfl | apply zac (hs := hfind); iterate 7 exact rfl | apply zak; iterate 2 exact rfl)
  apply ret1; exact rfl
  exact ⟨_, zar, by rw [zdy hB]; rfl, by rw [zcm, zdy hB]⟩
 ·obtain ⟨x, hx, _, hg⟩ := zdx hB
  rw [hB] at hfind
  have hlt := (List.getElem?_eq_some_iff.1 hx).1
  have hx2 : l[((bsN (cQ id) l : Nat) : Int).toNat]? = some x := by simpa using hx
  obtain ⟨g, hA⟩ := hsome (by omega)
  have hA2 : A.isSome = true := by rw [hA]; rfl
  have hlay : lay (l.flatMap zaG.enc) (bsN (cQ id) l * 6 + 5) [.bool false] = (l.set (bsN (cQ id) l) { x with live := false }).flatMap zaG.enc := zbS zaG.enc_len hx (Nat.le_of_ble_eq_true rfl) rfl
  cases hlv : x.live
  ·repeat' (first | apply zae | apply zaa | apply zaj | apply zad | apply zab hT; iterate 4 exact rfl | apply zac (hs := hfind); iterate 7 exact rfl | apply zaS hT; (iterate 8 exact rfl); (iterate 2 omega); exact hA2 | (apply zal; (iterate 5 exact rfl); exact zbb hT rfl rfl hr zaG.enc_len (zaW _ _ _) hx2 (by decide) (show (zaG.enc x)[5]? = some (.bool false) by rw [← hlv]; rfl)) | (apply zal; (iterate 5 exact rfl); first | exact zaC hT rfl rfl mem0 rfl rfl ) | apply zak; iterate 2 exact rfl)
   apply ret1; exact rfl
   refine ⟨_, zar, by rw [hg]; simp [hlv], ?_⟩
   rw [zcm, hg]
   have : l.set (bsN (cQ id) l) { x with live := false } = l := by
    have e : ({ x with live := false } : zaG) = x := by rw [← hlv]
    rw [e]; exact zj0 hx
   simp only [this]
  ·repeat' (first | apply zae | apply zaa | apply zaj | apply zah | apply zad | apply zab hT; iterate 4 exact rfl | apply zac (hs := hfind); iterate 7 exact rfl | apply zaS hT; (iterate 8 exact rfl); (iterate 2 omega); exact hA2 | (apply zal; (iterate 5 exact rfl); exact zbb hT rfl rfl hr zaG.enc_len (zaW _ _ _) hx2 (by decide) (show (zaG.enc x)[5]? = some (.bool true) by rw [← hlv]; rfl)) | apply zbs hT; (iterate 6 exact rfl); exact sel1; exact zaW _ _ _; exact rfl; exact rfl; (show (bsN (cQ id) l * 6 + 5) + 1 ≤ l.length * 6; omega); omega | (apply zal; (iterate 5 exact rfl); first | exact zaC hT rfl rfl mem0 rfl rfl ) | apply zag; iterate 2 exact rfl)
   apply ret1; exact rfl
   refine ⟨zbo p A c (zcm id l) F, ?_, by rw [hg]; simp [hlv], rfl⟩
   rw [zcm, hg]
   show zbk _ (.blk p 129 [.slice A (l.set (bsN (cQ id) l) { x with live := false }).length c] :: .own A (l.set (bsN (cQ id) l) { x with live := false }).length c 115 6 ((l.set (bsN (cQ id) l) { x with live := false }).flatMap zaG.enc) :: F)
   rw [← hlay, List.length_set]
   apply zay; (first | exact sel1)
   apply zay; (first | exact sel0)
   (repeat (first | exact zar))
def pullE (id dealer : Int) (l : List zaG) : Int := match getQ id l with
 | none => 4
 | some x => if x.dealer = dealer then (if x.live then 0 else 12) else 5
def zex (id dealer : Int) (l : List zaG) : List zaG := if pullE id dealer l = 0 ∨ pullE id dealer l = 12 then zcm id l else l
theorem znD (W : World) (F : List zax) (p : Nat) (A : Option Addr) (c : Nat) (l : List zaG) (id dealer : Int) (hb : l.length ≤ 1000000) (hup : upQ l) :
 zaB Tryz.prog W 146 [.pointer (some ⟨p, 0, none⟩), .int .i64 id, .int .i64 dealer] (zbo p A c l F) (fun v h' => v = .int .i64 (pullE id dealer l) ∧ h' = zbo p A c (zex id dealer l) F) := by
 refine zaB.dropTo ?_
 refine zan Tryz.func146 rfl rfl Tryz.results146 Tryz.ntmps146 rfl rfl ?_
 have hget := (zh3 W p A c l id hb hup).mono (h' := zbo p A c l F) (by intro c hc; simp only [zbo, List.mem_cons, List.not_mem_nil, or_false] at hc ⊢; rcases hc with rfl | rfl <;> simp)
 cases hg : getQ id l with
 | none =>
   rw [hg] at hget
   repeat' (first | apply zae | apply zaa | apply zaj | apply zaf | apply zad | apply zab hT; iterate 4 exact rfl | apply zac (hs := hget); iterate 7 exact rfl | apply zaI hT; (iterate 5 exact rfl); intro g7 | apply zaF hT; (iterate 6 exact rfl); exact sel0; (iterate 3 exact rfl); exact nle rfl | apply zak; iterate 2 exact rfl)
   apply ret1; exact rfl
   exact ⟨zbo p A c l F, zat zar, by simp [pullE, hg], by simp [zex, pullE, hg]⟩
 | some x =>
   rw [hg] at hget
   by_cases hd : x.dealer = dealer
   ·have hd1 : (x.dealer != dealer) = false := by simpa using hd
    have hkill : ∀ g, zaB Tryz.prog W 48 [.pointer (some ⟨p, 0, none⟩), .int .i64 id] (.blk g 115 x.enc :: zbo p A c l F) (fun v h' => v = .bool x.live ∧ h' = zbo p A c (zcm id l) (.blk g 115 x.enc :: F)) := fun g =>
     ((zfX W (.blk g 115 x.enc :: F) p A c l id hb hup).perm (selS (selS sel0)).symm).mono (fun v h' h => by rw [hg] at h; simpa using h)
    cases hlv : x.live
    ·rw [hlv] at hkill
     repeat' (first | apply zae | apply zaa | apply zaj | apply zaf | apply zad | apply zab hT; iterate 4 exact rfl | apply zac (hs := hget); iterate 7 exact rfl | apply zaI hT; (iterate 5 exact rfl); intro g7 | apply zaF hT; (iterate 6 exact rfl); exact sel0; (iterate 3 exact rfl); exact nle rfl | apply zaz (hs := (hkill _)); (iterate 7 exact rfl); rintro _ _ ⟨rfl, rfl⟩ | (apply zal; (iterate 5 exact rfl); first | exact zaC hT rfl rfl mem0 rfl rfl ) | apply zak; iterate 2 exact rfl | apply zag; iterate 2 exact rfl | (apply zam; exact rfl; all_goals (intro hb; (try simp only [hb]); (first | replace hb := zaD hb | replace hb := zaE hb ); (try omega))))
     apply ret1; exact rfl
     exact ⟨zbo p A c (zcm id l) F, by apply zay; (first | exact sel0); apply zay; (first | exact sel0); (repeat (first | exact zar | apply zat)), by simp [pullE, hg, hd, hlv], by simp [zex, pullE, hg, hd, hlv]⟩
    ·rw [hlv] at hkill
     repeat' (first | apply zae | apply zaa | apply zaj | apply zah | apply zaf | apply zad | apply zab hT; iterate 4 exact rfl | apply zac (hs := hget); iterate 7 exact rfl | apply zaI hT; (iterate 5 exact rfl); intro g7 | apply zaF hT; (iterate 6 exact rfl); exact sel0; (iterate 3 exact rfl); exact nle rfl | apply zaz (hs := (hkill _)); (iterate 7 exact rfl); rintro _ _ ⟨rfl, rfl⟩ | (apply zal; (iterate 5 exact rfl); first | exact zaC hT rfl rfl mem0 rfl rfl ) | apply zag; iterate 2 exact rfl | (apply zam; exact rfl; all_goals (intro hb; (try simp only [hb]); (first | replace hb := zaD hb | replace hb := zaE hb ); (try omega))))
     apply ret1; exact rfl
     exact ⟨zbo p A c (zcm id l) F, by apply zay; (first | exact sel0); apply zay; (first | exact sel0); (repeat (first | exact zar | apply zat)), by simp [pullE, hg, hd, hlv], by simp [zex, pullE, hg, hd, hlv]⟩
   ·have hd1 : (x.dealer != dealer) = true := by simpa using hd
    repeat' (first | apply zae | apply zaa | apply zaj | apply zaf | apply zad | apply zab hT; iterate 4 exact rfl | apply zac (hs := hget); iterate 7 exact rfl | apply zaI hT; (iterate 5 exact rfl); intro g7 | apply zaF hT; (iterate 6 exact rfl); exact sel0; (iterate 3 exact rfl); exact nle rfl | (apply zal; (iterate 5 exact rfl); first | exact zaC hT rfl rfl mem0 rfl rfl ) | apply zag; iterate 2 exact rfl | (apply zam; exact rfl; all_goals (intro hb; (try simp only [hb]); (first | replace hb := zaD hb | replace hb := zaE hb ); (try omega))))
    apply ret1; exact rfl
    exact ⟨zbo p A c l F, zat zar, by simp [pullE, hg, hd], by simp [zex, pullE, hg, hd]⟩
/-! ### putting -/
def metQ (q x : zaG) : Bool := x.ask == q.ask && x.dealer == q.dealer && x.live
def offQ (q x : zaG) : zaG := if metQ q x then { x with live := false } else x
def oldQ (q : zaG) (l : List zaG) : Int := l.foldl (fun o x => if metQ q x then x.id else o) 0
def badQ (q : zaG) (l : List zaG) : Bool := bsB (cQ q.id) l || decide (q.id < 1) || decide (q.ask < 1) || decide (q.price < 1) || decide (q.dealer < 0) || !q.live
def putQ (q : zaG) (l : List zaG) : List zaG := if badQ q l then l else (l.map (offQ q)).take (bsN (cQ q.id) l) ++ [q] ++ (l.map (offQ q)).drop (bsN (cQ q.id) l)
def putV (q : zaG) (l : List zaG) : Value := if badQ q l then .tuple #[.int .i64 0, .int .i64 1] else .tuple #[.int .i64 (oldQ q l), .int .i64 0]
set_option maxHeartbeats 1000000 in
theorem zo1 (W : World) (F : List zax) (p : Nat) (A : Option Addr) (c : Nat) (l : List zaG) (q : zaG) (hb : l.length ≤ 1000000) (hup : upQ l) :
 zaB Tryz.prog W 104 [.pointer (some ⟨p, 0, none⟩), .agg q.enc.toArray] (zbo p A c l F) (fun v h' => v = putV q l ∧ ∃ A' c', h' = zbo p A' c' (putQ q l) F) := by
 refine zaB.dropTo ?_
 refine zan Tryz.func104 rfl rfl Tryz.results104 Tryz.ntmps104 rfl rfl ?_
 refine zbm (h := zbo p A c l F) mem1 (fun hl hnc hcc hsome hnone hone => ?_)
 have hfind : ∀ g, zaL Tryz.prog W 76 [.pointer (some ⟨p, 0, none⟩), .int .i64 q.id] (.blk g 115 q.enc :: zbo p A c l F) (zl4 q.id l) := fun g => (zh2 W p A c l q.id hb hup).mono (by intro c hc; simp only [zbo, List.mem_cons, List.not_mem_nil, or_false] at hc ⊢; rcases hc with rfl | rfl <;> simp)
 unfold zl4 at hfind
 by_cases hbad : badQ q l = true
 ·have hp : putQ q l = l := by simp [putQ, hbad]
  have hv : putV q l = .tuple #[.int .i64 0, .int .i64 1] := by simp [putV, hbad]
  cases hB : bsB (cQ q.id) l
  all_goals
   rw [hB] at hfind
   repeat' (first | apply zae | apply zaa | apply zaj | apply zah | apply zaf | apply zad | apply zab hT; iterate 4 exact rfl | apply zaq; iterate 3 exact rfl | apply zac (hs := (hfind _)); iterate 7 exact rfl | (apply zal; (iterate 5 exact rfl); first | exact zaC hT rfl rfl mem0 rfl rfl ) | (apply zal; (iterate 5 exact rfl); first | exact zaC hT rfl rfl mem1 rfl rfl ) | apply zaK; (iterate 5 exact rfl); intro _ | apply zak; iterate 2 exact rfl | (apply zav; exact rfl; all_goals (intro hb; (try simp only [hb]); (first | replace hb := odt hb | replace hb := odf hb ); (try omega))) | (apply zam; exact rfl; all_goals (intro hb; (try simp only [hb]); (first | skip); (try omega))))
  all_goals first
   | (apply ret2; exact rfl; exact rfl; exact ⟨zbo p A c l F, zat zar, hv.symm, A, c, by rw [hp]⟩)
   | skip
  all_goals (exfalso; simp_all [badQ]; try omega)
 ·have hbad2 : badQ q l = false := by simpa using hbad
  have hv : putV q l = .tuple #[.int .i64 (oldQ q l), .int .i64 0] := by simp [putV, hbad]
  simp only [badQ, Bool.or_eq_false_iff, decide_eq_false_iff_not, Bool.not_eq_false'] at hbad2
  obtain ⟨⟨⟨⟨⟨hB, k1⟩, k2⟩, k3⟩, k4⟩, k5⟩ := hbad2
  have e1 : decide (q.id < 1) = false := by simpa using k1
  rw [hB] at hfind
  repeat' (first | apply zae | apply zaa | apply zaj | apply zah | apply zaf | apply zad | apply zab hT; iterate 4 exact rfl | apply zaK; (iterate 5 exact rfl); intro g3 | apply zac (hs := (hfind _)); iterate 7 exact rfl | (apply zal; (iterate 5 exact rfl); first | exact zaC hT rfl rfl mem0 rfl rfl ) | (apply zal; (iterate 5 exact rfl); first | exact zaC hT rfl rfl mem1 rfl rfl ) | (apply zav; exact rfl; all_goals (intro hb; (try simp only [hb]); (first | replace hb := odt hb | replace hb := odf hb ); (try omega))) | (apply zam; exact rfl; all_goals (intro hb; (try simp only [hb]); (first | skip); (try omega))))
  ·exfalso; simp_all
  refine zbU (α := Nat × Int × List zaG) (E := fun x => [(0, .pointer (some ⟨p, 0, none⟩)), (3, .pointer (some ⟨g3, 0, none⟩)), (4, .int .i64 x.2.1), (6, .int .i64 (bsN (cQ q.id) l)), (51, .int .i64 l.length), (52, .int .i64 x.1)])
   (H := fun x => .blk g3 115 q.enc :: .blk p 129 [.slice A l.length c] :: .own A l.length c 115 6 (x.2.2.flatMap zaG.enc) :: F) (μ := fun x => l.length - x.1)
   (S := fun x => x.1 ≤ l.length ∧ x.2.1 = oldQ q (l.take x.1) ∧ x.2.2 = (l.take x.1).map (offQ q) ++ l.drop x.1) (0, 0, l) (J := []) ⟨Nat.zero_le _, rfl, rfl⟩ ⟨rfl, rfl, rfl, rfl, rfl, rfl, trivial⟩ (List.Perm.refl _) ?_
  rintro ⟨k, old, m⟩ ⟨s1, s2, s3⟩
  dsimp only at s1 s2 s3 ⊢
  have hml : m.length = l.length := by rw [s3]; simp; omega
  have hrd : ∀ h, zax.own A l.length c 115 6 (m.flatMap zaG.enc) ∈ h → zaJ W h A l.length 6 (m.flatMap zaG.enc) := fun h hm => zaJ.own hm (by rw [zdf zaG.enc_len, hml]) (fun v hv => by obtain ⟨y, _, hy⟩ := List.mem_flatMap.1 hv; exact zaG.enc_one y v hy)
  by_cases hlt : k < l.length
  ·obtain ⟨x, hx⟩ : ∃ x, l[k]? = some x := ⟨l[k]'(by omega), List.getElem?_eq_getElem (by omega)⟩
   have hlk : ((l.take k).map (offQ q)).length = k := by simp; omega
   have hxm : m[k]? = some x := by rw [s3, List.getElem?_append_right (by omega), hlk]; simpa using hx
   have hx2 : m[(k : Int).toNat]? = some x := by simpa using hxm
   obtain ⟨g, hA⟩ := hsome (by omega)
   have hA2 : A.isSome = true := by rw [hA]; rfl
   have hd1 : decide ((k : Int) < (l.length : Int)) = true := by simp; omega
   have hset : m.set k (offQ q x) = (l.take (k + 1)).map (offQ q) ++ l.drop (k + 1) := by
    rw [s3, List.set_append_right _ _ (by omega), hlk, Nat.sub_self, List.take_add_one, hx, List.drop_eq_getElem_cons hlt, List.set_cons_zero]
    simp
   have hold : oldQ q (l.take (k + 1)) = if metQ q x then x.id else old := by
    rw [List.take_add_one, hx, oldQ, List.foldl_append, s2]; rfl
   cases hmet : metQ q x
   ·have hoff : m.set k (offQ q x) = m := by rw [show offQ q x = x by simp [offQ, hmet]]; exact zj0 hxm
    rw [hoff] at hset
    rw [hmet] at hold
    repeat' (first | apply zae | apply zaa | apply zah | apply zaf | apply zad | apply zab hT; iterate 4 exact rfl | apply zaq; iterate 3 exact rfl | apply zaN hT; (iterate 4 exact rfl); (iterate 2 omega) | apply zaM [] [] hmix; decide +kernel | apply zaS hT; (iterate 8 exact rfl); (iterate 2 omega); exact hA2 | (apply zal; (iterate 5 exact rfl); exact zbb hT rfl rfl (hrd _ mem2) zaG.enc_len (zaW _ _ _) hx2 (by decide) rfl) | (apply zal; (iterate 5 exact rfl); first | exact zaC hT rfl rfl mem0 rfl rfl ) | (apply zal; (iterate 5 exact rfl); first | exact zaC hT rfl rfl mem1 rfl rfl ) | apply zag; iterate 2 exact rfl | (apply zav; exact rfl; all_goals (intro hb; (try simp only [hb]); (first | replace hb := odt hb | replace hb := odf hb ); (try omega))) | (apply zam; exact rfl; all_goals (intro hb; (try simp only [hb]); (first | replace hb := odt hb | replace hb := odf hb | skip); (try omega))))
    all_goals first
     | exact zaR (k + 1, old, m) (by dsimp only; omega) ⟨by dsimp only; omega, hold.symm, hset⟩ ⟨rfl, rfl, rfl, rfl, rfl, rfl, trivial⟩ zar
     | (exfalso; simp_all [metQ])
   ·have hoff : offQ q x = { x with live := false } := by simp [offQ, hmet]
    rw [hoff] at hset
    rw [hmet] at hold
    have hlay : lay (m.flatMap zaG.enc) (k * 6 + 5) [.bool false] = (m.set k { x with live := false }).flatMap zaG.enc := zbS zaG.enc_len hxm (Nat.le_of_ble_eq_true rfl) rfl
    have hrd2 : ∀ h, zax.own A l.length c 115 6 (lay (m.flatMap zaG.enc) (k * 6 + 5) [.bool false]) ∈ h → zaJ W h A l.length 6 ((m.set k { x with live := false }).flatMap zaG.enc) := fun h hm => by
     rw [hlay] at hm
     exact zaJ.own hm (by rw [zdf zaG.enc_len, List.length_set, hml]) (fun v hv => by obtain ⟨y, _, hy⟩ := List.mem_flatMap.1 hv; exact zaG.enc_one y v hy)
    have hx3 : (m.set k { x with live := false })[(k : Int).toNat]? = some { x with live := false } := by
     rw [Int.toNat_natCast, List.getElem?_set_self (by omega)]
    have hmet' := hmet
    simp only [metQ, Bool.and_eq_true, beq_iff_eq] at hmet'
    obtain ⟨⟨n1, n2⟩, n3⟩ := hmet'
    repeat' (first | apply zae | apply zaa | apply zah | apply zaf | apply zad | apply zab hT; iterate 4 exact rfl | apply zaN hT; (iterate 4 exact rfl); (iterate 2 omega) | apply zaM [] [] hmix; decide +kernel | apply zaS hT; (iterate 8 exact rfl); (iterate 2 omega); exact hA2 | (apply zal; (iterate 5 exact rfl); first | exact zbb hT rfl rfl (hrd _ mem2) zaG.enc_len (zaW _ _ _) hx2 (by decide) rfl | exact zbb hT rfl rfl (hrd2 _ mem0) zaG.enc_len (zaW _ _ _) hx3 (by decide) rfl) | (apply zbs hT; (iterate 6 exact rfl); (first | exact selS sel1 ); exact zaW _ _ _; exact rfl; exact rfl; (show (k * 6 + 5) + 1 ≤ l.length * 6; omega); omega) | (apply zal; (iterate 5 exact rfl); first | exact zaC hT rfl rfl mem0 rfl rfl ) | (apply zal; (iterate 5 exact rfl); first | exact zaC hT rfl rfl mem1 rfl rfl ) | (apply zav; exact rfl; all_goals (intro hb; (try simp only [hb]); (first | replace hb := odt hb | replace hb := odf hb ); (try omega))) | (apply zam; exact rfl; all_goals (intro hb; (try simp only [hb]); (first | replace hb := odt hb | replace hb := odf hb | skip); (try omega))))
    all_goals first
     | (refine zaR (k + 1, x.id, m.set k { x with live := false }) (by dsimp only; omega) ⟨by dsimp only; omega, hold.symm, hset⟩ ⟨rfl, rfl, rfl, rfl, rfl, rfl, trivial⟩ ?_
        dsimp only
        rw [← hlay]
        apply zay; (first | exact sel1)
        apply zay; (first | exact sel1)
        apply zay; (first | exact sel0)
        (repeat (first | exact zar)))
     | (exfalso; simp_all)
  ·obtain rfl : k = l.length := by omega
   have hd1 : decide ((l.length : Int) < (l.length : Int)) = false := by simp
   rw [List.take_length] at s2 s3
   rw [List.drop_length, List.append_nil] at s3
   subst s2 s3
   have hle := zly (c := cQ q.id) (l := l)
   have hpq : putQ q l = (l.map (offQ q)).take (bsN (cQ q.id) l) ++ [q] ++ (l.map (offQ q)).drop (bsN (cQ q.id) l) := by simp [putQ, hbad]
   have hplen : (putQ q l).length = l.length + 1 := by rw [hpq]; simp; omega
   have hc : ((l.map (offQ q)).flatMap zaG.enc).take ((bsN (cQ q.id) l) * 6) ++ q.enc ++ ((l.map (offQ q)).flatMap zaG.enc).drop ((bsN (cQ q.id) l) * 6) = (putQ q l).flatMap zaG.enc := by
    rw [zci zaG.enc_len, zc6 zaG.enc_len, hpq]; simp
   have hins : ∀ gv, zaB Tryz.prog W 147 [.slice A l.length c, .int .i64 (bsN (cQ q.id) l), .slice (some ⟨gv, 0, none⟩) 1 1] (.own (some ⟨gv, 0, none⟩) 1 1 115 6 q.enc :: .blk g3 115 q.enc :: .blk p 129 [.slice A l.length c] :: .own A l.length c 115 6 ((l.map (offQ q)).flatMap zaG.enc) :: F) _ := fun gv =>
    (zju W (.own (some ⟨gv, 0, none⟩) 1 1 115 6 q.enc :: .blk g3 115 q.enc :: .blk p 129 [.slice A l.length c] :: F) A l.length c (bsN (cQ q.id) l) ((l.map (offQ q)).flatMap zaG.enc) gv q.enc mem0 (by omega) (by omega) (by omega)).perm (selS (selS (selS sel0)))
   repeat' (first | apply zae | apply zaa | apply zaj | apply zas | apply zad | apply zab hT; iterate 4 exact rfl | apply zaM [] [] hmix; decide +kernel | apply zao hT; (iterate 12 exact rfl); intro gv | apply zaz (hs := (hins _)); (iterate 7 exact rfl); rintro _ _ ⟨A', c', rfl, rfl⟩ | (apply zaF hT; (iterate 6 exact rfl); (first | exact selS (selS sel1) ); (iterate 3 exact rfl); exact nle rfl) | (apply zal; (iterate 5 exact rfl); first | exact zaQ hT rfl rfl mem0 rfl) | (apply zal; (iterate 5 exact rfl); first | exact zaC hT rfl rfl mem1 rfl rfl ) | (apply zam; exact rfl; all_goals (intro hb; (try simp only [hb]); (first | replace hb := odt hb | replace hb := odf hb ); (try omega))))
   apply ret2; exact rfl; exact rfl
   refine ⟨zbo p A' c' (putQ q l) F, ?_, hv.symm, A', c', rfl⟩
   rw [zbo, hplen, ← hc]
   apply zay; (first | exact sel0)
   apply zay; (first | exact sel0)
   (repeat (first | exact zar | apply zat))
end Go.Proofs.YtakilgkpfjhfdaaGreat
namespace Go.Proofs.YtakilgkpfjhfdaaGreat
open Go Go.Sl
attribute [local irreducible] AW ES Ld RetQ
set_option maxRecDepth 100000
theorem zl6 (W : World) (h : List zax) (A : Option Addr) (n c : Nat) (cs : List Value) (hr : zaJ W h A n 10 cs) (hb : n * 80 ≤ 140737488355328) :
 zaB Tryz.prog W 85 [.slice A n c] h (fun v h' => ∃ A' c', v = .slice A' n c' ∧ h' = .own A' n c' 68 10 cs :: h) := by
 refine zaB.drop ?_
 refine zan Tryz.func85 rfl rfl Tryz.results85 Tryz.ntmps85 rfl rfl ?_
 refine zaU hr rfl (fun hA => ?_)
 cases A with
 | none =>
   have hn : n = 0 := by
    rcases Nat.eq_zero_or_pos n with h | h
    ·exact h
    ·have := hA h; simp at this
   subst hn
   have hcs : cs = [] := List.eq_nil_of_length_eq_zero (by simpa using hr.len)
   subst hcs
   refine zbV (fun w hw => ⟨_, hw.own_nil 68 10, ?_⟩)
   repeat' (first | apply zae | apply zaa | apply zaj | apply zad | apply zab hT; iterate 4 exact rfl | apply zak; iterate 2 exact rfl)
   apply ret1; exact rfl
   exact ⟨[], _, List.Perm.refl _, none, 0, rfl, rfl⟩
 | some ad =>
   repeat' (first | apply zae | apply zaa | apply zaj | apply zah | apply zad | apply zab hT; iterate 4 exact rfl | apply zao hT; (iterate 12 exact rfl); intro g1 | apply zbg hT; (iterate 10 exact rfl); exact sel0; exact hr.cons; omega; (show (0 + n) * 80 ≤ _; omega); intro A' c' | apply zag; iterate 2 exact rfl)
   apply ret1; exact rfl
   refine ⟨[], _, List.Perm.refl _, A', c', by rw [Nat.zero_add], ?_⟩
   show zax.own A' (0 + n) c' 68 10 ([] ++ cs) :: h = _
   simp
theorem zjw (W : World) (h : List zax) (A : Option Addr) (n c : Nat) (l : List AskR) (hn : l.length = n) (hr : zaJ W h A n 10 (l.flatMap AskR.enc)) (tgt : Value) (htg : ∃ a, tgt = .int .i64 a) (fn : FuncId) (cap : List Value) (cf : AskR → Int)
 (hf : ∀ x ∈ l, zaL Tryz.prog W fn ([.agg x.enc.toArray, tgt] ++ cap) h (.int .i64 (cf x))) (hmono : ∀ (i j : Nat) x y, i ≤ j → l[i]? = some x → l[j]? = some y → cf y < 0 → cf x < 0) (hb : n ≤ 2305843009213693951) :
 zaL Tryz.prog W 135 [.slice A n c, tgt, .func (.func fn) #[] cap.toArray] h (.tuple #[.int .i64 (bsN cf l), .bool (bsB cf l)]) := by
 obtain ⟨ta, rfl⟩ := htg
 refine zaL.of (fun h' hs => ?_)
 have hr' := hr.mono hs
 refine zan Tryz.func135 rfl rfl Tryz.results135 Tryz.ntmps135 rfl rfl ?_
 refine zaU hr' rfl (fun hA => ?_)
 repeat' (first | apply zae | apply zaa | apply zaf | apply zad | apply zab hT; iterate 4 exact rfl)
 refine zbU (α := Int × Int) (E := fun p => [(0, .slice A n c), (2, .func (.func fn) #[] cap.toArray), (1, .int .i64 ta), (8, .int .i64 n), (9, .int .i64 p.1), (10, .int .i64 p.2)]) (H := fun _ => _) (μ := fun p => (p.2 - p.1).toNat)
  (S := fun p => 0 ≤ p.1 ∧ p.1 ≤ p.2 ∧ p.2 ≤ n ∧ (∀ (k : Nat) y, (k : Int) < p.1 → l[k]? = some y → cf y < 0) ∧ (∀ (k : Nat) y, p.2 ≤ (k : Int) → l[k]? = some y → ¬ cf y < 0)) (0, (n : Int)) (J := [])
  ⟨by simp, by simp, by simp, fun k y hk => by simp at hk; omega, fun k y hk hy => by have := (List.getElem?_eq_some_iff.1 hy).1; simp at hk; omega⟩ ⟨rfl, rfl, rfl, rfl, rfl, rfl, trivial⟩ (List.Perm.refl _) ?_
 rintro ⟨i, j⟩ ⟨s1, s2, s3, s4, s5⟩
 simp only at s1 s2 s3 s4 s5
 by_cases hlt : i < j
 ·obtain ⟨m, hm⟩ : ∃ m : Nat, (i + j) / 2 = (m : Int) := ⟨((i + j) / 2).toNat, by omega⟩
  have hm2 : ((i + j) / 2).toNat = m := by omega
  obtain ⟨x, hx⟩ : ∃ x, l[m]? = some x := ⟨l[m]'(by omega), List.getElem?_eq_getElem (by omega)⟩
  have hx2 : l[((i + j) / 2).toNat]? = some x := by rw [hm2]; exact hx
  have hfx := (hf x (List.mem_of_getElem? hx)).mono hs
  have hA' := hA (by omega)
  repeat' (first | apply zae | apply zaa | apply zah | apply zaf | apply zad | apply zab hT; iterate 4 exact rfl | apply zaN hT; (iterate 4 exact rfl); (iterate 2 omega) | apply zit hT; (iterate 4 exact rfl); (iterate 2 omega) | apply zjk; iterate 6 exact rfl | apply zaS hT; (iterate 8 exact rfl); (iterate 2 omega); exact hA' | (apply zal; (iterate 5 exact rfl); first | exact zaY hT rfl rfl hr' AskR.enc_len rfl hx2 rfl ) | apply zac (hs := hfx); iterate 7 exact rfl | (apply zam; exact rfl; all_goals (intro hb; (try simp only [hb]); (first | replace hb := odt hb | replace hb := odf hb ); (try omega))))
  ·have hcx := hb
   refine ⟨((i + j) / 2 + 1, j), [], by dsimp only; omega, ⟨by dsimp only; omega, by dsimp only; omega, s3, fun k y hk hy => ?_, s5⟩, ⟨rfl, rfl, rfl, rfl, rfl, rfl, trivial⟩, List.Perm.refl _⟩
   exact hmono k m y x (by dsimp only at hk; omega) hy hx hcx
  ·have hcx := hb
   refine ⟨(i, (i + j) / 2), [], by dsimp only; omega, ⟨s1, by dsimp only; omega, by dsimp only; omega, s4, fun k y hk hy hneg => hcx (hmono m k x y (by dsimp only at hk; omega) hx hy hneg)⟩, ⟨rfl, rfl, rfl, rfl, rfl, rfl, trivial⟩, List.Perm.refl _⟩
 ·obtain ⟨m, hm⟩ : ∃ m : Nat, i = (m : Int) := ⟨i.toNat, by omega⟩
  subst hm
  obtain rfl : j = (m : Int) := by omega
  have hbs : bsN cf l = m := zhp (by omega) (fun k y hk hy => s4 k y (by omega) hy) (fun y hy => s5 m y (by omega) hy)
  by_cases hmn : m < n
  ·obtain ⟨x, hx⟩ : ∃ x, l[m]? = some x := ⟨l[m]'(by omega), List.getElem?_eq_getElem (by omega)⟩
   have hx2 : l[(m : Int).toNat]? = some x := by simpa using hx
   have hfx := (hf x (List.mem_of_getElem? hx)).mono hs
   have hA' := hA (by omega)
   have hd : decide ((m : Int) < (n : Int)) = true := by simp; omega
   repeat' (first | apply zae | apply zaa | apply zaj | apply zas | apply zad | apply zab hT; iterate 4 exact rfl | apply zaS hT; (iterate 8 exact rfl); (iterate 2 omega); exact hA' | (apply zal; (iterate 5 exact rfl); first | exact zaY hT rfl rfl hr' AskR.enc_len rfl hx2 rfl ) | apply zac (hs := hfx); iterate 7 exact rfl | (apply zav; exact rfl; all_goals (intro hb; (try simp only [hb]); (first | replace hb := odt hb | replace hb := odf hb ); (try omega))) | (apply zam; exact rfl; all_goals (intro hb; (try simp only [hb]); (first | replace hb := odt hb | replace hb := odf hb ); (try omega))))
   apply ret2; exact rfl; exact rfl
   exact ⟨by rw [bsB, hbs, hx], [], List.Perm.refl _⟩
  ·have hx : l[m]? = none := List.getElem?_eq_none (by omega)
   repeat' (first | apply zae | apply zaa | apply zaj | apply zas | apply zad | apply zab hT; iterate 4 exact rfl | apply zaq; iterate 3 exact rfl | (apply zav; exact rfl; all_goals (intro hb; (try simp only [hb]); (first | replace hb := odt hb | replace hb := odf hb ); (try omega))) | (apply zam; exact rfl; all_goals (intro hb; (try simp only [hb]); (first | replace hb := odt hb | replace hb := odf hb ); (try omega))))
   apply ret2; exact rfl; exact rfl
   exact ⟨by rw [bsB, hbs, hx], [], List.Perm.refl _⟩
theorem ziH (W : World) (h : List zax) (gv g n c o m2 c2 : Nat) (vs cur : List Value) (hv : zax.own (some ⟨gv, 0, none⟩) 1 1 68 10 vs ∈ h) (hg : zax.blk g 68 cur ∈ h) (hne : gv ≠ g) (hcur : cur.length ≠ 0) :
 ∀ w, RepS W h w → (callFunc 189 [Value.slice (some ⟨gv, 0, none⟩) 1 1, .slice (some ⟨g, o, none⟩) m2 c2].toArray).run Tryz.prog w = .ok (.value (.bool false)) w := fun w hw => by
 have h1 := hw.heap_blk hg
 have h2 := (hw.holds _ hv).1
 rcases h2.2 with ⟨hx, _⟩ | ⟨g', cap, cv, hx, _, hgv, _⟩
 ·cases hx
 ·injection hx with hA _ _
  injection hA with hA
  injection hA with hA _ _
  subst hA
  have hz : ∀ w, (Go.sizeOf 68).run Tryz.prog w = .ok 10 w := fun w => (hT _ _ (rfl : TT.lookup 68 = some ti68)).sz w
  rw [run_callFunc_extern Tryz.func189 (by kernel_rfl) (by kernel_rfl) (by kernel_rfl) (e := Extern.SlicesOverlaps.overlaps #[64, 64] #[4]) (by kernel_rfl)]
  have := Lib.run_overlaps_apart (P := Tryz.prog) w 64 4 68 Tryz.underlying64 10 hz ⟨gv, 0, none⟩ ⟨g, o, none⟩ 1 1 m2 c2 hne 68 68 cv.size cur.length (by simp [World.shape?, hgv]) (by simp [World.shape?, h1]) hcur (by simp [World.frozen?, hgv]) (by simp [World.frozen?, hgv])
  rw [this]
  rfl
theorem zkO (W : World) (F : List zax) (A : Option Addr) (n c : Nat) (i : Int) (cs : List Value) (gv : Nat) (vs : List Value) (hv : zax.own (some ⟨gv, 0, none⟩) 1 1 68 10 vs ∈ F) (h0 : 0 ≤ i) (hin : i ≤ n) (hb : (n + 1) * 80 ≤ 140737488355328) :
 zaB Tryz.prog W 162 [.slice A n c, .int .i64 i, .slice (some ⟨gv, 0, none⟩) 1 1] (.own A n c 68 10 cs :: F)
  (fun v h' => ∃ A' c', v = .slice A' (n + 1) c' ∧ h' = .own A' (n + 1) c' 68 10 (cs.take (i.toNat * 10) ++ vs ++ cs.drop (i.toNat * 10)) :: F) := by
 obtain ⟨i, rfl⟩ := Int.eq_ofNat_of_zero_le h0
 simp only [Int.toNat_natCast]
 refine zaB.drop ?_
 refine zan Tryz.func162 rfl rfl Tryz.results162 Tryz.ntmps162 rfl rfl ?_
 refine zbm mem0 (fun hl hnc hcc hsome hnone hone => ?_)
 refine zbm (mcm _ hv) (fun hvl _ _ _ _ hvone => ?_)
 have hvl : vs.length = 10 := by simpa using hvl
 have hrvG : ∀ c0, zaJ W (c0 :: F) (some ⟨gv, 0, none⟩) 1 10 vs := fun c0 => zaJ.own (mcm _ hv) (by simpa using hvl) hvone
 have hrv := hrvG (.own A n c 68 10 cs)
 have hmin1 : ∀ m, 0 < m → Nat.min 1 m = 1 := fun m hm => by show min 1 m = 1; omega
 have hrs : zaJ W (.own A n c 68 10 cs :: F) A n 10 cs := zaJ.own mem0 hl hone
 by_cases hi : i = n
 ·subst hi
  have he : ((i : Int) == (i : Int)) = true := by simp
  repeat' (first | apply zae | apply zaa | apply zaj | apply zah | apply zad | apply zab hT; iterate 4 exact rfl | apply zby hT; (iterate 8 exact rfl); (iterate 3 omega); exact rfl | apply zak; exact rfl; exact he | apply zbg hT; (iterate 10 exact rfl); exact sel0; exact hrv; omega; (show (i + 1) * 80 ≤ _; omega); intro A' c' | apply zag; iterate 2 exact rfl)
  apply ret1; exact rfl
  refine ⟨[], _, List.Perm.refl _, A', c', rfl, ?_⟩
  show zax.own A' (i + 1) c' 68 10 (cs ++ vs) :: F = _
  rw [List.take_of_length_le (by omega), List.drop_of_length_le (by omega), List.append_nil]
 ·have hlt : i < n := by omega
  have he : ((i : Int) == (n : Int)) = false := by simp; omega
  obtain ⟨g, rfl⟩ := hsome (by omega)
  by_cases hroom : n + 1 ≤ c
  ·
   refine zbV (fun w hw => ?_)
   have hnd := hw.nodup
   have hgv : gv ≠ g := by
    intro e
    simp only [List.flatMap_cons, List.nodup_append] at hnd
    exact hnd.2.2 g (by simp [zax.keys]) g (List.mem_flatMap.2 ⟨_, hv, by simp [zax.keys, e]⟩) rfl
   refine ⟨_, hw, ?_⟩
   refine zfs sel0 (fun cur hcl htk _ _ _ _ => ?_)
   have hr0 : zaJ W (.blk g 68 cur :: F) (some ⟨g, 0, none⟩) n 10 cs := zaJ.blk mem0 (by simpa using htk) hl hone
   have hr1 := hr0.cut hnc (show i ≤ n by omega) (Nat.le_refl n)
   rw [List.take_of_length_le (by rw [List.length_drop, hl, Nat.sub_mul]; omega), zcs (by omega)] at hr1
   have hdl : (cs.drop (i * 10)).length = (n - i) * 10 := hr1.len
   have hmin2 : Nat.min (n + 1 - i) (n + 1 - (i + 1)) = n - i := by show min (n + 1 - i) (n + 1 - (i + 1)) = n - i; omega
   have hov := ziH W (.blk g 68 cur :: F) gv g n c ((i + 1) * 10) (n + 1 - (i + 1)) (c - (i + 1)) vs cur (mcm _ hv) mem0 hgv (by omega)
   refine zfv (Q' := RetQ Tryz.prog W #[ResultVar.tmp 6].toList (fun v h' => v = .slice (some ⟨g, 0, none⟩) (n + 1) c ∧ h' = .blk g 68 (lay (lay cur (i * 10 + vs.length) (cs.drop (i * 10))) (i * 10) vs) :: F)) (zdq ?_) ?_
   ·rintro v h' ⟨hv', rfl⟩ w hw
    have hb2 := zfu (cur := cur) (v := vs) (S := cs.drop (i * 10)) (a := i * 10) (by omega)
    rw [hb2] at hw
    have htk2 : cur.take (i * 10) = cs.take (i * 10) := by rw [← htk, List.take_take, Nat.min_eq_left (by omega)]
    have hone2 : ∀ u ∈ cs.take (i * 10) ++ vs ++ cs.drop (i * 10), u.oneCell' = true := fun u hu => by
     simp only [List.mem_append] at hu
     rcases hu with (hu | hu) | hu
     ·exact hone u (List.mem_of_mem_take hu)
     ·exact hvone u hu
     ·exact hone u (List.mem_of_mem_drop hu)
    have hl2 : (cs.take (i * 10) ++ vs ++ cs.drop (i * 10)).length = (n + 1) * 10 := by simp only [List.length_append, List.length_take, hdl, hvl, hl]; omega
    refine ⟨_, hw.shut_ (n := n + 1) (c := c) (k := 10) ?_ ?_ hl2 hroom hcc hone2, [], _, List.Perm.refl _, some ⟨g, 0, none⟩, c, hv', rfl⟩
    ·simp only [List.length_append, List.length_take, List.length_drop, hvl, hcl, hl]; omega
    ·rw [htk2, ← hl2, List.take_left]
   ·repeat' (first | apply zae | apply zaa | apply zaj | apply zah | apply zad | apply zab hT; iterate 4 exact rfl | apply zaN hT; (iterate 4 exact rfl); (iterate 2 omega) | apply zaM [] [] hmix; decide +kernel | (apply zby hT; (iterate 8 exact rfl); (iterate 3 omega); first | exact zcs (by omega) ) | apply zhn hT; iterate 6 exact rfl | apply zbX hT; (iterate 8 exact rfl); (iterate 2 omega) | apply zag; exact rfl; exact he | apply ze2; (iterate 6 exact rfl); exact hov | (apply zcb hT (k := 10); (iterate 10 exact rfl); exact sel0; exact rfl; exact (show zaJ W (.blk g 68 cur :: F) (some ⟨g, i * 10, none⟩) (Nat.min (n + 1 - i) (n + 1 - (i + 1))) 10 (cs.drop (i * 10)) from (by rw [hmin2]; exact hr1)); (show (i + 1) * 10 + (cs.drop (i * 10)).length ≤ cur.length; omega)) | (apply zcb hT (k := 10); (iterate 10 exact rfl); exact sel0; exact rfl; exact (show zaJ W _ (some ⟨gv, 0, none⟩) (Nat.min 1 (n + 1 - i)) 10 vs from (by rw [hmin1 _ (by omega)]; exact hrvG _)); (show i * 10 + vs.length ≤ (lay cur ((i + 1) * 10) (cs.drop (i * 10))).length; rw [zcI (by omega)]; omega)) | apply zak; iterate 2 exact rfl | apply zag; iterate 2 exact rfl | (apply zam; exact rfl; all_goals (intro hb; (try simp only [hb]); (first | replace hb := odt hb | replace hb := odf hb ); (try omega))))
    apply ret1; exact rfl
    refine ⟨rfl, ?_⟩
    show zax.blk g 68 (lay (lay cur ((i + 1) * 10) (cs.drop (i * 10))) (i * 10) vs) :: F = _
    rw [hvl, ← Nat.succ_mul]
  ·
   have hz : (ti68.zero.cells.toList).length = 10 := rfl
   have hr1 : ∀ c0, zaJ W (c0 :: .own (some ⟨g, 0, none⟩) n c 68 10 cs :: F) (some ⟨g, i * 10, none⟩) (n - i) 10 (cs.drop (i * 10)) := fun c0 => by
    have := (zaJ.own (W := W) (h := c0 :: .own (some ⟨g, 0, none⟩) n c 68 10 cs :: F) mem1 hl hone).cut hnc (show i ≤ n by omega) (Nat.le_refl n)
    rw [List.take_of_length_le (by rw [List.length_drop, hl, Nat.sub_mul]; omega), zcs (by omega)] at this
    exact this
   have hdl : (cs.drop (i * 10)).length = (n - i) * 10 := (hr1 (.blk 0 0 [])).len
   have hmin3 : Nat.min (n - i) (i + (n + 1 - i) - (i + 1)) = n - i := by show min (n - i) (i + (n + 1 - i) - (i + 1)) = n - i; omega
   refine zfv (Q' := RetQ Tryz.prog W #[ResultVar.tmp 6].toList (fun v h' => ∃ (g2 c2 : Nat) (cur : List Value), n + 1 ≤ c2 ∧ c2 ≤ 9223372036854775807 ∧ cur.length = c2 * 10 ∧ cur.take (i * 10) = cs.take (i * 10) ∧ v = .slice (some ⟨g2, 0, none⟩) (n + 1) c2 ∧
    h' = .blk g2 68 (lay (lay cur (i * 10) vs) (i * 10 + vs.length) (cs.drop (i * 10))) :: .own (some ⟨g, 0, none⟩) n c 68 10 cs :: F)) (zdq ?_) ?_
   ·rintro v h' ⟨g2, c2, cur, k1, k2, k3, k4, hv', rfl⟩ w hw
    have ha2 := zge (cur := cur) (v := vs) (S := cs.drop (i * 10)) (a := i * 10) (by omega)
    rw [ha2, k4] at hw
    have hone2 : ∀ u ∈ cs.take (i * 10) ++ vs ++ cs.drop (i * 10), u.oneCell' = true := fun u hu => by
     simp only [List.mem_append] at hu
     rcases hu with (hu | hu) | hu
     ·exact hone u (List.mem_of_mem_take hu)
     ·exact hvone u hu
     ·exact hone u (List.mem_of_mem_drop hu)
    have hl2 : (cs.take (i * 10) ++ vs ++ cs.drop (i * 10)).length = (n + 1) * 10 := by simp only [List.length_append, List.length_take, hdl, hvl, hl]; omega
    refine ⟨_, hw.shut_ (n := n + 1) (c := c2) (k := 10) ?_ ?_ hl2 k1 k2 hone2, [.own (some ⟨g, 0, none⟩) n c 68 10 cs], _, sel1, some ⟨g2, 0, none⟩, c2, hv', rfl⟩
    ·simp only [List.length_append, List.length_take, List.length_drop, hvl, k3, hl]; omega
    ·rw [← hl2, List.take_left]
   ·repeat' (first | apply zae | apply zaa | apply zaj | apply zah | apply zad | apply zab hT; iterate 4 exact rfl | apply zaN hT; (iterate 4 exact rfl); (iterate 2 omega) | apply zaM [] [] hmix; decide +kernel | apply zhn hT; iterate 6 exact rfl | apply zbX hT; (iterate 8 exact rfl); (iterate 2 omega) | (apply zby hT; (iterate 8 exact rfl); (iterate 3 omega); first | exact zcs (by omega) ) | apply zag; exact rfl; exact he | (apply zft hT (m := n + 1 - i); (iterate 12 exact rfl); omega; exact hrs.take (show i ≤ n by omega); omega; omega; omega; (show (i + (n + 1 - i)) * 80 ≤ _; omega); intro g2 c2 hc2) | (apply zcb hT (k := 10); (iterate 10 exact rfl); exact sel0; exact rfl; exact (show zaJ W _ (some ⟨gv, 0, none⟩) (Nat.min 1 (i + (n + 1 - i) - i)) 10 vs from (by rw [hmin1 _ (by omega)]; exact (hrvG _).cons)); (show i * 10 + vs.length ≤ cur.length; omega)) | (apply zcb hT (k := 10); (iterate 10 exact rfl); exact sel0; exact rfl; exact (show zaJ W _ (some ⟨g, i * 10, none⟩) (Nat.min (n - i) (i + (n + 1 - i) - (i + 1))) 10 (cs.drop (i * 10)) from (by rw [hmin3]; exact hr1 _)); (show (i + 1) * 10 + (cs.drop (i * 10)).length ≤ (lay cur (i * 10) vs).length; rw [zcI (by omega)]; omega)) | apply zjj rfl sel0; intro cur hcl htk hc3 hc4; replace hcl : cur.length = c2 * 10 := hcl | apply zag; iterate 2 exact rfl | (apply zam; exact rfl; all_goals (intro hb; (try simp only [hb]); (first | replace hb := odt hb | replace hb := odf hb ); (try omega))))
    apply ret1; exact rfl
    refine ⟨g2, c2, cur, by omega, hc4, hcl, ?_, by show Value.slice (some ⟨g2, 0, none⟩) (i + (n + 1 - i)) c2 = _; rw [show i + (n + 1 - i) = n + 1 by omega], ?_⟩
    ·have e1 : cur.take ((i + (n + 1 - i)) * 10) = cs.take (i * 10) ++ repZ ti68.zero.cells.toList (n + 1 - i) := htk
     have e2 := congrArg (List.take (i * 10)) e1
     rw [List.take_take, Nat.min_eq_left (by omega), List.take_append_of_le_length (by rw [List.length_take]; omega), List.take_take, Nat.min_self] at e2
     exact e2
    ·show zax.blk g2 68 (lay (lay cur (i * 10) vs) ((i + 1) * 10) (cs.drop (i * 10))) :: _ = _
     rw [hvl, ← Nat.succ_mul]
end Go.Proofs.YtakilgkpfjhfdaaGreat
namespace Go.Proofs.YtakilgkpfjhfdaaGreat
open Go Go.Sl
attribute [local irreducible] AW ES EP Ld RetQ
set_option maxRecDepth 100000
def zbq (p : Nat) (A : Option Addr) (c : Nat) (l : List AskR) (F : List zax) : List zax :=
 .blk p 131 [.slice A l.length c] :: .own A l.length c 68 10 (l.flatMap AskR.enc) :: F
def cA (id : Int) (q : AskR) : Int := cmpI q.id id
def upA (l : List AskR) : Prop := l.Pairwise fun a b => a.id < b.id
theorem zka {id : Int} {q : AskR} : cA id q < 0 ↔ q.id < id := by unfold cA cmpI; split <;> (try split) <;> omega
theorem znE {l : List AskR} (h : upA l) (id : Int) : ∀ (i j : Nat) x y, i ≤ j → l[i]? = some x → l[j]? = some y → cA id y < 0 → cA id x < 0 := by
 intro i j x y hij hx hy hd
 rw [zka] at *
 rcases Nat.lt_or_ge i j with hlt | hge
 ·obtain ⟨hi, rfl⟩ := List.getElem?_eq_some_iff.1 hx
  obtain ⟨hj, rfl⟩ := List.getElem?_eq_some_iff.1 hy
  have := List.pairwise_iff_getElem.1 h i j hi hj hlt
  omega
 ·obtain rfl : i = j := by omega
  rw [hx] at hy; cases hy; exact hd
theorem zl7 (W : World) (q : AskR) (id : Int) : zaL Tryz.prog W 136 [.agg q.enc.toArray, .int .i64 id] [] (.int .i64 (cA id q)) := by
 refine zaL.ofD (fun h' hs => ?_)
 refine zan Tryz.func136 rfl rfl Tryz.results136 Tryz.ntmps136 rfl rfl ?_
 repeat' (first | apply zae | apply zaa | apply zaj | apply zad | apply zab hT; iterate 4 exact rfl | (apply zac (hs := ((zoM W _ _).mono (by simp))); iterate 7 exact rfl) | (apply zal; (iterate 5 exact rfl); first | exact zaC hT rfl rfl mem0 rfl rfl ) | apply zaK; (iterate 5 exact rfl); intro _)
 apply ret1; exact rfl
 exact ⟨rfl, zat zar⟩
def zl8 (id : Int) (l : List AskR) : Value := .tuple #[.int .i64 (bsN (cA id) l), .bool (bsB (cA id) l)]
theorem zh4 (W : World) (p : Nat) (A : Option Addr) (c : Nat) (l : List AskR) (id : Int) (hb : l.length ≤ 1000000) (hup : upA l) :
 zaL Tryz.prog W 80 [.pointer (some ⟨p, 0, none⟩), .int .i64 id] (zbq p A c l []) (zl8 id l) := by
 refine zaL.ofD (fun h' hs => ?_)
 have m1 := hs _ mem0
 have m2 := hs _ mem1
 refine zan Tryz.func80 rfl rfl Tryz.results80 Tryz.ntmps80 rfl rfl ?_
 refine zbm m2 (fun hl hnc hcc hsome hnone hone => ?_)
 have hr := zaJ.own (W := W) m2 hl hone
 have hq : zaL Tryz.prog W 135 [.slice A l.length c, .int .i64 id, .func (.func 136) #[] #[]] h' (.tuple #[.int .i64 (bsN (cA id) l), .bool (bsB (cA id) l)]) :=
  zjw W _ A _ c l rfl hr _ ⟨id, rfl⟩ _ [] (cA id) (fun x _ => (zl7 W x id).mono (by simp)) (znE hup id) (by omega)
 repeat' (first | apply zae | apply zaa | apply zaj | apply zah | apply zad | apply zab hT; iterate 4 exact rfl | apply zac (hs := hq); iterate 7 exact rfl | (apply zal; (iterate 5 exact rfl); first | exact zaC hT rfl rfl m1 rfl rfl ) | apply zag; iterate 2 exact rfl)
 apply ret2; exact rfl; exact rfl
 exact ⟨rfl, zar⟩
theorem zkP (W : World) (s : Int) : zaL Tryz.prog W 114 [.int .i64 s] [] (.bool (s == 1 || s == 2)) := by
 refine zaL.ofD (fun h' hs => ?_)
 refine zan Tryz.func114 rfl rfl Tryz.results114 Tryz.ntmps114 rfl rfl ?_
 repeat' (first | apply zae | apply zaa | apply zaj | apply zad | apply zab hT; iterate 4 exact rfl | apply zaq; iterate 3 exact rfl | (apply zav; exact rfl; all_goals (intro hb; (try simp only [hb]); (first | replace hb := odt hb | replace hb := odf hb ); (try omega))))
 all_goals
  apply ret1; exact rfl
  refine ⟨?_, zar⟩
  simp [*]
def newA (a : AskR) : Bool := decide (a.id ≥ 1) && decide (a.qty ≥ 1) && decide (a.client ≥ 0) && decide (a.bond ≥ 0) && (a.side == 1 || a.side == 2) && a.dealers != 0 && a.state == 1 && a.hit == 0 && a.until_ == 0
theorem zl9 (W : World) (a : AskR) : zaL Tryz.prog W 160 [.agg a.enc.toArray] [] (.bool (newA a)) := by
 refine zaL.ofD (fun h' hs => ?_)
 refine zan Tryz.func160 rfl rfl Tryz.results160 Tryz.ntmps160 rfl rfl ?_
 repeat' (first | apply zae | apply zaa | apply zaj | apply zad | apply zab hT; iterate 4 exact rfl | apply zaq; iterate 3 exact rfl | (apply zac (hs := ((zkP W _).mono (by simp))); iterate 7 exact rfl) | (apply zal; (iterate 5 exact rfl); first | exact zaC hT rfl rfl mem0 rfl rfl ) | apply zaK; (iterate 5 exact rfl); intro _ | (apply zav; exact rfl; all_goals (intro hb; (try simp only [hb]); (first | replace hb := odt hb | replace hb := odf hb | replace hb := zaD hb | replace hb := zaE hb | skip); (try omega))))
 all_goals
  apply ret1; exact rfl
  refine ⟨?_, zat zar⟩
  simp [newA, *]
def ofA (A : Option Addr) (id : Int) (l : List AskR) : Value := if bsB (cA id) l then .tuple #[.pointer (some (adr A (bsN (cA id) l * 10))), .int .i64 0] else .tuple #[.pointer none, .int .i64 4]
theorem zma (W : World) (p : Nat) (A : Option Addr) (c : Nat) (l : List AskR) (id : Int) (hb : l.length ≤ 1000000) (hup : upA l) :
 zaL Tryz.prog W 137 [.pointer (some ⟨p, 0, none⟩), .int .i64 id] (zbq p A c l []) (ofA A id l) := by
 refine zaL.ofD (fun h' hs => ?_)
 have m1 := hs _ mem0
 have m2 := hs _ mem1
 refine zan Tryz.func137 rfl rfl Tryz.results137 Tryz.ntmps137 rfl rfl ?_
 refine zbm m2 (fun hl hnc hcc hsome hnone hone => ?_)
 have hfind := (zh4 W p A c l id hb hup).mono (h' := h') hs
 unfold zl8 at hfind
 cases hB : bsB (cA id) l
 ·rw [hB] at hfind
  repeat' (first | apply zae | apply zaa | apply zaj | apply zad | apply zab hT; iterate 4 exact rfl | apply zac (hs := hfind); iterate 7 exact rfl | apply zak; iterate 2 exact rfl)
  apply ret2; exact rfl; exact rfl
  exact ⟨by simp [ofA, hB], zar⟩
 ·rw [hB] at hfind
  have hlt : bsN (cA id) l < l.length := by
   unfold bsB at hB
   split at hB
   ·rename_i x hx; exact (List.getElem?_eq_some_iff.1 hx).1
   ·cases hB
  obtain ⟨g, hA⟩ := hsome (by omega)
  have hA2 : A.isSome = true := by rw [hA]; rfl
  repeat' (first | apply zae | apply zaa | apply zaj | apply zah | apply zad | apply zab hT; iterate 4 exact rfl | apply zac (hs := hfind); iterate 7 exact rfl | apply zaS hT; (iterate 8 exact rfl); (iterate 2 omega); exact hA2 | (apply zal; (iterate 5 exact rfl); first | exact zaC hT rfl rfl m1 rfl rfl ) | apply zag; iterate 2 exact rfl)
  apply ret2; exact rfl; exact rfl
  refine ⟨?_, zar⟩
  rw [ofA, if_pos hB]
  rfl
theorem zo2 (W : World) (h : List zax) (p : Nat) (A : Option Addr) (c : Nat) (l : List AskR) (m1 : zax.blk p 131 [.slice A l.length c] ∈ h) (hr : zaJ W h A l.length 10 (l.flatMap AskR.enc)) (hb : l.length ≤ 1000000) :
 zaB Tryz.prog W 55 [.pointer (some ⟨p, 0, none⟩)] h (fun v h' => ∃ A' c', v = .slice A' l.length c' ∧ h' = .own A' l.length c' 68 10 (l.flatMap AskR.enc) :: h ∧ OwnF A' l.length c' 10 (l.flatMap AskR.enc)) := by
 refine zaB.dropF ?_
 refine zan Tryz.func55 rfl rfl Tryz.results55 Tryz.ntmps55 rfl rfl ?_
 have hcl := zl6 W h A l.length c (l.flatMap AskR.enc) hr (by omega)
 repeat' (first | apply zae | apply zaa | apply zaj | apply zah | apply zad | apply zab hT; iterate 4 exact rfl | apply zaz (hs := hcl); (iterate 7 exact rfl); rintro _ _ ⟨A', c', rfl, rfl⟩ | (apply zal; (iterate 5 exact rfl); first | exact zaC hT rfl rfl m1 rfl rfl ) | apply zag; iterate 2 exact rfl)
 apply ret1; exact rfl
 exact ⟨_, zar, fun w hw => ⟨A', c', rfl, rfl, hw.ownF mem0⟩⟩
def onA (a : AskR) : Bool := a.state == 1 || a.state == 2
def zgr (l : List AskR) : Nat := (l.filter onA).length
theorem znF (W : World) (p : Nat) (A : Option Addr) (c : Nat) (l : List AskR) (hb : l.length ≤ 1000000) :
 zaL Tryz.prog W 161 [.pointer (some ⟨p, 0, none⟩)] (zbq p A c l []) (.int .i64 (zgr l)) := by
 refine zaL.ofD (fun h' hs => ?_)
 have m1 := hs _ mem0
 have m2 := hs _ mem1
 refine zan Tryz.func161 rfl rfl Tryz.results161 Tryz.ntmps161 rfl rfl ?_
 refine zbm m2 (fun hl hnc hcc hsome hnone hone => ?_)
 have hall := zo2 W h' p A c l m1 (zaJ.own m2 hl hone) hb
 repeat' (first | apply zae | apply zaa | apply zaf | apply zad | apply zab hT; iterate 4 exact rfl | apply zaz (hs := hall); (iterate 7 exact rfl); rintro _ _ ⟨AO, cO, rfl, rfl, hf⟩)
 have hml : ∀ k, zgr (l.take k) ≤ k := fun k => by
  have := List.length_filter_le onA (l.take k); simp at this; unfold zgr; omega
 refine zbU (α := Nat × Int) (E := fun x => [(3, .int .i64 x.2), (7, .slice AO l.length cO), (8, .int .i64 l.length), (9, .int .i64 x.1)]) (H := fun _ => .own AO l.length cO 68 10 (l.flatMap AskR.enc) :: h') (μ := fun x => l.length - x.1)
  (S := fun x => x.1 ≤ l.length ∧ x.2 = (zgr (l.take x.1) : Nat)) (0, 0) (J := []) ⟨Nat.zero_le _, rfl⟩ ⟨rfl, rfl, rfl, rfl, trivial⟩ (List.Perm.refl _) ?_
 rintro ⟨k, n⟩ ⟨hk, hn⟩
 dsimp only at hk hn ⊢
 have hmk := hml k
 by_cases hlt : k < l.length
 ·obtain ⟨x, hx⟩ : ∃ x, l[k]? = some x := ⟨l[k]'(by omega), List.getElem?_eq_getElem (by omega)⟩
  have hx2 : l[(k : Int).toNat]? = some x := by simpa using hx
  have hA := hf.some_ (by omega)
  have hd1 : decide ((k : Int) < (l.length : Int)) = true := by simp; omega
  have hstep : ((zgr (l.take (k + 1)) : Nat) : Int) = if onA x then n + 1 else n := by
   unfold zgr at hn ⊢
   rw [List.take_add_one, hx, List.filter_append, hn]
   cases hh : onA x <;> simp [hh]
  repeat' (first | apply zae | apply zaa | apply zah | apply zaf | apply zad | apply zab hT; iterate 4 exact rfl | apply zaq; iterate 3 exact rfl | apply zaN hT; (iterate 4 exact rfl); (iterate 2 omega) | apply zaS hT; (iterate 8 exact rfl); (iterate 2 omega); exact hA | apply zal; (iterate 5 exact rfl); exact zaY hT rfl rfl (hf.reads mem0) AskR.enc_len rfl hx2 rfl | apply zaI hT; (iterate 5 exact rfl); intro g7 | apply zaF hT; (iterate 6 exact rfl); exact sel0; (iterate 3 exact rfl); exact nle rfl | (apply zal; (iterate 5 exact rfl); first | exact zaC hT rfl rfl mem0 rfl rfl ) | apply zak; iterate 2 exact rfl | (apply zav; exact rfl; all_goals (intro hb; (try simp only [hb]); (first | replace hb := odt hb | replace hb := odf hb ); (try omega))) | (apply zam; exact rfl; all_goals (intro hb; (try simp only [hb]); (first | replace hb := odt hb | replace hb := odf hb ); (try omega))))
  all_goals first
   | exact zaR (k + 1, n + 1) (by dsimp only; omega) ⟨by dsimp only; omega, by dsimp only; rw [hstep, if_pos (by simp [onA, *])]⟩ ⟨rfl, rfl, rfl, rfl, trivial⟩ (zat zar)
   | exact zaR (k + 1, n) (by dsimp only; omega) ⟨by dsimp only; omega, by dsimp only; rw [hstep, if_neg (by simp [onA, *])]⟩ ⟨rfl, rfl, rfl, rfl, trivial⟩ (zat zar)
 ·obtain rfl : k = l.length := by omega
  have hd1 : decide ((l.length : Int) < (l.length : Int)) = false := by simp
  rw [List.take_length] at hn
  subst hn
  repeat' (first | apply zae | apply zaa | apply zaj | apply zas | apply zad | apply zab hT; iterate 4 exact rfl | (apply zam; exact rfl; all_goals (intro hb; (try simp only [hb]); (first | replace hb := odt hb | replace hb := odf hb ); (try omega))))
  apply ret1; exact rfl
  exact ⟨rfl, zat zar⟩
def addE (a : AskR) (l : List AskR) : Int := if bsB (cA a.id) l then 1 else if newA a then (if zgr l ≥ 32 then 3 else 0) else 1
def addA (a : AskR) (l : List AskR) : List AskR := if addE a l = 0 then l.take (bsN (cA a.id) l) ++ [a] ++ l.drop (bsN (cA a.id) l) else l
theorem zo3 (W : World) (F : List zax) (p : Nat) (A : Option Addr) (c : Nat) (l : List AskR) (a : AskR) (hb : l.length ≤ 1000000) (hup : upA l) :
 zaB Tryz.prog W 117 [.pointer (some ⟨p, 0, none⟩), .agg a.enc.toArray] (zbq p A c l F) (fun v h' => v = .int .i64 (addE a l) ∧ ∃ A' c', h' = zbq p A' c' (addA a l) F) := by
 refine zaB.dropTo ?_
 refine zan Tryz.func117 rfl rfl Tryz.results117 Tryz.ntmps117 rfl rfl ?_
 have hfind : ∀ g, zaL Tryz.prog W 80 [.pointer (some ⟨p, 0, none⟩), .int .i64 a.id] (.blk g 68 a.enc :: zbq p A c l F) (zl8 a.id l) := fun g => (zh4 W p A c l a.id hb hup).mono (by intro c hc; simp only [zbq, List.mem_cons, List.not_mem_nil, or_false] at hc ⊢; rcases hc with rfl | rfl <;> simp)
 unfold zl8 at hfind
 have hmany : ∀ g, zaL Tryz.prog W 161 [.pointer (some ⟨p, 0, none⟩)] (.blk g 68 a.enc :: zbq p A c l F) (.int .i64 (zgr l)) := fun g => (znF W p A c l hb).mono (by intro c hc; simp only [zbq, List.mem_cons, List.not_mem_nil, or_false] at hc ⊢; rcases hc with rfl | rfl <;> simp)
 have hnew : ∀ g, zaL Tryz.prog W 160 [.agg a.enc.toArray] (.blk g 68 a.enc :: zbq p A c l F) (.bool (newA a)) := fun g => (zl9 W a).mono (by simp)
 cases hB : bsB (cA a.id) l
 ·rw [hB] at hfind
  cases hN : newA a
  ·rw [hN] at hnew
   repeat' (first | apply zae | apply zaa | apply zaj | apply zad | apply zab hT; iterate 4 exact rfl | apply zac (hs := (hfind _)); iterate 7 exact rfl | apply zac (hs := (hnew _)); iterate 7 exact rfl | (apply zal; (iterate 5 exact rfl); first | exact zaC hT rfl rfl mem0 rfl rfl | exact zaQ hT rfl rfl mem0 rfl) | apply zaK; (iterate 5 exact rfl); intro _ | apply zak; iterate 2 exact rfl)
   apply ret1; exact rfl
   exact ⟨zbq p A c l F, zat zar, by simp [addE, hB, hN], A, c, by simp [addA, addE, hB, hN]⟩
  ·rw [hN] at hnew
   by_cases hM : zgr l ≥ 32
   ·have hd : decide (((zgr l : Nat) : Int) ≥ 32) = true := by simp; omega
    repeat' (first | apply zae | apply zaa | apply zaj | apply zah | apply zad | apply zab hT; iterate 4 exact rfl | apply zac (hs := (hfind _)); iterate 7 exact rfl | apply zac (hs := (hnew _)); iterate 7 exact rfl | apply zac (hs := (hmany _)); iterate 7 exact rfl | (apply zal; (iterate 5 exact rfl); first | exact zaC hT rfl rfl mem0 rfl rfl | exact zaQ hT rfl rfl mem0 rfl) | apply zaK; (iterate 5 exact rfl); intro _ | apply zag; iterate 2 exact rfl | (apply zam; exact rfl; all_goals (intro hb; (try simp only [hb]); (first | replace hb := odt hb | replace hb := odf hb ); (try omega))))
    apply ret1; exact rfl
    exact ⟨zbq p A c l F, zat zar, by simp [addE, hB, hN, hM], A, c, by simp [addA, addE, hB, hN, hM]⟩
   ·have hd : decide (((zgr l : Nat) : Int) ≥ 32) = false := by simp; omega
    have hE : addE a l = 0 := by simp [addE, hB, hN, hM]
    have hle := zly (c := cA a.id) (l := l)
    have hpa : addA a l = l.take (bsN (cA a.id) l) ++ [a] ++ l.drop (bsN (cA a.id) l) := by simp [addA, hE]
    have hplen : (addA a l).length = l.length + 1 := by rw [hpa]; simp; omega
    have hc : (l.flatMap AskR.enc).take ((bsN (cA a.id) l) * 10) ++ a.enc ++ (l.flatMap AskR.enc).drop ((bsN (cA a.id) l) * 10) = (addA a l).flatMap AskR.enc := by
     rw [zci AskR.enc_len, zc6 AskR.enc_len, hpa]; simp
    have hins : ∀ g3 gv, zaB Tryz.prog W 162 [.slice A l.length c, .int .i64 (bsN (cA a.id) l), .slice (some ⟨gv, 0, none⟩) 1 1] (.own (some ⟨gv, 0, none⟩) 1 1 68 10 a.enc :: .blk g3 68 a.enc :: zbq p A c l F) _ := fun g3 gv =>
     (zkO W (.own (some ⟨gv, 0, none⟩) 1 1 68 10 a.enc :: .blk g3 68 a.enc :: .blk p 131 [.slice A l.length c] :: F) A l.length c (bsN (cA a.id) l) (l.flatMap AskR.enc) gv a.enc mem0 (by omega) (by omega) (by omega)).perm (selS (selS (selS sel0)))
    repeat' (first | apply zae | apply zaa | apply zaj | apply zah | apply zad | apply zab hT; iterate 4 exact rfl | apply zaM [] [] hmix; decide +kernel | apply zac (hs := (hfind _)); iterate 7 exact rfl | apply zac (hs := (hnew _)); iterate 7 exact rfl | apply zac (hs := (hmany _)); iterate 7 exact rfl | apply zao hT; (iterate 12 exact rfl); intro gv | apply zaz (hs := (hins _ _)); (iterate 7 exact rfl); rintro _ _ ⟨A', c', rfl, rfl⟩ | (apply zaF hT; (iterate 6 exact rfl); (first | exact selS (selS sel1) ); (iterate 3 exact rfl); exact nle rfl) | (apply zal; (iterate 5 exact rfl); first | exact zaC hT rfl rfl mem0 rfl rfl | exact zaQ hT rfl rfl mem0 rfl) | (apply zal; (iterate 5 exact rfl); first | exact zaC hT rfl rfl mem1 rfl rfl ) | apply zaK; (iterate 5 exact rfl); intro _ | apply zag; iterate 2 exact rfl | (apply zam; exact rfl; all_goals (intro hb; (try simp only [hb]); (first | replace hb := odt hb | replace hb := odf hb ); (try omega))))
    apply ret1; exact rfl
    refine ⟨zbq p A' c' (addA a l) F, ?_, by rw [hE], A', c', rfl⟩
    rw [zbq, hplen, ← hc]
    apply zay; (first | exact sel0)
    apply zay; (first | exact sel0)
    (repeat (first | exact zar | apply zat))
 ·rw [hB] at hfind
  repeat' (first | apply zae | apply zaa | apply zaj | apply zad | apply zab hT; iterate 4 exact rfl | apply zaq; iterate 3 exact rfl | apply zac (hs := (hfind _)); iterate 7 exact rfl | (apply zal; (iterate 5 exact rfl); first | exact zaC hT rfl rfl mem0 rfl rfl ) | apply zaK; (iterate 5 exact rfl); intro _ | apply zak; iterate 2 exact rfl)
  apply ret1; exact rfl
  exact ⟨zbq p A c l F, zat zar, by simp [addE, hB], A, c, by simp [addA, addE, hB]⟩
def getA (id : Int) (l : List AskR) : Option AskR := if bsB (cA id) l then l[bsN (cA id) l]? else none
theorem zdz {id : Int} {l : List AskR} (h : bsB (cA id) l = true) : ∃ x, l[bsN (cA id) l]? = some x ∧ x.id = id ∧ getA id l = some x := by
 unfold bsB at h
 split at h
 ·rename_i x hx
  refine ⟨x, hx, ?_, ?_⟩
  ·have : cA id x = 0 := by simpa using h
   unfold cA cmpI at this; split at this <;> (try split at this) <;> omega
  ·unfold getA bsB; rw [hx]; simp only at h ⊢; rw [if_pos h]
 ·cases h
theorem zdb {id : Int} {l : List AskR} (h : bsB (cA id) l = false) : getA id l = none := by unfold getA; rw [h]; rfl
def setA (id : Int) (x : AskR) (l : List AskR) : List AskR := l.set (bsN (cA id) l) x
def zfb (id quote until_ : Int) (l : List AskR) : Int := match getA id l with
 | none => 4
 | some x => if x.state = 1 then (if quote < 1 ∨ until_ < 1 then 1 else 0) else 11
def zdX (id quote until_ : Int) (l : List AskR) : List AskR := match getA id l with
 | none => l
 | some x => if zfb id quote until_ l = 0 then setA id { x with state := 2, hit := quote, until_ := until_ } l else l
theorem znG (W : World) (F : List zax) (p : Nat) (A : Option Addr) (c : Nat) (l : List AskR) (id quote until_ : Int) (hb : l.length ≤ 1000000) (hup : upA l) :
 zaB Tryz.prog W 152 [.pointer (some ⟨p, 0, none⟩), .int .i64 id, .int .i64 quote, .int .i64 until_] (zbq p A c l F) (fun v h' => v = .int .i64 (zfb id quote until_ l) ∧ h' = zbq p A c (zdX id quote until_ l) F) := by
 refine zaB.dropTo ?_
 refine zan Tryz.func152 rfl rfl Tryz.results152 Tryz.ntmps152 rfl rfl ?_
 refine zbm (h := zbq p A c l F) mem1 (fun hl hnc hcc hsome hnone hone => ?_)
 have hr : zaJ W (zbq p A c l F) A l.length 10 (l.flatMap AskR.enc) := zaJ.own mem1 hl hone
 have hof := (zma W p A c l id hb hup).mono (h' := zbq p A c l F) (by intro c hc; simp only [zbq, List.mem_cons, List.not_mem_nil, or_false] at hc ⊢; rcases hc with rfl | rfl <;> simp)
 unfold ofA at hof
 cases hB : bsB (cA id) l
 ·rw [hB] at hof
  repeat' (first | apply zae | apply zaa | apply zaj | apply zaf | apply zad | apply zab hT; iterate 4 exact rfl | apply zac (hs := hof); iterate 7 exact rfl | apply zak; iterate 2 exact rfl)
  apply ret1; exact rfl
  exact ⟨_, zar, by simp [zfb, zdb hB], by simp [zdX, zdb hB]⟩
 ·obtain ⟨x, hx, _, hg⟩ := zdz hB
  rw [hB] at hof
  have hlt := (List.getElem?_eq_some_iff.1 hx).1
  by_cases hs : x.state = 1
  ·have hs1 : (x.state != 1) = false := by simpa using hs
   by_cases hq : quote < 1 ∨ until_ < 1
   ·have hE : zfb id quote until_ l = 1 := by simp [zfb, hg, hs, hq]
    repeat' (first | apply zae | apply zaa | apply zaj | apply zaf | apply zad | apply zab hT; iterate 4 exact rfl | apply zaq; iterate 3 exact rfl | apply zac (hs := hof); iterate 7 exact rfl | (apply zal; (iterate 5 exact rfl); exact zbb hT rfl rfl hr AskR.enc_len (zaW _ _ _) hx (by decide) rfl) | apply zak; iterate 2 exact rfl | apply zag; iterate 2 exact rfl | (apply zav; exact rfl; all_goals (intro hb; (try simp only [hb]); (first | replace hb := odt hb | replace hb := odf hb ); (try omega))) | (apply zam; exact rfl; all_goals (intro hb; (try simp only [hb]); (first | replace hb := odt hb | replace hb := odf hb | replace hb := zaD hb | replace hb := zaE hb ); (try omega))))
    all_goals first
     | (apply ret1; exact rfl; exact ⟨_, zar, by rw [hE], by simp [zdX, hg, hE]⟩)
     | (exfalso; omega)
   ·have hE : zfb id quote until_ l = 0 := by simp [zfb, hg, hs, hq]
    have q1 : decide (quote < 1) = false := by simp; omega
    have q2 : decide (until_ < 1) = false := by simp; omega
    have hlay : lay (lay (lay (l.flatMap AskR.enc) (bsN (cA id) l * 10 + 8) [.int .i64 2]) (bsN (cA id) l * 10 + 9) [.int .i64 quote]) (bsN (cA id) l * 10 + 7) [.int .i64 until_] = (setA id { x with state := 2, hit := quote, until_ := until_ } l).flatMap AskR.enc := by
     rw [zbS AskR.enc_len (x' := { x with state := 2 }) hx (Nat.le_of_ble_eq_true rfl) rfl,
      zbS AskR.enc_len (x' := { x with state := 2, hit := quote }) (List.getElem?_set_self hlt) (Nat.le_of_ble_eq_true rfl) rfl,
      zbS AskR.enc_len (x' := { x with state := 2, hit := quote, until_ := until_ }) (List.getElem?_set_self (by simpa using hlt)) (Nat.le_of_ble_eq_true rfl) rfl, List.set_set, List.set_set, setA]
    repeat' (first | apply zae | apply zaa | apply zaj | apply zah | apply zaf | apply zad | apply zab hT; iterate 4 exact rfl | apply zac (hs := hof); iterate 7 exact rfl | (apply zal; (iterate 5 exact rfl); exact zbb hT rfl rfl hr AskR.enc_len (zaW _ _ _) hx (by decide) rfl) | (apply zbs hT; (iterate 6 exact rfl); (first | exact sel0 | exact sel1 ); exact zaW _ _ _; exact rfl; exact rfl; (first | show (bsN (cA id) l * 10 + 8) + 1 ≤ l.length * 10; omega | show (bsN (cA id) l * 10 + 9) + 1 ≤ l.length * 10; omega | show (bsN (cA id) l * 10 + 7) + 1 ≤ l.length * 10; omega); omega) | (apply zag; iterate 2 exact rfl) | (apply zav; exact rfl; all_goals (intro hb; (try simp only [hb]); (first | replace hb := odt hb | replace hb := odf hb ); (try omega))) | (apply zam; exact rfl; all_goals (intro hb; (try simp only [hb]); (first | replace hb := odt hb | replace hb := odf hb | replace hb := zaD hb | replace hb := zaE hb ); (try omega))))
    apply ret1; exact rfl
    refine ⟨zbq p A c (zdX id quote until_ l) F, ?_, by rw [hE], rfl⟩
    have hll : zdX id quote until_ l = setA id { x with state := 2, hit := quote, until_ := until_ } l := by simp [zdX, hg, hE]
    rw [hll, zbq, ← hlay, show (setA id { x with state := 2, hit := quote, until_ := until_ } l).length = l.length by simp [setA]]
    apply zay; (first | exact sel1)
    apply zay; (first | exact sel0)
    (repeat (first | exact zar))
  ·have hs1 : (x.state != 1) = true := by simpa using hs
   repeat' (first | apply zae | apply zaa | apply zaj | apply zaf | apply zad | apply zab hT; iterate 4 exact rfl | apply zac (hs := hof); iterate 7 exact rfl | (apply zal; (iterate 5 exact rfl); exact zbb hT rfl rfl hr AskR.enc_len (zaW _ _ _) hx (by decide) rfl) | apply zag; iterate 2 exact rfl | (apply zam; exact rfl; all_goals (intro hb; (try simp only [hb]); (first | replace hb := zaD hb | replace hb := zaE hb ); (try omega))))
   apply ret1; exact rfl
   exact ⟨_, zar, by simp [zfb, hg, hs], by simp [zdX, zfb, hg, hs]⟩
def zh5 (id : Int) (l : List AskR) : Int := match getA id l with
 | none => 4
 | some x => if x.state = 2 then 0 else 11
def zey (id : Int) (l : List AskR) : List AskR := match getA id l with
 | none => l
 | some x => if zh5 id l = 0 then setA id { x with state := 1, hit := 0, until_ := 0 } l else l
theorem znH (W : World) (F : List zax) (p : Nat) (A : Option Addr) (c : Nat) (l : List AskR) (id : Int) (hb : l.length ≤ 1000000) (hup : upA l) :
 zaB Tryz.prog W 81 [.pointer (some ⟨p, 0, none⟩), .int .i64 id] (zbq p A c l F) (fun v h' => v = .int .i64 (zh5 id l) ∧ h' = zbq p A c (zey id l) F) := by
 refine zaB.dropTo ?_
 refine zan Tryz.func81 rfl rfl Tryz.results81 Tryz.ntmps81 rfl rfl ?_
 refine zbm (h := zbq p A c l F) mem1 (fun hl hnc hcc hsome hnone hone => ?_)
 have hr : zaJ W (zbq p A c l F) A l.length 10 (l.flatMap AskR.enc) := zaJ.own mem1 hl hone
 have hof := (zma W p A c l id hb hup).mono (h' := zbq p A c l F) (by intro c hc; simp only [zbq, List.mem_cons, List.not_mem_nil, or_false] at hc ⊢; rcases hc with rfl | rfl <;> simp)
 unfold ofA at hof
 cases hB : bsB (cA id) l
 ·rw [hB] at hof
  repeat' (first | apply zae | apply zaa | apply zaj | apply zaf | apply zad | apply zab hT; iterate 4 exact rfl | apply zac (hs := hof); iterate 7 exact rfl | apply zak; iterate 2 exact rfl)
  apply ret1; exact rfl
  exact ⟨_, zar, by simp [zh5, zdb hB], by simp [zey, zdb hB]⟩
 ·obtain ⟨x, hx, _, hg⟩ := zdz hB
  rw [hB] at hof
  have hlt := (List.getElem?_eq_some_iff.1 hx).1
  by_cases hs : x.state = 2
  ·have hs1 : (x.state != 2) = false := by simpa using hs
   have hE : zh5 id l = 0 := by simp [zh5, hg, hs]
   have hlay : lay (lay (lay (l.flatMap AskR.enc) (bsN (cA id) l * 10 + 8) [.int .i64 1]) (bsN (cA id) l * 10 + 9) [.int .i64 0]) (bsN (cA id) l * 10 + 7) [.int .i64 0] = (setA id { x with state := 1, hit := 0, until_ := 0 } l).flatMap AskR.enc := by
    rw [zbS AskR.enc_len (x' := { x with state := 1 }) hx (Nat.le_of_ble_eq_true rfl) rfl,
     zbS AskR.enc_len (x' := { x with state := 1, hit := 0 }) (List.getElem?_set_self hlt) (Nat.le_of_ble_eq_true rfl) rfl,
     zbS AskR.enc_len (x' := { x with state := 1, hit := 0, until_ := 0 }) (List.getElem?_set_self (by simpa using hlt)) (Nat.le_of_ble_eq_true rfl) rfl, List.set_set, List.set_set, setA]
   repeat' (first | apply zae | apply zaa | apply zaj | apply zah | apply zaf | apply zad | apply zab hT; iterate 4 exact rfl | apply zac (hs := hof); iterate 7 exact rfl | (apply zal; (iterate 5 exact rfl); exact zbb hT rfl rfl hr AskR.enc_len (zaW _ _ _) hx (by decide) rfl) | (apply zbs hT; (iterate 6 exact rfl); (first | exact sel0 | exact sel1 ); exact zaW _ _ _; exact rfl; exact rfl; (first | show (bsN (cA id) l * 10 + 8) + 1 ≤ l.length * 10; omega | show (bsN (cA id) l * 10 + 9) + 1 ≤ l.length * 10; omega | show (bsN (cA id) l * 10 + 7) + 1 ≤ l.length * 10; omega); omega) | (apply zag; iterate 2 exact rfl) | (apply zam; exact rfl; all_goals (intro hb; (try simp only [hb]); (first | replace hb := zaD hb | replace hb := zaE hb ); (try omega))))
   apply ret1; exact rfl
   refine ⟨zbq p A c (zey id l) F, ?_, by rw [hE], rfl⟩
   have hll : zey id l = setA id { x with state := 1, hit := 0, until_ := 0 } l := by simp [zey, hg, hE]
   rw [hll, zbq, ← hlay, show (setA id { x with state := 1, hit := 0, until_ := 0 } l).length = l.length by simp [setA]]
   apply zay; (first | exact sel1)
   apply zay; (first | exact sel0)
   (repeat (first | exact zar))
  ·have hs1 : (x.state != 2) = true := by simpa using hs
   repeat' (first | apply zae | apply zaa | apply zaj | apply zaf | apply zad | apply zab hT; iterate 4 exact rfl | apply zac (hs := hof); iterate 7 exact rfl | (apply zal; (iterate 5 exact rfl); exact zbb hT rfl rfl hr AskR.enc_len (zaW _ _ _) hx (by decide) rfl) | apply zag; iterate 2 exact rfl | (apply zam; exact rfl; all_goals (intro hb; (try simp only [hb]); (first | replace hb := zaD hb | replace hb := zaE hb ); (try omega))))
   apply ret1; exact rfl
   exact ⟨_, zar, by simp [zh5, hg, hs], by simp [zey, zh5, hg, hs]⟩
def endE (id state : Int) (l : List AskR) : Int := match getA id l with
 | none => 4
 | some x => if state ≠ 3 ∧ state ≠ 4 then 1 else if x.state = 3 ∨ x.state = 4 ∨ (state = 3 ∧ x.state ≠ 2) then 11 else 0
def endX (state : Int) (x : AskR) : AskR := if state = 4 then { x with state := state, until_ := 0, hit := 0 } else { x with state := state, until_ := 0 }
def endA (id state : Int) (l : List AskR) : List AskR := match getA id l with
 | none => l
 | some x => if endE id state l = 0 then setA id (endX state x) l else l
set_option maxHeartbeats 1000000 in
theorem zmb (W : World) (F : List zax) (p : Nat) (A : Option Addr) (c : Nat) (l : List AskR) (id state : Int) (hb : l.length ≤ 1000000) (hup : upA l) :
 zaB Tryz.prog W 82 [.pointer (some ⟨p, 0, none⟩), .int .i64 id, .int .i64 state] (zbq p A c l F) (fun v h' => v = .int .i64 (endE id state l) ∧ h' = zbq p A c (endA id state l) F) := by
 refine zaB.dropTo ?_
 refine zan Tryz.func82 rfl rfl Tryz.results82 Tryz.ntmps82 rfl rfl ?_
 refine zbm (h := zbq p A c l F) mem1 (fun hl hnc hcc hsome hnone hone => ?_)
 have hr : zaJ W (zbq p A c l F) A l.length 10 (l.flatMap AskR.enc) := zaJ.own mem1 hl hone
 have hof := (zma W p A c l id hb hup).mono (h' := zbq p A c l F) (by intro c hc; simp only [zbq, List.mem_cons, List.not_mem_nil, or_false] at hc ⊢; rcases hc with rfl | rfl <;> simp)
 unfold ofA at hof
 cases hB : bsB (cA id) l
 ·rw [hB] at hof
  repeat' (first | apply zae | apply zaa | apply zaj | apply zaf | apply zad | apply zab hT; iterate 4 exact rfl | apply zac (hs := hof); iterate 7 exact rfl | apply zak; iterate 2 exact rfl)
  apply ret1; exact rfl
  exact ⟨_, zar, by simp [endE, zdb hB], by simp [endA, zdb hB]⟩
 ·obtain ⟨x, hx, _, hg⟩ := zdz hB
  rw [hB] at hof
  have hlt := (List.getElem?_eq_some_iff.1 hx).1
  by_cases h0 : endE id state l = 0
  ·have hee := h0
   simp only [endE, hg] at hee
   have hst : ¬ (state ≠ 3 ∧ state ≠ 4) := fun h => by rw [if_pos h] at hee; omega
   have hxs : ¬ (x.state = 3 ∨ x.state = 4 ∨ (state = 3 ∧ x.state ≠ 2)) := fun h => by rw [if_neg hst, if_pos h] at hee; omega
   have hll : endA id state l = setA id (endX state x) l := by simp [endA, hg, h0]
   by_cases h4 : state = 4
   ·subst h4
    have hX : endX 4 x = { x with state := 4, until_ := 0, hit := 0 } := rfl
    rw [hX] at hll
    have hlay : lay (lay (lay (l.flatMap AskR.enc) (bsN (cA id) l * 10 + 8) [.int .i64 4]) (bsN (cA id) l * 10 + 7) [.int .i64 0]) (bsN (cA id) l * 10 + 9) [.int .i64 0] = (setA id { x with state := 4, until_ := 0, hit := 0 } l).flatMap AskR.enc := by
     rw [zbS AskR.enc_len (x' := { x with state := 4 }) hx (Nat.le_of_ble_eq_true rfl) rfl,
      zbS AskR.enc_len (x' := { x with state := 4, until_ := 0 }) (List.getElem?_set_self hlt) (Nat.le_of_ble_eq_true rfl) rfl,
      zbS AskR.enc_len (x' := { x with state := 4, until_ := 0, hit := 0 }) (List.getElem?_set_self (by simpa using hlt)) (Nat.le_of_ble_eq_true rfl) rfl, List.set_set, List.set_set, setA]
    repeat' (first | apply zae | apply zaa | apply zaj | apply zah | apply zaf | apply zad | apply zab hT; iterate 4 exact rfl | apply zaq; iterate 3 exact rfl | apply zac (hs := hof); iterate 7 exact rfl | (apply zal; (iterate 5 exact rfl); exact zbb hT rfl rfl hr AskR.enc_len (zaW _ _ _) hx (by decide) rfl) | (apply zbs hT; (iterate 6 exact rfl); (first | exact sel0 | exact sel1 ); exact zaW _ _ _; exact rfl; exact rfl; (first | show (bsN (cA id) l * 10 + 8) + 1 ≤ l.length * 10; omega | show (bsN (cA id) l * 10 + 9) + 1 ≤ l.length * 10; omega | show (bsN (cA id) l * 10 + 7) + 1 ≤ l.length * 10; omega); omega) | (apply zak; iterate 2 exact rfl) | (apply zag; iterate 2 exact rfl) | (apply zav; exact rfl; all_goals (intro hb; (try simp only [hb]); (first | replace hb := odt hb | replace hb := odf hb ); (try omega))))
    all_goals first
     | (exfalso; omega)
     | (apply ret1; exact rfl
        refine ⟨zbq p A c (endA id 4 l) F, ?_, by rw [h0], rfl⟩
        rw [hll, zbq, ← hlay, show (setA id { x with state := 4, until_ := 0, hit := 0 } l).length = l.length by simp [setA]]
        apply zay; (first | exact sel1)
        apply zay; (first | exact sel0)
        (repeat (first | exact zar)))
   ·obtain rfl : state = 3 := by omega
    have hX : endX 3 x = { x with state := 3, until_ := 0 } := rfl
    rw [hX] at hll
    have hlay : lay (lay (l.flatMap AskR.enc) (bsN (cA id) l * 10 + 8) [.int .i64 3]) (bsN (cA id) l * 10 + 7) [.int .i64 0] = (setA id { x with state := 3, until_ := 0 } l).flatMap AskR.enc := by
     rw [zbS AskR.enc_len (x' := { x with state := 3 }) hx (Nat.le_of_ble_eq_true rfl) rfl,
      zbS AskR.enc_len (x' := { x with state := 3, until_ := 0 }) (List.getElem?_set_self hlt) (Nat.le_of_ble_eq_true rfl) rfl, List.set_set, setA]
    repeat' (first | apply zae | apply zaa | apply zaj | apply zah | apply zaf | apply zad | apply zab hT; iterate 4 exact rfl | apply zaq; iterate 3 exact rfl | apply zac (hs := hof); iterate 7 exact rfl | (apply zal; (iterate 5 exact rfl); exact zbb hT rfl rfl hr AskR.enc_len (zaW _ _ _) hx (by decide) rfl) | (apply zbs hT; (iterate 6 exact rfl); (first | exact sel0 | exact sel1 ); exact zaW _ _ _; exact rfl; exact rfl; (first | show (bsN (cA id) l * 10 + 8) + 1 ≤ l.length * 10; omega | show (bsN (cA id) l * 10 + 7) + 1 ≤ l.length * 10; omega); omega) | (apply zag; iterate 2 exact rfl) | (apply zav; exact rfl; all_goals (intro hb; (try simp only [hb]); (first | replace hb := odt hb | replace hb := odf hb ); (try omega))) | (apply zam; exact rfl; all_goals (intro hb; (try simp only [hb]); (first | replace hb := zaD hb | replace hb := zaE hb ); (try omega))))
    all_goals first
     | (exfalso; omega)
     | (apply ret1; exact rfl
        refine ⟨zbq p A c (endA id 3 l) F, ?_, by rw [h0], rfl⟩
        rw [hll, zbq, ← hlay, show (setA id { x with state := 3, until_ := 0 } l).length = l.length by simp [setA]]
        apply zay; (first | exact sel1)
        apply zay; (first | exact sel0)
        (repeat (first | exact zar)))
  ·have hll : endA id state l = l := by simp [endA, hg, h0]
   repeat' (first | apply zae | apply zaa | apply zaj | apply zah | apply zaf | apply zad | apply zab hT; iterate 4 exact rfl | apply zaq; iterate 3 exact rfl | apply zac (hs := hof); iterate 7 exact rfl | (apply zal; (iterate 5 exact rfl); exact zbb hT rfl rfl hr AskR.enc_len (zaW _ _ _) hx (by decide) rfl) | apply zak; iterate 2 exact rfl | apply zag; iterate 2 exact rfl | (apply zav; exact rfl; all_goals (intro hb; (try simp only [hb]); (first | replace hb := odt hb | replace hb := odf hb | replace hb := zaD hb | replace hb := zaE hb ); (try omega))) | (apply zam; exact rfl; all_goals (intro hb; (try simp only [hb]); (first | replace hb := zaD hb | replace hb := zaE hb ); (try omega))))
   all_goals first
    | (apply ret1; exact rfl; refine ⟨_, zar, ?_, by rw [hll]⟩; congr 1; simp only [endE, hg]; (repeat' split) <;> first | rfl | exfalso; omega)
    | (exfalso; apply h0; simp only [endE, hg]; (repeat' split) <;> first | rfl | exfalso; omega)
def zpF : AskR := ⟨0, 0, 0, 0, 0, 0, 0, 0, 0, 0⟩
def gotA : Option AskR → Value
 | some x => .tuple #[.agg x.enc.toArray, .bool true]
 | none => .tuple #[.agg zpF.enc.toArray, .bool false]
theorem zgs (W : World) (p : Nat) (A : Option Addr) (c : Nat) (l : List AskR) (id : Int) (hb : l.length ≤ 1000000) (hup : upA l) :
 zaL Tryz.prog W 51 [.pointer (some ⟨p, 0, none⟩), .int .i64 id] (zbq p A c l []) (gotA (getA id l)) := by
 refine zaL.ofD (fun h' hs => ?_)
 have m1 := hs _ mem0
 have m2 := hs _ mem1
 refine zan Tryz.func51 rfl rfl Tryz.results51 Tryz.ntmps51 rfl rfl ?_
 refine zbm m2 (fun hl hnc hcc hsome hnone hone => ?_)
 have hr := zaJ.own (W := W) m2 hl hone
 have hfind := (zh4 W p A c l id hb hup).mono (h' := h') hs
 unfold zl8 at hfind
 cases hB : bsB (cA id) l
 ·rw [hB] at hfind
  repeat' (first | apply zae | apply zaa | apply zaj | apply zad | apply zab hT; iterate 4 exact rfl | apply zaI hT; (iterate 5 exact rfl); intro g4 | apply zac (hs := (hfind.mono (fun c hc => .tail _ hc))); iterate 7 exact rfl | apply zb7 hT; iterate 4 exact rfl | (apply zaF hT; (iterate 6 exact rfl); (first | exact sel0 ); (iterate 3 exact rfl); exact nle rfl) | apply zak; iterate 2 exact rfl)
  apply zew; exact rfl; exact zaQ hT rfl rfl mem0 rfl; exact rfl
  exact ⟨by rw [zdb hB]; rfl, zat zar⟩
 ·obtain ⟨x, hx, _, hg⟩ := zdz hB
  have hlt := (List.getElem?_eq_some_iff.1 hx).1
  rw [hB] at hfind
  obtain ⟨g, hA⟩ := hsome (by omega)
  have hA2 : A.isSome = true := by rw [hA]; rfl
  have hx2 : l[((bsN (cA id) l : Nat) : Int).toNat]? = some x := by simpa using hx
  repeat' (first | apply zae | apply zaa | apply zaj | apply zah | apply zad | apply zab hT; iterate 4 exact rfl | apply zaI hT; (iterate 5 exact rfl); intro g4 | apply zac (hs := (hfind.mono (fun c hc => .tail _ hc))); iterate 7 exact rfl | apply zaS hT; (iterate 8 exact rfl); (iterate 2 omega); exact hA2 | apply zal; (iterate 5 exact rfl); exact zaY hT rfl rfl hr.cons AskR.enc_len rfl hx2 rfl | (apply zaF hT; (iterate 6 exact rfl); (first | exact sel0 ); (iterate 3 exact rfl); exact nle rfl) | (apply zal; (iterate 5 exact rfl); first | exact zaC hT rfl rfl (mcm _ m1) rfl rfl ) | apply zag; iterate 2 exact rfl)
  apply zew; exact rfl; exact zaQ hT rfl rfl mem0 rfl; exact rfl
  exact ⟨by rw [hg]; rfl, zat zar⟩
end Go.Proofs.YtakilgkpfjhfdaaGreat
namespace Go.Proofs.YtakilgkpfjhfdaaGreat
open Go Go.Sl
attribute [local irreducible] AW ES Ld RetQ
set_option maxRecDepth 100000
theorem zpG (W : World) (x : Int) : zaL Tryz.prog W 199 [.int .i64 x] [] (.bool false) := by
 refine zaL.of (fun h' hs => ?_)
 refine zan Tryz.func199 rfl rfl Tryz.results199 Tryz.ntmps199 rfl rfl ?_
 repeat' (first | apply zae | apply zaa | apply zaj | apply zad | apply zab hT; iterate 4 exact rfl)
 exact zch (J := []) rfl (by simp) (List.Perm.refl _)
theorem cmpi (W : World) (x y : Int) : zaL Tryz.prog W 175 [.int .i64 x, .int .i64 y] [] (.int .i64 (cmpI x y)) := by
 refine zaL.of (fun h' hs => ?_)
 refine zan Tryz.func175 rfl rfl Tryz.results175 Tryz.ntmps175 rfl rfl ?_
 repeat' (first | apply zae | apply zaa | apply zaj | apply zah | apply zad | apply zab hT; iterate 4 exact rfl | (apply zac (hs := ((zpG W _).mono (by simp))); iterate 7 exact rfl) | apply zag; iterate 2 exact rfl | (apply zam; exact rfl; all_goals (intro hb; (try simp only [hb]); (first | replace hb := odt hb | replace hb := odf hb ); (try omega))))
 ·exact zch (J := []) rfl (by simp [cmpI, hb]) (List.Perm.refl _)
 ·rename_i h1; exact zch (J := []) rfl (by simp [cmpI]; omega) (List.Perm.refl _)
 ·rename_i h1; exact zch (J := []) rfl (by simp [cmpI]; omega) (List.Perm.refl _)
theorem ziI (W : World) (h : List zax) (A : Option Addr) (n c : Nat) (l : List Due) (hn : l.length = n) (hr : zaJ W h A n 3 (l.flatMap Due.enc)) (fn : FuncId) (cap : List Value) (p : Due → Bool)
 (hf : ∀ x ∈ l, zaL Tryz.prog W fn ([.agg x.enc.toArray] ++ cap) h (.bool (p x))) (hb : n ≤ 4611686018427387903) :
 zaL Tryz.prog W 133 [.slice A n c, .func (.func fn) #[] cap.toArray] h (.int .i64 (za4 p l)) := by
 refine zaL.of (fun h' hs => ?_)
 have hr' := hr.mono hs
 refine zan Tryz.func133 rfl rfl Tryz.results133 Tryz.ntmps133 rfl rfl ?_
 refine zaU hr' rfl (fun hA => ?_)
 repeat' (first | apply zae | apply zaa | apply zaf | apply zad | apply zab hT; iterate 4 exact rfl)
 refine zbU (α := Nat) (E := fun k => [(0, .slice A n c), (1, .func (.func fn) #[] cap.toArray), (7, .int .i64 n), (8, .int .i64 k)]) (H := fun _ => h') (μ := fun k => n - k)
  (S := fun k => k ≤ n ∧ ∀ (j : Nat) y, j < k → l[j]? = some y → p y = false) 0 (J := []) ⟨Nat.zero_le _, fun j y hj => by omega⟩ ⟨rfl, rfl, rfl, rfl, trivial⟩ (List.Perm.refl _) ?_
 rintro k ⟨hk1, hk2⟩
 by_cases hlt : k < n
 ·obtain ⟨x, hx⟩ : ∃ x, l[k]? = some x := ⟨l[k]'(by omega), List.getElem?_eq_getElem (by omega)⟩
  have hx2 : l[(k : Int).toNat]? = some x := by simpa using hx
  have hfx := (hf x (List.mem_of_getElem? hx)).mono hs
  have hA' := hA (by omega)
  repeat' (first | apply zae | apply zaa | apply zaj | apply zah | apply zaf | apply zad | apply zab hT; iterate 4 exact rfl | apply zaN hT; (iterate 4 exact rfl); (iterate 2 omega) | apply zaS hT; (iterate 8 exact rfl); (iterate 2 omega); exact hA' | apply zal; (iterate 5 exact rfl); exact zaY hT rfl rfl hr' Due.enc_len rfl hx2 rfl | apply zac (hs := hfx); iterate 7 exact rfl | (apply zam; exact rfl; all_goals (intro hb; (try simp only [hb]); (first | replace hb := odt hb | replace hb := odf hb | skip); (try omega))))
  ·exact zch (J := []) rfl (by rw [zdK hx hb hk2]) (List.Perm.refl _)
  ·have hpx := hb
   refine ⟨k + 1, [], by dsimp only; omega, ⟨by omega, fun j y hj hy => ?_⟩, ⟨rfl, rfl, rfl, rfl, trivial⟩, List.Perm.refl _⟩
   by_cases hjk : j < k
   ·exact hk2 j y hjk hy
   ·obtain rfl : j = k := by omega
    rw [hx] at hy; cases hy; exact hpx
 ·repeat' (first | apply zae | apply zaa | apply zaj | apply zas | apply zad | apply zab hT; iterate 4 exact rfl | (apply zam; exact rfl; all_goals (intro hb; (try simp only [hb]); (first | replace hb := odt hb | replace hb := odf hb ); (try omega))))
  exact zch (J := []) rfl (by rw [zcc (fun (j : Nat) y hj => hk2 j y (by have := (List.getElem?_eq_some_iff.1 hj).1; omega) hj)]) (List.Perm.refl _)
theorem znI (W : World) (h : List zax) (A : Option Addr) (n c : Nat) (cs : List Value) (hr : zaJ W h A n 3 cs) (hb : n * 24 ≤ 140737488355328) :
 zaB Tryz.prog W 79 [.slice A n c] h (fun v h' => ∃ A' c', v = .slice A' n c' ∧ h' = .own A' n c' 121 3 cs :: h) := by
 refine zaB.drop ?_
 refine zan Tryz.func79 rfl rfl Tryz.results79 Tryz.ntmps79 rfl rfl ?_
 refine zaU hr rfl (fun hA => ?_)
 cases A with
 | none =>
   have hn : n = 0 := by
    rcases Nat.eq_zero_or_pos n with h | h
    ·exact h
    ·have := hA h; simp at this
   subst hn
   have hcs : cs = [] := List.eq_nil_of_length_eq_zero (by simpa using hr.len)
   subst hcs
   refine zbV (fun w hw => ⟨_, hw.own_nil 121 3, ?_⟩)
   repeat' (first | apply zae | apply zaa | apply zaj | apply zad | apply zab hT; iterate 4 exact rfl | apply zak; iterate 2 exact rfl)
   apply ret1; exact rfl
   exact ⟨[], _, List.Perm.refl _, none, 0, rfl, rfl⟩
 | some ad =>
   repeat' (first | apply zae | apply zaa | apply zaj | apply zah | apply zad | apply zab hT; iterate 4 exact rfl | apply zao hT; (iterate 12 exact rfl); intro g1 | apply zbg hT; (iterate 10 exact rfl); exact sel0; exact hr.cons; omega; (show (0 + n) * 24 ≤ _; omega); intro A' c' | apply zag; iterate 2 exact rfl)
   apply ret1; exact rfl
   refine ⟨[], _, List.Perm.refl _, A', c', by rw [Nat.zero_add], ?_⟩
   show zax.own A' (0 + n) c' 121 3 ([] ++ cs) :: h = _
   simp
theorem ziJ (W : World) (F : List zax) (A : Option Addr) (n c : Nat) (i j : Int) (cs : List Value) (h0 : 0 ≤ i) (hij : i ≤ j) (hjn : j ≤ n) :
 zaB Tryz.prog W 78 [.slice A n c, .int .i64 i, .int .i64 j] (.own A n c 121 3 cs :: F)
  (fun v h' => v = .slice A (n - (j.toNat - i.toNat)) c ∧ h' = .own A (n - (j.toNat - i.toNat)) c 121 3 (cs.take (i.toNat * 3) ++ cs.drop (j.toNat * 3)) :: F) := by
 obtain ⟨i, rfl⟩ := Int.eq_ofNat_of_zero_le h0
 obtain ⟨j, rfl⟩ := Int.eq_ofNat_of_zero_le (show 0 ≤ j by omega)
 simp only [Int.toNat_natCast]
 by_cases hij0 : i = j
 ·subst hij0
  have he : ((i : Int) == (i : Int)) = true := by simp
  refine zan Tryz.func78 rfl rfl Tryz.results78 Tryz.ntmps78 rfl rfl ?_
  refine zbm mem0 (fun hl hnc hcc hsome hnone hone => ?_)
  repeat' (first | apply zae | apply zaa | apply zaj | apply zad | apply zab hT; iterate 4 exact rfl | apply ze1 hT; (iterate 10 exact rfl); (iterate 3 omega) | apply zak; exact rfl; exact he)
  apply ret1; exact rfl
  exact ⟨by simp, by simp⟩
 ·have he : ((i : Int) == (j : Int)) = false := by simp; omega
  have hlt : i < j := by omega
  have hz : (ti121.zero.cells.toList).length = 3 := rfl
  refine zaB.conv (R := fun v h' => v = .slice A (n - (j - i)) c ∧ ∃ (g : Nat) (cur : List Value), A = some ⟨g, 0, none⟩ ∧ cur.length = c * 3 ∧ cur.take (n * 3) = cs ∧ cs.length = n * 3 ∧ n ≤ c ∧ c ≤ 9223372036854775807 ∧ (∀ v ∈ cs, v.oneCell' = true) ∧
   h' = .blk g 121 (lay (lay cur (i * 3) (cs.drop (j * 3))) ((i + (n - j)) * 3) (repZ ti121.zero.cells.toList (n - (i + (n - j))))) :: F) ?_ ?_
  rotate_left
  ·rintro v h' ⟨hv, g, cur, rfl, hcl, htk, hl, hnc, hcc, hone, rfl⟩ w hw
   have hdl : (cs.drop (j * 3)).length = (n - j) * 3 := by rw [List.length_drop, hl, Nat.sub_mul]
   have hyl : (lay cur (i * 3) (cs.drop (j * 3))).length = c * 3 := by rw [zcI (by omega)]; exact hcl
   have hzl : (repZ ti121.zero.cells.toList (n - (i + (n - j)))).length = (n - (i + (n - j))) * 3 := by rw [zdI, hz]
   have hcut : (lay (lay cur (i * 3) (cs.drop (j * 3))) ((i + (n - j)) * 3) (repZ ti121.zero.cells.toList (n - (i + (n - j))))).take ((n - (j - i)) * 3) = cs.take (i * 3) ++ cs.drop (j * 3) := by
    rw [show (n - (j - i)) * 3 = (i + (n - j)) * 3 by omega, zd3 (by omega)]
    have := zd4 (Y := cur) (Z := cs.drop (j * 3)) (o := i * 3) (by omega)
    rw [hdl, ← Nat.add_mul] at this
    rw [this, ← htk, List.take_take, Nat.min_eq_left (by omega)]
   refine ⟨_, hw.shut_ (n := n - (j - i)) (c := c) (k := 3) ?_ hcut ?_ (by omega) hcc ?_, hv, rfl⟩
   ·rw [zcI (by omega)]; exact hyl
   ·rw [List.length_append, hdl, List.length_take, hl]; omega
   ·intro u hu
    rcases List.mem_append.1 hu with hu | hu
    ·exact hone u (List.mem_of_mem_take hu)
    ·exact hone u (List.mem_of_mem_drop hu)
  refine zan Tryz.func78 rfl rfl Tryz.results78 Tryz.ntmps78 rfl rfl ?_
  refine zbm mem0 (fun hl hnc hcc hsome hnone hone => ?_)
  obtain ⟨g, rfl⟩ := hsome (by omega)
  refine zfs sel0 (fun cur hcl htk _ _ _ _ => ?_)
  have hr0 : zaJ W (.blk g 121 cur :: F) (some ⟨g, 0, none⟩) n 3 cs := zaJ.blk mem0 (by simpa using htk) hl hone
  have hr1 := hr0.cut hnc (show j ≤ n by omega) (Nat.le_refl n)
  rw [List.take_of_length_le (by rw [List.length_drop, hl, Nat.sub_mul]; omega)] at hr1
  have hdl : (cs.drop (j * 3)).length = (n - j) * 3 := hr1.len
  have hyl : (lay cur (i * 3) (cs.drop (j * 3))).length = c * 3 := by rw [zcI (by omega)]; exact hcl
  repeat' (first | apply zae | apply zaa | apply zaj | apply zah | apply zad | apply zab hT; iterate 4 exact rfl | apply zaM [] [] hmix; decide +kernel | apply ze1 hT; (iterate 10 exact rfl); (iterate 3 omega) | apply zag; exact rfl; exact he | apply zbX hT; (iterate 8 exact rfl); (iterate 2 omega) | apply zby hT; (iterate 8 exact rfl); (iterate 3 omega); exact rfl | apply zho hT (k := 3); (iterate 11 exact rfl); exact sel0; exact hr1; omega; (show i * 3 + (n - j) * 3 ≤ _; omega) | (apply zfM hT; (iterate 9 exact rfl); (iterate 3 omega); exact zcs (by omega)) | apply zhR hT (k := 3); (iterate 9 exact rfl); exact sel0; exact rfl; (show (i + (n - j)) * 3 + (n - (i + (n - j))) * 3 ≤ (lay cur (i * 3) (cs.drop (j * 3))).length; omega))
  apply ret1; exact rfl
  exact ⟨by rw [show n - (j - i) = i + (n - j) by omega]; rfl, g, cur, rfl, hcl, htk, hl, hnc, hcc, hone, rfl⟩
theorem zkQ (W : World) (h : List zax) (A : Option Addr) (n c : Nat) (l : List Due) (hn : l.length = n) (hr : zaJ W h A n 3 (l.flatMap Due.enc)) (tgt : Value) (htg : ∃ a, tgt = .agg (Due.enc a).toArray) (fn : FuncId) (cap : List Value) (cf : Due → Int)
 (hf : ∀ x ∈ l, zaL Tryz.prog W fn ([.agg x.enc.toArray, tgt] ++ cap) h (.int .i64 (cf x))) (hmono : ∀ (i j : Nat) x y, i ≤ j → l[i]? = some x → l[j]? = some y → cf y < 0 → cf x < 0) (hb : n ≤ 2305843009213693951) :
 zaL Tryz.prog W 148 [.slice A n c, tgt, .func (.func fn) #[] cap.toArray] h (.tuple #[.int .i64 (bsN cf l), .bool (bsB cf l)]) := by
 obtain ⟨ta, rfl⟩ := htg
 refine zaL.of (fun h' hs => ?_)
 have hr' := hr.mono hs
 refine zan Tryz.func148 rfl rfl Tryz.results148 Tryz.ntmps148 rfl rfl ?_
 refine zaU hr' rfl (fun hA => ?_)
 repeat' (first | apply zae | apply zaa | apply zaf | apply zad | apply zab hT; iterate 4 exact rfl | apply zaK; (iterate 5 exact rfl); intro _)
 refine zbU (α := Int × Int) (E := fun p => [(0, .slice A n c), (2, .func (.func fn) #[] cap.toArray), (4, _), (8, .int .i64 n), (9, .int .i64 p.1), (10, .int .i64 p.2)]) (H := fun _ => _) (μ := fun p => (p.2 - p.1).toNat)
  (S := fun p => 0 ≤ p.1 ∧ p.1 ≤ p.2 ∧ p.2 ≤ n ∧ (∀ (k : Nat) y, (k : Int) < p.1 → l[k]? = some y → cf y < 0) ∧ (∀ (k : Nat) y, p.2 ≤ (k : Int) → l[k]? = some y → ¬ cf y < 0)) (0, (n : Int)) (J := [])
  ⟨by simp, by simp, by simp, fun k y hk => by simp at hk; omega, fun k y hk hy => by have := (List.getElem?_eq_some_iff.1 hy).1; simp at hk; omega⟩ ⟨rfl, rfl, rfl, rfl, rfl, rfl, trivial⟩ (List.Perm.refl _) ?_
 rintro ⟨i, j⟩ ⟨s1, s2, s3, s4, s5⟩
 simp only at s1 s2 s3 s4 s5
 by_cases hlt : i < j
 ·obtain ⟨m, hm⟩ : ∃ m : Nat, (i + j) / 2 = (m : Int) := ⟨((i + j) / 2).toNat, by omega⟩
  have hm2 : ((i + j) / 2).toNat = m := by omega
  obtain ⟨x, hx⟩ : ∃ x, l[m]? = some x := ⟨l[m]'(by omega), List.getElem?_eq_getElem (by omega)⟩
  have hx2 : l[((i + j) / 2).toNat]? = some x := by rw [hm2]; exact hx
  have hfx := (hf x (List.mem_of_getElem? hx)).mono hs
  have hA' := hA (by omega)
  repeat' (first | apply zae | apply zaa | apply zah | apply zaf | apply zad | apply zab hT; iterate 4 exact rfl | apply zaN hT; (iterate 4 exact rfl); (iterate 2 omega) | apply zaM [] [] hmix; decide +kernel | apply zit hT; (iterate 4 exact rfl); (iterate 2 omega) | apply zjk; iterate 6 exact rfl | apply zaS hT; (iterate 8 exact rfl); (iterate 2 omega); exact hA' | (apply zal; (iterate 5 exact rfl); first | exact zaY hT rfl rfl hr'.cons Due.enc_len rfl hx2 rfl) | apply zac (hs := (hfx.mono (fun c hc => mcm _ hc))); iterate 7 exact rfl | (apply zal; (iterate 5 exact rfl); first | exact zaQ hT rfl rfl mem0 rfl) | (apply zam; exact rfl; all_goals (intro hb; (try simp only [hb]); (first | replace hb := odt hb | replace hb := odf hb ); (try omega))))
  ·have hcx := hb
   refine ⟨((i + j) / 2 + 1, j), [], by dsimp only; omega, ⟨by dsimp only; omega, by dsimp only; omega, s3, fun k y hk hy => ?_, s5⟩, ⟨rfl, rfl, rfl, rfl, rfl, rfl, trivial⟩, List.Perm.refl _⟩
   exact hmono k m y x (by dsimp only at hk; omega) hy hx hcx
  ·have hcx := hb
   refine ⟨(i, (i + j) / 2), [], by dsimp only; omega, ⟨s1, by dsimp only; omega, by dsimp only; omega, s4, fun k y hk hy hneg => hcx (hmono m k x y (by dsimp only at hk; omega) hx hy hneg)⟩, ⟨rfl, rfl, rfl, rfl, rfl, rfl, trivial⟩, List.Perm.refl _⟩
 ·obtain ⟨m, hm⟩ : ∃ m : Nat, i = (m : Int) := ⟨i.toNat, by omega⟩
  subst hm
  obtain rfl : j = (m : Int) := by omega
  have hbs : bsN cf l = m := zhp (by omega) (fun k y hk hy => s4 k y (by omega) hy) (fun y hy => s5 m y (by omega) hy)
  by_cases hmn : m < n
  ·obtain ⟨x, hx⟩ : ∃ x, l[m]? = some x := ⟨l[m]'(by omega), List.getElem?_eq_getElem (by omega)⟩
   have hx2 : l[(m : Int).toNat]? = some x := by simpa using hx
   have hfx := (hf x (List.mem_of_getElem? hx)).mono hs
   have hA' := hA (by omega)
   have hd : decide ((m : Int) < (n : Int)) = true := by simp; omega
   repeat' (first | apply zae | apply zaa | apply zaj | apply zas | apply zad | apply zab hT; iterate 4 exact rfl | apply zaM [] [] hmix; decide +kernel | apply zaS hT; (iterate 8 exact rfl); (iterate 2 omega); exact hA' | (apply zal; (iterate 5 exact rfl); first | exact zaY hT rfl rfl hr'.cons Due.enc_len rfl hx2 rfl) | apply zac (hs := (hfx.mono (fun c hc => mcm _ hc))); iterate 7 exact rfl | (apply zal; (iterate 5 exact rfl); first | exact zaQ hT rfl rfl mem0 rfl) | (apply zav; exact rfl; all_goals (intro hb; (try simp only [hb]); (first | replace hb := odt hb | replace hb := odf hb ); (try omega))) | (apply zam; exact rfl; all_goals (intro hb; (try simp only [hb]); (first | replace hb := odt hb | replace hb := odf hb ); (try omega))))
   apply ret2; exact rfl; exact rfl
   exact ⟨by rw [bsB, hbs, hx], [_], List.Perm.refl _⟩
  ·have hx : l[m]? = none := List.getElem?_eq_none (by omega)
   repeat' (first | apply zae | apply zaa | apply zaj | apply zas | apply zad | apply zab hT; iterate 4 exact rfl | apply zaq; iterate 3 exact rfl | apply zaM [] [] hmix; decide +kernel | (apply zav; exact rfl; all_goals (intro hb; (try simp only [hb]); (first | replace hb := odt hb | replace hb := odf hb ); (try omega))) | (apply zam; exact rfl; all_goals (intro hb; (try simp only [hb]); (first | replace hb := odt hb | replace hb := odf hb ); (try omega))))
   apply ret2; exact rfl; exact rfl
   exact ⟨by rw [bsB, hbs, hx], [_], List.Perm.refl _⟩
theorem zjx (W : World) (h : List zax) (gv g n c o m2 c2 : Nat) (vs cur : List Value) (hv : zax.own (some ⟨gv, 0, none⟩) 1 1 121 3 vs ∈ h) (hg : zax.blk g 121 cur ∈ h) (hne : gv ≠ g) (hcur : cur.length ≠ 0) :
 ∀ w, RepS W h w → (callFunc 176 [Value.slice (some ⟨gv, 0, none⟩) 1 1, .slice (some ⟨g, o, none⟩) m2 c2].toArray).run Tryz.prog w = .ok (.value (.bool false)) w := fun w hw => by
 have h1 := hw.heap_blk hg
 have h2 := (hw.holds _ hv).1
 rcases h2.2 with ⟨hx, _⟩ | ⟨g', cap, cv, hx, _, hgv, _⟩
 ·cases hx
 ·injection hx with hA _ _
  injection hA with hA
  injection hA with hA _ _
  subst hA
  have hz : ∀ w, (Go.sizeOf 121).run Tryz.prog w = .ok 3 w := fun w => (hT _ _ (rfl : TT.lookup 121 = some ti121)).sz w
  rw [run_callFunc_extern Tryz.func176 (by kernel_rfl) (by kernel_rfl) (by kernel_rfl) (e := Extern.SlicesOverlaps.overlaps #[118, 118] #[4]) (by kernel_rfl)]
  have := Lib.run_overlaps_apart (P := Tryz.prog) w 118 4 121 Tryz.underlying118 3 hz ⟨gv, 0, none⟩ ⟨g, o, none⟩ 1 1 m2 c2 hne 121 121 cv.size cur.length (by simp [World.shape?, hgv]) (by simp [World.shape?, h1]) hcur (by simp [World.frozen?, hgv]) (by simp [World.frozen?, hgv])
  rw [this]
  rfl
theorem zmc (W : World) (F : List zax) (A : Option Addr) (n c : Nat) (i : Int) (cs : List Value) (gv : Nat) (vs : List Value) (hv : zax.own (some ⟨gv, 0, none⟩) 1 1 121 3 vs ∈ F) (h0 : 0 ≤ i) (hin : i ≤ n) (hb : (n + 1) * 24 ≤ 140737488355328) :
 zaB Tryz.prog W 150 [.slice A n c, .int .i64 i, .slice (some ⟨gv, 0, none⟩) 1 1] (.own A n c 121 3 cs :: F)
  (fun v h' => ∃ A' c', v = .slice A' (n + 1) c' ∧ h' = .own A' (n + 1) c' 121 3 (cs.take (i.toNat * 3) ++ vs ++ cs.drop (i.toNat * 3)) :: F) := by
 obtain ⟨i, rfl⟩ := Int.eq_ofNat_of_zero_le h0
 simp only [Int.toNat_natCast]
 refine zaB.drop ?_
 refine zan Tryz.func150 rfl rfl Tryz.results150 Tryz.ntmps150 rfl rfl ?_
 refine zbm mem0 (fun hl hnc hcc hsome hnone hone => ?_)
 refine zbm (mcm _ hv) (fun hvl _ _ _ _ hvone => ?_)
 have hvl : vs.length = 3 := by simpa using hvl
 have hrvG : ∀ c0, zaJ W (c0 :: F) (some ⟨gv, 0, none⟩) 1 3 vs := fun c0 => zaJ.own (mcm _ hv) (by simpa using hvl) hvone
 have hrv := hrvG (.own A n c 121 3 cs)
 have hmin1 : ∀ m, 0 < m → Nat.min 1 m = 1 := fun m hm => by show min 1 m = 1; omega
 have hrs : zaJ W (.own A n c 121 3 cs :: F) A n 3 cs := zaJ.own mem0 hl hone
 by_cases hi : i = n
 ·subst hi
  have he : ((i : Int) == (i : Int)) = true := by simp
  repeat' (first | apply zae | apply zaa | apply zaj | apply zah | apply zad | apply zab hT; iterate 4 exact rfl | apply zby hT; (iterate 8 exact rfl); (iterate 3 omega); exact rfl | apply zak; exact rfl; exact he | apply zbg hT; (iterate 10 exact rfl); exact sel0; exact hrv; omega; (show (i + 1) * 24 ≤ _; omega); intro A' c' | apply zag; iterate 2 exact rfl)
  apply ret1; exact rfl
  refine ⟨[], _, List.Perm.refl _, A', c', rfl, ?_⟩
  show zax.own A' (i + 1) c' 121 3 (cs ++ vs) :: F = _
  rw [List.take_of_length_le (by omega), List.drop_of_length_le (by omega), List.append_nil]
 ·have hlt : i < n := by omega
  have he : ((i : Int) == (n : Int)) = false := by simp; omega
  obtain ⟨g, rfl⟩ := hsome (by omega)
  by_cases hroom : n + 1 ≤ c
  ·
   refine zbV (fun w hw => ?_)
   have hnd := hw.nodup
   have hgv : gv ≠ g := by
    intro e
    simp only [List.flatMap_cons, List.nodup_append] at hnd
    exact hnd.2.2 g (by simp [zax.keys]) g (List.mem_flatMap.2 ⟨_, hv, by simp [zax.keys, e]⟩) rfl
   refine ⟨_, hw, ?_⟩
   refine zfs sel0 (fun cur hcl htk _ _ _ _ => ?_)
   have hr0 : zaJ W (.blk g 121 cur :: F) (some ⟨g, 0, none⟩) n 3 cs := zaJ.blk mem0 (by simpa using htk) hl hone
   have hr1 := hr0.cut hnc (show i ≤ n by omega) (Nat.le_refl n)
   rw [List.take_of_length_le (by rw [List.length_drop, hl, Nat.sub_mul]; omega), zcs (by omega)] at hr1
   have hdl : (cs.drop (i * 3)).length = (n - i) * 3 := hr1.len
   have hmin2 : Nat.min (n + 1 - i) (n + 1 - (i + 1)) = n - i := by show min (n + 1 - i) (n + 1 - (i + 1)) = n - i; omega
   have hov := zjx W (.blk g 121 cur :: F) gv g n c ((i + 1) * 3) (n + 1 - (i + 1)) (c - (i + 1)) vs cur (mcm _ hv) mem0 hgv (by omega)
   refine zfv (Q' := RetQ Tryz.prog W #[ResultVar.tmp 6].toList (fun v h' => v = .slice (some ⟨g, 0, none⟩) (n + 1) c ∧ h' = .blk g 121 (lay (lay cur (i * 3 + vs.length) (cs.drop (i * 3))) (i * 3) vs) :: F)) (zdq ?_) ?_
   ·rintro v h' ⟨hv', rfl⟩ w hw
    have hb2 := zfu (cur := cur) (v := vs) (S := cs.drop (i * 3)) (a := i * 3) (by omega)
    rw [hb2] at hw
    have htk2 : cur.take (i * 3) = cs.take (i * 3) := by rw [← htk, List.take_take, Nat.min_eq_left (by omega)]
    have hone2 : ∀ u ∈ cs.take (i * 3) ++ vs ++ cs.drop (i * 3), u.oneCell' = true := fun u hu => by
     simp only [List.mem_append] at hu
     rcases hu with (hu | hu) | hu
     ·exact hone u (List.mem_of_mem_take hu)
     ·exact hvone u hu
     ·exact hone u (List.mem_of_mem_drop hu)
    have hl2 : (cs.take (i * 3) ++ vs ++ cs.drop (i * 3)).length = (n + 1) * 3 := by simp only [List.length_append, List.length_take, hdl, hvl, hl]; omega
    refine ⟨_, hw.shut_ (n := n + 1) (c := c) (k := 3) ?_ ?_ hl2 hroom hcc hone2, [], _, List.Perm.refl _, some ⟨g, 0, none⟩, c, hv', rfl⟩
    ·simp only [List.length_append, List.length_take, List.length_drop, hvl, hcl, hl]; omega
    ·rw [htk2, ← hl2, List.take_left]
   ·repeat' (first | apply zae | apply zaa | apply zaj | apply zah | apply zad | apply zab hT; iterate 4 exact rfl | apply zaN hT; (iterate 4 exact rfl); (iterate 2 omega) | apply zaM [] [] hmix; decide +kernel | (apply zby hT; (iterate 8 exact rfl); (iterate 3 omega); first | exact zcs (by omega) ) | apply zhn hT; iterate 6 exact rfl | apply zbX hT; (iterate 8 exact rfl); (iterate 2 omega) | apply zag; exact rfl; exact he | apply ze2; (iterate 6 exact rfl); exact hov | (apply zcb hT (k := 3); (iterate 10 exact rfl); exact sel0; exact rfl; exact (show zaJ W (.blk g 121 cur :: F) (some ⟨g, i * 3, none⟩) (Nat.min (n + 1 - i) (n + 1 - (i + 1))) 3 (cs.drop (i * 3)) from (by rw [hmin2]; exact hr1)); (show (i + 1) * 3 + (cs.drop (i * 3)).length ≤ cur.length; omega)) | (apply zcb hT (k := 3); (iterate 10 exact rfl); exact sel0; exact rfl; exact (show zaJ W _ (some ⟨gv, 0, none⟩) (Nat.min 1 (n + 1 - i)) 3 vs from (by rw [hmin1 _ (by omega)]; exact hrvG _)); (show i * 3 + vs.length ≤ (lay cur ((i + 1) * 3) (cs.drop (i * 3))).length; rw [zcI (by omega)]; omega)) | apply zak; iterate 2 exact rfl | apply zag; iterate 2 exact rfl | (apply zam; exact rfl; all_goals (intro hb; (try simp only [hb]); (first | replace hb := odt hb | replace hb := odf hb ); (try omega))))
    apply ret1; exact rfl
    refine ⟨rfl, ?_⟩
    show zax.blk g 121 (lay (lay cur ((i + 1) * 3) (cs.drop (i * 3))) (i * 3) vs) :: F = _
    rw [hvl, ← Nat.succ_mul]
  ·
   have hz : (ti121.zero.cells.toList).length = 3 := rfl
   have hr1 : ∀ c0, zaJ W (c0 :: .own (some ⟨g, 0, none⟩) n c 121 3 cs :: F) (some ⟨g, i * 3, none⟩) (n - i) 3 (cs.drop (i * 3)) := fun c0 => by
    have := (zaJ.own (W := W) (h := c0 :: .own (some ⟨g, 0, none⟩) n c 121 3 cs :: F) mem1 hl hone).cut hnc (show i ≤ n by omega) (Nat.le_refl n)
    rw [List.take_of_length_le (by rw [List.length_drop, hl, Nat.sub_mul]; omega), zcs (by omega)] at this
    exact this
   have hdl : (cs.drop (i * 3)).length = (n - i) * 3 := (hr1 (.blk 0 0 [])).len
   have hmin3 : Nat.min (n - i) (i + (n + 1 - i) - (i + 1)) = n - i := by show min (n - i) (i + (n + 1 - i) - (i + 1)) = n - i; omega
   refine zfv (Q' := RetQ Tryz.prog W #[ResultVar.tmp 6].toList (fun v h' => ∃ (g2 c2 : Nat) (cur : List Value), n + 1 ≤ c2 ∧ c2 ≤ 9223372036854775807 ∧ cur.length = c2 * 3 ∧ cur.take (i * 3) = cs.take (i * 3) ∧ v = .slice (some ⟨g2, 0, none⟩) (n + 1) c2 ∧
    h' = .blk g2 121 (lay (lay cur (i * 3) vs) (i * 3 + vs.length) (cs.drop (i * 3))) :: .own (some ⟨g, 0, none⟩) n c 121 3 cs :: F)) (zdq ?_) ?_
   ·rintro v h' ⟨g2, c2, cur, k1, k2, k3, k4, hv', rfl⟩ w hw
    have ha2 := zge (cur := cur) (v := vs) (S := cs.drop (i * 3)) (a := i * 3) (by omega)
    rw [ha2, k4] at hw
    have hone2 : ∀ u ∈ cs.take (i * 3) ++ vs ++ cs.drop (i * 3), u.oneCell' = true := fun u hu => by
     simp only [List.mem_append] at hu
     rcases hu with (hu | hu) | hu
     ·exact hone u (List.mem_of_mem_take hu)
     ·exact hvone u hu
     ·exact hone u (List.mem_of_mem_drop hu)
    have hl2 : (cs.take (i * 3) ++ vs ++ cs.drop (i * 3)).length = (n + 1) * 3 := by simp only [List.length_append, List.length_take, hdl, hvl, hl]; omega
    refine ⟨_, hw.shut_ (n := n + 1) (c := c2) (k := 3) ?_ ?_ hl2 k1 k2 hone2, [.own (some ⟨g, 0, none⟩) n c 121 3 cs], _, sel1, some ⟨g2, 0, none⟩, c2, hv', rfl⟩
    ·simp only [List.length_append, List.length_take, List.length_drop, hvl, k3, hl]; omega
    ·rw [← hl2, List.take_left]
   ·repeat' (first | apply zae | apply zaa | apply zaj | apply zah | apply zad | apply zab hT; iterate 4 exact rfl | apply zaN hT; (iterate 4 exact rfl); (iterate 2 omega) | apply zaM [] [] hmix; decide +kernel | apply zhn hT; iterate 6 exact rfl | apply zbX hT; (iterate 8 exact rfl); (iterate 2 omega) | (apply zby hT; (iterate 8 exact rfl); (iterate 3 omega); first | exact zcs (by omega) ) | apply zag; exact rfl; exact he | (apply zft hT (m := n + 1 - i); (iterate 12 exact rfl); omega; exact hrs.take (show i ≤ n by omega); omega; omega; omega; (show (i + (n + 1 - i)) * 24 ≤ _; omega); intro g2 c2 hc2) | (apply zcb hT (k := 3); (iterate 10 exact rfl); exact sel0; exact rfl; exact (show zaJ W _ (some ⟨gv, 0, none⟩) (Nat.min 1 (i + (n + 1 - i) - i)) 3 vs from (by rw [hmin1 _ (by omega)]; exact (hrvG _).cons)); (show i * 3 + vs.length ≤ cur.length; omega)) | (apply zcb hT (k := 3); (iterate 10 exact rfl); exact sel0; exact rfl; exact (show zaJ W _ (some ⟨g, i * 3, none⟩) (Nat.min (n - i) (i + (n + 1 - i) - (i + 1))) 3 (cs.drop (i * 3)) from (by rw [hmin3]; exact hr1 _)); (show (i + 1) * 3 + (cs.drop (i * 3)).length ≤ (lay cur (i * 3) vs).length; rw [zcI (by omega)]; omega)) | apply zjj rfl sel0; intro cur hcl htk hc3 hc4; replace hcl : cur.length = c2 * 3 := hcl | apply zag; iterate 2 exact rfl | (apply zam; exact rfl; all_goals (intro hb; (try simp only [hb]); (first | replace hb := odt hb | replace hb := odf hb ); (try omega))))
    apply ret1; exact rfl
    refine ⟨g2, c2, cur, by omega, hc4, hcl, ?_, by show Value.slice (some ⟨g2, 0, none⟩) (i + (n + 1 - i)) c2 = _; rw [show i + (n + 1 - i) = n + 1 by omega], ?_⟩
    ·have e1 : cur.take ((i + (n + 1 - i)) * 3) = cs.take (i * 3) ++ repZ ti121.zero.cells.toList (n + 1 - i) := htk
     have e2 := congrArg (List.take (i * 3)) e1
     rw [List.take_take, Nat.min_eq_left (by omega), List.take_append_of_le_length (by rw [List.length_take]; omega), List.take_take, Nat.min_self] at e2
     exact e2
    ·show zax.blk g2 121 (lay (lay cur (i * 3) vs) ((i + 1) * 3) (cs.drop (i * 3))) :: _ = _
     rw [hvl, ← Nat.succ_mul]
def zbM (p : Nat) (A : Option Addr) (c : Nat) (l : List Due) (F : List zax) : List zax :=
 .blk p 133 [.slice A l.length c] :: .own A l.length c 121 3 (l.flatMap Due.enc) :: F
def ordD (a b : Due) : Int := orI [cmpI a.tick b.tick, cmpI a.kind b.kind, cmpI a.id b.id]
def hasD (kind id : Int) (d : Due) : Bool := d.kind == kind && d.id == id
theorem zmd (W : World) (d : Due) (b1 b2 : Nat) (kind id : Int) :
 zaL Tryz.prog W 134 [.agg d.enc.toArray, .pointer (some ⟨b1, 0, none⟩), .pointer (some ⟨b2, 0, none⟩)] [.blk b1 3 [.int .i64 kind], .blk b2 2 [.int .i64 id]] (.bool (hasD kind id d)) := by
 refine zaL.of (fun h' hs => ?_)
 have m1 := hs _ mem0
 have m2 := hs _ mem1
 refine zan Tryz.func134 rfl rfl Tryz.results134 Tryz.ntmps134 rfl rfl ?_
 repeat' (first | apply zae | apply zaa | apply zaj | apply zad | apply zab hT; iterate 4 exact rfl | apply zaq; iterate 3 exact rfl | (apply zal; (iterate 5 exact rfl); first | (apply zaC hT; exact rfl; exact rfl; (repeat (first | exact mcs | exact m1 | exact m2 | apply mcm )); exact rfl; exact rfl) ) | apply zaK; (iterate 5 exact rfl); intro _ | (apply zav; exact rfl; all_goals (intro hb; (fail_if_success (change true = true at hb)); (fail_if_success (change false = false at hb)); (try dsimp only at hb); (try simp only [hb]); (first | replace hb := odt hb | replace hb := odf hb ); (try omega))))
 ·apply zch (J := [_]); exact rfl; rotate_left; exact List.Perm.refl _
  simp [hasD, hb]
 ·apply zch (J := [_]); exact rfl; rotate_left; exact List.Perm.refl _
  simp [hasD, hb]
theorem zme (W : World) (a b : Due) : zaL Tryz.prog W 149 [.agg a.enc.toArray, .agg b.enc.toArray] [] (.int .i64 (ordD a b)) := by
 refine zaL.of (fun h' hs => ?_)
 refine zan Tryz.func149 rfl rfl Tryz.results149 Tryz.ntmps149 rfl rfl ?_
 repeat' (first | apply zae | apply zaa | apply zaj | apply zad | apply zab hT; iterate 4 exact rfl | apply zaM [71, 175, 174] [] hmix; decide +kernel | (apply zac (hs := ((zoM W _ _).mono (by simp))); iterate 7 exact rfl) | (apply zac (hs := ((cmpi W _ _).mono (by simp))); iterate 7 exact rfl) | apply zao hT; (iterate 12 exact rfl); intro g1 | (apply zac (hs := (zpB W _ _ 3 3 [cmpI a.tick b.tick, cmpI a.kind b.kind, cmpI a.id b.id] rfl (zaJ.own mem0 rfl (by simp [Value.oneCell'])) (by omega))); iterate 7 exact rfl) | (apply zal; (iterate 5 exact rfl); first | (apply zaC hT; exact rfl; exact rfl; (repeat (first | exact mcs | apply mcm )); exact rfl; exact rfl) ) | apply zaK; (iterate 5 exact rfl); intro _)
 apply zch (J := [_, _, _]); exact rfl; exact rfl; exact List.Perm.refl _
theorem zkb (W : World) (p : Nat) (A : Option Addr) (c : Nat) (l : List Due) (kind id : Int) (hb : l.length ≤ 1000000) :
 zaL Tryz.prog W 77 [.pointer (some ⟨p, 0, none⟩), .int .i64 kind, .int .i64 id] (zbM p A c l []) (.int .i64 (za4 (hasD kind id) l)) := by
 refine zaL.of (fun h' hs => ?_)
 have m1 := hs _ mem0
 have m2 := hs _ mem1
 refine zan Tryz.func77 rfl rfl Tryz.results77 Tryz.ntmps77 rfl rfl ?_
 refine zbm m2 (fun hl hnc hcc hsome hnone hone => ?_)
 have hr := zaJ.own (W := W) m2 hl hone
 have hq : ∀ g1 g2, zaL Tryz.prog W 133 [.slice A l.length c, .func (.func 134) #[] #[.pointer (some ⟨g1, 0, none⟩), .pointer (some ⟨g2, 0, none⟩)]]
  (.blk g2 2 [.int .i64 id] :: .blk g1 3 [.int .i64 kind] :: h') (.int .i64 (za4 (hasD kind id) l)) := fun g1 g2 =>
  ziI W _ A _ c l rfl hr.cons.cons _ [_, _] (hasD kind id) (fun x _ => (zmd W x g1 g2 kind id).mono (by intro c hc; simp only [List.mem_cons, List.not_mem_nil, or_false] at hc; rcases hc with rfl | rfl <;> simp)) (by omega)
 repeat' (first | apply zae | apply zaa | apply zaj | apply zad | apply zab hT; iterate 4 exact rfl | apply zac (hs := (hq _ _)); iterate 7 exact rfl | (apply zal; (iterate 5 exact rfl); first | (apply zaC hT; exact rfl; exact rfl; (repeat (first | exact m1 | apply mcm )); exact rfl; exact rfl) ) | apply zaK; (iterate 5 exact rfl); intro _)
 apply zch (J := [_, _]); exact rfl; exact rfl; exact List.Perm.refl _
def insD (l : List Due) (d : Due) : List Due := l.take (bsN (ordD · d) l) ++ [d] ++ l.drop (bsN (ordD · d) l)
theorem zkc (l : List Due) (d : Due) : (insD l d).length = l.length + 1 := by simp [insD]; omega
def addD (l : List Due) (d : Due) : List Due := if za4 (hasD d.kind d.id) l < 0 then insD l d else l
theorem zjy (W : World) (F : List zax) (p : Nat) (A : Option Addr) (c : Nat) (l : List Due) (d : Due) (hb : l.length ≤ 1000000)
 (hmono : ∀ (i j : Nat) x y, i ≤ j → l[i]? = some x → l[j]? = some y → ordD y d < 0 → ordD x d < 0) :
 zaB Tryz.prog W 105 [.pointer (some ⟨p, 0, none⟩), .agg d.enc.toArray] (zbM p A c l F) (fun v h' => v = .bool (decide (za4 (hasD d.kind d.id) l < 0)) ∧ ∃ A' c', h' = zbM p A' c' (addD l d) F) := by
 refine zaB.dropTo ?_
 refine zan Tryz.func105 rfl rfl Tryz.results105 Tryz.ntmps105 rfl rfl ?_
 have hfind : ∀ g1, zaL Tryz.prog W 77 [.pointer (some ⟨p, 0, none⟩), .int .i64 d.kind, .int .i64 d.id] (.blk g1 121 d.enc.toArray.toList :: zbM p A c l F) (.int .i64 (za4 (hasD d.kind d.id) l)) := fun g1 =>
  (zkb W p A c l d.kind d.id hb).mono (by intro c hc; simp only [zbM, List.mem_cons, List.not_mem_nil, or_false] at hc ⊢; rcases hc with rfl | rfl <;> simp)
 refine zbm (h := zbM p A c l F) mem1 (fun hl hnc hcc hsome hnone hone => ?_)
 by_cases hi : za4 (hasD d.kind d.id) l < 0
 ·have hd : decide (za4 (hasD d.kind d.id) l ≥ 0) = false := by simp; omega
  have hr : ∀ g1, zaJ W (.blk g1 121 d.enc.toArray.toList :: zbM p A c l F) A l.length 3 (l.flatMap Due.enc) := fun g1 => zaJ.own mem2 hl hone
  have hbs : ∀ g1, zaL Tryz.prog W 148 [.slice A l.length c, .agg d.enc.toArray, .func (.func 149) #[] #[]] (.blk g1 121 d.enc.toArray.toList :: zbM p A c l F) (.tuple #[.int .i64 (bsN (ordD · d) l), .bool (bsB (ordD · d) l)]) := fun g1 =>
   zkQ W _ A _ c l rfl (hr g1) _ ⟨d, rfl⟩ _ [] (ordD · d) (fun x _ => (zme W x d).mono (by simp)) hmono (by omega)
  have hle := zly (c := (ordD · d)) (l := l)
  have hins : ∀ g1 gv, zaB Tryz.prog W 150 [.slice A l.length c, .int .i64 (bsN (ordD · d) l), .slice (some ⟨gv, 0, none⟩) 1 1] (.own (some ⟨gv, 0, none⟩) 1 1 121 3 d.enc :: .blk g1 121 d.enc.toArray.toList :: zbM p A c l F) _ := fun g1 gv =>
   (zmc W (.own (some ⟨gv, 0, none⟩) 1 1 121 3 d.enc :: .blk g1 121 d.enc.toArray.toList :: .blk p 133 [.slice A l.length c] :: F) A l.length c (bsN (ordD · d) l) (l.flatMap Due.enc) gv d.enc mem0 (by omega) (by omega) (by omega)).perm (selS (selS (selS sel0)))
  repeat' (first | apply zae | apply zaa | apply zaj | apply zah | apply zad | apply zab hT; iterate 4 exact rfl | apply zaM [] [] hmix; decide +kernel | apply zac (hs := (hfind _)); iterate 7 exact rfl | apply zac (hs := (hbs _)); iterate 7 exact rfl | apply zao hT; (iterate 12 exact rfl); intro gv | apply zaz (hs := (hins _ _)); (iterate 7 exact rfl); rintro _ _ ⟨A', c', rfl, rfl⟩ | apply zaF hT; (iterate 6 exact rfl); exact (selS (selS (selS sel0))); (iterate 3 exact rfl); exact nle rfl | (apply zal; (iterate 5 exact rfl); first | (apply zaC hT; exact rfl; exact rfl; (repeat (first | exact mcs | apply mcm )); exact rfl; exact rfl) | (apply zaQ hT; exact rfl; exact rfl; (repeat (first | exact mcs )); exact rfl)) | apply zaK; (iterate 5 exact rfl); intro _ | (apply zam; exact rfl; all_goals (intro hb; (try dsimp only at hb); (try simp only [hb]); (first | replace hb := odt hb | replace hb := odf hb ); (try omega))))
  apply ret1; exact rfl
  refine ⟨zbM p A' c' (addD l d) F, ?_, by simp [hi], A', c', rfl⟩
  have e : addD l d = insD l d := by simp [addD, hi]
  have hc : (l.flatMap Due.enc).take ((bsN (ordD · d) l) * 3) ++ d.enc ++ (l.flatMap Due.enc).drop ((bsN (ordD · d) l) * 3) = (insD l d).flatMap Due.enc := by
   rw [zci Due.enc_len, zc6 Due.enc_len]; simp [insD]
  rw [e, zbM, zkc, ← hc]
  apply zay; (repeat (first | exact sel0))
  apply zay; (repeat (first | exact sel0))
  (repeat (first | exact zar | apply zat))
 ·have hd : decide (za4 (hasD d.kind d.id) l ≥ 0) = true := by simp; omega
  repeat' (first | apply zae | apply zaa | apply zaj | apply zad | apply zab hT; iterate 4 exact rfl | apply zac (hs := (hfind _)); iterate 7 exact rfl | (apply zal; (iterate 5 exact rfl); first | (apply zaC hT; exact rfl; exact rfl; (repeat (first | exact mcs )); exact rfl; exact rfl) ) | apply zaK; (iterate 5 exact rfl); intro _ | (apply zam; exact rfl; all_goals (intro hb; (try dsimp only at hb); (try simp only [hb]); (first | replace hb := odt hb | replace hb := odf hb ); (try omega))))
  apply ret1; exact rfl
  have e : addD l d = l := by simp [addD, hi]
  exact ⟨zbM p A c l F, zat zar, by simp [hi], A, c, by rw [e]⟩
def zbn (l : List Due) (kind id : Int) : List Due := if za4 (hasD kind id) l < 0 then l else l.eraseIdx (za4 (hasD kind id) l).toNat
theorem zfc (W : World) (F : List zax) (p : Nat) (A : Option Addr) (c : Nat) (l : List Due) (kind id : Int) (hb : l.length ≤ 1000000) :
 zaB Tryz.prog W 49 [.pointer (some ⟨p, 0, none⟩), .int .i64 kind, .int .i64 id] (zbM p A c l F) (fun v h' => v = .bool (decide (¬ za4 (hasD kind id) l < 0)) ∧ ∃ A' c', h' = zbM p A' c' (zbn l kind id) F) := by
 refine zaB.dropTo ?_
 refine zan Tryz.func49 rfl rfl Tryz.results49 Tryz.ntmps49 rfl rfl ?_
 have hfind : zaL Tryz.prog W 77 [.pointer (some ⟨p, 0, none⟩), .int .i64 kind, .int .i64 id] (zbM p A c l F) (.int .i64 (za4 (hasD kind id) l)) :=
  (zkb W p A c l kind id hb).mono (by intro c hc; simp only [zbM, List.mem_cons, List.not_mem_nil, or_false] at hc ⊢; rcases hc with rfl | rfl <;> simp)
 have hlt := zhS (p := hasD kind id) (l := l)
 by_cases hi : za4 (hasD kind id) l < 0
 ·have hd : decide (za4 (hasD kind id) l < 0) = true := by simp; omega
  repeat' (first | apply zae | apply zaa | apply zaj | apply zah | apply zad | apply zab hT; iterate 4 exact rfl | apply zac (hs := hfind); iterate 7 exact rfl | apply zag; iterate 2 exact rfl | (apply zam; exact rfl; all_goals (intro hb; (try dsimp only at hb); (try simp only [hb]); (first | replace hb := odt hb | replace hb := odf hb ); (try omega))))
  apply ret1; exact rfl
  have e : zbn l kind id = l := by simp [zbn, hi]
  exact ⟨zbM p A c l F, zar, by simp [hi], A, c, by rw [e]⟩
 ·have hd : decide (za4 (hasD kind id) l < 0) = false := by simp; omega
  have hdel := (ziJ W (.blk p 133 [.slice A l.length c] :: F) A l.length c (za4 (hasD kind id) l) (za4 (hasD kind id) l + 1) (l.flatMap Due.enc) (by omega) (by omega) (by omega)).perm (h' := zbM p A c l F) (selS sel0)
  repeat' (first | apply zae | apply zaa | apply zaj | apply zah | apply zad | apply zab hT; iterate 4 exact rfl | (apply zaN hT; (iterate 4 exact rfl); (iterate 2 (first | omega ))) | apply zac (hs := hfind); iterate 7 exact rfl | apply zaz (hs := hdel); (iterate 7 exact rfl); rintro _ _ ⟨rfl, rfl⟩ | apply zaF hT; (iterate 6 exact rfl); exact (selS sel0); (iterate 3 exact rfl); exact nle rfl | (apply zal; (iterate 5 exact rfl); first | (apply zaC hT; exact rfl; exact rfl; (repeat (first | exact mcs )); exact rfl; exact rfl) ) | apply zag; iterate 2 exact rfl | (apply zam; exact rfl; all_goals (intro hb; (try dsimp only at hb); (try simp only [hb]); (first | replace hb := odt hb | replace hb := odf hb ); (try omega))))
  apply ret1; exact rfl
  refine ⟨zbM p A c (zbn l kind id) F, ?_, by simp [hi], A, c, rfl⟩
  obtain ⟨k, hk⟩ : ∃ k : Nat, za4 (hasD kind id) l = k := ⟨(za4 (hasD kind id) l).toNat, by omega⟩
  have e : zbn l kind id = l.take k ++ l.drop (k + 1) := by rw [zbn, if_neg hi, hk]; simp [List.eraseIdx_eq_take_drop_succ]
  have hc : (l.flatMap Due.enc).take (k * 3) ++ (l.flatMap Due.enc).drop ((k + 1) * 3) = (l.take k ++ l.drop (k + 1)).flatMap Due.enc := by
   rw [zci Due.enc_len, zc6 Due.enc_len]; simp
  have hlen : (l.take k ++ l.drop (k + 1)).length = l.length - (((k : Int) + 1).toNat - (k : Int).toNat) := by simp; omega
  rw [e, zbM, hlen, ← hc, hk]
  apply zay; (repeat (first | exact sel0))
  apply zay; (repeat (first | exact sel0))
  (repeat (first | exact zar))
def zb9 (l : List Due) (tick : Int) : Nat := (l.takeWhile fun d => decide (d.tick ≤ tick)).length
theorem zh6 {tick : Int} : ∀ {l : List Due} {i : Nat}, i ≤ l.length → (∀ (k : Nat) y, k < i → l[k]? = some y → y.tick ≤ tick) → (∀ y, l[i]? = some y → ¬ y.tick ≤ tick) → zb9 l tick = i
 | [], i, h, _, _ => by simp at h; subst h; rfl
 | x :: l, 0, _, _, h2 => by
   have := h2 x rfl
   simp [zb9, List.takeWhile_cons, this]
 | x :: l, i + 1, h, h1, h2 => by
   have h0 := h1 0 x (by omega) rfl
   have ih := zh6 (tick := tick) (l := l) (i := i) (by simpa using h) (fun k y hk hy => h1 (k + 1) y (by omega) (by simpa using hy)) (fun y hy => h2 y (by simpa using hy))
   unfold zb9 at *
   simp [List.takeWhile_cons, h0, ih]
theorem znJ (W : World) (F : List zax) (p : Nat) (A : Option Addr) (c : Nat) (l : List Due) (tick : Int) (hb : l.length ≤ 1000000) :
 zaB Tryz.prog W 50 [.pointer (some ⟨p, 0, none⟩), .int .i64 tick] (zbM p A c l F)
  (fun v h' => ∃ A1 c1 A2 c2, v = .slice A1 (zb9 l tick) c1 ∧ h' = .own A1 (zb9 l tick) c1 121 3 ((l.take (zb9 l tick)).flatMap Due.enc) :: zbM p A2 c2 (l.drop (zb9 l tick)) F) := by
 refine zaB.dropTo ?_
 refine zan Tryz.func50 rfl rfl Tryz.results50 Tryz.ntmps50 rfl rfl ?_
 refine zbm (h := zbM p A c l F) mem1 (fun hl hnc hcc hsome hnone hone => ?_)
 have hr : zaJ W (zbM p A c l F) A l.length 3 (l.flatMap Due.enc) := zaJ.own mem1 hl hone
 repeat' (first | apply zae | apply zaa | apply zah | apply zaf | apply zad | apply zab hT; iterate 4 exact rfl | apply zag; iterate 2 exact rfl)
 refine zbU (α := Nat) (E := fun k => [(0, .pointer (some ⟨p, 0, none⟩)), (1, .int .i64 tick), (5, .int .i64 k)]) (H := fun _ => zbM p A c l F) (μ := fun k => l.length - k)
  (S := fun k => k ≤ l.length ∧ ∀ (j : Nat) y, j < k → l[j]? = some y → y.tick ≤ tick) 0 (J := []) ⟨Nat.zero_le _, fun j y hj => by omega⟩ ⟨rfl, rfl, rfl, trivial⟩ (List.Perm.refl _) ?_
 rintro k ⟨hk1, hk2⟩
 have hclone : ∀ n : Nat, n ≤ l.length → zaB Tryz.prog W 79 [.slice A n c] (zbM p A c l F) _ := fun n hn => znI W (zbM p A c l F) A n c _ (hr.take hn) (by omega)
 have fin : zb9 l tick = k → ∀ A1 c1 A2, zbk (.blk p 133 [.slice A2 (l.length - k) c] :: .own A2 (l.length - k) c 121 3 ([] ++ (l.flatMap Due.enc).drop (k * 3)) :: .own A1 k c1 121 3 ((l.flatMap Due.enc).take (k * 3)) :: F)
  (.own A1 (zb9 l tick) c1 121 3 ((l.take (zb9 l tick)).flatMap Due.enc) :: zbM p A2 c (l.drop (zb9 l tick)) F) := fun hkk A1 c1 A2 => by
  rw [hkk, zbM, List.length_drop, List.nil_append, zci Due.enc_len, zc6 Due.enc_len]
  apply zay; (repeat (first | exact sel0 | apply selS))
  apply zay; (repeat (first | exact sel0))
  apply zay; (repeat (first | exact sel0))
  exact zar
 have hdel : ∀ A1 c1, zaB Tryz.prog W 78 _ (.own A1 (k : Int).toNat c1 121 3 ((l.flatMap Due.enc).take ((k : Int).toNat * 3)) :: zbM p A c l F) _ := fun A1 c1 =>
  (ziJ W (.own A1 (k : Int).toNat c1 121 3 ((l.flatMap Due.enc).take ((k : Int).toNat * 3)) :: .blk p 133 [.slice A l.length c] :: F) A l.length c 0 k (l.flatMap Due.enc) (by omega) (by omega) (by omega)).perm (selS (selS sel0))
 by_cases hlt : k < l.length
 ·obtain ⟨x, hx⟩ : ∃ x, l[k]? = some x := ⟨l[k]'(by omega), List.getElem?_eq_getElem (by omega)⟩
  have hx2 : l[(k : Int).toNat]? = some x := by simpa using hx
  obtain ⟨g, hg⟩ := hsome (by omega)
  have hA : A.isSome = true := by rw [hg]; rfl
  have hd : decide ((k : Int) < (l.length : Int)) = true := by simp; omega
  by_cases hx0 : x.tick ≤ tick
  ·have hd2 : decide (x.tick ≤ tick) = true := by simpa using hx0
   repeat' (first | apply zae | apply zaa | apply zah | apply zaf | apply zad | apply zab hT; iterate 4 exact rfl | (apply zaN hT; (iterate 4 exact rfl); (iterate 2 (first | omega ))) | apply zaS hT; (iterate 8 exact rfl); (iterate 2 omega); exact hA | (apply zal; (iterate 5 exact rfl); exact zbb hT rfl rfl hr Due.enc_len (zaW _ _ _) hx2 (by decide) rfl) | (apply zal; (iterate 5 exact rfl); first | (apply zaC hT; exact rfl; exact rfl; (repeat (first | exact mcs )); exact rfl; exact rfl) ) | (apply zav; exact rfl; all_goals (intro hb; (fail_if_success (change true = true at hb)); (fail_if_success (change false = false at hb)); (try dsimp only at hb); (try simp only [hb]); (first | replace hb := odt hb | replace hb := odf hb ); (try omega))) | (apply zam; exact rfl; all_goals (intro hb; (try dsimp only at hb); (try simp only [hb]); (first | replace hb := odt hb | replace hb := odf hb ); (try omega))))
   exact ⟨k + 1, [], by dsimp only; omega, ⟨by omega, fun j y hj hy => by
    by_cases hjk : j = k
    ·subst hjk; rw [hx] at hy; cases hy; exact hx0
    ·exact hk2 j y (by omega) hy⟩, ⟨rfl, rfl, rfl, trivial⟩, List.Perm.refl _⟩
  ·have hd2 : decide (x.tick ≤ tick) = false := by simpa using hx0
   repeat' (first | apply zae | apply zaa | apply zaj | apply zas | apply zad | apply zab hT; iterate 4 exact rfl | apply zaS hT; (iterate 8 exact rfl); (iterate 2 omega); exact hA | (apply zal; (iterate 5 exact rfl); exact zbb hT rfl rfl hr Due.enc_len (zaW _ _ _) hx2 (by decide) rfl) | apply zbX hT; (iterate 8 exact rfl); (iterate 2 omega) | (apply zaz (hs := (hclone _ (by omega))); (iterate 7 exact rfl); rintro _ _ ⟨A1, c1, rfl, rfl⟩) | apply zaz (hs := (hdel _ _)); (iterate 7 exact rfl); rintro _ _ ⟨rfl, rfl⟩ | apply zaF hT; (iterate 6 exact rfl); exact (selS (selS sel0)); (iterate 3 exact rfl); exact nle rfl | (apply zal; (iterate 5 exact rfl); first | (apply zaC hT; exact rfl; exact rfl; (repeat (first | exact mcs | apply mcm )); exact rfl; exact rfl) ) | (apply zav; exact rfl; all_goals (intro hb; (fail_if_success (change true = true at hb)); (fail_if_success (change false = false at hb)); (try dsimp only at hb); (try simp only [hb]); (first | replace hb := odt hb | replace hb := odf hb ); (try omega))) | (apply zam; exact rfl; all_goals (intro hb; (try dsimp only at hb); (try simp only [hb]); (first | replace hb := odt hb | replace hb := odf hb ); (try omega))))
   have hkk : zb9 l tick = k := zh6 hk1 hk2 (fun y hy => by rw [hx] at hy; cases hy; exact hx0)
   have hval : Value.slice A1 ((k : Int).toNat) c1 = .slice A1 (zb9 l tick) c1 := by rw [hkk]; simp
   apply ret1; exact rfl
   refine ⟨_, fin hkk A1 c1 A, A1, c1, A, c, ?_, rfl⟩
   exact hval
 ·have hd : decide ((k : Int) < (l.length : Int)) = false := by simp; omega
  repeat' (first | apply zae | apply zaa | apply zaj | apply zas | apply zad | apply zab hT; iterate 4 exact rfl | apply zaq; iterate 3 exact rfl | apply zbX hT; (iterate 8 exact rfl); (iterate 2 omega) | (apply zaz (hs := (hclone _ (by omega))); (iterate 7 exact rfl); rintro _ _ ⟨A1, c1, rfl, rfl⟩) | apply zaz (hs := (hdel _ _)); (iterate 7 exact rfl); rintro _ _ ⟨rfl, rfl⟩ | apply zaF hT; (iterate 6 exact rfl); exact (selS (selS sel0)); (iterate 3 exact rfl); exact nle rfl | (apply zal; (iterate 5 exact rfl); first | (apply zaC hT; exact rfl; exact rfl; (repeat (first | exact mcs | apply mcm )); exact rfl; exact rfl) ) | apply zag; iterate 2 exact rfl | (apply zav; exact rfl; all_goals (intro hb; (fail_if_success (change true = true at hb)); (fail_if_success (change false = false at hb)); (try dsimp only at hb); (try simp only [hb]); (first | replace hb := odt hb | replace hb := odf hb ); (try omega))))
  have hkk : zb9 l tick = k := zh6 hk1 hk2 (fun y hy => by rw [List.getElem?_eq_none (by omega)] at hy; cases hy)
  have hval : Value.slice A1 ((k : Int).toNat) c1 = .slice A1 (zb9 l tick) c1 := by rw [hkk]; simp
  apply ret1; exact rfl
  refine ⟨_, fin hkk A1 c1 A, A1, c1, A, c, ?_, rfl⟩
  exact hval
theorem zmf (W : World) (F : List zax) (p : Nat) (A : Option Addr) (c : Nat) (l : List Due) (tick : Int) (hb : l.length ≤ 1000000) :
 zaB Tryz.prog W 50 [.pointer (some ⟨p, 0, none⟩), .int .i64 tick] (zbM p A c l F)
  (fun v h' => ∃ A1 c1 A2 c2, v = .slice A1 (zb9 l tick) c1 ∧ h' = .own A1 (zb9 l tick) c1 121 3 ((l.take (zb9 l tick)).flatMap Due.enc) :: zbM p A2 c2 (l.drop (zb9 l tick)) F ∧ OwnF A1 (zb9 l tick) c1 3 ((l.take (zb9 l tick)).flatMap Due.enc)) :=
 (znJ W F p A c l tick hb).conv (by
   rintro v h' ⟨A1, c1, A2, c2, rfl, rfl⟩ w hw
   exact ⟨_, hw, A1, c1, A2, c2, rfl, rfl, hw.ownF mem0⟩)
end Go.Proofs.YtakilgkpfjhfdaaGreat
namespace Go.Proofs.YtakilgkpfjhfdaaGreat
open Go Go.Sl
/-! ### a place -/
structure Rs where
 d : Dk
 id : Int
 outs : List OutR
 err : Int
def bad (d : Dk) (e : Int) : Rs := ⟨d, 0, [], e⟩
/-! ### trades -/
def zb1 (d : Dk) (s who other bond price qty ask : Int) : zbc :=
 if s = 2 then ⟨d.trades.length + 1, bond, other, who, price, qty, ask, d.now⟩ else ⟨d.trades.length + 1, bond, who, other, price, qty, ask, d.now⟩
def zdi (d : Dk) (t : zbc) : Dk :=
 { d with cash := (putP ⟨d.cash, d.pos⟩ t).cash, pos := (putP ⟨d.cash, d.pos⟩ t).pos, trades := d.trades ++ [t], head := (zc8 d.head.toNat (zcf t) : Nat) }
/-! ### orders -/
def zcz (d : Dk) (n : Int) : Bool := decide (0 ≤ n) && decide (n < d.books.length)
def zbz (d : Dk) (n : Int) : za3 := (at0 d.bonds n).getD ⟨1, 1, 1, 1, 1, 1, true⟩
def zbA (d : Dk) (n : Nat) : List zaA := d.books.getD n []
structure FSt where
 d : Dk
 outs : List OutR
 rest : Int
def zb5 (who : Int) (o : zaA) (n : Nat) (s : FSt) (f : zbW) : FSt :=
 let rest := s.rest - f.qty
 let t := zb1 s.d o.side who f.mparty n f.price f.qty 0
 ⟨zdi s.d t, s.outs ++ [outM f.mparty 20 [f.maker, f.price, f.qty, f.left], outM who 20 [o.id, f.price, f.qty, rest]] ++ zds t, rest⟩
def zbT (d : Dk) (who : Int) (n : Nat) (o : zaA) (how : Int) : Rs :=
 let v := doV how { o with seq := d.seq + 1 } (zbA d n)
 if v.err ≠ 0 then bad d v.err else
 let s := v.fills.foldl (zb5 who o n) ⟨{ d with seq := d.seq + 1, books := d.books.set n v.bk }, v.gones.map fun g => outM who 21 [g.id, g.left], o.left⟩
 ⟨s.d, 0, if how ≠ 0 ∧ how ≠ 3 ∧ v.left > 0 then s.outs ++ [outM who 21 [o.id, v.left]] else s.outs, 0⟩
def zcH (d : Dk) (who : Int) (m : MsgR) : Rs :=
 if zcz d m.f0 = false then bad d 4 else if isB m.f1 = false ∨ m.f4 < 0 ∨ m.f4 > 4 then bad d 1 else
 let e := zlK (zbz d m.f0) m.f4 m.f2 m.f3
 if e ≠ 0 then bad d e else
 let r := zbT d who m.f0.toNat ⟨d.order + 1, 0, who, m.f1, m.f2, m.f3⟩ m.f4
 if r.err = 0 then { r with d := { r.d with order := r.d.order + 1 }, id := r.d.order + 1 } else r
def zc2 (bs : List (List zaA)) (id : Int) : Int := za4 (fun l => (getO id l).isSome) bs
def zbE (d : Dk) (who kind id price qty : Int) : Rs :=
 let n := zc2 d.books id
 if n < 0 then bad d 4 else
 match getO id (zbA d n.toNat) with
 | none => bad d 4
 | some o =>
   if o.owner ≠ who then bad d 5
   else if kind = 8 then
    (if zc9 (zbz d n) price qty ≠ 0 then bad d (zc9 (zbz d n) price qty)
    else if price = o.price ∧ qty ≤ o.left then ⟨{ d with books := d.books.set n.toNat (zcd o.id qty (zbA d n.toNat)) }, id, [], zdu o.id qty (zbA d n.toNat)⟩
    else { zbT { d with books := d.books.set n.toNat (zbu o.id (zbA d n.toNat)) } who n.toNat { o with price := price, left := qty } 0 with id := id })
   else ⟨{ d with books := d.books.set n.toNat (zbu id (zbA d n.toNat)) }, id, [outM who 21 [id, o.left]], 0⟩
/-! ### requests -/
def zeM (n : Int) : Bool := inB n 1 1000
def askD (d : Dk) (who : Int) (m : MsgR) : Rs :=
 let dealers := m.f3 % 18446744073709551616
 if zcz d m.f0 = false then bad d 4 else if isB m.f1 = false then bad d 1 else if (zbz d m.f0).halted then bad d 6
 else if qtyE (zbz d m.f0) m.f2 ≠ 0 then bad d (qtyE (zbz d m.f0) m.f2) else if zgi d.parties who dealers ≠ 0 then bad d (zgi d.parties who dealers)
 else if zeM m.f4 = false then bad d 1 else
 let a : AskR := ⟨d.ask + 1, who, m.f0, m.f1, m.f2, dealers, d.now + m.f4, 0, 1, 0⟩
 if addE a d.asks ≠ 0 then bad d (addE a d.asks) else
 ⟨{ d with asks := addA a d.asks, ask := d.ask + 1, due := addD d.due ⟨a.ends, 1, a.id⟩ }, d.ask + 1,
   (List.range d.parties.length).filterMap fun (i : Nat) => if zhV dealers i then some (outM i 22 [a.id, m.f0, m.f1, m.f2, a.ends]) else none, 0⟩
def zdA (rf : Bool) (d : Dk) (who : Int) (m : MsgR) : Rs :=
 match getA m.f0 d.asks with
 | none => bad d 4
 | some a =>
   if zhV a.dealers who = false then bad d 5 else if a.state ≠ 1 then bad d 11 else if (zbz d a.bond).halted then bad d 6
   else if zd6 (zbz d a.bond) m.f1 ≠ 0 then bad d (zd6 (zbz d a.bond) m.f1) else if zeM m.f2 = false then bad d 1 else
   let q : zaG := ⟨d.quote + 1, a.id, who, m.f1, d.now + m.f2, true⟩
   if badQ q d.quotes then bad d 1 else
   ⟨{ d with quotes := putQ q d.quotes, quote := d.quote + 1, due := addD (if rf then zbn d.due 3 (oldQ q d.quotes) else d.due) ⟨q.expires, 3, q.id⟩ }, d.quote + 1,
     [outM a.client 23 [a.id, q.id, m.f1, q.expires]], 0⟩
def zep (d : Dk) (q : zaG) : Bool := match getA q.ask d.asks with
 | none => false
 | some a => a.state == 2 && a.hit == q.id
def zdl (rf : Bool) (d : Dk) (who id : Int) : Rs :=
 match getQ id d.quotes with
 | none => bad d 4
 | some q => if q.dealer ≠ who then bad d 5 else if zep d q then bad d 11 else
   if pullE id who d.quotes ≠ 0 then bad d (pullE id who d.quotes) else
   ⟨{ d with quotes := zex id who d.quotes, due := if rf then zbn d.due 3 id else d.due }, id, [], 0⟩
def zc3 (d : Dk) (who id : Int) : Int := match getA id d.asks with
 | none => 4
 | some a => if a.client ≠ who then 5 else if a.state ≠ 1 then 11 else 0
def zcA (d : Dk) (a : AskR) (q : zaG) : Int := if (zbz d a.bond).halted then 6 else zeC a.side q.price a.qty (zbA d a.bond.toNat)
def hitQ (d : Dk) (a : AskR) (q : zaG) : Rs :=
 if q.live = false ∨ q.expires ≤ d.now then bad d 12 else if zcA d a q ≠ 0 then bad d (zcA d a q)
 else if zc0 d.parties d.used q.dealer q.price a.qty ≠ 0 then bad d (zc0 d.parties d.used q.dealer q.price a.qty)
 else if zfb a.id q.id (d.now + d.look) d.asks ≠ 0 then bad d (zfb a.id q.id (d.now + d.look) d.asks) else
 ⟨{ d with asks := zdX a.id q.id (d.now + d.look) d.asks, due := addD d.due ⟨d.now + d.look, 2, a.id⟩ }, a.id, [outM q.dealer 24 [a.id, q.id, d.now + d.look]], 0⟩
def hitD (d : Dk) (who id : Int) : Rs :=
 match getQ id d.quotes with
 | none => bad d 4
 | some q => if zc3 d who q.ask ≠ 0 then bad d (zc3 d who q.ask) else match getA q.ask d.asks with
   | none => bad d 4
   | some a => hitQ d a q
def zha (d : Dk) (who id : Int) : Rs :=
 if zc3 d who id ≠ 0 then bad d (zc3 d who id) else match getA id d.asks with
 | none => bad d 4
 | some a => match zh0 a.side (d.quotes.filter (zcy a.id d.now)) with
   | none => bad d 12
   | some q => hitQ d a q
def zd9 (d : Dk) (id : Int) : Dk :=
 { d with quotes := d.quotes.filter fun q => !zdw id q, due := zbn (zbn ((d.quotes.filter (zdw id)).foldl (fun l q => zbn l 3 q.id) d.due) 1 id) 2 id }
def zfC (d : Dk) (a : AskR) : Dk := zd9 { d with asks := endA a.id 4 d.asks } a.id
def zh7 (a : AskR) : List OutR := [outM a.client 27 [a.id]]
def zbe (rf : Bool) (d : Dk) (a : AskR) : Dk × List OutR :=
 let d1 := { d with quotes := zcm a.hit d.quotes, due := if rf then zbn (zbn d.due 3 a.hit) 2 a.id else d.due }
 if d.now ≥ a.ends then (zfC d1 a, zh7 a) else ({ d1 with asks := zey a.id d.asks }, [outM a.client 25 [a.id, a.hit]])
def qOf (d : Dk) (id : Int) : zaG := (getQ id d.quotes).getD ⟨0, 0, 0, 0, 0, false⟩
def zdB (rf : Bool) (d : Dk) (who kind id : Int) : Rs :=
 match getA id d.asks with
 | none => bad d 4
 | some a => if a.state ≠ 2 then bad d 11 else
   let q := qOf d a.hit
   if q.dealer ≠ who then bad d 5 else if kind = 15 then
    (let r := zbe rf { d with due := zbn d.due 2 a.id } a
    ⟨r.1, a.id, r.2, 0⟩)
   else if zcA d a q ≠ 0 then bad d (zcA d a q)
   else if zc0 d.parties d.used q.dealer q.price a.qty ≠ 0 then bad d (zc0 d.parties d.used q.dealer q.price a.qty) else
   let d1 := zd9 { d with used := d.used.set q.dealer.toNat (zdU d.used q.dealer + q.price * a.qty), asks := endA a.id 3 d.asks } a.id
   let t := zb1 d1 a.side a.client q.dealer a.bond q.price a.qty a.id
   ⟨zdi d1 t, a.id, outM a.client 26 [a.id, q.price] :: zds t, 0⟩
def zb2 (d : Dk) (who id : Int) : Rs :=
 if zc3 d who id ≠ 0 then bad d (zc3 d who id) else match getA id d.asks with
 | none => bad d 4
 | some a => ⟨zfC d a, id, zh7 a, 0⟩
def zeN (d : Dk) (n is : Int) : Rs :=
 if zcz d n = false then bad d 4 else if is ≠ 0 ∧ is ≠ 1 then bad d 1 else ⟨{ d with bonds := d.bonds.set n.toNat { zbz d n with halted := is == 1 } }, n, [], 0⟩
/-! ### what is asked, ticks, who is gone -/
def zdR (rf : Bool) (d : Dk) (who : Int) (m : MsgR) : Rs :=
 if zhq m.kind = false ∨ zlJ m = false ∨ mayV d.parties who m.kind = false then bad d 5
 else if m.kind = 6 then zcH d who m else if m.kind = 7 ∨ m.kind = 8 then zbE d who m.kind m.f0 m.f1 m.f2
 else if m.kind = 10 then zdA rf d who m else if m.kind = 11 then zdl rf d who m.f0 else if m.kind = 12 then hitD d who m.f0 else if m.kind = 13 then zha d who m.f0
 else if m.kind = 14 ∨ m.kind = 15 then zdB rf d who m.kind m.f0 else if m.kind = 16 then zb2 d who m.f0 else if m.kind = 9 then askD d who m else zeN d m.f0 m.f1
def doD (rf : Bool) (d : Dk) (who seq : Int) (m : MsgR) : Dk × List OutR :=
 let r := zdR rf d who m
 (r.d, if r.err ≠ 0 then [outM who 19 [seq, r.err]] else outM who 18 [seq, r.id] :: r.outs)
def dueD (rf : Bool) (s : Dk × List OutR) (x : Due) : Dk × List OutR :=
 if x.kind = 3 then ({ s.1 with quotes := zcm x.id s.1.quotes }, s.2)
 else match getA x.id s.1.asks with
 | none => s
 | some a => if x.kind = 2 ∧ a.state = 2 then (let r := zbe rf s.1 a; (r.1, s.2 ++ r.2)) else if x.kind = 1 ∧ a.state = 1 then (zfC s.1 a, s.2 ++ zh7 a) else s
def zcB (rf : Bool) (d : Dk) : Dk × List OutR :=
 (d.due.take (zb9 d.due (d.now + 1))).foldl (dueD rf) ({ d with now := d.now + 1, due := d.due.drop (zb9 d.due (d.now + 1)) }, [])
def zdY (who s : Int) (l : List zaA) : List zaA := (zbf s l).filter fun o => o.owner == who
def zgt (who : Int) (l : List zaA) : List zaA := (zdY who 2 l).foldl (fun l o => zbu o.id l) ((zdY who 1 l).foldl (fun l o => zbu o.id l) l)
def zdc (rf : Bool) (d : Dk) (q : zaG) : Dk := if zep d q then d else { d with quotes := zcm q.id d.quotes, due := zbn d.due 3 q.id }
def zdC (rf : Bool) (d : Dk) (who : Int) : Dk × List OutR :=
 ((d.quotes.filter (isOf who)).foldl (zdc rf) { d with books := d.books.map (zgt who) },
   d.books.flatMap fun l => (zdY who 1 l ++ zdY who 2 l).map fun o => outM who 21 [o.id, o.left])
theorem zox {α : Type} {p : α → Bool} : ∀ {l : List α}, (za4 (fun x => !p x) l < 0 → l.takeWhile p = l) ∧ (∀ i : Nat, za4 (fun x => !p x) l = i → l.takeWhile p = l.take i ∧ i ≤ l.length)
 | [] => ⟨fun _ => rfl, fun i h => by simp [za4] at h⟩
 | x :: l => by
   obtain ⟨h1, h2⟩ := zox (p := p) (l := l)
   cases hp : p x
   ·refine ⟨fun h => ?_, fun i h => ?_⟩
    ·simp [za4, hp] at h
    ·simp [za4, hp] at h
     obtain rfl : i = 0 := by omega
     simp [List.takeWhile_cons, hp]
   ·refine ⟨fun h => ?_, fun i h => ?_⟩
    ·have : za4 (fun x => !p x) l < 0 := by
      simp only [za4, hp, Bool.not_true, Bool.false_eq_true, if_false] at h
      split at h
      ·assumption
      ·omega
     rw [List.takeWhile_cons, hp, if_pos rfl, h1 this]
    ·simp only [za4, hp, Bool.not_true, Bool.false_eq_true, if_false] at h
     split at h
     ·omega
     ·obtain ⟨j, rfl⟩ : ∃ j, i = j + 1 := ⟨i - 1, by omega⟩
      obtain ⟨k1, k2⟩ := h2 j (by omega)
      rw [List.takeWhile_cons, hp, if_pos rfl, k1]
      exact ⟨rfl, by simp; omega⟩
theorem zkR {W w : World} {h : List zax} {A : Option Addr} {n c k m : Nat} {e : TypeId} {cs : List Value} (hw : Rep W (.own A n c e k cs :: h) w) (hm : m ≤ n) : Rep W (.own A m c e k (cs.take (m * k)) :: h) w := by
 have ho := hw.ownF mem0
 rcases Nat.eq_zero_or_pos n with h0 | h0
 ·subst h0
  obtain rfl : m = 0 := by omega
  have : cs = [] := List.eq_nil_of_length_eq_zero (by rw [ho.len]; simp)
  subst this; simpa using hw
 ·obtain ⟨g, rfl⟩ := ho.at_ h0
  obtain ⟨cur, h1, h2, h3, h4, h5, h6, h7⟩ := hw.open_
  have hmk : m * k ≤ n * k := Nat.mul_le_mul_right k hm
  refine h7.shut_ h1 ?_ ?_ (by omega) h4 (fun v hv => h6 v (List.mem_of_mem_take hv))
  ·rw [← h2, List.take_take, Nat.min_eq_left hmk]
  ·rw [List.length_take, h5, Nat.min_eq_left hmk]
end Go.Proofs.YtakilgkpfjhfdaaGreat
