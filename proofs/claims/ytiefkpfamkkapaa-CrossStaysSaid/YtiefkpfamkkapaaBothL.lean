/- The book that comes of a row of orders. No program in sight. -/
import Derived.Test.YtiefkpfamkkapaaBookP
namespace Go.Proofs.Ytiefkpfamkkapaa
open Go Go.Sl
def bookOf (ls : List Order) : List Order := ls.foldl (fun l o => addO o l) []
theorem bookOf_add (ls : List Order) (x : Order) : bookOf (ls ++ (some x).toList) = addO x (bookOf ls) := by
  simp [bookOf, List.foldl_append]
theorem bookOf_B (ls : List Order) : BookB (bookOf ls) := by
  have : ∀ (ls l : List Order), BookB l → BookB (ls.foldl (fun l o => addO o l) l) := by
    intro ls
    induction ls with
    | nil => intro l h; exact h
    | cons x ls ih => intro l h; rw [List.foldl_cons]; exact ih _ (h.add x)
  exact this ls [] BookB.nil
end Go.Proofs.Ytiefkpfamkkapaa
