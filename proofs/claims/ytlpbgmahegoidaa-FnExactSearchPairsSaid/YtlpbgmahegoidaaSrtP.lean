/- The sorted list. No condition. -/
import Derived.Test.YtlpbgmahegoidaaPlA
namespace Go.Proofs.Ytlpbgmahegoidaa
namespace V
/-- What stands for the sorted list. -/
def sortP (l : List Int) : List Int := l.mergeSort (fun a b => decide (a ≤ b))
theorem sortP_perm (l : List Int) : (sortP l).Perm l := List.mergeSort_perm l _
theorem sortP_pw (l : List Int) : (sortP l).Pairwise (· ≤ ·) := by
  have h := List.pairwise_mergeSort (le := fun a b : Int => decide (a ≤ b)) (fun a b c h1 h2 => by simp at *; omega) (fun a b => by simp; omega) l
  exact h.imp fun h => by simpa using h
theorem sortP_of {l v : List Int} (h1 : v.Perm l) (h2 : v.Pairwise (· ≤ ·)) : v = sortP l :=
  List.Perm.eq_of_pairwise (fun a b _ _ h3 h4 => by omega) h2 (sortP_pw l) (h1.trans (sortP_perm l).symm)
theorem sortP_len (l : List Int) : (sortP l).length = l.length := (sortP_perm l).length_eq
end V
end Go.Proofs.Ytlpbgmahegoidaa
