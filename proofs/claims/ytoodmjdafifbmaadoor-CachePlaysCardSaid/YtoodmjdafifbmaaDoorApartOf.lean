/- Blocks of lists that were made one after the other are not alike. -/
import Derived.Test.YtoodmjdafifbmaaDoorBookApart
namespace Go.Proofs.YtoodmjdafifbmaaDoor.Hand
open Go.RowKit

/-- The block of v, if there is one, lies in between. -/
def Within (v : Value) (lo hi : Nat) : Prop := ∀ g, v.ownBlock = some g → lo ≤ g ∧ g < hi
theorem Own.within {w : World} {B : Nat} {v : Value} {l : List Int} (h : Own w B v l) : Within v B w.heap.size := fun g hg => h.2.lt g hg

theorem distinct_of (its : List Value) (bp : Nat → Nat) (hm : ∀ i, bp i ≤ bp (i + 1)) (hw : ∀ j, j < its.length → Within (its.getD j (.slice none 0 0)) (bp j) (bp (j + 1))) :
    ∀ i j, i < its.length → j < its.length → i ≠ j → ∀ g, (its.getD i (.slice none 0 0)).ownBlock = some g → (its.getD j (.slice none 0 0)).ownBlock ≠ some g := by
  have mono : ∀ d i, bp i ≤ bp (i + d) := by
    intro d
    induction d with
    | zero => intro i; exact Nat.le_refl _
    | succ d ih => intro i; exact Nat.le_trans (ih i) (hm (i + d))
  intro i j hi hj hij g h1 h2
  have a1 := hw i hi g h1
  have a2 := hw j hj g h2
  rcases Nat.lt_or_ge i j with h | h
  · have := mono (j - (i + 1)) (i + 1)
    rw [show i + 1 + (j - (i + 1)) = j from by omega] at this
    omega
  · have := mono (i - (j + 1)) (j + 1)
    rw [show j + 1 + (i - (j + 1)) = i from by omega] at this
    omega

/-- A new Book. -/
theorem book_new (w : World) : BookAt (w.alloc (.cells #[.int .i64 0, .slice none 0 0, .slice none 0 0, .slice none 0 0, .slice none 0 0, .slice none 0 0, .slice none 0 0, .slice none 0 0] 41)) w.heap.size ([] : List Value).length (.slice none 0 0) := Blk.new _ _ _
end Go.Proofs.YtoodmjdafifbmaaDoor.Hand
