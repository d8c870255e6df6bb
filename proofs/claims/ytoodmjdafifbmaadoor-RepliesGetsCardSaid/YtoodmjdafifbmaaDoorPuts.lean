/- What words.Put, PutLong and PutYes hand back: a slice of the call's own that owns the bytes of the number, the highest first. -/
import Derived.Test.YtoodmjdafifbmaaDoorPut
namespace Go.Proofs.YtoodmjdafifbmaaDoor.Hand
open Go.RowKit

theorem put_calls (a : Int) (ha0 : 0 ≤ a) (ha : a < 18446744073709551616) (m : Nat) (hm : m ≤ 8) (w : World) :
    Calls Tryd.prog 79 #[.int .u64 a, .int .i64 m] w fun e w' => ∃ v, e = .returned v ∧ Own w' w.heap.size v (be a m) ∧ Below w.heap.size w w' := by
  refine (callsIn_wide (n := 3)).1 ((put_in Fence.wide 3 trivial trivial trivial rfl (Nat.le_refl _) a ha0 ha m hm w).mono ?_)
  rintro e w' ⟨v, he, ho, hb⟩
  exact ⟨v, he, ⟨be_bs _ _, by rw [be_length]; exact ho⟩, hb⟩

theorem Put (a : Int) (ha0 : 0 ≤ a) (ha : a < 4294967296) (w : World) :
    Calls Tryd.prog 60 #[.int .u32 a] w fun e w' => ∃ v, e = .returned v ∧ Own w' w.heap.size v (be a 4) ∧ Below w.heap.size w w' := by
  have hlt : a < 18446744073709551616 := by omega
  have H := put_calls a ha0 hlt 4 (by omega) w
  go_enter Tryd.func60, Tryd.ntmps60
  go_wp2_with fail
  refine H.mono ?_
  rintro e w' ⟨v, rfl, ho, hb⟩
  go_wp2
  go_ret
  exact ⟨v, rfl, ho, hb⟩


/-- Yes as 1, no as 0. -/
def yesN (b : Bool) : Int := if b then 1 else 0
end Go.Proofs.YtoodmjdafifbmaaDoor.Hand
