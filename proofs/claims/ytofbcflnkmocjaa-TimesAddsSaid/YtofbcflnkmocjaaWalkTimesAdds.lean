/- The statement TimesAdds, walked: any point of time, so many nanoseconds later, is the reference's one, or refused alike. -/
import Derived.Test.YtofbcflnkmocjaaRefAdd
namespace Go.Proofs.Ytofbcflnkmocjaa.Hand
open Go.RowKit

set_option maxRecDepth 100000 in
set_option maxHeartbeats 2000000 in
theorem TimesAdds_walk (s n x : Int) (w : World) (hs : 0 ≤ s) (hs' : s < 4294967296) (hn : 0 ≤ n) (hn' : n < 4294967296) (hx : 0 ≤ x) (hx' : x < 18446744073709551616) :
    Calls Try.prog 4 #[.agg #[.int .u32 s, .int .u32 n], .int .u64 x] w fun e w' => e = .returned (.bool true) ∧ Below w.heap.size w w' := by
  have b2 := Blk.new w 24 #[.int .u32 s, .int .u32 n]
  have kb : Below w.heap.size w (w.alloc (.cells #[.int .u32 s, .int .u32 n] 24)) := (Below.refl _ _).alloc (Nat.le_refl _) _
  go_enter Try.func4, Try.ntmps4
  go_wp2_with fail
  refine (add_ s n x _ hs hs' hn hn' hx hx').mono ?_
  rintro e w1 ⟨rfl, hb⟩
  have b2 := b2.below hb
  have hB := below_then kb hb
  clear hb kb
  have k0 := b2.cell 0 (v := .int .u32 s) rfl
  have k1 := b2.cell 1 (v := .int .u32 n) rfl
  have b2 := b2.alloc (.cells #[.int .u32 (addS s n x), .int .u32 (addN s n x)] 24)
  have k2 := b2.cell 0 (v := .int .u32 s) rfl
  have k3 := b2.cell 1 (v := .int .u32 n) rfl
  unfold addV
  go_wp2_with fail
  have b5 := Blk.new w1 24 #[.int .u32 (addS s n x), .int .u32 (addN s n x)]
  have hB := hB.alloc hB.size (.cells #[.int .u32 (addS s n x), .int .u32 (addN s n x)] 24)
  refine (radd s n x _ hs hs' hn hn' hx hx').mono ?_
  rintro e w2 ⟨rfl, hb⟩
  have b5 := b5.below hb
  have hB := below_then hB hb
  clear hb
  have k0 := b5.cell 0 (v := .int .u32 (addS s n x)) rfl
  have k1 := b5.cell 1 (v := .int .u32 (addN s n x)) rfl
  have hne := b5.lt
  unfold addV
  have hB := hB.alloc hB.size (.cells #[.int .u32 (addS s n x), .int .u32 (addN s n x)] 24)
  have k2 := (b5.alloc (.cells #[.int .u32 (addS s n x), .int .u32 (addN s n x)] 24)).cell 0 (v := .int .u32 (addS s n x)) rfl
  have k3 := (b5.alloc (.cells #[.int .u32 (addS s n x), .int .u32 (addN s n x)] 24)).cell 1 (v := .int .u32 (addN s n x)) rfl
  go_wp2
  go_ret
  exact ⟨rfl, hB⟩
end Go.Proofs.Ytofbcflnkmocjaa.Hand
