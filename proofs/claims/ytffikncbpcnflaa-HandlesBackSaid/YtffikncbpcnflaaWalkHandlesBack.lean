/- The statement HandlesBack, walked: a handle that was put is got; of fewer bytes none is, nor of more. -/
import Derived.Test.YtffikncbpcnflaaAlive08
namespace Go.Proofs.Ytffikncbpcnflaa.Hand
open Go.RowKit
set_option linter.unusedVariables false

set_option maxRecDepth 100000 in
set_option maxHeartbeats 4000000 in
theorem HandlesBack_walk (n g u : Int) (w : World) (hn : 0 ≤ n) (hn' : n < 65536) (hg : 0 ≤ g) (hg' : g < 4294967296) (hu : 0 ≤ u) (hu' : u < 256) :
    Calls Try.prog 4 #[.int .u16 n, .int .u32 g, .int .u8 u] w fun e w' => e = .returned (.bool true) ∧ Below w.heap.size w w' := by
  go_enter Try.func4, Try.ntmps4
  go_wp2_with fail
  refine (of_ n g w hn hn' hg hg').mono ?_
  have hN1 : 1 ≤ 1 + n % 1024 := by omega
  have hN2 : 1 + n % 1024 ≤ 1024 := by omega
  generalize 1 + n % 1024 = N at *
  rintro e w1 ⟨v, rfl, ho, hB⟩
  have Bh := Blk.new w1 27 #[.int .i64 N, .int .u32 g]
  have hBo := hB.size
  obtain ⟨A, d, rfl, hd, hd2, hr⟩ := ho.form
  rw [hb_length] at hd ho
  rw [hb_length]
  have ho := ho.alloc (.cells #[.int .i64 N, .int .u32 g] 27)
  have hr := hr.alloc (.cells #[.int .i64 N, .int .u32 g] 27)
  have hB := hB.alloc hB.size (.cells #[.int .i64 N, .int .u32 g] 27)
  have hm0 : 0 ≤ u % 16 := by omega
  have hm1 : u % 16 < 16 := by omega
  obtain ⟨k, hk⟩ := Int.eq_ofNat_of_zero_le hm0
  have hk16 : k < 16 := by omega
  have hlen : ((hb N g).take k).length = k := by rw [List.length_take, hb_length]; omega
  have c1 := hget_n (c := d) (hr.take k) hlen (by omega) (not_hOK (by omega))
  go_wp2_with fail
  refine c1.mono ?_
  rintro e w2 ⟨rfl, hx⟩
  have Bh := (Bh.below hx).alloc (.cells #[.int .i64 0, .int .u32 0] 27)
  have ho := (ho.below hx).alloc (.cells #[.int .i64 0, .int .u32 0] 27)
  have hr := (hr.below hx).alloc (.cells #[.int .i64 0, .int .u32 0] 27)
  have hB := below_then hB hx
  have hB := hB.alloc hB.size (.cells #[.int .i64 0, .int .u32 0] 27)
  clear hx c1
  go_wp2_with fail
  refine (hget_v (k := 16) hr (hb_length _ _) hd (hOK_hb hN1 hN2 hg hg') (hvOK_hb hN1 hN2 hg hg')).mono ?_
  rintro e w3 ⟨rfl, hx⟩
  have Bh := (Bh.below hx).alloc (.cells #[.int .i64 N, .int .u32 g] 27)
  have Bx := Blk.new w3 27 #[.int .i64 N, .int .u32 g]
  have ho := (ho.below hx).alloc (.cells #[.int .i64 N, .int .u32 g] 27)
  have hB := below_then hB hx
  have hB := hB.alloc hB.size (.cells #[.int .i64 N, .int .u32 g] 27)
  clear hx hr
  have hlit := Rd.lit (w3.alloc (.cells #[.int .i64 N, .int .u32 g] 27)) [u] (by intro x hx; simp at hx; omega)
  simp only [List.map_cons, List.map_nil, World.size_alloc] at hlit
  have Bh := Bh.alloc (.cells #[.int .u8 u] 5)
  have Bx := Bx.alloc (.cells #[.int .u8 u] 5)
  have ho := ho.alloc (.cells #[.int .u8 u] 5)
  have hB := hB.alloc hB.size (.cells #[.int .u8 u] 5)
  go_wp2_with (at_builtin; refine wpList_app rfl _ _ rfl rfl _ w.heap.size (.slice A 16 d) (hb N g) rfl ho (some ⟨w3.heap.size + 1, 0, none⟩) 1 [u] rfl hlit ?h1 hB.size ?h2)
  case h1 => simp [hb_length]
  case h2 =>
    intro v' w4 ho4 hg4 _
    have Bh := Bh.grown hg4 (ho.blk_ne Bh (by decide))
    have Bx := Bx.grown hg4 (ho.blk_ne Bx (by decide))
    have hB4 := ho.grown hB hB.size hg4
    obtain ⟨C, f, rfl, hf, _, hr4⟩ := ho4.form
    have hl4 : (hb N g ++ [u]).length = 17 := by rw [List.length_append, hb_length]; rfl
    rw [hl4] at hf
    rw [hl4]
    clear ho ho4 hg4 hlit hB
    go_wp2_with fail
    refine (hget_n (c := f) (k := 17) hr4 hl4 hf (not_hOK (by omega))).mono ?_
    rintro e w5 ⟨rfl, hx⟩
    have Bh := (Bh.below hx).alloc (.cells #[.int .i64 0, .int .u32 0] 27)
    have Bx := (Bx.below hx).alloc (.cells #[.int .i64 0, .int .u32 0] 27)
    have hB := below_then hB4 hx
    have hB := hB.alloc hB.size (.cells #[.int .i64 0, .int .u32 0] 27)
    clear hx hr4
    go_wp2_with fail
    refine (alive08 _).mono ?_
    rintro e w6 ⟨rfl, hx⟩
    have Bh := Bh.below hx
    have Bx := Bx.below hx
    have hB := below_then hB hx
    clear hx
    have k0 := Bh.cell 0 (v := .int .i64 N) rfl
    have k1 := Bh.cell 1 (v := .int .u32 g) rfl
    have k2 := Bx.cell 0 (v := .int .i64 N) rfl
    have k3 := Bx.cell 1 (v := .int .u32 g) rfl
    go_wp2
    go_ret
    exact ⟨rfl, hB⟩
end Go.Proofs.Ytffikncbpcnflaa.Hand
