/- The statement HandlesSum, walked: the sum of a handle changes by what its numbers do, together, as by each, against one another. -/
import Derived.Test.YtffikncbpcnflaaAlive08
import Derived.Test.YtffikncbpcnflaaCrcLaw
namespace Go.Proofs.Ytffikncbpcnflaa.Hand
open Go.RowKit
set_option linter.unusedVariables false

theorem hb_drop12 (a g : Int) : (hb a g).drop 12 = be (crc (h12 a g)) 4 := by
  unfold Hand.hb
  rw [List.drop_append_of_le_length (by rw [h12_length]; omega), List.drop_eq_nil_of_le (by rw [h12_length]; omega), List.nil_append]
/-- A handle's sum, as a natural number. -/
def cr (a g : Int) : Nat := 4294967295 - crcS 4294967295 (h12 a g)
theorem cr_lt (a g : Int) : cr a g < 4294967296 := by unfold cr; omega
theorem cr_xor (a g : Int) : cr a g = 4294967295 ^^^ crcS 4294967295 (h12 a g) := (xor_all (crcS_lt (h12_bs a g) (by decide))).symm
theorem cr_four (n m g h : Int) : (cr n g ^^^ cr m g) ^^^ (cr n h ^^^ cr m h) = 0 := by
  have hS : ∀ a b g, cr a g ^^^ cr b g = crcT 0 (List.zipWith (· ^^^ ·) ((h12 a g).map Int.toNat) ((h12 b g).map Int.toNat)) := fun a b g => by
    rw [cr_xor, cr_xor, xor_four, Nat.xor_self, Nat.zero_xor, crcS_T, crcS_T, ← crcT_xor _ _ _ _ (by rw [List.length_map, List.length_map, h12_length, h12_length]), Nat.xor_self]
  have hz : List.zipWith (· ^^^ ·) ((h12 n g).map Int.toNat) ((h12 m g).map Int.toNat) = List.zipWith (· ^^^ ·) ((h12 n h).map Int.toNat) ((h12 m h).map Int.toNat) := by
    unfold h12
    simp only [be4, List.map_cons, List.map_nil, List.cons_append, List.nil_append, List.zipWith_cons_cons, List.zipWith_nil_left, Nat.xor_self]
  rw [hS, hS, hz, Nat.xor_self]
theorem cr_get (a g : Int) : num ((hb a g).drop 12) 4 = ((cr a g : Nat) : Int) := by
  have h := crc_bound (h12_bs a g)
  have e := num_be4 h.1 h.2 []
  rw [List.append_nil] at e
  rw [hb_drop12, e]
  rfl

set_option maxRecDepth 100000 in
set_option maxHeartbeats 4000000 in
theorem HandlesSum_n0 (n m g h : Int) (w : World) (hn : 0 ≤ n) (hn' : n < 65536) (hm : 0 ≤ m) (hm' : m < 65536) (hg : 0 ≤ g) (hg' : g < 4294967296) (hh : 0 ≤ h) (hh' : h < 4294967296) (h1 : n % 512 = 0) :
    Calls Try.prog 9 #[.int .u16 n, .int .u16 m, .agg #[.int .u32 g, .int .u32 h]] w fun e w' => e = .returned (.bool true) ∧ Below w.heap.size w w' := by
  have hB : Below w.heap.size w (w.alloc (.cells #[.int .u32 g, .int .u32 h] 44)) := (Below.refl _ _).alloc (Nat.le_refl _) _
  have b1 : n % 512 * 2 < 65536 := by omega
  have b2 : m % 512 * 2 < 65536 := by omega
  have t1 : (n % 512 * 2 == 0) = true := by rw [beq_iff_eq]; omega
  go_enter Try.func9, Try.ntmps9
  go_wp2_with fail
  refine (alive08 _).mono ?_
  rintro e w1 ⟨rfl, hx⟩
  have hB := below_then hB hx
  go_wp2
  go_ret
  exact ⟨rfl, hB⟩

set_option maxRecDepth 100000 in
set_option maxHeartbeats 4000000 in
theorem HandlesSum_m0 (n m g h : Int) (w : World) (hn : 0 ≤ n) (hn' : n < 65536) (hm : 0 ≤ m) (hm' : m < 65536) (hg : 0 ≤ g) (hg' : g < 4294967296) (hh : 0 ≤ h) (hh' : h < 4294967296) (h1 : n % 512 ≠ 0) (h2 : m % 512 = 0) :
    Calls Try.prog 9 #[.int .u16 n, .int .u16 m, .agg #[.int .u32 g, .int .u32 h]] w fun e w' => e = .returned (.bool true) ∧ Below w.heap.size w w' := by
  have hB : Below w.heap.size w (w.alloc (.cells #[.int .u32 g, .int .u32 h] 44)) := (Below.refl _ _).alloc (Nat.le_refl _) _
  have b1 : n % 512 * 2 < 65536 := by omega
  have b2 : m % 512 * 2 < 65536 := by omega
  have t1 : (n % 512 * 2 == 0) = false := by rw [beq_eq_false_iff_ne]; omega
  have t2 : (m % 512 * 2 == 0) = true := by rw [beq_iff_eq]; omega
  go_enter Try.func9, Try.ntmps9
  go_wp2_with fail
  refine (alive08 _).mono ?_
  rintro e w1 ⟨rfl, hx⟩
  have hB := below_then hB hx
  go_wp2
  go_ret
  exact ⟨rfl, hB⟩

set_option maxRecDepth 100000 in
set_option maxHeartbeats 4000000 in
theorem HandlesSum_eq (n m g h : Int) (w : World) (hn : 0 ≤ n) (hn' : n < 65536) (hm : 0 ≤ m) (hm' : m < 65536) (hg : 0 ≤ g) (hg' : g < 4294967296) (hh : 0 ≤ h) (hh' : h < 4294967296) (h1 : n % 512 ≠ 0) (h2 : m % 512 ≠ 0) (h3 : n % 512 = m % 512) :
    Calls Try.prog 9 #[.int .u16 n, .int .u16 m, .agg #[.int .u32 g, .int .u32 h]] w fun e w' => e = .returned (.bool true) ∧ Below w.heap.size w w' := by
  have hB : Below w.heap.size w (w.alloc (.cells #[.int .u32 g, .int .u32 h] 44)) := (Below.refl _ _).alloc (Nat.le_refl _) _
  have b1 : n % 512 * 2 < 65536 := by omega
  have b2 : m % 512 * 2 < 65536 := by omega
  have t1 : (n % 512 * 2 == 0) = false := by rw [beq_eq_false_iff_ne]; omega
  have t2 : (m % 512 * 2 == 0) = false := by rw [beq_eq_false_iff_ne]; omega
  have t3 : (n % 512 * 2 == m % 512 * 2) = true := by rw [beq_iff_eq]; omega
  go_enter Try.func9, Try.ntmps9
  go_wp2_with fail
  refine (alive08 _).mono ?_
  rintro e w1 ⟨rfl, hx⟩
  have hB := below_then hB hx
  go_wp2
  go_ret
  exact ⟨rfl, hB⟩

set_option maxRecDepth 100000 in
set_option maxHeartbeats 8000000 in
theorem HandlesSum_main (n m g h : Int) (w : World) (hn : 0 ≤ n) (hn' : n < 65536) (hm : 0 ≤ m) (hm' : m < 65536) (hg : 0 ≤ g) (hg' : g < 4294967296) (hh : 0 ≤ h) (hh' : h < 4294967296) (h1 : n % 512 ≠ 0) (h2 : m % 512 ≠ 0) (h3 : n % 512 ≠ m % 512) :
    Calls Try.prog 9 #[.int .u16 n, .int .u16 m, .agg #[.int .u32 g, .int .u32 h]] w fun e w' => e = .returned (.bool true) ∧ Below w.heap.size w w' := by
  have Bg := Blk.new w 44 #[.int .u32 g, .int .u32 h]
  have hB : Below w.heap.size w (w.alloc (.cells #[.int .u32 g, .int .u32 h] 44)) := (Below.refl _ _).alloc (Nat.le_refl _) _
  have t1 : (n % 512 * 2 == 0) = false := by rw [beq_eq_false_iff_ne]; omega
  have t2 : (m % 512 * 2 == 0) = false := by rw [beq_eq_false_iff_ne]; omega
  have t3 : (n % 512 * 2 == m % 512 * 2) = false := by rw [beq_eq_false_iff_ne]; omega
  have n1 : 1 ≤ n % 512 * 2 := by omega
  have n2 : n % 512 * 2 ≤ 1024 := by omega
  have m1 : 1 ≤ m % 512 * 2 := by omega
  have m2 : m % 512 * 2 ≤ 1024 := by omega
  have b1 : n % 512 * 2 < 65536 := by omega
  have b2 : m % 512 * 2 < 65536 := by omega
  have j0 := Bg.cell 0 (v := .int .u32 g) rfl
  have j1 := Bg.cell 1 (v := .int .u32 h) rfl
  clear h1 h2 h3
  go_enter Try.func9, Try.ntmps9
  go_wp2_with fail
  generalize n % 512 * 2 = N at *
  generalize m % 512 * 2 = M at *
  have HX := Lib.hid (cr_four N M g h)
  have B9 := Blk.new (w.alloc (.cells #[.int .u32 g, .int .u32 h] 44)) 46 #[.int .i64 N, .int .u32 g, .int .i64 M, .int .u32 g, .int .i64 N, .int .u32 h, .int .i64 M, .int .u32 h]
  have hB := hB.alloc hB.size (.cells #[.int .i64 N, .int .u32 g, .int .i64 M, .int .u32 g, .int .i64 N, .int .u32 h, .int .i64 M, .int .u32 h] 46)
  rw [World.size_alloc] at B9
  clear j0 j1 Bg t1 t2 t3
  go_loopw [10, 11] (fun x i wr => ∃ k : Nat, k ≤ 4 ∧ i = .int .i64 k ∧ x = .int .u32 (([0, cr N g, cr N g ^^^ cr M g, (cr N g ^^^ cr M g) ^^^ cr N h, 0].getD k 0 : Nat) : Int) ∧ Blk wr (w.heap.size + 1) 46 #[.int .i64 N, .int .u32 g, .int .i64 M, .int .u32 g, .int .i64 N, .int .u32 h, .int .i64 M, .int .u32 h] ∧ Below w.heap.size w wr) (fun _ i _ => 4 - (intOf i).toNat)
  case atStart => exact ⟨0, by omega, rfl, rfl, B9, hB⟩
  case round =>
    obtain ⟨k, hk, rfl, rfl, B9, hB⟩ := hrel
    match k, hk with
    | 0, _ =>
      simp only [List.getD_cons_zero, List.getD_cons_succ]
      have c0 := B9.cell 0 (v := .int .i64 N) rfl
      have c1 := B9.cell 1 (v := .int .u32 g) rfl
      have hX : 0 < 4294967296 := by first | decide | exact cr_lt _ _ | exact Nat.xor_lt_two_pow (n := 32) (cr_lt _ _) (cr_lt _ _) | exact Nat.xor_lt_two_pow (n := 32) (Nat.xor_lt_two_pow (n := 32) (cr_lt _ _) (cr_lt _ _)) (cr_lt _ _)
      have hE : 0 ^^^ cr N g = cr N g := by first | exact Nat.zero_xor _ | rfl | (rw [Nat.xor_assoc, Nat.xor_assoc, ← Nat.xor_assoc]; exact HX.out)
      have hE2 := Go.u32_xor_nat (0) (cr N g) hX (cr_lt _ _)
      rw [hE] at hE2
      clear hE hX
      rw [show ((0 : Nat) : Int) = 0 from rfl] at hE2 ⊢
      have HE := Lib.hid hE2
      clear hE2
      go_wp2_with fail
      refine (hput N g _ n1 n2 hg hg').mono ?_
      rintro e w2 ⟨v, rfl, ho, hx⟩
      have B9 := B9.below hx
      have hB := below_then hB hx
      clear hx c0 c1
      obtain ⟨b, d, rfl, hd, hr⟩ := ho.form0 (by rw [hb_length]; decide)
      rw [hb_length] at hd ⊢
      have t := hr.drop 12 d (by rw [hb_length]; exact hd)
      rw [if_neg (by omega)] at t
      simp only [Option.map_some, add_plain, Nat.zero_add] at t
      have hl : ((hb N g).drop 12).length = 4 := by rw [hb_drop12, be_length]
      have hG := Get (some ⟨b, 12, none⟩) (d - 12) _ w2 t (by rw [hl]; omega)
      rw [get32_ok (by rw [hl]; omega), hl, cr_get] at hG
      clear ho hr t hl
      go_wp2_with fail
      refine hG.mono ?_
      rintro e w3 ⟨rfl, rfl⟩
      clear hG
      have hE := HE.out
      go_wp2
      go_roundw
      case rel => exact ⟨1, by omega, by go_num, rfl, B9, hB⟩
      case measure => simp [intOf] <;> omega
    | 1, _ =>
      simp only [List.getD_cons_zero, List.getD_cons_succ]
      have c0 := B9.cell 2 (v := .int .i64 M) rfl
      have c1 := B9.cell 3 (v := .int .u32 g) rfl
      have hX : cr N g < 4294967296 := by first | decide | exact cr_lt _ _ | exact Nat.xor_lt_two_pow (n := 32) (cr_lt _ _) (cr_lt _ _) | exact Nat.xor_lt_two_pow (n := 32) (Nat.xor_lt_two_pow (n := 32) (cr_lt _ _) (cr_lt _ _)) (cr_lt _ _)
      have hE : (cr N g) ^^^ cr M g = cr N g ^^^ cr M g := by first | exact Nat.zero_xor _ | rfl | (rw [Nat.xor_assoc, Nat.xor_assoc, ← Nat.xor_assoc]; exact HX.out)
      have hE2 := Go.u32_xor_nat (cr N g) (cr M g) hX (cr_lt _ _)
      rw [hE] at hE2
      clear hE hX
      have HE := Lib.hid hE2
      clear hE2
      go_wp2_with fail
      refine (hput M g _ m1 m2 hg hg').mono ?_
      rintro e w2 ⟨v, rfl, ho, hx⟩
      have B9 := B9.below hx
      have hB := below_then hB hx
      clear hx c0 c1
      obtain ⟨b, d, rfl, hd, hr⟩ := ho.form0 (by rw [hb_length]; decide)
      rw [hb_length] at hd ⊢
      have t := hr.drop 12 d (by rw [hb_length]; exact hd)
      rw [if_neg (by omega)] at t
      simp only [Option.map_some, add_plain, Nat.zero_add] at t
      have hl : ((hb M g).drop 12).length = 4 := by rw [hb_drop12, be_length]
      have hG := Get (some ⟨b, 12, none⟩) (d - 12) _ w2 t (by rw [hl]; omega)
      rw [get32_ok (by rw [hl]; omega), hl, cr_get] at hG
      clear ho hr t hl
      go_wp2_with fail
      refine hG.mono ?_
      rintro e w3 ⟨rfl, rfl⟩
      clear hG
      have hE := HE.out
      go_wp2
      go_roundw
      case rel => exact ⟨2, by omega, by go_num, rfl, B9, hB⟩
      case measure => simp [intOf] <;> omega
    | 2, _ =>
      simp only [List.getD_cons_zero, List.getD_cons_succ]
      have c0 := B9.cell 4 (v := .int .i64 N) rfl
      have c1 := B9.cell 5 (v := .int .u32 h) rfl
      have hX : cr N g ^^^ cr M g < 4294967296 := by first | decide | exact cr_lt _ _ | exact Nat.xor_lt_two_pow (n := 32) (cr_lt _ _) (cr_lt _ _) | exact Nat.xor_lt_two_pow (n := 32) (Nat.xor_lt_two_pow (n := 32) (cr_lt _ _) (cr_lt _ _)) (cr_lt _ _)
      have hE : (cr N g ^^^ cr M g) ^^^ cr N h = (cr N g ^^^ cr M g) ^^^ cr N h := by first | exact Nat.zero_xor _ | rfl | (rw [Nat.xor_assoc, Nat.xor_assoc, ← Nat.xor_assoc]; exact HX.out)
      have hE2 := Go.u32_xor_nat (cr N g ^^^ cr M g) (cr N h) hX (cr_lt _ _)
      rw [hE] at hE2
      clear hE hX
      have HE := Lib.hid hE2
      clear hE2
      go_wp2_with fail
      refine (hput N h _ n1 n2 hh hh').mono ?_
      rintro e w2 ⟨v, rfl, ho, hx⟩
      have B9 := B9.below hx
      have hB := below_then hB hx
      clear hx c0 c1
      obtain ⟨b, d, rfl, hd, hr⟩ := ho.form0 (by rw [hb_length]; decide)
      rw [hb_length] at hd ⊢
      have t := hr.drop 12 d (by rw [hb_length]; exact hd)
      rw [if_neg (by omega)] at t
      simp only [Option.map_some, add_plain, Nat.zero_add] at t
      have hl : ((hb N h).drop 12).length = 4 := by rw [hb_drop12, be_length]
      have hG := Get (some ⟨b, 12, none⟩) (d - 12) _ w2 t (by rw [hl]; omega)
      rw [get32_ok (by rw [hl]; omega), hl, cr_get] at hG
      clear ho hr t hl
      go_wp2_with fail
      refine hG.mono ?_
      rintro e w3 ⟨rfl, rfl⟩
      clear hG
      have hE := HE.out
      go_wp2
      go_roundw
      case rel => exact ⟨3, by omega, by go_num, rfl, B9, hB⟩
      case measure => simp [intOf] <;> omega
    | 3, _ =>
      simp only [List.getD_cons_zero, List.getD_cons_succ]
      have c0 := B9.cell 6 (v := .int .i64 M) rfl
      have c1 := B9.cell 7 (v := .int .u32 h) rfl
      have hX : (cr N g ^^^ cr M g) ^^^ cr N h < 4294967296 := by first | decide | exact cr_lt _ _ | exact Nat.xor_lt_two_pow (n := 32) (cr_lt _ _) (cr_lt _ _) | exact Nat.xor_lt_two_pow (n := 32) (Nat.xor_lt_two_pow (n := 32) (cr_lt _ _) (cr_lt _ _)) (cr_lt _ _)
      have hE : ((cr N g ^^^ cr M g) ^^^ cr N h) ^^^ cr M h = 0 := by first | exact Nat.zero_xor _ | rfl | (rw [Nat.xor_assoc, Nat.xor_assoc, ← Nat.xor_assoc]; exact HX.out)
      have hE2 := Go.u32_xor_nat ((cr N g ^^^ cr M g) ^^^ cr N h) (cr M h) hX (cr_lt _ _)
      rw [hE] at hE2
      clear hE hX
      have HE := Lib.hid hE2
      clear hE2
      go_wp2_with fail
      refine (hput M h _ m1 m2 hh hh').mono ?_
      rintro e w2 ⟨v, rfl, ho, hx⟩
      have B9 := B9.below hx
      have hB := below_then hB hx
      clear hx c0 c1
      obtain ⟨b, d, rfl, hd, hr⟩ := ho.form0 (by rw [hb_length]; decide)
      rw [hb_length] at hd ⊢
      have t := hr.drop 12 d (by rw [hb_length]; exact hd)
      rw [if_neg (by omega)] at t
      simp only [Option.map_some, add_plain, Nat.zero_add] at t
      have hl : ((hb M h).drop 12).length = 4 := by rw [hb_drop12, be_length]
      have hG := Get (some ⟨b, 12, none⟩) (d - 12) _ w2 t (by rw [hl]; omega)
      rw [get32_ok (by rw [hl]; omega), hl, cr_get] at hG
      clear ho hr t hl
      go_wp2_with fail
      refine hG.mono ?_
      rintro e w3 ⟨rfl, rfl⟩
      clear hG
      have hE := HE.out
      go_wp2
      go_roundw
      case rel => exact ⟨4, by omega, by go_num, rfl, B9, hB⟩
      case measure => simp [intOf] <;> omega
    | 4, _ =>
      simp only [List.getD_cons_zero, List.getD_cons_succ]
      go_wp2_with fail
      refine (alive08 _).mono ?_
      rintro e w4 ⟨rfl, hx⟩
      have hB := below_then hB hx
      go_wp2
      go_ret
      exact ⟨rfl, hB⟩
      
theorem HandlesSum_walk (n m g h : Int) (w : World) (hn : 0 ≤ n) (hn' : n < 65536) (hm : 0 ≤ m) (hm' : m < 65536) (hg : 0 ≤ g) (hg' : g < 4294967296) (hh : 0 ≤ h) (hh' : h < 4294967296) :
    Calls Try.prog 9 #[.int .u16 n, .int .u16 m, .agg #[.int .u32 g, .int .u32 h]] w fun e w' => e = .returned (.bool true) ∧ Below w.heap.size w w' := by
  by_cases h1 : n % 512 = 0
  · exact HandlesSum_n0 n m g h w hn hn' hm hm' hg hg' hh hh' h1
  by_cases h2 : m % 512 = 0
  · exact HandlesSum_m0 n m g h w hn hn' hm hm' hg hg' hh hh' h1 h2
  by_cases h3 : n % 512 = m % 512
  · exact HandlesSum_eq n m g h w hn hn' hm hm' hg hg' hh hh' h1 h2 h3
  · exact HandlesSum_main n m g h w hn hn' hm hm' hg hg' hh hh' h1 h2 h3
end Go.Proofs.Ytffikncbpcnflaa.Hand
