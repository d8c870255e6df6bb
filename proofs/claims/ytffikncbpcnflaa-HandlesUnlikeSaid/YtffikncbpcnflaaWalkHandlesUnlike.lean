/- The statement HandlesUnlike, walked: unlike handles have unlike bytes; they part in their last four, too, if one number alone is another one. -/
import Derived.Test.YtffikncbpcnflaaAlive08
import Derived.Test.YtffikncbpcnflaaCrcLaw
namespace Go.Proofs.Ytffikncbpcnflaa.Hand
open Go.RowKit Go.Proofs.YtffikncbpcnflaaW.PrintLast
set_option linter.unusedVariables false
set_option linter.unusedSimpArgs false

theorem be_inj {a b : Int} (ha : 0 ≤ a) (ha' : a < 4294967296) (hb : 0 ≤ b) (hb' : b < 4294967296) (h : be a 4 = be b 4) : a = b := by
  rw [← num_be4 ha ha' [], ← num_be4 hb hb' [], h]
theorem toNat_lt {l : List Int} (h : Bs l) : ∀ c ∈ l.map Int.toNat, c < 256 := by
  intro c hc
  obtain ⟨x, hx, rfl⟩ := List.mem_map.1 hc
  have := h x hx
  omega
theorem be_burst {x : Nat} {a b : Int} (hx : x < 4294967296) (ha : 0 ≤ a) (ha' : a < 4294967296) (hb : 0 ≤ b) (hb' : b < 4294967296) (h : crcS x (be a 4) = crcS x (be b 4)) : a = b := by
  refine be_inj ha ha' hb hb' ?_
  rw [crcS_T, crcS_T, be4, be4] at h
  rw [be4, be4]
  simp only [List.map_cons, List.map_nil] at h
  obtain ⟨h0, h1, h2, h3⟩ := burst hx (by omega) (by omega) (by omega) (by omega) (by omega) (by omega) (by omega) (by omega) h
  have e0 : a / 16777216 % 256 = b / 16777216 % 256 := by omega
  have e1 : a / 65536 % 256 = b / 65536 % 256 := by omega
  have e2 : a / 256 % 256 = b / 256 % 256 := by omega
  have e3 : a % 256 = b % 256 := by omega
  rw [e0, e1, e2, e3]
theorem crcS_inj {l : List Int} (hl : Bs l) {x y : Nat} (hx : x < 4294967296) (hy : y < 4294967296) (h : crcS x l = crcS y l) : x = y := by
  rw [crcS_T, crcS_T] at h
  exact crcT_inj (toNat_lt hl) hx hy h
theorem crc_eq {l m : List Int} (hl : Bs l) (hm : Bs m) (h : crc l = crc m) : crcS 4294967295 l = crcS 4294967295 m := by
  have h1 := crcS_lt hl (x := 4294967295) (by decide)
  have h2 := crcS_lt hm (x := 4294967295) (by decide)
  unfold crc at h
  omega
theorem mark_bs : Bs [119, 104, 114, 102] := by intro x hx; simp at hx; omega
theorem crc_node {a b g : Int} (ha : 0 ≤ a) (ha' : a < 4294967296) (hb : 0 ≤ b) (hb' : b < 4294967296) (h : crc (h12 a g) = crc (h12 b g)) : a = b := by
  have h1 := crc_eq (h12_bs a g) (h12_bs b g) h
  unfold h12 at h1
  rw [crcS_append, crcS_append, crcS_append, crcS_append] at h1
  have h0 := crcS_lt mark_bs (x := 4294967295) (by decide)
  exact be_burst h0 ha ha' hb hb' (crcS_inj (be_bs _ _) (crcS_lt (be_bs _ _) h0) (crcS_lt (be_bs _ _) h0) h1)
theorem crc_gen {a g h : Int} (hg : 0 ≤ g) (hg' : g < 4294967296) (hh : 0 ≤ h) (hh' : h < 4294967296) (he : crc (h12 a g) = crc (h12 a h)) : g = h := by
  have h1 := crc_eq (h12_bs a g) (h12_bs a h) he
  unfold h12 at h1
  rw [crcS_append ([119, 104, 114, 102] ++ be a 4) (be g 4), crcS_append ([119, 104, 114, 102] ++ be a 4) (be h 4)] at h1
  have h0 := crcS_lt (mark_bs.append (be_bs a 4)) (x := 4294967295) (by decide)
  generalize crcS 4294967295 ([119, 104, 114, 102] ++ be a 4) = X at *
  exact be_burst h0 hg hg' hh hh' h1
theorem hb_drop12 (a g : Int) : (hb a g).drop 12 = be (crc (h12 a g)) 4 := by
  unfold Hand.hb
  rw [List.drop_append_of_le_length (by rw [h12_length]; omega), List.drop_eq_nil_of_le (by rw [h12_length]; omega), List.nil_append]
theorem str_eq {l m : List Int} (hl : Bs l) (hm : Bs m) : ((strOf l).toList == (strOf m).toList) = decide (l = m) := by
  rw [strOf_list, strOf_list, Bool.eq_iff_iff, beq_iff_eq, decide_eq_true_eq]
  exact ⟨u8s_inj hl hm, fun h => by rw [h]⟩
theorem hb_inj {a g b h : Int} (ha : 0 ≤ a) (ha' : a < 4294967296) (hg : 0 ≤ g) (hg' : g < 4294967296) (hb : 0 ≤ b) (hb' : b < 4294967296) (hh : 0 ≤ h) (hh' : h < 4294967296) (e : Hand.hb a g = Hand.hb b h) : a = b ∧ g = h := by
  have h1 := hNode_hb (g := g) ha ha' []
  have h2 := hNode_hb (g := h) hb hb' []
  have h3 := hGen_hb (a := a) hg hg' []
  have h4 := hGen_hb (a := b) hh hh' []
  rw [List.append_nil] at h1 h2 h3 h4
  exact ⟨h1.symm.trans ((congrArg hNode e).trans h2), h3.symm.trans ((congrArg hGen e).trans h4)⟩
theorem sum_eq (a g b h : Int) : ((strOf ((Hand.hb a g).drop 12)).toList == (strOf ((Hand.hb b h).drop 12)).toList) = decide (crc (h12 a g) = crc (h12 b h)) := by
  rw [hb_drop12, hb_drop12, str_eq (be_bs _ _) (be_bs _ _)]
  congr 1
  refine propext ⟨fun e => ?_, fun e => by rw [e]⟩
  have h1 := crc_bound (h12_bs a g)
  have h2 := crc_bound (h12_bs b h)
  exact be_inj h1.1 h1.2 h2.1 h2.2 e

set_option maxRecDepth 100000 in
set_option maxHeartbeats 4000000 in
theorem HandlesUnlike_same (n m g h : Int) (w : World) (hn : 0 ≤ n) (hn' : n < 65536) (hm : 0 ≤ m) (hm' : m < 65536) (hg : 0 ≤ g) (hg' : g < 4294967296) (hh : 0 ≤ h) (hh' : h < 4294967296)
    (e1 : ((strOf (hb (1 + n % 1024) g)).toList == (strOf (hb (1 + m % 1024) h)).toList) = true) (e2 : ((strOf ((hb (1 + n % 1024) g).drop 12)).toList == (strOf ((hb (1 + m % 1024) h).drop 12)).toList) = true) (e3 : (1 + n % 1024 == 1 + m % 1024) = true) (e4 : (g == h) = true) :
    Calls Try.prog 8 #[.int .u16 n, .int .u16 m, .agg #[.int .u32 g, .int .u32 h]] w fun e w' => e = .returned (.bool true) ∧ Below w.heap.size w w' := by
  have Bg := Blk.new w 44 #[.int .u32 g, .int .u32 h]
  have hB : Below w.heap.size w (w.alloc (.cells #[.int .u32 g, .int .u32 h] 44)) := (Below.refl _ _).alloc (Nat.le_refl _) _
  have j0 := Bg.cell 0 (v := .int .u32 g) rfl
  have j1 := Bg.cell 1 (v := .int .u32 h) rfl
  have hof1 := fun w => of_ n g w hn hn' hg hg'
  have hof2 := fun w => of_ m h w hm hm' hh hh'
  generalize 1 + n % 1024 = N at *
  generalize 1 + m % 1024 = M at *
  have HE1 := Lib.hid e1
  have HE2 := Lib.hid e2
  clear e1 e2
  have HO1 := Lib.hid hof1
  have HO2 := Lib.hid hof2
  clear hof1 hof2
  go_enter Try.func8, Try.ntmps8
  go_wp2_with fail
  refine (HO1.out _).mono ?_
  rintro e w1 ⟨v1, rfl, o1, hx⟩
  have Bg := (Bg.below hx).alloc (.cells #[.int .i64 N, .int .u32 g] 27)
  have B1 := Blk.new w1 27 #[.int .i64 N, .int .u32 g]
  have hB := below_then hB hx
  have hB := hB.alloc hB.size (.cells #[.int .i64 N, .int .u32 g] 27)
  obtain ⟨b1, d1, rfl, hd1, r1⟩ := o1.form0 (by rw [hb_length]; decide)
  rw [hb_length] at hd1 ⊢
  have r1 := r1.alloc (.cells #[.int .i64 N, .int .u32 g] 27)
  clear hx o1 j0 j1 HO1
  have j0 := Bg.cell 0 (v := .int .u32 g) rfl
  have j1 := Bg.cell 1 (v := .int .u32 h) rfl
  go_wp2_with fail
  refine (HO2.out _).mono ?_
  rintro e w2 ⟨v2, rfl, o2, hx⟩
  have B1 := (B1.below hx).alloc (.cells #[.int .i64 M, .int .u32 h] 27)
  have B2 := Blk.new w2 27 #[.int .i64 M, .int .u32 h]
  have hB := below_then hB hx
  have hB := hB.alloc hB.size (.cells #[.int .i64 M, .int .u32 h] 27)
  obtain ⟨b2, d2, rfl, hd2, r2⟩ := o2.form0 (by rw [hb_length]; decide)
  rw [hb_length] at hd2 ⊢
  have r1 := (r1.below hx).alloc (.cells #[.int .i64 M, .int .u32 h] 27)
  have r2 := r2.alloc (.cells #[.int .i64 M, .int .u32 h] 27)
  clear hx o2 j0 j1 HO2 Bg
  have k0 := B1.cell 0 (v := .int .i64 N) rfl
  have k1 := B1.cell 1 (v := .int .u32 g) rfl
  have k2 := B2.cell 0 (v := .int .i64 M) rfl
  have k3 := B2.cell 1 (v := .int .u32 h) rfl
  have t1 := r1.drop 12 d1 (by rw [hb_length]; exact hd1)
  have t2 := r2.drop 12 d2 (by rw [hb_length]; exact hd2)
  rw [if_neg (by omega)] at t1 t2
  have s1 := run_str_n (c := d1) r1 (hb_length _ _)
  have s2 := run_str_n (c := d2) r2 (hb_length _ _)
  have s3 := fun k => run_str_n (c := d1 - 12) (n := 4) (t1.drewN k) (by rw [hb_drop12, be_length])
  have s4 := fun k => run_str_n (c := d2 - 12) (n := 4) (t2.drewN k) (by rw [hb_drop12, be_length])
  simp only [Option.map_some, add_plain, Nat.zero_add] at s3 s4
  clear r1 r2 t1 t2
  have e1 := HE1.out
  have e2 := HE2.out
  clear HE1 HE2
  have hd1' : (12 : Int) ≤ (d1 : Int) := by omega
  have hd2' : (12 : Int) ≤ (d2 : Int) := by omega
  go_wp2_with fail
  go_quiet (fail)
  go_wp2_with fail
  refine (alive08 _).mono ?_
  rintro e w3 ⟨rfl, hx⟩
  have B1 := (B1.drewN nq).below hx
  have B2 := (B2.drewN nq).below hx
  have hB := below_then (below_drewN hB nq) hx
  clear hx
  have k0 := B1.cell 0 (v := .int .i64 N) rfl
  have k1 := B1.cell 1 (v := .int .u32 g) rfl
  have k2 := B2.cell 0 (v := .int .i64 M) rfl
  have k3 := B2.cell 1 (v := .int .u32 h) rfl
  go_wp2
  go_ret
  exact ⟨rfl, hB⟩
  
set_option maxRecDepth 100000 in
set_option maxHeartbeats 4000000 in
theorem HandlesUnlike_gen (n m g h : Int) (w : World) (hn : 0 ≤ n) (hn' : n < 65536) (hm : 0 ≤ m) (hm' : m < 65536) (hg : 0 ≤ g) (hg' : g < 4294967296) (hh : 0 ≤ h) (hh' : h < 4294967296)
    (e1 : ((strOf (hb (1 + n % 1024) g)).toList == (strOf (hb (1 + m % 1024) h)).toList) = false) (e2 : ((strOf ((hb (1 + n % 1024) g).drop 12)).toList == (strOf ((hb (1 + m % 1024) h).drop 12)).toList) = false) (e3 : (1 + n % 1024 == 1 + m % 1024) = true) (e4 : (g == h) = false) :
    Calls Try.prog 8 #[.int .u16 n, .int .u16 m, .agg #[.int .u32 g, .int .u32 h]] w fun e w' => e = .returned (.bool true) ∧ Below w.heap.size w w' := by
  have Bg := Blk.new w 44 #[.int .u32 g, .int .u32 h]
  have hB : Below w.heap.size w (w.alloc (.cells #[.int .u32 g, .int .u32 h] 44)) := (Below.refl _ _).alloc (Nat.le_refl _) _
  have j0 := Bg.cell 0 (v := .int .u32 g) rfl
  have j1 := Bg.cell 1 (v := .int .u32 h) rfl
  have hof1 := fun w => of_ n g w hn hn' hg hg'
  have hof2 := fun w => of_ m h w hm hm' hh hh'
  generalize 1 + n % 1024 = N at *
  generalize 1 + m % 1024 = M at *
  have HE1 := Lib.hid e1
  have HE2 := Lib.hid e2
  clear e1 e2
  have HO1 := Lib.hid hof1
  have HO2 := Lib.hid hof2
  clear hof1 hof2
  go_enter Try.func8, Try.ntmps8
  go_wp2_with fail
  refine (HO1.out _).mono ?_
  rintro e w1 ⟨v1, rfl, o1, hx⟩
  have Bg := (Bg.below hx).alloc (.cells #[.int .i64 N, .int .u32 g] 27)
  have B1 := Blk.new w1 27 #[.int .i64 N, .int .u32 g]
  have hB := below_then hB hx
  have hB := hB.alloc hB.size (.cells #[.int .i64 N, .int .u32 g] 27)
  obtain ⟨b1, d1, rfl, hd1, r1⟩ := o1.form0 (by rw [hb_length]; decide)
  rw [hb_length] at hd1 ⊢
  have r1 := r1.alloc (.cells #[.int .i64 N, .int .u32 g] 27)
  clear hx o1 j0 j1 HO1
  have j0 := Bg.cell 0 (v := .int .u32 g) rfl
  have j1 := Bg.cell 1 (v := .int .u32 h) rfl
  go_wp2_with fail
  refine (HO2.out _).mono ?_
  rintro e w2 ⟨v2, rfl, o2, hx⟩
  have B1 := (B1.below hx).alloc (.cells #[.int .i64 M, .int .u32 h] 27)
  have B2 := Blk.new w2 27 #[.int .i64 M, .int .u32 h]
  have hB := below_then hB hx
  have hB := hB.alloc hB.size (.cells #[.int .i64 M, .int .u32 h] 27)
  obtain ⟨b2, d2, rfl, hd2, r2⟩ := o2.form0 (by rw [hb_length]; decide)
  rw [hb_length] at hd2 ⊢
  have r1 := (r1.below hx).alloc (.cells #[.int .i64 M, .int .u32 h] 27)
  have r2 := r2.alloc (.cells #[.int .i64 M, .int .u32 h] 27)
  clear hx o2 j0 j1 HO2 Bg
  have k0 := B1.cell 0 (v := .int .i64 N) rfl
  have k1 := B1.cell 1 (v := .int .u32 g) rfl
  have k2 := B2.cell 0 (v := .int .i64 M) rfl
  have k3 := B2.cell 1 (v := .int .u32 h) rfl
  have t1 := r1.drop 12 d1 (by rw [hb_length]; exact hd1)
  have t2 := r2.drop 12 d2 (by rw [hb_length]; exact hd2)
  rw [if_neg (by omega)] at t1 t2
  have s1 := run_str_n (c := d1) r1 (hb_length _ _)
  have s2 := run_str_n (c := d2) r2 (hb_length _ _)
  have s3 := fun k => run_str_n (c := d1 - 12) (n := 4) (t1.drewN k) (by rw [hb_drop12, be_length])
  have s4 := fun k => run_str_n (c := d2 - 12) (n := 4) (t2.drewN k) (by rw [hb_drop12, be_length])
  simp only [Option.map_some, add_plain, Nat.zero_add] at s3 s4
  clear r1 r2 t1 t2
  have e1 := HE1.out
  have e2 := HE2.out
  clear HE1 HE2
  have hd1' : (12 : Int) ≤ (d1 : Int) := by omega
  have hd2' : (12 : Int) ≤ (d2 : Int) := by omega
  go_wp2_with fail
  go_quiet (fail)
  go_wp2_with fail
  refine (alive08 _).mono ?_
  rintro e w3 ⟨rfl, hx⟩
  have B1 := (B1.drewN nq).below hx
  have B2 := (B2.drewN nq).below hx
  have hB := below_then (below_drewN hB nq) hx
  clear hx
  have k0 := B1.cell 0 (v := .int .i64 N) rfl
  have k1 := B1.cell 1 (v := .int .u32 g) rfl
  have k2 := B2.cell 0 (v := .int .i64 M) rfl
  have k3 := B2.cell 1 (v := .int .u32 h) rfl
  go_wp2
  go_ret
  exact ⟨rfl, hB⟩
  
set_option maxRecDepth 100000 in
set_option maxHeartbeats 4000000 in
theorem HandlesUnlike_node (n m g h : Int) (w : World) (hn : 0 ≤ n) (hn' : n < 65536) (hm : 0 ≤ m) (hm' : m < 65536) (hg : 0 ≤ g) (hg' : g < 4294967296) (hh : 0 ≤ h) (hh' : h < 4294967296)
    (e1 : ((strOf (hb (1 + n % 1024) g)).toList == (strOf (hb (1 + m % 1024) h)).toList) = false) (e2 : ((strOf ((hb (1 + n % 1024) g).drop 12)).toList == (strOf ((hb (1 + m % 1024) h).drop 12)).toList) = false) (e3 : (1 + n % 1024 == 1 + m % 1024) = false) (e4 : (g == h) = true) :
    Calls Try.prog 8 #[.int .u16 n, .int .u16 m, .agg #[.int .u32 g, .int .u32 h]] w fun e w' => e = .returned (.bool true) ∧ Below w.heap.size w w' := by
  have Bg := Blk.new w 44 #[.int .u32 g, .int .u32 h]
  have hB : Below w.heap.size w (w.alloc (.cells #[.int .u32 g, .int .u32 h] 44)) := (Below.refl _ _).alloc (Nat.le_refl _) _
  have j0 := Bg.cell 0 (v := .int .u32 g) rfl
  have j1 := Bg.cell 1 (v := .int .u32 h) rfl
  have hof1 := fun w => of_ n g w hn hn' hg hg'
  have hof2 := fun w => of_ m h w hm hm' hh hh'
  generalize 1 + n % 1024 = N at *
  generalize 1 + m % 1024 = M at *
  have HE1 := Lib.hid e1
  have HE2 := Lib.hid e2
  clear e1 e2
  have HO1 := Lib.hid hof1
  have HO2 := Lib.hid hof2
  clear hof1 hof2
  go_enter Try.func8, Try.ntmps8
  go_wp2_with fail
  refine (HO1.out _).mono ?_
  rintro e w1 ⟨v1, rfl, o1, hx⟩
  have Bg := (Bg.below hx).alloc (.cells #[.int .i64 N, .int .u32 g] 27)
  have B1 := Blk.new w1 27 #[.int .i64 N, .int .u32 g]
  have hB := below_then hB hx
  have hB := hB.alloc hB.size (.cells #[.int .i64 N, .int .u32 g] 27)
  obtain ⟨b1, d1, rfl, hd1, r1⟩ := o1.form0 (by rw [hb_length]; decide)
  rw [hb_length] at hd1 ⊢
  have r1 := r1.alloc (.cells #[.int .i64 N, .int .u32 g] 27)
  clear hx o1 j0 j1 HO1
  have j0 := Bg.cell 0 (v := .int .u32 g) rfl
  have j1 := Bg.cell 1 (v := .int .u32 h) rfl
  go_wp2_with fail
  refine (HO2.out _).mono ?_
  rintro e w2 ⟨v2, rfl, o2, hx⟩
  have B1 := (B1.below hx).alloc (.cells #[.int .i64 M, .int .u32 h] 27)
  have B2 := Blk.new w2 27 #[.int .i64 M, .int .u32 h]
  have hB := below_then hB hx
  have hB := hB.alloc hB.size (.cells #[.int .i64 M, .int .u32 h] 27)
  obtain ⟨b2, d2, rfl, hd2, r2⟩ := o2.form0 (by rw [hb_length]; decide)
  rw [hb_length] at hd2 ⊢
  have r1 := (r1.below hx).alloc (.cells #[.int .i64 M, .int .u32 h] 27)
  have r2 := r2.alloc (.cells #[.int .i64 M, .int .u32 h] 27)
  clear hx o2 j0 j1 HO2 Bg
  have k0 := B1.cell 0 (v := .int .i64 N) rfl
  have k1 := B1.cell 1 (v := .int .u32 g) rfl
  have k2 := B2.cell 0 (v := .int .i64 M) rfl
  have k3 := B2.cell 1 (v := .int .u32 h) rfl
  have t1 := r1.drop 12 d1 (by rw [hb_length]; exact hd1)
  have t2 := r2.drop 12 d2 (by rw [hb_length]; exact hd2)
  rw [if_neg (by omega)] at t1 t2
  have s1 := run_str_n (c := d1) r1 (hb_length _ _)
  have s2 := run_str_n (c := d2) r2 (hb_length _ _)
  have s3 := fun k => run_str_n (c := d1 - 12) (n := 4) (t1.drewN k) (by rw [hb_drop12, be_length])
  have s4 := fun k => run_str_n (c := d2 - 12) (n := 4) (t2.drewN k) (by rw [hb_drop12, be_length])
  simp only [Option.map_some, add_plain, Nat.zero_add] at s3 s4
  clear r1 r2 t1 t2
  have e1 := HE1.out
  have e2 := HE2.out
  clear HE1 HE2
  have hd1' : (12 : Int) ≤ (d1 : Int) := by omega
  have hd2' : (12 : Int) ≤ (d2 : Int) := by omega
  go_wp2_with fail
  go_quiet (fail)
  go_wp2_with fail
  refine (alive08 _).mono ?_
  rintro e w3 ⟨rfl, hx⟩
  have B1 := (B1.drewN nq).below hx
  have B2 := (B2.drewN nq).below hx
  have hB := below_then (below_drewN hB nq) hx
  clear hx
  have k0 := B1.cell 0 (v := .int .i64 N) rfl
  have k1 := B1.cell 1 (v := .int .u32 g) rfl
  have k2 := B2.cell 0 (v := .int .i64 M) rfl
  have k3 := B2.cell 1 (v := .int .u32 h) rfl
  go_wp2
  go_ret
  exact ⟨rfl, hB⟩
  
set_option maxRecDepth 100000 in
set_option maxHeartbeats 4000000 in
theorem HandlesUnlike_both (n m g h : Int) (q : Bool) (w : World) (hn : 0 ≤ n) (hn' : n < 65536) (hm : 0 ≤ m) (hm' : m < 65536) (hg : 0 ≤ g) (hg' : g < 4294967296) (hh : 0 ≤ h) (hh' : h < 4294967296)
    (e1 : ((strOf (hb (1 + n % 1024) g)).toList == (strOf (hb (1 + m % 1024) h)).toList) = false) (e2 : ((strOf ((hb (1 + n % 1024) g).drop 12)).toList == (strOf ((hb (1 + m % 1024) h).drop 12)).toList) = q) (e3 : (1 + n % 1024 == 1 + m % 1024) = false) (e4 : (g == h) = false) :
    Calls Try.prog 8 #[.int .u16 n, .int .u16 m, .agg #[.int .u32 g, .int .u32 h]] w fun e w' => e = .returned (.bool true) ∧ Below w.heap.size w w' := by
  have Bg := Blk.new w 44 #[.int .u32 g, .int .u32 h]
  have hB : Below w.heap.size w (w.alloc (.cells #[.int .u32 g, .int .u32 h] 44)) := (Below.refl _ _).alloc (Nat.le_refl _) _
  have j0 := Bg.cell 0 (v := .int .u32 g) rfl
  have j1 := Bg.cell 1 (v := .int .u32 h) rfl
  have hof1 := fun w => of_ n g w hn hn' hg hg'
  have hof2 := fun w => of_ m h w hm hm' hh hh'
  generalize 1 + n % 1024 = N at *
  generalize 1 + m % 1024 = M at *
  have HE1 := Lib.hid e1
  have HE2 := Lib.hid e2
  clear e1 e2
  have HO1 := Lib.hid hof1
  have HO2 := Lib.hid hof2
  clear hof1 hof2
  go_enter Try.func8, Try.ntmps8
  go_wp2_with fail
  refine (HO1.out _).mono ?_
  rintro e w1 ⟨v1, rfl, o1, hx⟩
  have Bg := (Bg.below hx).alloc (.cells #[.int .i64 N, .int .u32 g] 27)
  have B1 := Blk.new w1 27 #[.int .i64 N, .int .u32 g]
  have hB := below_then hB hx
  have hB := hB.alloc hB.size (.cells #[.int .i64 N, .int .u32 g] 27)
  obtain ⟨b1, d1, rfl, hd1, r1⟩ := o1.form0 (by rw [hb_length]; decide)
  rw [hb_length] at hd1 ⊢
  have r1 := r1.alloc (.cells #[.int .i64 N, .int .u32 g] 27)
  clear hx o1 j0 j1 HO1
  have j0 := Bg.cell 0 (v := .int .u32 g) rfl
  have j1 := Bg.cell 1 (v := .int .u32 h) rfl
  go_wp2_with fail
  refine (HO2.out _).mono ?_
  rintro e w2 ⟨v2, rfl, o2, hx⟩
  have B1 := (B1.below hx).alloc (.cells #[.int .i64 M, .int .u32 h] 27)
  have B2 := Blk.new w2 27 #[.int .i64 M, .int .u32 h]
  have hB := below_then hB hx
  have hB := hB.alloc hB.size (.cells #[.int .i64 M, .int .u32 h] 27)
  obtain ⟨b2, d2, rfl, hd2, r2⟩ := o2.form0 (by rw [hb_length]; decide)
  rw [hb_length] at hd2 ⊢
  have r1 := (r1.below hx).alloc (.cells #[.int .i64 M, .int .u32 h] 27)
  have r2 := r2.alloc (.cells #[.int .i64 M, .int .u32 h] 27)
  clear hx o2 j0 j1 HO2 Bg
  have k0 := B1.cell 0 (v := .int .i64 N) rfl
  have k1 := B1.cell 1 (v := .int .u32 g) rfl
  have k2 := B2.cell 0 (v := .int .i64 M) rfl
  have k3 := B2.cell 1 (v := .int .u32 h) rfl
  have t1 := r1.drop 12 d1 (by rw [hb_length]; exact hd1)
  have t2 := r2.drop 12 d2 (by rw [hb_length]; exact hd2)
  rw [if_neg (by omega)] at t1 t2
  have s1 := run_str_n (c := d1) r1 (hb_length _ _)
  have s2 := run_str_n (c := d2) r2 (hb_length _ _)
  have s3 := fun k => run_str_n (c := d1 - 12) (n := 4) (t1.drewN k) (by rw [hb_drop12, be_length])
  have s4 := fun k => run_str_n (c := d2 - 12) (n := 4) (t2.drewN k) (by rw [hb_drop12, be_length])
  simp only [Option.map_some, add_plain, Nat.zero_add] at s3 s4
  clear r1 r2 t1 t2
  have e1 := HE1.out
  have e2 := HE2.out
  clear HE1 HE2
  have hd1' : (12 : Int) ≤ (d1 : Int) := by omega
  have hd2' : (12 : Int) ≤ (d2 : Int) := by omega
  go_wp2_with fail
  go_quiet (fail)
  go_wp2_with fail
  refine (alive08 _).mono ?_
  rintro e w3 ⟨rfl, hx⟩
  have B1 := (B1.drewN nq).below hx
  have B2 := (B2.drewN nq).below hx
  have hB := below_then (below_drewN hB nq) hx
  clear hx
  have k0 := B1.cell 0 (v := .int .i64 N) rfl
  have k1 := B1.cell 1 (v := .int .u32 g) rfl
  have k2 := B2.cell 0 (v := .int .i64 M) rfl
  have k3 := B2.cell 1 (v := .int .u32 h) rfl
  go_wp2
  go_ret
  exact ⟨rfl, hB⟩
  
theorem HandlesUnlike_walk (n m g h : Int) (w : World) (hn : 0 ≤ n) (hn' : n < 65536) (hm : 0 ≤ m) (hm' : m < 65536) (hg : 0 ≤ g) (hg' : g < 4294967296) (hh : 0 ≤ h) (hh' : h < 4294967296) :
    Calls Try.prog 8 #[.int .u16 n, .int .u16 m, .agg #[.int .u32 g, .int .u32 h]] w fun e w' => e = .returned (.bool true) ∧ Below w.heap.size w w' := by
  have q1 : 0 ≤ 1 + n % 1024 ∧ 1 + n % 1024 < 4294967296 := by omega
  have q2 : 0 ≤ 1 + m % 1024 ∧ 1 + m % 1024 < 4294967296 := by omega
  have e1 := str_eq (hb_bs (1 + n % 1024) g) (hb_bs (1 + m % 1024) h)
  have e2 := sum_eq (1 + n % 1024) g (1 + m % 1024) h
  have hi := fun e => hb_inj q1.1 q1.2 hg hg' q2.1 q2.2 hh hh' e
  by_cases hN : 1 + n % 1024 = 1 + m % 1024
  · by_cases hG : g = h
    · have e3 : (1 + n % 1024 == 1 + m % 1024) = true := by rw [beq_iff_eq]; exact hN
      rw [decide_eq_true (by rw [hN, hG])] at e1 e2
      exact HandlesUnlike_same n m g h w hn hn' hm hm' hg hg' hh hh' e1 e2 e3 (by rw [beq_iff_eq]; exact hG)
    · rw [decide_eq_false (fun e => hG (hi e).2)] at e1
      rw [decide_eq_false (fun e => hG (crc_gen hg hg' hh hh' (by rw [hN] at e; exact e)))] at e2
      exact HandlesUnlike_gen n m g h w hn hn' hm hm' hg hg' hh hh' e1 e2 (by rw [beq_iff_eq]; exact hN) (by rw [beq_eq_false_iff_ne]; exact hG)
  · rw [decide_eq_false (fun e => hN (hi e).1)] at e1
    by_cases hG : g = h
    · rw [decide_eq_false (fun e => hN (crc_node q1.1 q1.2 q2.1 q2.2 (by rw [← hG] at e; exact e)))] at e2
      exact HandlesUnlike_node n m g h w hn hn' hm hm' hg hg' hh hh' e1 e2 (by rw [beq_eq_false_iff_ne]; exact hN) (by rw [beq_iff_eq]; exact hG)
    · exact HandlesUnlike_both n m g h _ w hn hn' hm hm' hg hg' hh hh' e1 e2 (by rw [beq_eq_false_iff_ne]; exact hN) (by rw [beq_eq_false_iff_ne]; exact hG)
end Go.Proofs.Ytffikncbpcnflaa.Hand
