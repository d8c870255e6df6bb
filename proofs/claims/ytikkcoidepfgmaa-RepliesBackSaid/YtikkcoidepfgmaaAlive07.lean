/- The statements' alive: some answers that the document fixes. -/
import Derived.Deep.DeepCutAuto
import Derived.Lib.SlBytesConst
import Derived.Test.YtikkcoidepfgmaaRepIs
namespace Go.Proofs.Ytikkcoidepfgmaa.Hand
open Go.RowKit
set_option linter.unusedVariables false
set_option linter.unusedSimpArgs false

theorem rowB {g n c : Nat} {m : List Int} {w : World} (hb : Blk w g 22 (m.map (Value.int .u32)).toArray) (hu : U4 m) (hm : m.length = n) (hc : n ≤ c) (hn : n ≤ 1000) :
    Calls Try.prog 14 #[.slice (some ⟨g, 0, none⟩) n c] w fun e w' => ∃ Av cv, e = .returned (.slice Av (4 * n) cv) ∧ 4 * n ≤ cv ∧ Own w' w.heap.size (.slice Av (4 * n) cv) (rw4 m) ∧ Rd w' Av (rw4 m) ∧ Below w.heap.size w w' := by
  subst hm
  refine (row_ (some ⟨g, 0, none⟩) c m w (RdN.of_blk hu hb) hn).mono ?_
  rintro e w' ⟨v, rfl, ho, hB⟩
  obtain ⟨Av, cv, rfl, h1, _, h2⟩ := ho.form
  rw [rw4_length] at h1 ho ⊢
  exact ⟨Av, cv, rfl, h1, ho, h2, hB⟩
theorem get_fails_n {A : Option Addr} {c n : Nat} {L : List Int} {w : World} {k : Int} (hr : Rd w A L) (hL : L.length = n) (hc : n ≤ c) (hg : got L = .no k) :
    Calls Try.prog 10 #[.slice A n c] w fun e w' => e = .returned (.tuple #[.agg #[.int .u32 0, .int .u32 0, .int .u32 0, .int .u32 0, .slice none 0 0], .int .i64 k]) ∧ Below w.heap.size w w' := by
  subst hL
  exact get_fails A c L w hr hc hg
theorem is_yes_n {xid how low high : Int} {A B : Option Addr} {c d n k : Nat} {body L : List Int} {w : World} (hx : 0 ≤ xid ∧ xid < 4294967296) (hh : 0 ≤ how ∧ how < 4294967296) (hl : 0 ≤ low ∧ low < 4294967296) (hi : 0 ≤ high ∧ high < 4294967296)
    (hr : Rd w A body) (hk : body.length = k) (hc : k ≤ c) (h : putOK how low high k) (hrb : Rd w B L) (hLn : L.length = n) (hd : n ≤ d) (hL : putL xid how low high body = L) (hn : n ≤ 65536) :
    Calls Try.prog 13 #[.agg #[.int .u32 xid, .int .u32 how, .int .u32 low, .int .u32 high, .slice A k c], .slice B n d] w fun e w' => e = .returned (.bool true) ∧ Below w.heap.size w w' := by
  subst hk hLn
  exact is_yes xid how low high A B c d body L w hx hh hl hi hr hc h hrb hd hL hn
theorem u4_lit {l : List Int} (h : l.all (fun x => decide (0 ≤ x) && decide (x < 4294967296)) = true) : U4 l := fun x hx => by
  have := List.all_eq_true.1 h x hx
  simpa using this

theorem wpList_app_w {o : Oper} {a : Act} {ops : Array Oper} {rest : List Oper} {Q : Exit → Act → World → Prop} (hwt : Region.wanted o (yielded ops a.tmps) = true) (s x : Operand)
    (ho : o.op = .call { callee := .builtin .append, args := #[s, x], argTypes := #[24, 24] }) (ht : o.type = 24)
    (w : World) (base : Nat) (v : Value) (l : List Int) (hs : a.eval s = v) (hown : Own w base v l) (A : Option Addr) (c : Nat) (m : List Int) (hx : a.eval x = .slice A m.length c) (hr : Rd w A m)
    (hlen : l.length + m.length ≤ 140737488355328) (hbase : base ≤ w.heap.size)
    (h : ∀ v' w', Own w' base v' (l ++ m) → w.grownBy w' v.ownBlock → wpList Try.prog ops Q rest (a.put o.dst v') w') : wpList Try.prog ops Q (o :: rest) a w :=
  BigFrame.wpList_want hwt fun _ hK => wp_app s x ho ht w base v l hs hown A c m hx hr hlen hbase fun v' w' h2 h3 _ => hK _ _ (h v' w' h2 h3)
theorem Rd.lit97 (w : World) : Rd (w.alloc (.cells #[.int .u8 97] 5 (1, 2))) (some ⟨w.heap.size, 0, none⟩) [97] := by
  refine ⟨fun x hx => (by rw [List.mem_singleton] at hx; omega), fun _ => ⟨_, rfl, fun j hj => ?_⟩⟩
  rw [add_plain, cell_of_row _ _ _ #[.int .u8 97] 5 (1, 2) (by show (w.heap.push _)[w.heap.size]? = _; simp)]
  have hj0 : j < 1 := hj
  have : j = 0 := by omega
  subst this
  rfl

set_option maxRecDepth 100000 in
set_option maxHeartbeats 4000000 in
theorem alive_ (w : World) : Calls Try.prog 8 #[] w fun e w' => e = .returned (.bool true) ∧ Below w.heap.size w w' := by
  go_enter Try.func8, Try.ntmps8
  go_wp2_with fail
  refine (Put_bad 0 101 0 0 none 0 [] w (by decide) (by decide) (by decide) (by decide) (by decide) (by decide) (by decide) (by decide) (Rd.nil _ _) (by decide) (by decide) (by decide)).mono ?_
  rintro e w1 ⟨rfl, hB⟩
  go_upto_region 2 with fail
  have hA := (Below.refl w1.heap.size w1).alloc (Nat.le_refl _) (.cells #[.int .u32 1, .int .u32 1, .int .u32 1, .int .u32 1, .int .u32 5, .int .u32 0] 22)
  have HB := Lib.hid (below_then hB hA)
  have HR := Lib.hid (rowB (m := [1, 1, 1, 1, 5, 0]) (Blk.new w1 22 #[.int .u32 1, .int .u32 1, .int .u32 1, .int .u32 1, .int .u32 5, .int .u32 0]) (u4_lit (by decide)) rfl (Nat.le_refl _) (by decide))
  clear hB hA
  go_wp2_with fail
  refine HR.out.mono ?_
  rintro e w2 ⟨Av, cv, rfl, hcv, _, hrv, hx⟩
  have HB := Lib.hid (below_then HB.out hx)
  have HG := Lib.hid (get_fails_n (k := 5) hrv rfl hcv rfl)
  clear hx hrv HR
  go_wp2_with fail
  refine HG.out.mono ?_
  rintro e w3 ⟨rfl, hx⟩
  have HB := Lib.hid (below_then HB.out hx)
  have hz := Blk.new w3 26 #[.int .u32 0, .int .u32 0, .int .u32 0, .int .u32 0, .slice none 0 0]
  have z0 := hz.cell 0 (v := .int .u32 0) rfl
  have z1 := hz.cell 1 (v := .int .u32 0) rfl
  have z2 := hz.cell 2 (v := .int .u32 0) rfl
  have z3 := hz.cell 3 (v := .int .u32 0) rfl
  have z4 := hz.cell 4 (v := .slice none 0 0) rfl
  have y0 := hz.frozen 0
  have y1 := hz.frozen 1
  have y2 := hz.frozen 2
  have y3 := hz.frozen 3
  have y4 := hz.frozen 4
  have hB := HB.out.alloc HB.out.size (.cells #[.int .u32 0, .int .u32 0, .int .u32 0, .int .u32 0, .slice none 0 0] 26)
  clear hx HG HB hcv
  go_upto_region 3 with fail
  clear z0 z1 z2 z3 z4 y0 y1 y2 y3 y4 hz
  generalize w3.alloc (.cells #[.int .u32 0, .int .u32 0, .int .u32 0, .int .u32 0, .slice none 0 0] 26) = w1 at *
  go_upto_region 3 with fail
  have hA := (Below.refl w1.heap.size w1).alloc (Nat.le_refl _) (.cells #[.int .u32 1, .int .u32 1, .int .u32 1, .int .u32 1] 22)
  have HB := Lib.hid (below_then hB hA)
  have HR := Lib.hid (rowB (m := [1, 1, 1, 1]) (Blk.new w1 22 #[.int .u32 1, .int .u32 1, .int .u32 1, .int .u32 1]) (u4_lit (by decide)) rfl (Nat.le_refl _) (by decide))
  clear hB hA
  go_wp2_with fail
  refine HR.out.mono ?_
  rintro e w2 ⟨Av, cv, rfl, hcv, _, hrv, hx⟩
  have HB := Lib.hid (below_then HB.out hx)
  have HG := Lib.hid (get_fails_n (k := 4) hrv rfl hcv rfl)
  clear hx hrv HR
  go_wp2_with fail
  refine HG.out.mono ?_
  rintro e w3 ⟨rfl, hx⟩
  have HB := Lib.hid (below_then HB.out hx)
  have hz := Blk.new w3 26 #[.int .u32 0, .int .u32 0, .int .u32 0, .int .u32 0, .slice none 0 0]
  have z0 := hz.cell 0 (v := .int .u32 0) rfl
  have z1 := hz.cell 1 (v := .int .u32 0) rfl
  have z2 := hz.cell 2 (v := .int .u32 0) rfl
  have z3 := hz.cell 3 (v := .int .u32 0) rfl
  have z4 := hz.cell 4 (v := .slice none 0 0) rfl
  have y0 := hz.frozen 0
  have y1 := hz.frozen 1
  have y2 := hz.frozen 2
  have y3 := hz.frozen 3
  have y4 := hz.frozen 4
  have hB := HB.out.alloc HB.out.size (.cells #[.int .u32 0, .int .u32 0, .int .u32 0, .int .u32 0, .slice none 0 0] 26)
  clear hx HG HB hcv
  go_upto_region 4 with fail
  clear z0 z1 z2 z3 z4 y0 y1 y2 y3 y4 hz
  generalize w3.alloc (.cells #[.int .u32 0, .int .u32 0, .int .u32 0, .int .u32 0, .slice none 0 0] 26) = w1 at *
  go_upto_region 4 with fail
  have hA := (Below.refl w1.heap.size w1).alloc (Nat.le_refl _) (.cells #[.int .u32 1, .int .u32 0] 22)
  have HB := Lib.hid (below_then hB hA)
  have HR := Lib.hid (rowB (m := [1, 0]) (Blk.new w1 22 #[.int .u32 1, .int .u32 0]) (u4_lit (by decide)) rfl (Nat.le_refl _) (by decide))
  clear hB hA
  go_wp2_with fail
  refine HR.out.mono ?_
  rintro e w2 ⟨Av, cv, rfl, hcv, _, hrv, hx⟩
  have HB := Lib.hid (below_then HB.out hx)
  have HG := Lib.hid (get_fails_n (k := 5) hrv rfl hcv rfl)
  clear hx hrv HR
  go_wp2_with fail
  refine HG.out.mono ?_
  rintro e w3 ⟨rfl, hx⟩
  have HB := Lib.hid (below_then HB.out hx)
  have hz := Blk.new w3 26 #[.int .u32 0, .int .u32 0, .int .u32 0, .int .u32 0, .slice none 0 0]
  have z0 := hz.cell 0 (v := .int .u32 0) rfl
  have z1 := hz.cell 1 (v := .int .u32 0) rfl
  have z2 := hz.cell 2 (v := .int .u32 0) rfl
  have z3 := hz.cell 3 (v := .int .u32 0) rfl
  have z4 := hz.cell 4 (v := .slice none 0 0) rfl
  have y0 := hz.frozen 0
  have y1 := hz.frozen 1
  have y2 := hz.frozen 2
  have y3 := hz.frozen 3
  have y4 := hz.frozen 4
  have hB := HB.out.alloc HB.out.size (.cells #[.int .u32 0, .int .u32 0, .int .u32 0, .int .u32 0, .slice none 0 0] 26)
  clear hx HG HB hcv
  go_upto_region 5 with fail
  clear z0 z1 z2 z3 z4 y0 y1 y2 y3 y4 hz
  generalize w3.alloc (.cells #[.int .u32 0, .int .u32 0, .int .u32 0, .int .u32 0, .slice none 0 0] 26) = w1 at *
  have kc := fun (w : World) (C : Array Value) (n c : Nat) => Lib.run_convert_bytes_const (P := Try.prog) w 24 5 C n c Try.underlying24 Try.underlying5
  have h7 := (Below.refl w1.heap.size w1).alloc (Nat.le_refl _) (.cells #[.int .u8 97] 5 (1, 2))
  have h8 := h7.alloc h7.size (.cells #[.int .u32 1, .int .u32 1, .int .u32 0, .int .u32 0, .int .u32 0, .int .u32 0] 22)
  have ra := (Rd.lit97 w1).below ((Below.refl _ (w1.alloc (.cells #[.int .u8 97] 5 (1, 2)))).alloc (Nat.le_refl _) (.cells #[.int .u32 1, .int .u32 1, .int .u32 0, .int .u32 0, .int .u32 0, .int .u32 0] 22))
  have HB := Lib.hid (below_then hB h8)
  have HRA := Lib.hid ra
  have HB8 := HB
  have HR := Lib.hid (rowB (m := [1, 1, 0, 0, 0, 0]) (n := 6) (c := 6) (Blk.new (w1.alloc (.cells #[.int .u8 97] 5 (1, 2))) 22 #[.int .u32 1, .int .u32 1, .int .u32 0, .int .u32 0, .int .u32 0, .int .u32 0]) (u4_lit (by decide)) rfl (Nat.le_refl _) (by decide))
  rw [World.size_alloc] at HR
  clear hB h7 h8 ra
  go_wp2_with fail
  refine HR.out.mono ?_
  rintro e w2 ⟨Av, cv, rfl, hcv, hov, hrv, hx⟩
  have HB := Lib.hid (below_then HB.out hx)
  have ho9 := (hov.lower (base' := w1.heap.size) (by simp; omega)).alloc (.cells #[.int .u8 97] 5)
  have hr9 := Rd.lit w2 [97] (fun x hx => by rw [List.mem_singleton] at hx; omega)
  have hb9 : w1.heap.size ≤ (w2.alloc (.cells #[.int .u8 97] 5)).heap.size := by have := hx.size; simp at this ⊢; omega
  have hx9 := hx.alloc hx.size (.cells #[.int .u8 97] 5)
  have HX := Lib.hid (And.intro hx9 hov.base)
  clear HR kc hx hx9 hov
  go_wp2_with (at_builtin; refine wpList_app_w (by rfl) _ _ rfl rfl _ w1.heap.size _ _ (by rfl) ho9 (some ⟨w2.heap.size, 0, none⟩) 1 [97] (by rfl) hr9 (by rw [rw4_length]; decide) hb9 ?h2)
  case h2 =>
    intro v3 w3 ho3 hg3
    obtain ⟨A3, c3, rfl, hc3, _, hr3⟩ := ho3.form
    have h83 := HX.out.1.grown hg3 HX.out.1.size HX.out.2
    have ra3 := HRA.out.below h83
    have HB := Lib.hid ((HB.out.alloc HB.out.size (.cells #[.int .u8 97] 5)).grown hg3 (Nat.le_trans HB.out.size (by simp)) (fun k hk => Nat.le_trans HB8.out.size (HX.out.2 k hk)))
    have hl25 : (rw4 [1, 1, 0, 0, 0, 0] ++ [97]).length = 25 := rfl
    rw [hl25] at hc3 ⊢
    have HI := Lib.hid (is_yes_n (xid := 1) (how := 0) (low := 0) (high := 0) (c := 1) (k := 1) (n := 25) (by decide) (by decide) (by decide) (by decide) ra3 rfl (Nat.le_refl _) (by decide) hr3 rfl hc3 rfl (by decide))
    clear h83 ra3 hl25 hg3 ho3 hr3 ho9 hr9 hb9 HRA HX HB8
    go_wp2_with fail
    refine HI.out.mono ?_
    rintro e w4 ⟨rfl, hx⟩
    have HB := Lib.hid (below_then HB.out hx)
    clear hx HI hc3
    have hA := (Below.refl w4.heap.size w4).alloc (Nat.le_refl _) (.cells #[.int .u32 1, .int .u32 1, .int .u32 0, .int .u32 0, .int .u32 0, .int .u32 2, .int .u32 3, .int .u32 3] 22)
    have HB := Lib.hid (below_then HB.out hA)
    have HR := Lib.hid (rowB (m := [1, 1, 0, 0, 0, 2, 3, 3]) (n := 8) (c := 8) (Blk.new w4 22 #[.int .u32 1, .int .u32 1, .int .u32 0, .int .u32 0, .int .u32 0, .int .u32 2, .int .u32 3, .int .u32 3]) (u4_lit (by decide)) rfl (Nat.le_refl _) (by decide))
    clear hA
    go_wp2_with fail
    refine HR.out.mono ?_
    rintro e w5 ⟨Av, cv, rfl, hcv, _, hrv, hx⟩
    have HB := Lib.hid (below_then HB.out hx)
    have HI := Lib.hid (is_yes_n (xid := 1) (how := 2) (low := 3) (high := 3) (A := none) (c := 0) (k := 0) (n := 32) (body := []) (w := w5) (by decide) (by decide) (by decide) (by decide) (Rd.nil _ _) rfl (Nat.le_refl _) (by decide) hrv rfl hcv rfl (by decide))
    clear hx hrv HR
    go_wp2_with fail
    refine HI.out.mono ?_
    rintro e w6 ⟨rfl, hx⟩
    have HB := Lib.hid (below_then HB.out hx)
    clear hx HI hcv
    have hA := (Below.refl w6.heap.size w6).alloc (Nat.le_refl _) (.cells #[.int .u32 1, .int .u32 1, .int .u32 1, .int .u32 1, .int .u32 5] 22)
    have HB := Lib.hid (below_then HB.out hA)
    have HR := Lib.hid (rowB (m := [1, 1, 1, 1, 5]) (n := 5) (c := 5) (Blk.new w6 22 #[.int .u32 1, .int .u32 1, .int .u32 1, .int .u32 1, .int .u32 5]) (u4_lit (by decide)) rfl (Nat.le_refl _) (by decide))
    clear hA
    go_wp2_with fail
    refine HR.out.mono ?_
    rintro e w7 ⟨Av, cv, rfl, hcv, _, hrv, hx⟩
    have HB := Lib.hid (below_then HB.out hx)
    have HI := Lib.hid (is_yes_n (xid := 1) (how := 101) (low := 5) (high := 0) (A := none) (c := 0) (k := 0) (n := 20) (body := []) (w := w7) (by decide) (by decide) (by decide) (by decide) (Rd.nil _ _) rfl (Nat.le_refl _) (by decide) hrv rfl hcv rfl (by decide))
    clear hx hrv HR
    go_wp2_with fail
    refine HI.out.mono ?_
    rintro e w8 ⟨rfl, hx⟩
    have HB := Lib.hid (below_then HB.out hx)
    clear hx HI hcv
    go_wp2_with fail
    go_ret
    exact ⟨rfl, HB.out⟩
end Go.Proofs.Ytikkcoidepfgmaa.Hand
