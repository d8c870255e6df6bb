/- What the reference of chapter 07 hands back for Get. -/
import Derived.Deep.DeepCutAuto
import Derived.Test.YtoodmjdafifbmaaDoorRef
import Derived.Test.YtoodmjdafifbmaaDoorRefTell
namespace Go.Proofs.YtoodmjdafifbmaaDoor.Hand
open Go.RowKit
set_option linter.unusedVariables false
set_option linter.unusedSimpArgs false

/-- Ahead of a round: so many numbers have been read. -/
structure RInv (w : World) (L : List Int) (gk : Nat) (l : List Int) (lv : Value) (wr : World) : Prop where
  own : OwnN wr w.heap.size lv l
  pre : Pre l
  below : Below w.heap.size w wr
  len : 4 * l.length ≤ L.length
  left : L.length - 4 * l.length < gk
  run : runG gk l (L.drop (4 * l.length)) = runG (L.length + 1) [] L
  box : Blk wr w.heap.size 26 #[.int .u32 0, .int .u32 0, .int .u32 0, .int .u32 0, .slice none 0 0]
theorem GetR.no {base : Nat} {r : RR} {k : Int} {e : Ending} {w' : World} (h : r = .no k) (he : e = .returned (.tuple #[repZ, .int .i64 k])) : GetR base r e w' := by
  subst h; exact he
theorem GetR.ok {base : Nat} {r : RR} {x h lo hi : Int} {body : List Int} {v : Value} {e : Ending} {w' : World} (hr : r = .ok x h lo hi body) (he : e = .returned (.tuple #[.agg #[.int .u32 x, .int .u32 h, .int .u32 lo, .int .u32 hi, v], .int .i64 0])) (ho : Own w' base v body) : GetR base r e w' := by
  subst hr; exact ⟨v, he, ho⟩
theorem got_of_no {L : List Int} {k : Int} (hn : L.length ≤ 65536) (h : runG (L.length + 1) [] L = .no k) : got L = .no k := by unfold got; rw [if_pos hn, h]
theorem got_of_ok {L : List Int} {how : Int} {l : List Int} (hn : L.length ≤ 65536) (h : runG (L.length + 1) [] L = .ok how l) : got L = if how ≠ 0 ∧ 0 < (L.drop (4 * l.length)).length then .no 5 else .ok (nth l 0) how (lowOf how l) (highOf how l) (L.drop (4 * l.length)) := by unfold got; rw [if_pos hn, h]
theorem step_none {l : List Int} (h : Pre l) : doneKey l = none := by cases h <;> rfl
theorem runG_bad {f : Nat} {l r : List Int} (hd : doneKey l = none) (hr : ¬ r.length < 4) (h : (l.length = 1 ∧ num r 4 ≠ 1) ∨ badEnd l (num r 4)) : runG (f + 1) l r = .no 5 := by
  by_cases h2 : l.length = 1 ∧ num r 4 ≠ 1
  · exact runG_two hd hr h2
  · rcases h with h | h
    · exact absurd h h2
    · exact runG_none hd hr h2 h

set_option maxRecDepth 100000 in
set_option maxHeartbeats 4000000 in
theorem ref_get (A : Option Addr) (c : Nat) (L : List Int) (w : World) (hr : Rd w A L) (hc : L.length ≤ c) (hsz : L.length ≤ 1048576) :
    Calls Tryd.prog 27 #[.slice A L.length c] w fun e w' => GetR w.heap.size (got L) e w' ∧ Below w.heap.size w w' := by
  have hB0 := (Below.refl w.heap.size w).alloc (Nat.le_refl _) (.cells #[.int .u32 0, .int .u32 0, .int .u32 0, .int .u32 0, .slice none 0 0] 26)
  have hb2 := Blk.new w 26 #[.int .u32 0, .int .u32 0, .int .u32 0, .int .u32 0, .slice none 0 0]
  have hinv : RInv w L (L.length + 1) [] (.slice none 0 0) (w.alloc (.cells #[.int .u32 0, .int .u32 0, .int .u32 0, .int .u32 0, .slice none 0 0] 26)) := ⟨OwnN.nil _ _, .p0, hB0, by simp, by simp, by simp, hb2⟩
  have z0 := hb2.cell 0 (v := .int .u32 0) rfl
  have z1 := hb2.cell 1 (v := .int .u32 0) rfl
  have z2 := hb2.cell 2 (v := .int .u32 0) rfl
  have z3 := hb2.cell 3 (v := .int .u32 0) rfl
  have z4 := hb2.cell 4 (v := .slice none 0 0) rfl
  have y0 := hb2.frozen 0
  have y1 := hb2.frozen 1
  have y2 := hb2.frozen 2
  have y3 := hb2.frozen 3
  have y4 := hb2.frozen 4
  by_cases hn : L.length ≤ 65536
  · have hlim : ¬ 65536 < (L.length : Int) := by omega
    have HIN := Lib.hid hinv
    clear hinv hB0 hb2
    go_enter Tryd.func27, Tryd.ntmps27
    go_wp2_with fail
    go_loopg [4] (L.length + 1) (fun gk lv wr => ∃ l, RInv w L gk l lv wr)
    case atStart => exact ⟨[], HIN.out⟩
    case round =>
      obtain ⟨l, hI⟩ := hrel
      obtain ⟨f, rfl⟩ : ∃ f, gk = f + 1 := ⟨gk - 1, by have := hI.left; omega⟩
      obtain ⟨A3, c3, rfl, hc3, _, hr3⟩ := hI.own.form
      have hrun := hI.run
      have hlen := hI.len
      have hrw := hr.below hI.below
      obtain ⟨ll, hll⟩ : ∃ ll, ll = l.length := ⟨_, rfl⟩
      rw [← hll] at hlen hc3 ⊢
      have HL := Lib.hid hll
      have HI := Lib.hid hI
      have HR := Lib.hid hrun
      clear hI hrun hll HIN z0 z1 z2 z3 z4 y0 y1 y2 y3 y4
      have hq : (L.drop (4 * ll)).length = L.length - 4 * ll := List.length_drop
      have hq' : (L.drop (4 * ll)).length ≤ c - 4 * ll := by omega
      go_upto_region 4 with fail
      go_cut [5, 6] (fun x e wx => x = .int .u32 (get32F (L.drop (4 * ll))).1 ∧ e = .int .i64 (get32F (L.drop (4 * ll))).2 ∧ wx = wr)
      case first =>
        have hdr := hrw.drop (4 * ll) c hc
        have g4 := fun wx h => rget32 (if c = 4 * ll then A else A.map (·.add (4 * ll))) (c - 4 * ll) (L.drop (4 * ll)) wx h
        rw [hq] at g4
        clear hq hq'
        by_cases hcz : c = 4 * ll
        · rw [if_pos hcz] at hdr
          rw [if_pos hcz] at g4
          have hz' : L.length - 4 * ll = 0 := by omega
          have hz'' : c - 4 * ll = 0 := by omega
          rw [hz', hz''] at g4
          subst hcz
          go_wp2_with fail
          refine (g4 _ hdr).mono ?_
          rintro e w2 ⟨rfl, rfl⟩
          go_wp2_with fail
          go_meet
          exact ⟨rfl, rfl, rfl⟩
        · rw [if_neg hcz] at hdr
          rw [if_neg hcz] at g4
          go_wp2_with fail
          refine (g4 _ hdr).mono ?_
          rintro e w2 ⟨rfl, rfl⟩
          go_wp2_with fail
          go_meet
          exact ⟨rfl, rfl, rfl⟩
      case rest =>
        obtain ⟨rfl, rfl, rfl⟩ := hcut
        have hbx := HI.out.box
        have z0 := hbx.cell 0 (v := .int .u32 0) rfl
        have z1 := hbx.cell 1 (v := .int .u32 0) rfl
        have z2 := hbx.cell 2 (v := .int .u32 0) rfl
        have z3 := hbx.cell 3 (v := .int .u32 0) rfl
        have z4 := hbx.cell 4 (v := .slice none 0 0) rfl
        have y0 := hbx.frozen 0
        have y1 := hbx.frozen 1
        have y2 := hbx.frozen 2
        have y3 := hbx.frozen 3
        have y4 := hbx.frozen 4
        clear hrw hr3
        by_cases hsh : L.length - 4 * ll < 4
        · rw [get32_short (by rw [hq]; exact hsh)]
          have HE := Lib.hid (got_of_no hn (HR.out.symm.trans (runG_short (step_none HI.out.pre) (by rw [← HL.out, hq]; exact hsh))))
          go_wp2_with fail
          have hfin := ((((hbx.set_ 0 (.int .u32 0)).set_ 1 (.int .u32 0)).set_ 2 (.int .u32 0)).set_ 3 (.int .u32 0)).set_ 4 (.slice none 0 0)
          have q0f := hfin.cell 0 (v := .int .u32 0) rfl
          have q1f := hfin.cell 1 (v := .int .u32 0) rfl
          have q2f := hfin.cell 2 (v := .int .u32 0) rfl
          have q3f := hfin.cell 3 (v := .int .u32 0) rfl
          have q4f := hfin.cell 4 (v := .slice none 0 0) rfl
          have hBf := (((((HI.out.below.setCell (p := ⟨w.heap.size, 0, none⟩) (Nat.le_refl _) (.int .u32 0)).setCell (p := ⟨w.heap.size, 1, none⟩) (Nat.le_refl _) (.int .u32 0)).setCell (p := ⟨w.heap.size, 2, none⟩) (Nat.le_refl _) (.int .u32 0)).setCell (p := ⟨w.heap.size, 3, none⟩) (Nat.le_refl _) (.int .u32 0)).setCell (p := ⟨w.heap.size, 4, none⟩) (Nat.le_refl _) (.slice none 0 0))
          exact bodyPost_ret (v := .tuple #[repZ, .int .i64 4]) (by simp [results, Tryd.f27, go_sem, q0f, q1f, q2f, q3f, q4f, repZ]) rfl ⟨GetR.no HE.out rfl, hBf⟩
        · rw [get32_ok (by rw [hq]; omega)]
          have hnb := num4 (hr.drop (4 * ll) c hc).1
          obtain ⟨n, hnn⟩ : ∃ n, n = num (L.drop (4 * ll)) 4 := ⟨_, rfl⟩
          rw [← hnn] at hnb ⊢
          have HN := Lib.hid hnn
          have HS := Lib.hid hsh
          have HQ := Lib.hid hq
          clear hnn hsh hq z0 z1 z2 z3 z4 y0 y1 y2 y3 y4
          have ho : OwnN (wc.alloc (.cells #[.int .u32 n] 22)) w.heap.size (.slice A3 ll c3) l := by
            rw [HL.out]
            exact HI.out.own.below ((Below.refl _ wc).alloc (Nat.le_refl _) _)
          have hs : RdN (wc.alloc (.cells #[.int .u32 n] 22)) (some ⟨wc.heap.size, 0, none⟩) [n] := RdN.of_blk (l := [n]) (fun x hx => by
            obtain rfl : x = n := by simpa using hx
            exact hnb) (Blk.new wc 22 #[.int .u32 n])
          have hall : l.length + [n].length ≤ 35184372088832 := by
            rw [← HL.out]; simp; omega
          have hbase : w.heap.size ≤ (wc.alloc (.cells #[.int .u32 n] 22)).heap.size := by
            have := HI.out.below.size
            simp
            omega
          have HAL := Lib.hid ((Below.refl wc.heap.size wc).alloc (Nat.le_refl _) (.cells #[.int .u32 n] 22))
          have HBX := Lib.hid (hbx.alloc (.cells #[.int .u32 n] 22))
          have HNB := Lib.hid hnb
          clear hbx
          go_upto_region 7 with fail
          go_wp2_with (at_builtin; refine wpList_appN rfl _ _ rfl rfl _ w.heap.size _ l (by rfl) ho (some ⟨wc.heap.size, 0, none⟩) 1 [n] (by rfl) hs hall hbase ?h2)
          case h2 =>
            intro v5 w5 ho5 hg5 _
            have HB5 := Lib.hid ((below_then HI.out.below HAL.out).grown hg5 (below_then HI.out.below HAL.out).size ho.base)
            have HX5 := Lib.hid (HBX.out.grown hg5 (ho.not_blk HBX.out (by decide)))
            have HO5 := Lib.hid ho5
            obtain ⟨A5, c5, rfl, hc5, _, hr5⟩ := ho5.form
            obtain ⟨h, lo, hi, mo, ok, hT, hdn, hcase⟩ := step_any HI.out.pre n HNB.out
            have hl5 : (l ++ [n]).length = ll + 1 := by rw [HL.out]; simp
            obtain ⟨ad5, rfl, _⟩ := hr5.2 (by rw [hl5]; omega)
            have HT := Lib.hid (hT ad5 c5 w5 hr5 hc5)
            obtain ⟨x, hxe⟩ : ∃ x, x = nth (l ++ [n]) 0 := ⟨_, rfl⟩
            rw [← hxe, hl5] at HT
            rw [hl5]
            have HXE := Lib.hid hxe
            have HL5 := Lib.hid hl5
            have HD := Lib.hid hdn
            have HC := Lib.hid hcase
            clear ho hs hall hbase hg5 ho5 HAL HBX hr5 hT hdn hcase hxe hl5 hc5
            go_upto_region 8 with fail
            go_wp2_with fail
            refine HT.out.mono ?_
            rintro e w6 ⟨rfl, hx6⟩
            have HB6 := Lib.hid (below_then HB5.out hx6)
            have hbx := HX5.out.below hx6
            have HO6 := Lib.hid (HO5.out.below hx6)
            have hz := Blk.new w6 26 #[.int .u32 0, .int .u32 0, .int .u32 0, .int .u32 0, .slice none 0 0]
            have a0 := hz.cell 0 (v := .int .u32 0) rfl
            have a1 := hz.cell 1 (v := .int .u32 0) rfl
            have a2 := hz.cell 2 (v := .int .u32 0) rfl
            have a3 := hz.cell 3 (v := .int .u32 0) rfl
            have a4 := hz.cell 4 (v := .slice none 0 0) rfl
            have b0 := hz.frozen 0
            have b1 := hz.frozen 1
            have b2 := hz.frozen 2
            have b3 := hz.frozen 3
            have b4 := hz.frozen 4
            have hal := (Below.refl w6.heap.size w6).alloc (Nat.le_refl _) (.cells #[.int .u32 x, .int .u32 h, .int .u32 lo, .int .u32 hi, .slice none 0 0] 26)
            have hrb := Blk.new w6 26 #[.int .u32 x, .int .u32 h, .int .u32 lo, .int .u32 hi, .slice none 0 0]
            have hlt6 : w.heap.size < w6.heap.size := hbx.lt
            obtain ⟨pr, hpr⟩ : ∃ pr, pr = w6.heap.size := ⟨_, rfl⟩
            rw [← hpr] at hrb hlt6
            have HB7 := Lib.hid (below_then HB6.out hal)
            have hbx := hbx.below hal
            have HO7 := Lib.hid (HO6.out.below hal)
            clear hx6 HT hal
            go_upto_region 9 with fail
            clear a0 a1 a2 a3 a4 b0 b1 b2 b3 b4 hz
            rw [← hpr]
            generalize w6.alloc (.cells #[.int .u32 x, .int .u32 h, .int .u32 lo, .int .u32 hi, .slice none 0 0] 26) = w7 at *
            clear hpr
            have z0 := hbx.cell 0 (v := .int .u32 0) rfl
            have z1 := hbx.cell 1 (v := .int .u32 0) rfl
            have z2 := hbx.cell 2 (v := .int .u32 0) rfl
            have z3 := hbx.cell 3 (v := .int .u32 0) rfl
            have z4 := hbx.cell 4 (v := .slice none 0 0) rfl
            have y0 := hbx.frozen 0
            have y1 := hbx.frozen 1
            have y2 := hbx.frozen 2
            have y3 := hbx.frozen 3
            have y4 := hbx.frozen 4
            have hnum : num (L.drop (4 * l.length)) 4 = n := by rw [← HL.out, HN.out]
            have hrs : ¬ (L.drop (4 * l.length)).length < 4 := by rw [← HL.out, HQ.out]; exact HS.out
            rcases HC.out with ⟨rfl, hbad⟩ | ⟨rfl, rfl, hg1, hg2, hpre⟩ | ⟨rfl, rfl, hg1, hg2, hdk, hlo, hhi⟩
            · have HE := Lib.hid (got_of_no hn (HR.out.symm.trans (runG_bad HD.out hrs (by rw [hnum]; exact hbad))))
              clear hbad hnum hrs
              go_wp2_with fail
              have hfin := ((((hbx.set_ 0 (.int .u32 0)).set_ 1 (.int .u32 0)).set_ 2 (.int .u32 0)).set_ 3 (.int .u32 0)).set_ 4 (.slice none 0 0)
              have q0f := hfin.cell 0 (v := .int .u32 0) rfl
              have q1f := hfin.cell 1 (v := .int .u32 0) rfl
              have q2f := hfin.cell 2 (v := .int .u32 0) rfl
              have q3f := hfin.cell 3 (v := .int .u32 0) rfl
              have q4f := hfin.cell 4 (v := .slice none 0 0) rfl
              have hBf := (((((HB7.out.setCell (p := ⟨w.heap.size, 0, none⟩) (Nat.le_refl _) (.int .u32 0)).setCell (p := ⟨w.heap.size, 1, none⟩) (Nat.le_refl _) (.int .u32 0)).setCell (p := ⟨w.heap.size, 2, none⟩) (Nat.le_refl _) (.int .u32 0)).setCell (p := ⟨w.heap.size, 3, none⟩) (Nat.le_refl _) (.int .u32 0)).setCell (p := ⟨w.heap.size, 4, none⟩) (Nat.le_refl _) (.slice none 0 0))
              exact bodyPost_ret (v := .tuple #[repZ, .int .i64 5]) (by simp [results, Tryd.f27, go_sem, q0f, q1f, q2f, q3f, q4f, repZ]) rfl ⟨GetR.no HE.out rfl, hBf⟩
            · have hgo := HR.out.symm.trans (runG_on HD.out hrs (by rw [hnum]; exact hg1) (by rw [hnum]; exact hg2))
              rw [hnum, List.drop_drop] at hgo
              have HGO := Lib.hid hgo
              have HP := Lib.hid hpre
              clear hg1 hg2 hpre hgo hnum hrs
              go_wp2_with fail
              go_roundg f
              case measure => exact Nat.lt_succ_self f
              case rel =>
                have h4 := HS.out
                have hleft := HI.out.left
                rw [← HL.out] at hleft
                have hll5 : (l ++ [n]).length = ll + 1 := HL5.out
                exact ⟨l ++ [n], by rw [← hll5]; exact hll5 ▸ HO7.out, HP.out, HB7.out, by rw [hll5]; omega, by rw [hll5]; omega, by rw [hll5, Nat.mul_add, HL.out]; exact HGO.out.symm, hbx⟩
            · have hgo := HR.out.symm.trans (runG_on HD.out hrs (by rw [hnum]; exact hg1) (by rw [hnum]; exact hg2))
              rw [hnum, List.drop_drop] at hgo
              have hleft := HI.out.left
              rw [← HL.out] at hleft
              obtain ⟨f', hf'⟩ : ∃ g, f = g + 1 := ⟨f - 1, by have := HS.out; omega⟩
              rw [hf', runG_done hdk] at hgo
              have hgot := got_of_ok hn hgo
              rw [hlo, hhi, ← HXE.out, HL5.out] at hgot
              have HGT := Lib.hid hgot
              clear hg1 hg2 hdk hlo hhi hgo hgot hnum hrs hf' hleft
              have r1 := hrb.cell 1 (v := .int .u32 h) rfl
              have hl5 : 4 * (ll + 1) ≤ L.length := by have := HS.out; omega
              have hq5 : (L.drop (4 * (ll + 1))).length = L.length - 4 * (ll + 1) := List.length_drop
              have hrw7 := hr.below HB7.out
              have hdr := hrw7.drop (4 * (ll + 1)) c hc
              obtain ⟨body, hbo⟩ : ∃ body, body = L.drop (4 * (ll + 1)) := ⟨_, rfl⟩
              rw [← hbo] at hdr hq5 HGT
              have HQ5 := Lib.hid hq5
              have HBO := Lib.hid hbo
              clear hbo hrw7
              go_upto_region 12 with fail
              go_cut [10] (fun t wx => ∃ RA RC, t = .slice RA body.length RC ∧ Rd wx RA body ∧ wx = w7)
              case first =>
                by_cases hcz : c = 4 * (ll + 1)
                · rw [if_pos hcz] at hdr
                  have hz' : L.length - 4 * (ll + 1) = 0 := by omega
                  have HBL := Lib.hid (show body.length = 0 by rw [hq5, hz'])
                  clear hq5
                  subst hcz
                  go_wp2_with fail
                  go_meet
                  exact ⟨A, 0, by rw [HBL.out], hdr, rfl⟩
                · rw [if_neg hcz] at hdr
                  clear hq5
                  go_wp2_with fail
                  go_meet
                  exact ⟨_, _, by rw [HQ5.out], hdr, rfl⟩
              case rest =>
                obtain ⟨RA, RC, rfl, hrb7, rfl⟩ := hcut
                clear hdr hq5
                by_cases hb5 : h ≠ 0 ∧ 0 < body.length
                · have HE := Lib.hid (show got L = .no 5 by rw [HGT.out, if_pos hb5])
                  have q0 : (h != 0) = true := by simp [hb5.1]
                  have q1 := hb5.2
                  clear hb5
                  go_wp2_with fail
                  have hfin := ((((hbx.set_ 0 (.int .u32 0)).set_ 1 (.int .u32 0)).set_ 2 (.int .u32 0)).set_ 3 (.int .u32 0)).set_ 4 (.slice none 0 0)
                  have q0f := hfin.cell 0 (v := .int .u32 0) rfl
                  have q1f := hfin.cell 1 (v := .int .u32 0) rfl
                  have q2f := hfin.cell 2 (v := .int .u32 0) rfl
                  have q3f := hfin.cell 3 (v := .int .u32 0) rfl
                  have q4f := hfin.cell 4 (v := .slice none 0 0) rfl
                  have hBf := (((((HB7.out.setCell (p := ⟨w.heap.size, 0, none⟩) (Nat.le_refl _) (.int .u32 0)).setCell (p := ⟨w.heap.size, 1, none⟩) (Nat.le_refl _) (.int .u32 0)).setCell (p := ⟨w.heap.size, 2, none⟩) (Nat.le_refl _) (.int .u32 0)).setCell (p := ⟨w.heap.size, 3, none⟩) (Nat.le_refl _) (.int .u32 0)).setCell (p := ⟨w.heap.size, 4, none⟩) (Nat.le_refl _) (.slice none 0 0))
                  exact bodyPost_ret (v := .tuple #[repZ, .int .i64 5]) (by simp [results, Tryd.f27, go_sem, q0f, q1f, q2f, q3f, q4f, repZ]) rfl ⟨GetR.no HE.out rfl, hBf⟩
                · have HE := Lib.hid (show got L = .ok x h lo hi body by rw [HGT.out, if_neg hb5])
                  go_upto_region 13 with fail
                  go_cut [54] (fun t wx => t = .bool false ∧ wx = wc)
                  case first =>
                    by_cases h0 : h = 0
                    · have q0 : (h != 0) = false := by simp [h0]
                      clear hb5 h0
                      go_wp2_with fail
                      go_meet
                      exact ⟨rfl, rfl⟩
                    · have q0 : (h != 0) = true := by simp [h0]
                      have q1 : ¬ 0 < body.length := fun hh => hb5 ⟨h0, hh⟩
                      clear hb5 h0
                      go_wp2_with fail
                      go_meet
                      exact ⟨rfl, rfl⟩
                  case rest =>
                    obtain ⟨rfl, rfl⟩ := hcut
                    have r4 := hrb.cell 4 (v := .slice none 0 0) rfl
                    have hbb : w.heap.size ≤ wc.heap.size := HB7.out.size
                    have hbl : ([] : List Int).length + body.length ≤ 140737488355328 := by have := HQ5.out; simp; omega
                    clear hb5 z0 z1 z2 z3 z4 y0 y1 y2 y3 y4 r1
                    go_wp2_with (at_builtin; refine wpList_app rfl _ _ rfl rfl _ w.heap.size _ _ (by rfl) (Own.nil _ _) RA RC body (by rfl) hrb7 hbl hbb ?h9)
                    case h9 =>
                      intro v9 w9 o9 hg9 _
                      have hB9 := (Own.nil wc w.heap.size).grown HB7.out hbb hg9
                      have hrb9 := hrb.grown hg9 (by simp [Value.ownBlock])
                      have hbx9 := hbx.grown hg9 (by simp [Value.ownBlock])
                      have o9 : Own w9 w.heap.size v9 body := by simpa using o9
                      obtain ⟨A9, c9, rfl, _, _, _⟩ := o9.form
                      have hno := o9.blk_ne hrb9 (by decide)
                      have hno2 := o9.blk_ne hbx9 (by decide)
                      have r4 := hrb9.cell 4 (v := .slice none 0 0) rfl
                      have g4 := hrb9.frozen 4
                      clear hg9 hrb hbx hrb7
                      go_upto_region 16 with fail
                      have hrb9 := hrb9.set_ 4 (.slice A9 body.length c9)
                      have hbx9 := hbx9.far (p := ⟨pr, 4, none⟩) (Nat.ne_of_lt hlt6) (.slice A9 body.length c9)
                      have hB9 := hB9.setCell (p := ⟨pr, 4, none⟩) (Nat.le_of_lt hlt6) (.slice A9 body.length c9)
                      have o9 := o9.setAny pr 4 (.slice A9 body.length c9) hno
                      clear r4 g4
                      generalize w9.setCell ⟨pr, 4, none⟩ (.slice A9 body.length c9) = wa at *
                      have q0 := hrb9.cell 0 (v := .int .u32 x) rfl
                      have q1 := hrb9.cell 1 (v := .int .u32 h) rfl
                      have q2 := hrb9.cell 2 (v := .int .u32 lo) rfl
                      have q3 := hrb9.cell 3 (v := .int .u32 hi) rfl
                      have q4 := hrb9.cell 4 (v := .slice A9 body.length c9) rfl
                      have z0 := hbx9.cell 0 (v := .int .u32 0) rfl
                      have z1 := hbx9.cell 1 (v := .int .u32 0) rfl
                      have z2 := hbx9.cell 2 (v := .int .u32 0) rfl
                      have z3 := hbx9.cell 3 (v := .int .u32 0) rfl
                      have z4 := hbx9.cell 4 (v := .slice none 0 0) rfl
                      have y0 := hbx9.frozen 0
                      have y1 := hbx9.frozen 1
                      have y2 := hbx9.frozen 2
                      have y3 := hbx9.frozen 3
                      have y4 := hbx9.frozen 4
                      go_wp2_with fail
                      have hfin := ((((hbx9.set_ 0 (.int .u32 x)).set_ 1 (.int .u32 h)).set_ 2 (.int .u32 lo)).set_ 3 (.int .u32 hi)).set_ 4 (.slice A9 body.length c9)
                      have e0 := hfin.cell 0 (v := .int .u32 x) rfl
                      have e1 := hfin.cell 1 (v := .int .u32 h) rfl
                      have e2 := hfin.cell 2 (v := .int .u32 lo) rfl
                      have e3 := hfin.cell 3 (v := .int .u32 hi) rfl
                      have e4 := hfin.cell 4 (v := .slice A9 body.length c9) rfl
                      have hBf := ((((hB9.setCell (p := ⟨w.heap.size, 0, none⟩) (Nat.le_refl _) (.int .u32 x)).setCell (p := ⟨w.heap.size, 1, none⟩) (Nat.le_refl _) (.int .u32 h)).setCell (p := ⟨w.heap.size, 2, none⟩) (Nat.le_refl _) (.int .u32 lo)).setCell (p := ⟨w.heap.size, 3, none⟩) (Nat.le_refl _) (.int .u32 hi)).setCell (p := ⟨w.heap.size, 4, none⟩) (Nat.le_refl _) (.slice A9 body.length c9)
                      have hof := ((((o9.setAny w.heap.size 0 (.int .u32 x) hno2).setAny w.heap.size 1 (.int .u32 h) hno2).setAny w.heap.size 2 (.int .u32 lo) hno2).setAny w.heap.size 3 (.int .u32 hi) hno2).setAny w.heap.size 4 (.slice A9 body.length c9) hno2
                      exact bodyPost_ret (v := .tuple #[.agg #[.int .u32 x, .int .u32 h, .int .u32 lo, .int .u32 hi, .slice A9 body.length c9], .int .i64 0]) (by simp [results, Tryd.f27, go_sem, e0, e1, e2, e3, e4]) rfl ⟨GetR.ok HE.out rfl hof, hBf⟩
  · have hlim : 65536 < (L.length : Int) := by omega
    have hE : got L = .no 3 := by unfold got; rw [if_neg hn]
    have HE := Lib.hid hE
    clear hinv hE
    go_enter Tryd.func27, Tryd.ntmps27
    go_wp2_with fail
    exact bodyPost_ret (v := .tuple #[repZ, .int .i64 3]) (by simp [results, Tryd.f27, go_sem, z0, z1, z2, z3, z4, repZ]) rfl ⟨GetR.no HE.out rfl, hB0⟩
end Go.Proofs.YtoodmjdafifbmaaDoor.Hand
