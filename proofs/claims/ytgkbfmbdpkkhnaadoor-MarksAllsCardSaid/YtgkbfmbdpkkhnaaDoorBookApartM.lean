/- What Book.Apart answers where the Book holds lists of bytes and one list of messages, each of the call's own and no two in one block: true. -/
import Derived.Test.YtgkbfmbdpkkhnaaDoorBookApart
import Derived.Test.YtgkbfmbdpkkhnaaDoorBookBlobLook
namespace Go.Proofs.YtgkbfmbdpkkhnaaDoor.Hand
open Go.RowKit
set_option linter.unusedVariables false
set_option linter.unusedSimpArgs false

theorem Still.row {P : Nat → Prop} {w w' : World} (h : Still P w w') {B n c : Nat} {t : TypeId} {A : Option Addr} {xs : List Value} (ho : w.ownsRow B t 1 (.slice A n c) n xs) (hP : ∀ g, (Value.slice A n c).ownBlock = some g → P g) : w'.ownsRow B t 1 (.slice A n c) n xs := by
  refine ⟨ho.1, ho.2.imp id ?_⟩
  rintro ⟨g, cap, cur, e, hb, hg, r⟩
  exact ⟨g, cap, cur, e, hb, h.blk (show Blk w g t cur from hg) (hP g (by rw [e]; rfl)), r⟩
theorem OneMark.still {P : Nat → Prop} {w w' : World} (h : Still P w w') {n lo : Nat} {x : Value} (ho : OneMark w n lo x) (hP : ∀ g, lo ≤ g → P g) : OneMark w' n lo x := by
  obtain ⟨g, e, h1, h2⟩ := ho
  exact ⟨g, e, h1, h.blk h2 (hP g h1)⟩
theorem GrownB.below {P : Nat → Prop} {w0 w w' : World} {kb n rm c N nn lo B : Nat} {V : Value} {A : Option Addr} {d : Nat} (h : GrownB P w0 w kb n rm c N nn lo B V A d) (hb : Below w.heap.size w w') (h0 : w0.heap.size ≤ w.heap.size) (hB : B ≤ w0.heap.size) : GrownB P w0 w' kb n rm c N nn lo B V A d := by
  obtain ⟨h1, ⟨U, f, cs, h2, r0, r1, r2, h3⟩, h4, h5, h6⟩ := h
  exact ⟨Blk.below h1 hb, ⟨U, f, cs, h2.below hb, r0, r1, r2, h3.below hb⟩, h4.below hb, h5.trans (hb.mono (by omega)), h6.below h0 hb⟩

set_option maxRecDepth 100000 in
set_option maxHeartbeats 4000000 in
theorem apartM (kb n nn N d B : Nat) (V M : Value) (A : Option Addr) (vals : List Value) (its : List Value) (L : Nat → List Int) (w : World) (hb : BookAt w kb n V M) (hrow : w.ownsRow B 86 3 V its.length (heldCells 0 its)) (h0 : 0 < its.length) (hn : its.length ≤ 1000000000) (hBw : B ≤ w.heap.size)
    (hm : BlobAt w M (.slice A N d) (.slice none 0 0) nn B) (hnn : nn ≤ 1000000000000) (hN : N ≤ 100000000000) (hlv : w.ownsRow B 24 1 (.slice A N d) N vals) (hvl : vals.length = N)
    (ho : ∀ j, j < its.length → Own w B (its.getD j (.slice none 0 0)) (L j)) (hl : ∀ j, j < its.length → (L j).length ≤ 140737488351232)
    (hd : ∀ i j, i < its.length → j < its.length → i ≠ j → ∀ g, (its.getD i (.slice none 0 0)).ownBlock = some g → (its.getD j (.slice none 0 0)).ownBlock ≠ some g) :
    Calls Tryd.prog 17 #[.pointer (some ⟨kb, 0, none⟩)] w fun e w' => e = .returned (.bool true) ∧ Below B w w' := by
  obtain ⟨rb, c, rfl, hc, hrb, hra⟩ := row_at hrow h0
  obtain ⟨rm, cm, rfl, hcm, hrm, rcs, hrc, r0, r1, r2⟩ := hm
  generalize its.length = Z at *
  obtain ⟨lv, hlq⟩ : ∃ lv : Nat → Value, lv = fun j => its.getD j (.slice none 0 0) := ⟨_, rfl⟩
  rw [← hlq] at hra
  replace ho : ∀ j, j < Z → Own w B (lv j) (L j) := by rw [hlq]; exact ho
  replace hd : ∀ i j, i < Z → j < Z → i ≠ j → ∀ g, (lv i).ownBlock = some g → (lv j).ownBlock ≠ some g := by rw [hlq]; exact hd
  clear hlq
  have hwm : rm < w.heap.size := hrc.lt
  have hwb : rb < w.heap.size := by obtain ⟨cs, h, _⟩ := hra; exact h.lt
  have hwl : ∀ g, (Value.slice A N d).ownBlock = some g → g < w.heap.size ∧ g ≠ rb ∧ g ≠ rm ∧ ∀ j, j < Z → (lv j).ownBlock ≠ some g := fun g hg => by
    obtain ⟨cs, h⟩ := row_blk hlv hg
    obtain ⟨cs2, h2, _⟩ := hra
    exact ⟨h.lt, h.ne_ h2 (by decide), h.ne_ hrc (by decide), fun j hj e => (ho j hj).blk_ne h (by decide) e.symm⟩
  have hnm : ∀ j, j < Z → (lv j).ownBlock ≠ some rm := fun j hj e => (ho j hj).blk_ne hrc (by decide) e.symm
  have hrbm : rm ≠ rb := by obtain ⟨cs, h, _⟩ := hra; exact hrc.ne_ h (by decide)
  have hlt0 : ∀ j, j < Z → ∀ g, (lv j).ownBlock = some g → g < w.heap.size := fun j hj g hg => ((ho j hj).2.lt g hg).2
  have g1 := fillByte (fun g => ∀ j, j < Z → (lv j).ownBlock ≠ some g) kb rb Z n c B lv (fun _ => .slice none 0 0) L w h0 hn hc hb hra hBw (fun j _ => ⟨none, 0, 0, rfl⟩) ho hd (fun j g hj hg h => h j hj hg)
  have HD := Lib.hid hd
  have HL := Lib.hid hl
  have HWL := Lib.hid hwl
  have HNM := Lib.hid hnm
  have HLT := Lib.hid hlt0
  have HLV := Lib.hid hlv
  have HRC := Lib.hid hrc
  clear ho hd hl hrow hra hwl hnm hlt0 hlv hrc
  go_enter Tryd.func17, Tryd.ntmps17
  go_wp2_with fail
  refine g1.mono ?_
  rintro e w1 ⟨⟨v, rfl⟩, hb1, hr1, ho1, hB1, hs1⟩
  have HO := Lib.hid ho1
  have hrc1 := hs1.blk HRC.out HNM.out
  have hlv1 := hs1.row HLV.out (fun g hg => (HWL.out g hg).2.2.2)
  have hz1 := hB1.size
  have HRC1 := Lib.hid hrc1
  have HLV1 := Lib.hid hlv1
  clear ho1 g1 hb hs1 hrc1 hlv1
  go_wp2_with fail
  refine (fillNumber kb n _ w1 hb1).mono ?_
  rintro e w1 ⟨⟨v, rfl⟩, rfl⟩
  go_wp2_with fail
  refine (fillText kb n _ w1 hb1).mono ?_
  rintro e w1 ⟨⟨v, rfl⟩, rfl⟩
  have g2 := fillBlob1 kb n nn B B N d 0 0 _ _ A none vals w1 hnn (by omega) hb1 ⟨rm, cm, rfl, hcm, hrm, rcs, HRC1.out, r0, r1, r2⟩ HLV1.out hvl
  go_wp2_with fail
  refine g2.mono ?_
  rintro e w2 ⟨⟨v, rfl⟩, hg2, ys, hyl, hlv2, hys2⟩
  have own2 : ∀ j, j < Z → Own w2 B (lv j) (marks (j + 1) (L j).length) := fun j hj => own_kept (HO.out j hj) hg2 fun g hg e => (HWL.out g e).2.2.2 j hj hg
  have hb2 : BookAt w2 kb n (.slice (some ⟨rb, 0, none⟩) Z c) (.slice (some ⟨rm, 0, none⟩) 1 cm) := Blk.grown hb1 hg2 fun e => by
    obtain ⟨cs, h⟩ := row_blk HLV1.out e.symm
    exact Blk.ne_ h (show Blk w1 kb _ _ from hb1) (by decide) rfl
  have hr2 : RowAt w2 rb Z lv (fun _ => .slice none 0 0) := by
    obtain ⟨cs, q1, q2⟩ := hr1
    exact ⟨cs, q1.grown hg2 fun e => (HWL.out rb e.symm).2.1 rfl, q2⟩
  have hrc2 := HRC1.out.grown hg2 fun e => (HWL.out rm e.symm).2.2.1 rfl
  have hz2 := hg2.size
  have hB2 : Below B w w2 := hB1.grown hg2 (by omega) fun q hq => (HLV1.out.lt q hq).1
  have HO2 := Lib.hid own2
  have HRC2 := Lib.hid hrc2
  have HLV2 := Lib.hid hlv2
  have HYS2 := Lib.hid hys2
  clear HO HRC1 HLV1 own2 hrc2 hlv2 hys2 hr1 hb1 g2 hB1 hg2
  go_wp2_with fail
  refine (fillItem kb n _ w2 hb2).mono ?_
  rintro e w2 ⟨⟨v, rfl⟩, rfl⟩
  go_wp2_with fail
  refine (fillEntry kb n _ w2 hb2).mono ?_
  rintro e w2 ⟨⟨v, rfl⟩, rfl⟩
  go_wp2_with fail
  refine (fillNode kb n _ w2 hb2).mono ?_
  rintro e w2 ⟨⟨v, rfl⟩, rfl⟩
  have g3 := growByte (fun g => (∀ j, j < Z → (lv j).ownBlock ≠ some g) ∧ g ≠ rb) kb rb Z n c B lv (fun _ => .slice none 0 0) (fun j => (L j).length) w2 h0 hn hc hb2 hr2 (by omega) hrb (fun j _ => ⟨none, 0, 0, rfl⟩) HL.out HO2.out HD.out (fun j g hj hg h => h.1 j hj hg) (fun h => h.2 rfl)
  clear hr2
  go_wp2_with fail
  refine g3.mono ?_
  rintro e w3 ⟨⟨v, rfl⟩, hb3, uv, hr3, hq3, hB3, hs3, hu3⟩
  have hrc3 := hs3.blk HRC2.out ⟨HNM.out, hrbm⟩
  have hlv3 := hs3.row HLV2.out (fun g hg => ⟨(HWL.out g hg).2.2.2, (HWL.out g hg).2.1⟩)
  have hys3 : ∀ y ∈ ys, OneMark w3 nn w1.heap.size y := fun y hy => (HYS2.out y hy).still hs3 fun g hg => ⟨fun j hj e => by have := HLT.out j hj g e; omega, by omega⟩
  have hz3 := hB3.size
  have hB3 := hB2.trans hB3
  have HQ := Lib.hid hq3
  have HU := Lib.hid hu3
  have HRC3 := Lib.hid hrc3
  have HLV3 := Lib.hid hlv3
  have HYS3 := Lib.hid hys3
  clear hq3 hu3 hrc3 hlv3 hys3 g3 hb2 hs3 HO2 HRC2 HLV2 HYS2 hB2
  go_wp2_with fail
  refine (growNumber kb n _ w3 hb3).mono ?_
  rintro e w3 ⟨⟨v, rfl⟩, rfl⟩
  go_wp2_with fail
  refine (growText kb n _ w3 hb3).mono ?_
  rintro e w3 ⟨⟨v, rfl⟩, rfl⟩
  have g4 := growBlob1 (fun g => g ≠ rm ∧ (Value.slice A N d).ownBlock ≠ some g) kb n nn B N d 0 0 w1.heap.size rm cm _ A none ys rcs w3 hnn hN hb3 hcm HRC3.out r0 r1 r2 HLV3.out hyl HYS3.out (by omega) (by omega) hrm (fun g hg h => h.2 hg) (fun h => h.1 rfl)
  clear hyl
  go_wp2_with fail
  refine g4.mono ?_
  rintro e w4 ⟨⟨v, rfl⟩, hG4⟩
  have hs4 := hG4.2.2.2.2
  have hz4 := hG4.2.2.2.1.size
  have hB4 := hB3.trans hG4.2.2.2.1
  have hb4 := hG4.1
  have hr4 : RowAt w4 rb Z lv uv := by
    obtain ⟨cs, q1, q2⟩ := hr3
    exact ⟨cs, hs4.blk q1 ⟨fun e => hrbm e.symm, fun e => (HWL.out rb e).2.1 rfl⟩, q2⟩
  have hq4 : ∀ j, j < Z → Reads w4 (lv j) (marks (j + 1) (L j).length) ∧ Reads w4 (uv j) (marks (j + 1) ((L j).length + 40)) := fun j hj => by
    have pl : ∀ g, (lv j).ownBlock = some g → g ≠ rm ∧ (Value.slice A N d).ownBlock ≠ some g := fun g hg => ⟨fun e => by rw [e] at hg; exact HNM.out j hj hg, fun e => (HWL.out g e).2.2.2 j hj hg⟩
    refine ⟨(HQ.out j hj).1.still hs4 pl, (HQ.out j hj).2.still hs4 fun g hg => ?_⟩
    rcases HU.out j g hj hg with h | h
    · exact pl g h
    · exact ⟨by omega, fun e => by have := (HWL.out g e).1; omega⟩
  have HG4 := Lib.hid hG4
  clear hG4 hs4 g4 HQ HU HRC3 HLV3 HYS3 hr3 hb3 hB3
  go_wp2_with fail
  refine (growItem kb n _ w4 hb4).mono ?_
  rintro e w4 ⟨⟨v, rfl⟩, rfl⟩
  go_wp2_with fail
  refine (growEntry kb n _ w4 hb4).mono ?_
  rintro e w4 ⟨⟨v, rfl⟩, rfl⟩
  go_wp2_with fail
  refine (growNode kb n _ w4 hb4).mono ?_
  rintro e w4 ⟨⟨v, rfl⟩, rfl⟩
  have g5 := lookByte kb rb Z n c lv uv (fun j => (L j).length) w4 h0 hn hc hb4 hr4 HL.out hq4
  clear hr4 hq4
  go_wp2_with fail
  refine g5.mono ?_
  rintro e w5 ⟨rfl, hx⟩
  have hG5 := HG4.out.below hx (by omega) (by omega)
  have hb5 := hG5.1
  have hB5 := hB4.trans (hx.mono (by omega))
  have HG5 := Lib.hid hG5
  clear g5 hx hb4 hG5 HG4 hB4
  go_wp2_with fail
  refine (lookNumber kb n _ w5 hb5).mono ?_
  rintro e w5 ⟨rfl, rfl⟩
  go_wp2_with fail
  refine (lookText kb n _ w5 hb5).mono ?_
  rintro e w5 ⟨rfl, rfl⟩
  have g6 := lookBlob1 _ _ kb n nn B N d _ rm cm _ A w5 hnn hN hcm HG5.out
  go_wp2_with fail
  refine g6.mono ?_
  rintro e w6 ⟨rfl, hx⟩
  have hb6 : BookAt w6 kb n _ _ := Blk.below hb5 hx
  have hB6 := hB5.trans (hx.mono (by have := hB5.size; omega))
  clear g6 hx hb5 HG5 hB5
  go_wp2_with fail
  refine (lookItem kb n _ w6 hb6).mono ?_
  rintro e w6 ⟨rfl, rfl⟩
  go_wp2_with fail
  refine (lookEntry kb n _ w6 hb6).mono ?_
  rintro e w6 ⟨rfl, rfl⟩
  go_wp2_with fail
  refine (lookNode kb n _ w6 hb6).mono ?_
  rintro e w6 ⟨rfl, rfl⟩
  go_wp2
  go_ret
  exact ⟨rfl, hB6⟩
end Go.Proofs.YtgkbfmbdpkkhnaaDoor.Hand
