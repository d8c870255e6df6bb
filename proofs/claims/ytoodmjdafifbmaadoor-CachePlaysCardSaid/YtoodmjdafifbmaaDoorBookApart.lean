/- What Book.Apart answers where the Book holds lists of bytes alone, each of the call's own and no two in one block: true. -/
import Derived.Test.YtoodmjdafifbmaaDoorBookKeep
import Derived.Test.YtoodmjdafifbmaaDoorBookNone
import Derived.Test.YtoodmjdafifbmaaDoorBookLook
namespace Go.Proofs.YtoodmjdafifbmaaDoor.Hand
open Go.RowKit
set_option linter.unusedVariables false
set_option linter.unusedSimpArgs false

theorem row_at {w : World} {B : Nat} {V : Value} {its : List Value} (h : w.ownsRow B 98 3 V its.length (heldCells 0 its)) (h0 : 0 < its.length) :
    ∃ rb c, V = .slice (some ⟨rb, 0, none⟩) its.length c ∧ its.length ≤ c ∧ B ≤ rb ∧ RowAt w rb its.length (fun j => its.getD j (.slice none 0 0)) (fun _ => .slice none 0 0) := by
  rcases h.2 with ⟨_, h1⟩ | ⟨g, cap, cur, rfl, hb, hg, hn, hm, hs, ht⟩
  · omega
  · refine ⟨g, cap, rfl, hn, hb, cur, hg, fun j hj => ?_⟩
    obtain ⟨e0, e1, e2⟩ := heldCells_get 0 its j hj
    have key : ∀ i, i < its.length * 3 → cur[i]? = (heldCells 0 its)[i]? := by
      intro i hi
      have e : (cur.toList.take (its.length * 3))[i]? = (heldCells 0 its)[i]? := by rw [ht]
      rwa [List.getElem?_take, if_pos hi, Array.getElem?_toList] at e
    rw [key _ (by omega), key _ (by omega), key _ (by omega), e0, e1, e2]
    exact ⟨by simp [List.getD, List.getElem?_eq_getElem hj], rfl, by rw [Nat.zero_add]⟩

set_option maxRecDepth 100000 in
set_option maxHeartbeats 4000000 in
theorem apart (kb B : Nat) (V : Value) (its : List Value) (L : Nat → List Int) (w : World) (hb : BookAt w kb its.length V) (hrow : w.ownsRow B 98 3 V its.length (heldCells 0 its)) (h0 : 0 < its.length) (hn : its.length ≤ 1000000000) (hBw : B ≤ w.heap.size)
    (ho : ∀ j, j < its.length → Own w B (its.getD j (.slice none 0 0)) (L j)) (hl : ∀ j, j < its.length → (L j).length ≤ 140737488351232)
    (hd : ∀ i j, i < its.length → j < its.length → i ≠ j → ∀ g, (its.getD i (.slice none 0 0)).ownBlock = some g → (its.getD j (.slice none 0 0)).ownBlock ≠ some g) :
    Calls Tryd.prog 13 #[.pointer (some ⟨kb, 0, none⟩)] w fun e w' => e = .returned (.bool true) ∧ Below B w w' := by
  obtain ⟨rb, c, rfl, hc, hrb, hra⟩ := row_at hrow h0
  generalize its.length = Z at *
  obtain ⟨lv, hlv⟩ : ∃ lv : Nat → Value, lv = fun j => its.getD j (.slice none 0 0) := ⟨_, rfl⟩
  rw [← hlv] at hra
  replace ho : ∀ j, j < Z → Own w B (lv j) (L j) := by rw [hlv]; exact ho
  replace hd : ∀ i j, i < Z → j < Z → i ≠ j → ∀ g, (lv i).ownBlock = some g → (lv j).ownBlock ≠ some g := by rw [hlv]; exact hd
  clear hlv
  have g1 := fillByte (fun _ => False) kb rb Z Z c B lv (fun _ => .slice none 0 0) L w h0 hn hc hb hra hBw (fun j _ => ⟨none, 0, 0, rfl⟩) ho hd (fun _ _ _ _ => id)
  have HD := Lib.hid hd
  have HL := Lib.hid hl
  clear ho hd hl hrow hra
  go_enter Tryd.func13, Tryd.ntmps13
  go_wp2_with fail
  refine g1.mono ?_
  rintro e w1 ⟨⟨v, rfl⟩, hb1, hr1, ho1, hB1, -⟩
  have HO := Lib.hid ho1
  clear ho1 g1 hb
  go_wp2_with fail
  refine (fillNumber kb Z _ w1 hb1).mono ?_
  rintro e w1 ⟨⟨v, rfl⟩, rfl⟩
  go_wp2_with fail
  refine (fillText kb Z _ w1 hb1).mono ?_
  rintro e w1 ⟨⟨v, rfl⟩, rfl⟩
  go_wp2_with fail
  refine (fillBlob kb Z _ w1 hb1).mono ?_
  rintro e w1 ⟨⟨v, rfl⟩, rfl⟩
  go_wp2_with fail
  refine (fillItem kb Z _ w1 hb1).mono ?_
  rintro e w1 ⟨⟨v, rfl⟩, rfl⟩
  go_wp2_with fail
  refine (fillEntry kb Z _ w1 hb1).mono ?_
  rintro e w1 ⟨⟨v, rfl⟩, rfl⟩
  go_wp2_with fail
  refine (fillNode kb Z _ w1 hb1).mono ?_
  rintro e w1 ⟨⟨v, rfl⟩, rfl⟩
  have g2 := growByte (fun _ => False) kb rb Z Z c B lv (fun _ => .slice none 0 0) (fun j => (L j).length) w1 h0 hn hc hb1 hr1 (by have := hB1.size; omega) hrb (fun j _ => ⟨none, 0, 0, rfl⟩) HL.out HO.out HD.out (fun _ _ _ _ => id) id
  clear HO hr1
  go_wp2_with fail
  refine g2.mono ?_
  rintro e w2 ⟨⟨v, rfl⟩, hb2, uv, hr2, hq2, hB2, -, -⟩
  have hB2 := hB1.trans hB2
  have HQ := Lib.hid hq2
  clear hq2 g2 hb1
  go_wp2_with fail
  refine (growNumber kb Z _ w2 hb2).mono ?_
  rintro e w2 ⟨⟨v, rfl⟩, rfl⟩
  go_wp2_with fail
  refine (growText kb Z _ w2 hb2).mono ?_
  rintro e w2 ⟨⟨v, rfl⟩, rfl⟩
  go_wp2_with fail
  refine (growBlob kb Z _ w2 hb2).mono ?_
  rintro e w2 ⟨⟨v, rfl⟩, rfl⟩
  go_wp2_with fail
  refine (growItem kb Z _ w2 hb2).mono ?_
  rintro e w2 ⟨⟨v, rfl⟩, rfl⟩
  go_wp2_with fail
  refine (growEntry kb Z _ w2 hb2).mono ?_
  rintro e w2 ⟨⟨v, rfl⟩, rfl⟩
  go_wp2_with fail
  refine (growNode kb Z _ w2 hb2).mono ?_
  rintro e w2 ⟨⟨v, rfl⟩, rfl⟩
  have g3 := lookByte kb rb Z Z c lv uv (fun j => (L j).length) w2 h0 hn hc hb2 hr2 HL.out HQ.out
  clear HQ hr2
  go_wp2_with fail
  refine g3.mono ?_
  rintro e w3 ⟨rfl, hx⟩
  have hb3 : BookAt w3 kb Z _ := Blk.below hb2 hx
  have hB3 := hB2.trans (hx.mono (by have := hB2.size; omega))
  clear g3 hx hb2
  go_wp2_with fail
  refine (lookNumber kb Z _ w3 hb3).mono ?_
  rintro e w3 ⟨rfl, rfl⟩
  go_wp2_with fail
  refine (lookText kb Z _ w3 hb3).mono ?_
  rintro e w3 ⟨rfl, rfl⟩
  go_wp2_with fail
  refine (lookBlob kb Z _ w3 hb3).mono ?_
  rintro e w3 ⟨rfl, rfl⟩
  go_wp2_with fail
  refine (lookItem kb Z _ w3 hb3).mono ?_
  rintro e w3 ⟨rfl, rfl⟩
  go_wp2_with fail
  refine (lookEntry kb Z _ w3 hb3).mono ?_
  rintro e w3 ⟨rfl, rfl⟩
  go_wp2_with fail
  refine (lookNode kb Z _ w3 hb3).mono ?_
  rintro e w3 ⟨rfl, rfl⟩
  go_wp2
  go_ret
  exact ⟨rfl, hB3⟩
end Go.Proofs.YtoodmjdafifbmaaDoor.Hand
