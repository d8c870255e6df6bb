/- The statement MarksAlls, walked: all messages of any bytes, as far as they go, are exactly the documented ones; they stay as they were, and the answers are memory of their own. -/
import Derived.Test.YtgkbfmbdpkkhnaaDoorHelp
import Derived.Test.YtgkbfmbdpkkhnaaDoorMgetLen
import Derived.Test.YtgkbfmbdpkkhnaaDoorMsgs
import Derived.Test.YtgkbfmbdpkkhnaaDoorRefMarksAll
import Derived.Test.YtgkbfmbdpkkhnaaDoorBookApartM
import Derived.Test.YtgkbfmbdpkkhnaaDoorApartOf
namespace Go.Proofs.YtgkbfmbdpkkhnaaDoor.Hand
open Go.RowKit
set_option linter.unusedVariables false
set_option linter.unusedSimpArgs false

/-- A beginning of what a slice owns. -/
theorem own_prefix {w : World} {B n d : Nat} {A : Option Addr} {l m : List Int} (h : Own w B (.slice A (l.length + m.length) d) (l ++ m)) (h0 : 0 < m.length) (hn : n = l.length) : Own w B (.slice A n d) l := by
  subst hn
  refine ⟨fun x hx => h.1 x (List.mem_append_left _ hx), by simp, ?_⟩
  rcases h.2.2 with ⟨e, _⟩ | ⟨g, cap, cur, e, hb, hg, hc, hm, hs, ht⟩
  · injection e with e1 e2 _
    omega
  · injection e with e1 e2 e3
    subst e1 e3
    rw [List.length_append] at hc ht
    refine .inr ⟨g, d, cur, rfl, hb, hg, by omega, hm, hs, ?_⟩
    have h2 := congrArg (List.take l.length) ht
    rw [List.take_take, List.map_append, List.take_left' (by simp)] at h2
    rw [← h2]
    congr 1
    omega
theorem within_same {A : Option Addr} {n m d e lo hi : Nat} (h : Within (.slice A n d) lo hi) : Within (.slice A m e) lo hi := by
  intro g hg
  cases A
  · cases hg
  · exact h g hg
theorem msgs_len : ∀ (f : Nat) (r : List Int), (msgs f r).1.length ≤ f
  | 0, _ => by simp [msgs]
  | f + 1, r => by
    rw [msgs]
    split
    · have := msgs_len f (r.drop (mget (r.length + 1) r [] 0).2.1)
      simp
      exact this
    · simp
theorem msgs_each : ∀ (f : Nat) (r : List Int), ∀ x ∈ (msgs f r).1, x.1.length ≤ 65536
  | 0, _ => by simp [msgs]
  | f + 1, r => by
    rw [msgs]
    split
    · rename_i h
      intro x hx
      rcases List.mem_cons.1 hx with rfl | hx
      · exact mget_len _ _ _ _ h (by simp)
      · exact msgs_each f _ x hx
    · simp
theorem mall_len (l : List Int) : (mall l).1.length ≤ l.length + 1 := by
  unfold mall
  simp only [List.length_map]
  exact msgs_len _ _
theorem mall_each (l : List Int) : ∀ x ∈ (mall l).1, x.length ≤ 65536 := by
  unfold mall
  intro x hx
  obtain ⟨y, hy, rfl⟩ := List.mem_map.1 hx
  exact msgs_each _ _ y hy

/-- The lists that the Book is told: the bytes, and the messages. -/
theorem told {w : World} {B lo hi : Nat} {t : Value} {l : List Int} {ps : List (Value × List Int × Nat)} (ht : Own w B t l) (hw : Within t lo hi) (hlo : B ≤ hi) (hp : ∀ p ∈ ps, Own w hi p.1 p.2.1) (hd : Dist ps) :
    (∀ j, j < (t :: ps.map (·.1)).length → Own w B ((t :: ps.map (·.1)).getD j (.slice none 0 0)) ((l :: ps.map (·.2.1)).getD j [])) ∧
    ∀ i j, i < (t :: ps.map (·.1)).length → j < (t :: ps.map (·.1)).length → i ≠ j → ∀ g, ((t :: ps.map (·.1)).getD i (.slice none 0 0)).ownBlock = some g → ((t :: ps.map (·.1)).getD j (.slice none 0 0)).ownBlock ≠ some g := by
  have get : ∀ k (hk : k < ps.length), (t :: ps.map (·.1)).getD (k + 1) (.slice none 0 0) = (ps[k]).1 ∧ (l :: ps.map (·.2.1)).getD (k + 1) [] = (ps[k]).2.1 := fun k hk => by
    simp [List.getD, List.getElem?_eq_getElem hk]
  have hP := List.pairwise_iff_getElem.1 hd
  refine ⟨fun j hj => ?_, fun i j hi hj hij g h1 h2 => ?_⟩
  · match j, hj with
    | 0, _ => exact ht
    | k + 1, hj =>
      have hk : k < ps.length := by simpa using hj
      rw [(get k hk).1, (get k hk).2]
      exact (hp _ (List.getElem_mem hk)).lower hlo
  · match i, j, hi, hj with
    | 0, 0, _, _ => exact hij rfl
    | 0, k + 1, _, hj =>
      have hk : k < ps.length := by simpa using hj
      rw [(get k hk).1] at h2
      have a := hw g h1
      have b := ((hp _ (List.getElem_mem hk)).2.lt g h2).1
      omega
    | k + 1, 0, hi, _ =>
      have hk : k < ps.length := by simpa using hi
      rw [(get k hk).1] at h1
      have a := hw g h2
      have b := ((hp _ (List.getElem_mem hk)).2.lt g h1).1
      omega
    | i + 1, j + 1, hi, hj =>
      have h3 : i < ps.length := by simpa using hi
      have h4 : j < ps.length := by simpa using hj
      rw [(get i h3).1] at h1
      rw [(get j h4).1] at h2
      rcases Nat.lt_or_ge i j with h | h
      · exact hP i j h3 h4 h g h1 h2
      · exact hP j i h4 h3 (by omega) g h2 h1

set_option maxRecDepth 100000 in
set_option maxHeartbeats 4000000 in
theorem MarksAlls_walk (A : Option Addr) (c : Nat) (l : List Int) (w : World) (hr : Rd w A l) (hc : l.length ≤ c) (hsz : l.length ≤ 140737488351232) :
    Calls Tryd.prog 6 #[.slice A l.length c] w fun e w' => e = .returned (.bool true) ∧ Below w.heap.size w w' := by
  go_enter Tryd.func6, Tryd.ntmps6
  by_cases hm : 200000 < (l.length : Int)
  · go_wp2
    go_ret
    exact ⟨rfl, Below.refl _ _⟩
  · have HSZ := Lib.hid hsz
    have hln : l.length ≤ 200000 := by omega
    have HLN := Lib.hid hln
    have HML := Lib.hid (mall_len l)
    have HME := Lib.hid (mall_each l)
    clear hsz hln
    generalize hM : mall l = M at *
    have HM := Lib.hid hM
    clear hM
    obtain ⟨ms, n, er⟩ := M
    simp only at HML HME
    go_wp2_with fail
    refine (twin A c l w hr HSZ.out).mono ?_
    rintro e w1 ⟨g, cap, rfl, ot, hB⟩
    have W1 := Lib.hid (show Within (.slice (some ⟨g, 0, none⟩) l.length cap) w.heap.size w1.heap.size from within_same ot.within)
    have s1 := Lib.hid hB.size
    have rA := hr.below hB
    obtain ⟨A', c', e1, hc1, _, _⟩ := ot.form
    injection e1 with e1 e2 e3
    subst e1 e3
    rw [List.length_append] at hc1
    simp only [List.length_cons, List.length_nil] at hc1
    clear e2
    have hrl : Rd w1 (some ⟨g, 0, none⟩) l := by have := (own_rd ot).take l.length; rwa [List.take_left] at this
    have g1 := marksAllD _ cap l w1 hrl (by omega) (by have := HLN.out; omega)
    rw [HM.out] at g1
    clear hrl
    go_wp2_with fail
    refine g1.mono ?_
    rintro e w2 ⟨v2, rfl, o2, hz⟩
    have rA := rA.below hz
    have ot := ot.below hz
    have hB := below_then hB hz
    have s2 := Lib.hid hz.size
    clear hz g1
    obtain ⟨ps, hps, hro, hdi⟩ := o2
    have HPS := Lib.hid hps
    have HDI := Lib.hid hdi
    have hNp : ps.length = ms.length := by rw [← hps]; simp
    have HNP := Lib.hid hNp
    obtain ⟨A2, c2, hv2, hcc2, hcm2, hrd2⟩ := OwnL.formL ⟨ps, hps, hro⟩
    have g1 := rmarksAll A c l w2 rA hc (by have := HLN.out; omega)
    rw [HM.out] at g1
    subst hv2
    clear hps hdi hNp hrd2
    go_wp2_with fail
    refine g1.mono ?_
    rintro e w3 ⟨v3, rfl, o3, hz⟩
    have rA := rA.below hz
    have ot := ot.below hz
    have hro := hro.below hz
    have hB := below_then hB hz
    clear hz g1
    obtain ⟨A3, c3, hv3, hcc3, hcm3, hrd3⟩ := o3.formL
    subst hv3
    obtain ⟨A4, c4, hv4, _, _, hrd2⟩ := OwnL.formL ⟨ps, HPS.out, hro⟩
    injection hv4 with e4 _ e5
    subst e4 e5
    have q1 : ((n : Int) != (n : Int)) = false := by simp
    have q2 : (er != er) = false := by simp
    have gs := sameMsgs A2 A3 c2 c3 ms ms w3 hrd2 hrd3 (by have := HML.out; have := HLN.out; omega) (fun x hx => by have := HME.out x hx; omega)
    simp only [decide_true] at gs
    clear o3 hrd3 hrd2
    go_wp2_with fail
    refine gs.mono ?_
    rintro e w5 ⟨rfl, hz⟩
    have rA := rA.below hz
    have ot := ot.below hz
    have hro := hro.below hz
    have hB := below_then hB hz
    clear hz gs
    have lf := left g cap A c l w5 (own_rd ot) (by omega) rA HSZ.out
    go_wp2_with fail
    refine lf.mono ?_
    rintro e w6 ⟨rfl, nx, hz0⟩
    have hz := below_drawn hz0
    clear hz0 lf
    have ot := ot.below hz
    have hro := hro.below hz
    have hB := below_then hB hz
    clear hz rA
    have o1 : Own w6 w.heap.size (.slice (some ⟨g, 0, none⟩) l.length cap) l := own_prefix (m := [77]) ot (by simp) rfl
    clear ot
    have hbk := book_new w6
    have hz : Below w6.heap.size w6 (w6.alloc (.cells #[.int .i64 0, .slice none 0 0, .slice none 0 0, .slice none 0 0, .slice none 0 0, .slice none 0 0, .slice none 0 0, .slice none 0 0] 37)) := (Below.refl _ w6).alloc (Nat.le_refl _) _
    have hKB := Lib.hid (show w.heap.size ≤ w6.heap.size from hB.size)
    have o1 := o1.below hz
    have hro := hro.below hz
    have hB := below_then hB hz
    have gB := bookBytes' w6.heap.size w.heap.size _ [] (some ⟨g, 0, none⟩) l.length cap _ hbk (World.ownsRow_nil _ _ _ _) hKB.out (by simp)
    have HRO := Lib.hid hro
    have HO1 := Lib.hid o1
    clear hz hbk hro o1
    go_wp2_with fail
    refine gB.mono ?_
    rintro e wb ⟨⟨vb, rfl⟩, Vb, hbk, hrow, hz, hoth⟩
    have hB := hB.trans hz
    have o1 := hoth.own HO1.out
    have hro2 : Rowed wb w1.heap.size (.slice A2 ms.length c2) ps := ⟨hoth.row HRO.out.1 (by decide) (by decide), fun p hp => hoth.own (HRO.out.2 p hp)⟩
    clear gB hz HRO HO1 hoth
    have hvl : (ps.map (·.1)).length = ms.length := by rw [List.length_map]; exact HNP.out
    have hrw : wb.ownsRow w1.heap.size 24 1 (.slice A2 ms.length c2) ms.length (ps.map (·.1)) := by
      have h := hro2.1
      rw [HNP.out] at h
      exact h
    have hml := HML.out
    have hln := HLN.out
    have gM := bookMessages w6.heap.size w.heap.size w1.heap.size c2 Vb [.slice (some ⟨g, 0, none⟩) l.length cap] A2 (ps.map (·.1)) wb hbk hrow hKB.out (by rw [hvl]; simp; omega) (by rw [hvl]; exact hrw) (fun x hx => by
      obtain ⟨p, hp, rfl⟩ := List.mem_map.1 hx
      obtain ⟨q, d, e, _⟩ := (hro2.2 p hp).form
      exact ⟨_, _, _, e⟩)
    rw [hvl] at gM
    have HR2 := Lib.hid hro2
    have HRW := Lib.hid hrw
    have HO1 := Lib.hid o1
    have HVL := Lib.hid hvl
    clear hbk hrow o1 hro2 hrw hvl hml hln hcc2 hcm2 hcc3 hcm3
    go_wp2_with fail
    refine gM.mono ?_
    rintro e wc ⟨⟨vb, rfl⟩, Vc, Mc, hbk, hrow, hblob, hz, hoth⟩
    have hB := hB.trans hz
    clear gM hz
    have hvl := HVL.out
    have hml := HML.out
    have hln := HLN.out
    have elen : ((.slice (some ⟨g, 0, none⟩) l.length cap :: ps.map (·.1) : List Value)).length = 1 + ms.length := by rw [List.length_cons, hvl]; omega
    have hrow2 : wc.ownsRow w.heap.size 86 3 Vc (.slice (some ⟨g, 0, none⟩) l.length cap :: ps.map (·.1) : List Value).length (heldCells 0 (.slice (some ⟨g, 0, none⟩) l.length cap :: ps.map (·.1))) := by rw [elen]; exact hrow
    have T := told (w := wc) (lo := w.heap.size) (hi := w1.heap.size) (hoth.own HO1.out) W1.out s1.out (fun p hp => hoth.own (HR2.out.2 p hp)) HDI.out
    have gA := apartM w6.heap.size _ _ ms.length c2 w.heap.size Vc Mc A2 (ps.map (·.1)) (.slice (some ⟨g, 0, none⟩) l.length cap :: ps.map (·.1)) (fun j => (l :: ps.map (·.2.1)).getD j []) wc hbk hrow2 (by simp) (by rw [elen]; omega) hB.size hblob (by simp; omega) (by omega)
      (row_lower (hoth.row HRW.out (by decide) (by decide)) s1.out) hvl T.1 (fun j _ => by
        rw [HPS.out]
        match j with
        | 0 => show l.length ≤ _; omega
        | k + 1 =>
          show (ms.getD k []).length ≤ _
          by_cases hk : k < ms.length
          · have := HME.out _ (List.getElem_mem hk)
            simp only [List.getD, List.getElem?_eq_getElem hk, Option.getD_some]
            omega
          · simp [List.getD, List.getElem?_eq_none (by omega : ms.length ≤ k)]) T.2
    clear hbk hrow hrow2 T hblob hvl hml hln elen hoth
    go_wp2_with fail
    refine gA.mono ?_
    rintro e wz ⟨rfl, hz⟩
    have hB := hB.trans hz
    clear gA
    go_wp2
    go_ret
    exact ⟨rfl, hB⟩
end Go.Proofs.YtgkbfmbdpkkhnaaDoor.Hand
