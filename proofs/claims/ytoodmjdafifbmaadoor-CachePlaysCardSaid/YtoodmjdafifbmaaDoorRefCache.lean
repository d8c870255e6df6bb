/- The reference's cache: what it holds, and the contracts of New, Find, Len. -/
import Derived.Laws.IdiomStrings
import Derived.Test.YtoodmjdafifbmaaDoorWLast
import Derived.Test.YtoodmjdafifbmaaDoorPlayLaw
namespace Go.Proofs.YtoodmjdafifbmaaDoor.Hand
open Go.RowKit Go.Proofs.YtoodmjdafifbmaaDoorW.PrintLast
set_option linter.unusedVariables false
set_option linter.unusedSimpArgs false

def rcells : Rem → List Value
  | [] => []
  | e :: rs => .int .u64 e.1.1 :: .string (strOf e.1.2) :: .string (strOf e.2) :: rcells rs
theorem rcells_length : ∀ rs : Rem, (rcells rs).length = rs.length * 3
  | [] => rfl
  | k :: ks => by simp [rcells, rcells_length ks]; omega
theorem rcells_append : ∀ rs l : Rem, rcells (rs ++ l) = rcells rs ++ rcells l
  | [], l => rfl
  | k :: ks, l => by simp [rcells, rcells_append ks l]
theorem rcells_get : ∀ (rs : Rem) (j : Nat) (hj : j < rs.length), (rcells rs)[j * 3]? = some (.int .u64 rs[j].1.1) ∧ (rcells rs)[j * 3 + 1]? = some (.string (strOf rs[j].1.2)) ∧ (rcells rs)[j * 3 + 2]? = some (.string (strOf rs[j].2))
  | [], j, hj => absurd hj (by simp)
  | e :: rs, 0, hj => ⟨rfl, rfl, rfl⟩
  | e :: rs, j + 1, hj => by
    have h := rcells_get rs j (by simpa using hj)
    have e0 : (j + 1) * 3 = j * 3 + 3 := by omega
    rw [e0]
    exact h

/-- The reference's cache at rb: of N calls, those of rs. -/
structure RefIs (w : World) (base rb : Nat) (N : Nat) (v : Value) (rs : Rem) : Prop where
  blk : Blk w rb 82 #[.int .i64 N, v]
  row : Que w base 87 3 v rs.length (rcells rs)
  rb_ge : base ≤ rb
  ne : v.ownBlock ≠ some rb
  pos : 1 ≤ N
  most : N ≤ 64
  bs : ∀ e ∈ rs, okKey e.1.1 e.1.2 ∧ Bs e.2 ∧ e.2.length ≤ 1000000
section
variable {w w' : World} {base rb N : Nat} {v : Value} {rs : Rem}
theorem RefIs.kept (h : RefIs w base rb N v rs) (hk : ∀ i, i < w.heap.size → i = rb ∨ v.ownBlock = some i → w'.heap[i]? = w.heap[i]?) : RefIs w' base rb N v rs :=
  ⟨(hk rb h.blk.lt (.inl rfl)).trans h.blk, h.row.kept fun g hg => hk g (h.row.lt hg) (.inr hg), h.rb_ge, h.ne, h.pos, h.most, h.bs⟩
theorem RefIs.below (h : RefIs w base rb N v rs) (hb : Below w.heap.size w w') : RefIs w' base rb N v rs := h.kept fun i hi _ => hb.block i hi
end

set_option maxRecDepth 100000 in
theorem ref_new (n : Nat) (w : World) (h0 : 1 ≤ n) (h1 : n ≤ 64) :
    Calls Tryd.prog 17 #[.int .i64 n] w fun e w' => e = .returned (.tuple #[.pointer (some ⟨w.heap.size, 0, none⟩), .int .i64 0]) ∧ RefIs w' w.heap.size w.heap.size n (.slice none 0 0) [] ∧ Below w.heap.size w w' := by
  have g0 : ¬ ((n : Int) < 1) := by omega
  have g2 : ¬ ((64 : Int) < n) := by omega
  have hb1 := Blk.new w 82 #[.int .i64 n, .slice none 0 0]
  go_enter Tryd.func17, Tryd.ntmps17
  go_wp2
  go_ret2
  exact ⟨rfl, ⟨hb1, Que.nil _ _ _ _, Nat.le_refl _, by simp [Value.ownBlock], h0, h1, by simp⟩, (Below.refl _ _).alloc (Nat.le_refl _) _⟩
set_option maxRecDepth 100000 in
theorem ref_new_no (n : Int) (w : World) (h : n < 1 ∨ 64 < n) :
    Calls Tryd.prog 17 #[.int .i64 n] w fun e w' => e = .returned (.tuple #[.pointer none, .int .i64 1]) ∧ w' = w := by
  rcases h with h | h
  · go_enter Tryd.func17, Tryd.ntmps17
    go_wp2
    go_ret2
    exact ⟨rfl, rfl⟩
  · have g0 : ¬ n < 1 := by omega
    go_enter Tryd.func17, Tryd.ntmps17
    go_wp2
    go_ret2
    exact ⟨rfl, rfl⟩
set_option maxRecDepth 100000 in
theorem cache_new_no (n : Int) (w : World) (h : n < 1 ∨ 64 < n) :
    Calls Tryd.prog 16 #[.int .i64 n] w fun e w' => e = .returned (.tuple #[.pointer none, .int .i64 1]) ∧ w' = w := by
  rcases h with h | h
  · go_enter Tryd.func16, Tryd.ntmps16
    go_wp2
    go_ret2
    exact ⟨rfl, rfl⟩
  · have g0 : ¬ n < 1 := by omega
    go_enter Tryd.func16, Tryd.ntmps16
    go_wp2
    go_ret2
    exact ⟨rfl, rfl⟩
set_option maxRecDepth 100000 in
theorem there_no (w : World) : Calls Tryd.prog 55 #[.pointer none] w fun e w' => e = .returned (.bool false) ∧ w' = w := by
  go_enter Tryd.func55, Tryd.ntmps55
  go_wp2
  go_ret
  exact ⟨rfl, rfl⟩
set_option maxRecDepth 100000 in
theorem find_no (w : World) (f : Int) (x : Value) : Calls Tryd.prog 18 #[.pointer none, .int .u64 f, x] w fun e w' => e = .returned (.tuple #[.slice none 0 0, .bool false]) ∧ w' = w := by
  go_enter Tryd.func18, Tryd.ntmps18
  go_wp2_with fail
  refine (there_no w).mono ?_
  rintro e w1 ⟨rfl, rfl⟩
  go_wp2
  go_ret2
  exact ⟨rfl, rfl⟩
set_option maxRecDepth 100000 in
theorem add_no (w : World) (f : Int) (x y : Value) : Calls Tryd.prog 19 #[.pointer none, .int .u64 f, x, y] w fun e w' => e = .returned (.int .i64 2) ∧ w' = w := by
  go_enter Tryd.func19, Tryd.ntmps19
  go_wp2_with fail
  refine (there_no w).mono ?_
  rintro e w1 ⟨rfl, rfl⟩
  go_wp2
  go_ret
  exact ⟨rfl, rfl⟩
set_option maxRecDepth 100000 in
theorem len_no (w : World) : Calls Tryd.prog 20 #[.pointer none] w fun e w' => e = .returned (.int .i64 0) ∧ w' = w := by
  go_enter Tryd.func20, Tryd.ntmps20
  go_wp2_with fail
  refine (there_no w).mono ?_
  rintro e w1 ⟨rfl, rfl⟩
  go_wp2
  go_ret
  exact ⟨rfl, rfl⟩
set_option maxRecDepth 100000 in
theorem ref_len (w : World) (base rb N : Nat) (v : Value) (rs : Rem) (h : RefIs w base rb N v rs) :
    Calls Tryd.prog 24 #[.pointer (some ⟨rb, 0, none⟩)] w fun e w' => e = .returned (.int .i64 rs.length) ∧ w' = w := by
  obtain ⟨A, c, rfl, e2, e3, _⟩ := h.row.form
  have hc : w.cell? ⟨rb, 1, none⟩ = some _ := h.blk.cell 1 rfl
  go_enter Tryd.func24, Tryd.ntmps24
  go_wp2
  go_ret
  exact ⟨rfl, rfl⟩

/-- What Find answers. -/
def RFind (o : Option (List Int)) (e : Ending) (w' : World) : Prop := match o with
  | none => e = .returned (.tuple #[.slice none 0 0, .bool false])
  | some r => ∃ X d, e = .returned (.tuple #[.slice X r.length d, .bool true]) ∧ Rd w' X r
theorem RFind.none {o : Option (List Int)} {e : Ending} {w' : World} (h : o = .none) (he : e = .returned (.tuple #[.slice .none 0 0, .bool false])) : RFind o e w' := by
  subst h; exact he
theorem RFind.some {o : Option (List Int)} {e : Ending} {w' : World} {r : List Int} {X : Option Addr} {d : Nat} (h : o = .some r) (he : e = .returned (.tuple #[.slice X r.length d, .bool true])) (hx : Rd w' X r) : RFind o e w' := by
  subst h; exact ⟨X, d, he, hx⟩
theorem strOf_inj {l m : List Int} (hl : Bs l) (hm : Bs m) (h : strOf l = strOf m) : l = m := u8s_inj hl hm (by rw [← strOf_data, ← strOf_data, h])
theorem str_eq {l m : List Int} (hl : Bs l) (hm : Bs m) : ((strOf l).toList == (strOf m).toList) = decide (l = m) := by
  rw [strOf_list, strOf_list, Bool.eq_iff_iff, beq_iff_eq, decide_eq_true_eq]
  exact ⟨u8s_inj hl hm, fun h => by rw [h]⟩
/-- []byte of a text. -/
theorem run_of_str (w : World) (r : List Int) (hr : Bs r) : ∃ d w', (convert 9 24 (.string (strOf r))).run Tryd.prog w = .ok (.slice (some ⟨w.heap.size, 0, none⟩) r.length d) w' ∧ Rd w' (some ⟨w.heap.size, 0, none⟩) r ∧ Below w.heap.size w w' := by
  have h := run_bytes_of_string (P := Tryd.prog) w 9 24 5 (strOf r) Tryd.underlying9 Tryd.underlying24 Tryd.underlying5
  rw [strOf_size] at h
  refine ⟨_, _, h, ⟨hr, fun h0 => ⟨_, rfl, fun j hj => ?_⟩⟩, ((Below.refl _ w).drew).alloc (Nat.le_refl _) _⟩
  rw [add_plain, cell_of_row (w.drew.alloc _) w.heap.size j _ _ _ (heap_alloc_new w.drew _)]
  unfold bytesRow
  have hb : (u8s r)[j]? = .some (UInt8.ofNat (nth r j).toNat) := by
    unfold u8s
    rw [List.getElem?_map, List.getElem?_eq_getElem hj, gd _ _ hj]; rfl
  rw [← strOf_data] at hb
  have hlt : j < (strOf r).data.size := by have := strOf_size r; rw [show (strOf r).size = (strOf r).data.size from rfl] at this; omega
  rw [Array.getElem?_append_left (by simpa using hlt), Array.getElem?_map, ← Array.getElem?_toList, hb]
  have := hr.get j
  simp only [Option.map_some, UInt8.toNat_ofNat', Option.some.injEq, Value.int.injEq, true_and]
  rw [Nat.mod_eq_of_lt (by omega), Int.toNat_of_nonneg this.1]

set_option maxRecDepth 100000 in
set_option maxHeartbeats 2000000 in
theorem ref_find (w : World) (base rb N : Nat) (v : Value) (rs : Rem) (h : RefIs w base rb N v rs) (f : Int) (A : Option Addr) (c : Nat) (s : List Int) (hs : Rd w A s) :
    Calls Tryd.prog 23 #[.pointer (some ⟨rb, 0, none⟩), .int .u64 f, .slice A s.length c] w fun e w' => Below w.heap.size w w' ∧ RFind (look rs f s) e w' := by
  obtain ⟨Av, cv, rfl, hn1, hn2, hcell⟩ := h.row.form
  have hc : w.cell? ⟨rb, 1, none⟩ = some _ := h.blk.cell 1 rfl
  have HS := Lib.hid (show ∀ n, (convert 24 9 (.slice A s.length c)).run Tryd.prog (w.drewN n) = .ok (.string (strOf s)) (w.drewN n) from fun n => run_str (w.drewN n) A c s (hs.drewN n))
  have hmx : rs.length ≤ 9223372036854775807 := by unfold maxLen at hn2; omega
  clear hn1 hn2
  have HC := Lib.hid hcell
  have HBS := Lib.hid h.bs
  have hsb := Lib.hid hs.1
  clear hcell hs
  go_enter Tryd.func23, Tryd.ntmps23
  go_wp2_with fail
  go_loopw [8] (fun i wr => ∃ k n : Nat, k ≤ rs.length ∧ i = .int .i64 k ∧ wr = w.drewN n ∧ Hid (look rs f s = look (rs.drop k) f s)) (fun i _ => rs.length - (intOf i).toNat)
  case atStart => exact ⟨0, 0, Nat.zero_le _, rfl, rfl, Lib.hid (by simp)⟩
  case round =>
    obtain ⟨k, n, hk, rfl, rfl, hlook⟩ := hrel
    by_cases hlt : k < rs.length
    · have hkl : (k : Int) < (rs.length : Int) := by omega
      obtain ⟨g, off, rfl, _, hcl⟩ := HC.out (by omega)
      obtain ⟨t0, t1, t2⟩ := rcells_get rs k hlt
      have e0 := (hcl (k * 3) (by omega)).trans t0
      have e1 := (hcl (k * 3 + 1) (by omega)).trans t1
      have e2 := (hcl (k * 3 + 2) (by omega)).trans t2
      have HD := Lib.hid (List.drop_eq_getElem_cons hlt)
      have hok := HBS.out _ (List.getElem_mem hlt)
      clear hcl t0 t1 t2
      obtain ⟨ent, hent⟩ : ∃ x, x = rs[k] := ⟨_, rfl⟩
      rw [← hent] at e0 e1 e2 HD hok
      clear hent
      obtain ⟨⟨kf, kc⟩, kr⟩ := ent
      obtain ⟨ok1, ok2, ok3⟩ := hok
      have HK := Lib.hid ok1.2.1
      have HR := Lib.hid ok2
      have h3 := ok3
      clear ok1 ok2
      simp only at e0 e1 e2 h3
      have e0 : (w.drewN n).cell? ⟨g, off + k * 3, none⟩ = some (.int .u64 kf) := e0
      have e1 : (w.drewN n).cell? ⟨g, off + k * 3 + 1, none⟩ = some (.string (strOf kc)) := e1
      have e2 : (w.drewN n).cell? ⟨g, off + k * 3 + 2, none⟩ = some (.string (strOf kr)) := e2
      have hs : ∀ m, (convert 24 9 (.slice A s.length c)).run Tryd.prog ((w.drewN n).drewN m) = .ok (.string (strOf s)) ((w.drewN n).drewN m) := fun m => by rw [World.drewN_drewN]; exact HS.out _
      have hc : (w.drewN n).cell? ⟨rb, 1, none⟩ = some (.slice (some ⟨g, off, none⟩) rs.length cv) := hc
      have hB : Below w.heap.size w (w.drewN n) := below_drewN (Below.refl _ w) n
      have hbs : ∀ x, x = w.drewN n → Below w.heap.size w x := fun x h => below_drawn h
      obtain ⟨W, HW⟩ : ∃ W, Hid (W = w.drewN n) := ⟨_, Lib.hid rfl⟩
      rw [← HW.out] at hs hc e0 e1 e2 hB
      rw [show w.drewN n = W from HW.out.symm]
      clear hbs
      have heq := str_eq HK.out hsb.out
      by_cases hf : kf = f
      · have hfe : (kf == f) = true := by rw [beq_iff_eq]; exact hf
        by_cases hq : kc = s
        · rw [decide_eq_true hq] at heq
          have HY := Lib.hid (show look rs f s = some kr by rw [hlook.out, HD.out, look_cons, if_pos (by rw [hf, hq])])
          clear hf hq
          go_wp2
          go_quiet (fail)
          have e2 : (W.drewN nq).cell? ⟨g, off + k * 3 + 2, none⟩ = some (.string (strOf kr)) := e2
          have hc : (W.drewN nq).cell? ⟨rb, 1, none⟩ = some (.slice (some ⟨g, off, none⟩) rs.length cv) := hc
          have hB2 : Below w.heap.size w (W.drewN nq) := below_drewN hB nq
          obtain ⟨d, w', hrun, hrd, hB'⟩ := run_of_str (W.drewN nq) kr HR.out
          have HR2 := Lib.hid hrd
          have HB2 := Lib.hid (below_then hB2 hB')
          clear hB hB' hrd heq hfe e0 e1 hs hB2
          go_wp2
          go_ret2
          exact ⟨HB2.out, .some HY.out rfl HR2.out⟩
        · rw [decide_eq_false hq] at heq
          have HX := Lib.hid (show look rs f s = look (rs.drop (k + 1)) f s by rw [hlook.out, HD.out, look_cons, if_neg (fun h => hq (by injection h))])
          clear hf hq
          go_wp2
          go_quiet (fail)
          go_wp2
          exact ⟨⟨k + 1, _, by omega, by go_num, (by rw [HW.out, World.drewN_drewN]), HX⟩, by simp [intOf]; omega⟩
      · have hfe : (kf == f) = false := by rw [beq_eq_false_iff_ne]; exact hf
        have HX := Lib.hid (show look rs f s = look (rs.drop (k + 1)) f s by rw [hlook.out, HD.out, look_cons, if_neg (fun h => hf (by injection h with h _))])
        clear hf heq
        go_wp2
        go_quiet (fail)
        go_wp2
        exact ⟨⟨k + 1, _, by omega, by go_num, (by rw [HW.out, World.drewN_drewN]), HX⟩, by simp [intOf]; omega⟩
    · have hkl : ¬ (k : Int) < (rs.length : Int) := by omega
      obtain rfl : k = rs.length := by omega
      have hno : look rs f s = none := by rw [hlook.out, List.drop_length, look_nil]
      have HN := Lib.hid hno
      clear hno
      go_wp2
      go_ret2
      exact ⟨below_drewN (Below.refl _ w) n, .none HN.out rfl⟩
end Go.Proofs.YtoodmjdafifbmaaDoor.Hand
