/- The reference's cache: the contract of Add. -/
import Derived.Test.YtoodmjdafifbmaaDoorRefCache
namespace Go.Proofs.YtoodmjdafifbmaaDoor.Hand
open Go.RowKit Go.Proofs.YtoodmjdafifbmaaDoorW.PrintLast
set_option linter.unusedVariables false
set_option linter.unusedSimpArgs false

theorem infoC : ∃ i, Tryd.prog.info? 87 = some i ∧ i.zero = some (.agg #[.int .u64 0, .string (strOf []), .string (strOf [])]) ∧ i.size = 3 ∧ i.bytes = 40 := by
  have h : (Tryd.prog.info? 87).map (fun i => (i.zero, i.size, i.bytes)) = some (some (.agg #[.int .u64 0, .string (strOf []), .string (strOf [])]), 3, 40) := by kernel_rfl
  exact info_parts h
theorem run_cut3 (w : World) (A : Addr) (n c : Nat) (hn : 1 ≤ c) : (Instr.slice 80 (.slice (some A) (n + 1) c) (some (.int .i64 1)) none none).run Tryd.prog w = .ok (.slice (if c = 1 then some A else some (A.add 3)) n (c - 1)) w := by
  obtain ⟨i, hi, _, h2, _⟩ := infoC
  have he : Tryd.prog.elem 80 = 87 := by simp [Program.elem, Tryd.underlying80]
  rw [run_slice_l w 80 (some A) (n + 1) c (by rw [he]; exact Tryd.underlying80) .i64 1 (by decide) (by omega)]
  simp [he, sizeOf, typeInfo, hi, h2, sliced]

theorem next_full {N : Nat} {rs tl : Rem} {k : Key} {r : List Int} {hd : Key × List Int} (h : N < rs.length + 1) (e : rs ++ [(k, r)] = hd :: tl) : remNext N rs k r = tl := by unfold remNext; rw [if_pos h, e]; rfl
theorem next_no {N : Nat} {rs : Rem} {k : Key} {r : List Int} (h : ¬ N < rs.length + 1) : remNext N rs k r = rs ++ [(k, r)] := if_neg h

/-- append([]call(nil), q...), q not empty. -/
theorem run_copy_que (w : World) (base : Nat) (ty : TypeId) (A : Option Addr) (n c : Nat) (xs : List Value) (hq : Que w base 87 3 (.slice A n c) n xs) (h1 : 1 ≤ n) (hn : n ≤ 100) (hb : base ≤ w.heap.size) :
    ∃ d w', (Builtin.append_ #[80, 80] ty #[.slice none 0 0, .slice A n c]).run Tryd.prog w = .ok (.slice (some ⟨w.heap.size, 0, none⟩) n d) w' ∧ Que w' base 87 3 (.slice (some ⟨w.heap.size, 0, none⟩) n d) n xs ∧ Below w.heap.size w w' := by
  obtain ⟨i, hi, hz0, hz1, hz2⟩ := infoC
  obtain ⟨A', c', e, hc, hm, hcell⟩ := hq.form
  injection e with e1 _ e3
  subst e1 e3
  obtain ⟨g, off, rfl, hg, hcell⟩ := hcell (by omega)
  have h := run_append_nil (P := Tryd.prog) w 80 ty 87 i (.agg #[.int .u64 0, .string (strOf []), .string (strOf [])]) Tryd.underlying80 hi hz0 ⟨g, off, none⟩ n c xs (by rw [hz1]; exact hq.1)
    (fun j v hj => by
      have hj' : j < n * 3 := by rw [← hq.1]; exact (List.getElem?_eq_some_iff.1 hj).1
      rw [Addr.add_lit, hcell j hj']
      exact hj) (by omega) (by omega) (by rw [hz2]; omega)
  have hge := grownCap_ge w n 0 87
  have hcm : grownCap w n 0 87 ≤ maxLen := grownCap_le_maxLen w n 0 87 (by unfold maxLen; omega)
  refine ⟨_, _, h, ⟨hq.1, .inr ⟨w.heap.size, 0, _, _, rfl, hb, heap_alloc_new w.drew _, hge, hcm, ?_, ?_⟩⟩, ((Below.refl _ w).drew).alloc (Nat.le_refl _) _⟩
  · have hs : (Value.agg #[.int .u64 0, .string (strOf []), .string (strOf [])]).cells.size = 3 := rfl
    simp only [Array.size_append, List.size_toArray, size_zeroCells, hs, hq.1, Nat.zero_add, ← Nat.add_mul]
    exact Nat.mul_le_mul_right _ (by omega)
  · simp only [Array.toList_append, List.drop_zero]
    rw [← hq.1]
    exact List.take_left

/-- An append whose run is known, for the walk. -/
theorem wpList_append_run {P : Program} {ops : Array Oper} {rest : List Oper} {o : Oper} {act : Act} {w : World} {Q : Exit → Act → World → Prop} (hgd : o.guard = none) (s x : Operand) (t u : TypeId)
    (ho : o.op = .call { callee := .builtin .append, args := #[s, x], argTypes := #[t, u] }) (v y v' : Value) (w' : World) (hs : act.eval s = v) (hx : act.eval x = y)
    (hrun : (Builtin.append_ #[t, u] o.type #[v, y]).run P w = .ok v' w') (h : wpList P ops Q rest (act.put o.dst v') w') : wpList P ops Q (o :: rest) act w := by
  refine wpList_plain hgd fun K hK => ?_
  unfold Oper.wp execOp
  simp only [ho, resolve, invoke, builtin, Sem.run_bind, Sem.run_pure, Result.andThen_ok, List.map_toArray, List.map_cons, List.map_nil, hs, hx, hrun]
  exact hK _ _ h

def RAddEnd (w : World) (base rb N : Nat) (v : Value) (rs : Rem) (f : Int) (s r : List Int) (e : Ending) (w' : World) : Prop :=
  ((look rs f s).isSome = true ∧ e = .returned (.int .i64 7) ∧ Below w.heap.size w w') ∨ (look rs f s = none ∧ e = .returned (.int .i64 0) ∧ ∃ v', RefIs w' base rb N v' (remNext N rs (f, s) r) ∧ But w w' rb rb v.ownBlock)
theorem RAddEnd.was {w : World} {base rb N : Nat} {v : Value} {rs : Rem} {f : Int} {s r : List Int} {e : Ending} {w' : World} (h1 : (look rs f s).isSome = true) (h2 : e = .returned (.int .i64 7)) (h3 : Below w.heap.size w w') : RAddEnd w base rb N v rs f s r e w' := .inl ⟨h1, h2, h3⟩
theorem RAddEnd.new {w : World} {base rb N : Nat} {v : Value} {rs : Rem} {f : Int} {s r : List Int} {e : Ending} {w' : World} {v' : Value} (h1 : look rs f s = none) (h2 : e = .returned (.int .i64 0)) (h3 : RefIs w' base rb N v' (remNext N rs (f, s) r)) (h4 : But w w' rb rb v.ownBlock) : RAddEnd w base rb N v rs f s r e w' := .inr ⟨h1, h2, v', h3, h4⟩

set_option maxRecDepth 100000 in
set_option maxHeartbeats 2000000 in
theorem ref_add (w : World) (base rb N : Nat) (v : Value) (rs : Rem) (h : RefIs w base rb N v rs) (hbase : base ≤ w.heap.size) (hlen : rs.length ≤ N)
    (f : Int) (A : Option Addr) (c : Nat) (s : List Int) (hl : Rd w A s) (hk : okKey f s) (B : Option Addr) (d : Nat) (r : List Int) (hr : Rd w B r) (hrl : r.length ≤ 1000000) :
    Calls Tryd.prog 22 #[.pointer (some ⟨rb, 0, none⟩), .int .u64 f, .slice A s.length c, .slice B r.length d] w (RAddEnd w base rb N v rs f s r) := by
  have HF := Lib.hid (ref_find w base rb N v rs h f A c s hl)
  obtain ⟨o, ho⟩ : ∃ o, o = look rs f s := ⟨_, rfl⟩
  have HO := Lib.hid ho
  rw [← ho] at HF
  clear ho
  go_enter Tryd.func22, Tryd.ntmps22
  go_wp2_with fail
  refine HF.out.mono ?_
  rintro e w1 ⟨hB1, hrf⟩
  cases o with
  | some r0 =>
    obtain ⟨X, d0, rfl, _⟩ := hrf
    go_wp2
    go_ret
    exact .was (by rw [← HO.out]; rfl) rfl hB1
  | none =>
    obtain rfl := hrf
    have hno := Lib.hid HO.out.symm
    have h1 := h.below hB1
    have hl1 := hl.below hB1
    have hr1 := hr.below hB1
    have hb1 : base ≤ w1.heap.size := Nat.le_trans hbase hB1.size
    have hvlt : ∀ g, v.ownBlock = some g → g < w.heap.size := fun g hg => h.row.lt hg
    have hcb := h1.blk
    have hq := h1.row
    have HL := Lib.hid hlen
    have HM := Lib.hid h.most
    clear HF HO hl hr
    obtain ⟨Av, cv, rfl, _, _, _⟩ := hq.form
    have c1 := hcb.cell 1 (v := .slice Av rs.length cv) rfl
    have s1 : (convert 24 9 (.slice A s.length c)).run Tryd.prog w1.drew = .ok (.string (strOf s)) w1.drew := run_str w1.drew A c s (hl1.drewN 1)
    have s2 : (convert 24 9 (.slice B r.length d)).run Tryd.prog w1.drew = .ok (.string (strOf r)) w1.drew := run_str w1.drew B d r (hr1.drewN 1)
    obtain ⟨i0, hi, hz0, hz1, hz2⟩ := infoC
    go_wp2
    refine start_ (n := 16) (S := fun w' => w'.cell? ⟨rb, 1, none⟩ = some (.slice Av rs.length cv) ∧ (convert 24 9 (.slice A s.length c)).run Tryd.prog w' = .ok (.string (strOf s)) w' ∧ (convert 24 9 (.slice B r.length d)).run Tryd.prog w' = .ok (.string (strOf r)) w') (ds := [12, 15]) #[false, false, false, false, false, false, false, false, false, false, false, false, false, false, false, false] (by kernel_rfl) rfl rfl ⟨c1, s1, s2⟩ (fun hHeld => ?_)
    refine pure_ (i := 0) (N := some 19) (v := ?_) (a' := ?_) #[true, false, false, false, false, false, false, false, false, false, false, false, false, false, false, false] rfl rfl (by kernel_rfl) (fun _ _ _ h => h) (Or.inl ⟨by rfl, ?_⟩) ?_ ?_
    rotate_left
    · intro w'
      go_simp
      with_reducible rfl
    rotate_left
    · simp only [Act.put, List.setIfInBounds_toArray, List.set_cons_zero, List.set_cons_succ, i64_w, i32_w]
      rfl
    refine pure_ (i := 1) (N := some 20) (v := ?_) (a' := ?_) #[true, true, false, false, false, false, false, false, false, false, false, false, false, false, false, false] rfl rfl (by kernel_rfl) (fun _ _ _ h => h) (Or.inl ⟨by rfl, ?_⟩) ?_ ?_
    rotate_left
    · intro w'
      go_simp
      with_reducible rfl
    rotate_left
    · simp only [Act.put, List.setIfInBounds_toArray, List.set_cons_zero, List.set_cons_succ, i64_w, i32_w]
      rfl
    refine pure_ (i := 2) (N := some 21) (v := ?_) (a' := ?_) #[true, true, true, false, false, false, false, false, false, false, false, false, false, false, false, false] rfl rfl (by kernel_rfl) (fun _ _ _ h => h) (Or.inl ⟨by rfl, ?_⟩) ?_ ?_
    rotate_left
    · intro w'
      go_simp
      with_reducible rfl
    rotate_left
    · simp only [Act.put, List.setIfInBounds_toArray, List.set_cons_zero, List.set_cons_succ, i64_w, i32_w]
      rfl
    refine pure_ (i := 3) (N := some 22) (v := ?_) (a' := ?_) #[true, true, true, true, false, false, false, false, false, false, false, false, false, false, false, false] rfl rfl (by kernel_rfl) (fun _ _ _ h => h) (Or.inl ⟨by rfl, ?_⟩) ?_ ?_
    rotate_left
    · intro w'
      go_simp
      with_reducible rfl
    rotate_left
    · simp only [Act.put, List.setIfInBounds_toArray, List.set_cons_zero, List.set_cons_succ, i64_w, i32_w]
      rfl
    refine pure_ (i := 5) (N := some 24) (v := ?_) (a' := ?_) #[true, true, true, true, false, true, false, false, false, false, false, false, false, false, false, false] rfl rfl (by kernel_rfl) (fun _ _ _ h => h) (Or.inl ⟨by rfl, ?_⟩) ?_ ?_
    rotate_left
    · intro w'
      go_simp
      with_reducible rfl
    rotate_left
    · simp only [Act.put, List.setIfInBounds_toArray, List.set_cons_zero, List.set_cons_succ, i64_w, i32_w]
      rfl
    refine pure_ (i := 6) (N := some 25) (v := ?_) (a' := ?_) #[true, true, true, true, false, true, true, false, false, false, false, false, false, false, false, false] rfl rfl (by kernel_rfl) (fun _ _ _ h => h) (Or.inl ⟨by rfl, ?_⟩) ?_ ?_
    rotate_left
    · intro w'
      go_simp
      with_reducible rfl
    rotate_left
    · simp only [Act.put, List.setIfInBounds_toArray, List.set_cons_zero, List.set_cons_succ, i64_w, i32_w]
      rfl
    refine pure_ (i := 8) (N := some 27) (v := ?_) (a' := ?_) #[true, true, true, true, false, true, true, false, true, false, false, false, false, false, false, false] rfl rfl (by kernel_rfl) (fun _ _ _ h => h) (Or.inl ⟨by rfl, ?_⟩) ?_ ?_
    rotate_left
    · intro w'
      go_simp
      with_reducible rfl
    rotate_left
    · simp only [Act.put, List.setIfInBounds_toArray, List.set_cons_zero, List.set_cons_succ, i64_w, i32_w]
      rfl
    refine take_ (i := 4) (N := some 23) (v := ?_) (a' := ?_) #[true, true, true, true, true, true, true, false, true, false, false, false, false, false, false, false] rfl rfl (by kernel_rfl) (fun _ _ _ h => h) (Or.inl ⟨by rfl, ?_⟩) hHeld ?_ ?_
    rotate_left
    · rintro w' ⟨s0, s1, s2⟩
      go_simp
      with_reducible rfl
    rotate_left
    · simp only [Act.put, List.setIfInBounds_toArray, List.set_cons_zero, List.set_cons_succ, i64_w, i32_w]
      rfl
    refine take_ (i := 7) (N := some 26) (v := ?_) (a' := ?_) #[true, true, true, true, true, true, true, true, true, false, false, false, false, false, false, false] rfl rfl (by kernel_rfl) (fun _ _ _ h => h) (Or.inl ⟨by rfl, ?_⟩) hHeld ?_ ?_
    rotate_left
    · rintro w' ⟨s0, s1, s2⟩
      go_simp
      with_reducible rfl
    rotate_left
    · simp only [Act.put, List.setIfInBounds_toArray, List.set_cons_zero, List.set_cons_succ, i64_w, i32_w]
      rfl
    refine take_ (i := 9) (N := some 28) (v := ?_) (a' := ?_) #[true, true, true, true, true, true, true, true, true, true, false, false, false, false, false, false] rfl rfl (by kernel_rfl) (fun _ _ _ h => h) (Or.inl ⟨by rfl, ?_⟩) hHeld ?_ ?_
    rotate_left
    · rintro w' ⟨s0, s1, s2⟩
      go_simp
      with_reducible rfl
    rotate_left
    · simp only [Act.put, List.setIfInBounds_toArray, List.set_cons_zero, List.set_cons_succ, i64_w, i32_w]
      rfl
    refine pure_ (i := 10) (N := some 29) (v := ?_) (a' := ?_) #[true, true, true, true, true, true, true, true, true, true, true, false, false, false, false, false] rfl rfl (by kernel_rfl) (fun _ _ _ h => h) (Or.inl ⟨by rfl, ?_⟩) ?_ ?_
    rotate_left
    · intro w'
      go_simp
      with_reducible rfl
    rotate_left
    · simp only [Act.put, List.setIfInBounds_toArray, List.set_cons_zero, List.set_cons_succ, i64_w, i32_w]
      rfl
    refine one_ (i := 11) (N := some 30) #[true, true, true, true, true, true, true, true, true, true, true, true, false, false, false, false] rfl rfl (by kernel_rfl) (by decide) (fun K hK => ?_)
    refine value_ (w1 := ?_) (v := ?_) (by rfl) rfl ?_ ?_
    rotate_left 2
    · go_simp
      constructor
      · rfl
      · rfl
    have q3 : Que (w1.drew.alloc (.cells #[.int .u64 f, .string (strOf s), .string (strOf r)] 87)) base _ 3 _ _ _ := hq.alloc (.cells #[.int .u64 f, .string (strOf s), .string (strOf r)] 87)
    have n3 : Blk (w1.drew.alloc (.cells #[.int .u64 f, .string (strOf s), .string (strOf r)] 87)) w1.heap.size _ _ := Blk.new w1.drew 87 #[.int .u64 f, .string (strOf s), .string (strOf r)]
    have c2 := cell_old c1 (.cells #[.int .u64 f, .string (strOf s), .string (strOf r)] 87)
    have s12 := run_str (w1.drew.alloc (.cells #[.int .u64 f, .string (strOf s), .string (strOf r)] 87)) A c s ((hl1.drewN 1).alloc _)
    have s22 := run_str (w1.drew.alloc (.cells #[.int .u64 f, .string (strOf s), .string (strOf r)] 87)) B d r ((hr1.drewN 1).alloc _)
    have hb3 : base ≤ (w1.drew.alloc (.cells #[.int .u64 f, .string (strOf s), .string (strOf r)] 87)).heap.size := by simp; omega
    refine hK.out _ _ ⟨c2, s12, s22⟩ (fun hHeld => ?_)
    clear hK K
    refine norm_ (a' := ?_) ?_ ?_
    rotate_left
    · show Act.put _ (some 30) _ = _
      simp only [Act.put, List.setIfInBounds_toArray, List.set_cons_zero, List.set_cons_succ, i64_w, i32_w]
      rfl
    refine last_ (i := 12) (N := some 31) #[true, true, true, true, true, true, true, true, true, true, true, true, true, false, false, false] rfl rfl (by kernel_rfl) (by decide) (fun K hK => ?_)
    rw [if_pos (by rfl)]
    refine wp_que _ _ _ 80 rfl base 87 i0 _ 3 40 Tryd.underlying80 hi hz0 hz1 hz2 rfl (by decide) _ _ _ rfl q3 ⟨w1.heap.size, 0, none⟩ 1 1 [.int .u64 f, .string (strOf s), .string (strOf r)] rfl rfl ?_ ?_ (by decide) ?_ ?_ hb3 ?_
    · exact n3.cells2
    · intro u hu
      simp only [List.mem_cons, List.not_mem_nil, or_false] at hu
      rcases hu with rfl | rfl | rfl <;> rfl
    · have := HL.out
      have := HM.out
      unfold maxLen
      omega
    · have := HL.out
      have := HM.out
      omega
    intro v4 x4 q4 g4 a4
    have b4 : Blk x4 rb _ _ := (show Blk (w1.drew.alloc (.cells #[.int .u64 f, .string (strOf s), .string (strOf r)] 87)) rb _ _ from hcb.alloc _).grown g4 (fun e => h.ne e.symm)
    have c14 := b4.cell 1 (v := .slice Av rs.length cv) rfl
    have f4 := b4.frozen 1
    obtain ⟨A4, c4, rfl, hcn4, hcm4, _⟩ := q4.form
    refine hK.out _ _ ?_
    clear hK K
    refine norm_ (a' := ?_) ?_ ?_
    rotate_left
    · show Act.put _ (some 31) _ = _
      simp only [Act.put, List.setIfInBounds_toArray, List.set_cons_zero, List.set_cons_succ, i64_w, i32_w]
      rfl
    refine pure_ (i := 13) (N := some 32) (v := ?_) (a' := ?_) #[true, true, true, true, true, true, true, true, true, true, true, true, true, true, false, false] rfl rfl (by kernel_rfl) (fun _ _ _ h => h) (Or.inl ⟨by rfl, ?_⟩) ?_ ?_
    rotate_left
    · intro w'
      go_simp
      with_reducible rfl
    rotate_left
    · simp only [Act.put, List.setIfInBounds_toArray, List.set_cons_zero, List.set_cons_succ, i64_w, i32_w]
      rfl
    refine pure_ (i := 14) (N := some 33) (v := ?_) (a' := ?_) #[true, true, true, true, true, true, true, true, true, true, true, true, true, true, true, false] rfl rfl (by kernel_rfl) (fun _ _ _ h => h) (Or.inl ⟨by rfl, ?_⟩) ?_ ?_
    rotate_left
    · intro w'
      go_simp
      with_reducible rfl
    rotate_left
    · simp only [Act.put, List.setIfInBounds_toArray, List.set_cons_zero, List.set_cons_succ, i64_w, i32_w]
      rfl
    refine last_ (i := 15) (N := none) #[true, true, true, true, true, true, true, true, true, true, true, true, true, true, true, true] rfl rfl (by kernel_rfl) (by decide) (fun K hK => ?_)
    refine skip_ (w1 := ?_) (by rfl) rfl ?_ ?_
    rotate_left
    · go_simp
      rfl
    refine hK.out _ _ ?_
    clear hK K
    refine done_ (by kernel_rfl) ?_
    have hcbl := hcb.lt
    have hal : ((w1.alloc (.cells #[.int .u64 f, .string (strOf s), .string (strOf r)] 87)).drew).heap.size = w1.heap.size + 1 := by simp
    have h4sz := g4.size
    have ha4 : (Value.slice A4 (rs.length + 1) c4).ownBlock = (Value.slice Av rs.length cv).ownBlock ∨ (Value.slice A4 (rs.length + 1) c4).ownBlock = some (w1.heap.size + 1) := by
      rcases a4 with e | e
      · exact .inl e
      · exact .inr (e.trans (congrArg some hal))
    have h4sz : w1.heap.size + 1 ≤ x4.heap.size := by rw [← hal]; exact h4sz
    have hne : (Value.slice A4 (rs.length + 1) c4).ownBlock ≠ some rb := by
      rcases ha4 with e | e
      · rw [e]; exact h.ne
      · rw [e]
        intro e
        injection e with e
        omega
    have hb5 : But w (x4.setCell ⟨rb, 1, none⟩ (.slice A4 (rs.length + 1) c4)) rb rb (Value.slice Av rs.length cv).ownBlock := by
      refine ⟨g4.os.trans hB1.os, g4.tape.trans hB1.tape, g4.output.trans hB1.output, by have := hB1.size; simp [World.setCell]; omega, fun i hi e1 e2 e3 => ?_⟩
      rw [Below.heap_setCell x4 ⟨rb, 1, none⟩ _ i e1, g4.block i (by have := hB1.size; simp; omega) e3]
      refine (Below.heap_alloc w1 _ i (by have := hB1.size; omega)).trans ?_
      exact hB1.block i hi
    have his : RefIs (x4.setCell ⟨rb, 1, none⟩ (.slice A4 (rs.length + 1) c4)) base rb N (.slice A4 (rs.length + 1) c4) (rs ++ [((f, s), r)]) := by
      refine ⟨b4.set_ 1 _, ?_, h.rb_ge, hne, h.pos, h.most, ?_⟩
      · rw [List.length_append, rcells_append]
        refine q4.kept fun g hg => Below.heap_setCell x4 ⟨rb, 1, none⟩ _ g (fun e => hne ?_)
        rw [hg]
        exact congrArg some e
      · intro e he
        rcases List.mem_append.1 he with he | he
        · exact h.bs e he
        · obtain rfl : e = ((f, s), r) := by simpa using he
          exact ⟨hk, hr1.1, hrl⟩
    clear b4 c14 f4 q4 g4 a4 c1 s1 s2 hq hcb q3 n3 c2 s12 s22 hb3 ha4 h4sz hal hl1 hr1 h1 hHeld
    generalize x4.setCell ⟨rb, 1, none⟩ (.slice A4 (rs.length + 1) c4) = x5 at *
    have d0 := his.blk.cell 0 (v := .int .i64 N) rfl
    have d1 := his.blk.cell 1 (v := .slice A4 (rs.length + 1) c4) rfl
    by_cases hfull : N < rs.length + 1
    · have hgt : (N : Int) < (rs.length : Int) + 1 := by omega
      have HFu := Lib.hid hfull
      clear hfull
      go_wp2
      go_quiet (fail)
      obtain ⟨hd, tl, hks⟩ : ∃ hd tl, rs ++ [((f, s), r)] = hd :: tl := by
        cases hq : rs ++ [((f, s), r)] with
        | nil => simp at hq
        | cons a b => exact ⟨a, b, rfl⟩
      have eN := Lib.hid (next_full HFu.out hks)
      have hkl : rs.length + 1 = tl.length + 1 := by have := congrArg List.length hks; simpa using this
      have his6 := his.below (below_drewN (Below.refl _ x5) nq)
      have hb6 := hb5.drewN nq
      rw [hks] at his6
      clear his hb5 d0 d1 hks
      generalize x5.drewN nq = x6 at *
      rw [hkl] at his6 hne ⊢
      have hrow : Que x6 base 87 3 (.slice A4 (tl.length + 1) c4) (tl.length + 1) (rcells (hd :: tl)) := his6.row
      obtain ⟨A', c', ev, hc1', _, q7, hown7⟩ := hrow.tail
      injection ev with ev1 _ ev2
      subst ev1 ev2
      have q7 : Que x6 base 87 3 _ tl.length (rcells tl) := q7
      have htl : 1 ≤ tl.length := by
        have := h.pos
        have := HFu.out
        omega
      have htm : tl.length ≤ 100 := by
        have := HL.out
        have := HM.out
        omega
      have hcut := fun W : World => run_cut3 W A' tl.length c4 hc1'
      have b6 := his6.blk
      have d1 := b6.cell 1 (v := .slice (some A') (tl.length + 1) c4) rfl
      have f6 := b6.frozen 1
      have hbx : base ≤ x6.heap.size := Nat.le_trans hbase hb6.size
      generalize (if c4 = 1 then some A' else some (A'.add 3)) = A8 at *
      obtain ⟨d8, x8, hrun, q8, hB8⟩ := run_copy_que x6 base 80 A8 tl.length (c4 - 1) (rcells tl) q7 htl htm hbx
      have b8 := b6.below hB8
      have f8 := b8.frozen 1
      have d8c := b8.cell 1 (v := .slice (some A') (tl.length + 1) c4) rfl
      have hb8 : But w x8 rb rb (Value.slice Av rs.length cv).ownBlock := ⟨hB8.os.trans hb6.os, hB8.tape.trans hb6.tape, hB8.output.trans hb6.output, Nat.le_trans hb6.size hB8.size, fun i hi e1 e2 e3 => (hB8.block i (Nat.lt_of_lt_of_le hi hb6.size)).trans (hb6.block i hi e1 e2 e3)⟩
      have hrb : rb < x6.heap.size := b6.lt
      have HX := Lib.hid hB8
      have hbs6 := his6.bs
      clear hkl hown7 hrow q7 b6 f6 his6 hB8
      go_wp2_with (at_builtin; refine wpList_append_run rfl _ _ _ _ rfl _ _ _ _ rfl rfl hrun ?_)
      go_ret
      refine .new hno.out rfl (v' := .slice (some ⟨x6.heap.size, 0, none⟩) tl.length d8) ?_ ?_
      · rw [eN.out]
        refine ⟨b8.set_ 1 _, q8.kept fun g hg => Below.heap_setCell x8 ⟨rb, 1, none⟩ _ g (fun e => ?_), h.rb_ge, fun e => ?_, h.pos, h.most, fun e he => hbs6 e (List.mem_cons_of_mem _ he)⟩
        · have e1 : g = rb := e
          have e2 : x6.heap.size = g := by simpa [Value.ownBlock] using hg
          omega
        · have e2 : x6.heap.size = rb := by simpa [Value.ownBlock] using e
          omega
      · refine ⟨hb8.os, hb8.tape, hb8.output, by have := hb8.size; simp [World.setCell]; omega, fun i hi e1 e2 e3 => ?_⟩
        rw [Below.heap_setCell x8 ⟨rb, 1, none⟩ _ i e1]
        exact hb8.block i hi e1 e2 e3
    · have hgt : ¬ (N : Int) < (rs.length : Int) + 1 := by omega
      have HFu := Lib.hid hfull
      clear hfull
      go_wp2
      go_quiet (fail)
      go_wp2
      go_ret
      exact .new hno.out rfl (by rw [next_no HFu.out]; exact his.below (below_drewN (Below.refl _ x5) nq)) (hb5.drewN nq)
end Go.Proofs.YtoodmjdafifbmaaDoor.Hand
