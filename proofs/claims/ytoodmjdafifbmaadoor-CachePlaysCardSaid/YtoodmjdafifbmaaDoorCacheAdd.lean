/- The cache: the contract of Add. -/
import Derived.Test.YtoodmjdafifbmaaDoorWLast
import Derived.Test.YtoodmjdafifbmaaDoorCache
namespace Go.Proofs.YtoodmjdafifbmaaDoor.Hand
open Go.RowKit Go.Proofs.YtoodmjdafifbmaaDoorW.PrintLast
set_option linter.unusedVariables false
set_option linter.unusedSimpArgs false

def addKs (N : Nat) (ks : List Key) (k : Key) : List Key := if N < ks.length + 1 then (ks ++ [k]).tail else ks ++ [k]
def headKey (ks : List Key) (k : Key) : Key := (ks ++ [k]).headD k
def addM (N : Nat) (ks : List Key) (m : Int → List Int → Option (List Int)) (f : Int) (l r : List Int) : Int → List Int → Option (List Int) :=
  if N < ks.length + 1 then upd (upd m f l (some r)) (headKey ks (f, l)).1 (headKey ks (f, l)).2 none else upd m f l (some r)

theorem addKs_no {N : Nat} {ks : List Key} {k : Key} (h : ¬ N < ks.length + 1) : addKs N ks k = ks ++ [k] := if_neg h
theorem addM_no {N : Nat} {ks : List Key} {m : Int → List Int → Option (List Int)} {f : Int} {l r : List Int} (h : ¬ N < ks.length + 1) : addM N ks m f l r = upd m f l (some r) := if_neg h
theorem addKs_full {N : Nat} {ks tl : List Key} {k hd : Key} (h : N < ks.length + 1) (e : ks ++ [k] = hd :: tl) : addKs N ks k = tl := by unfold addKs; rw [if_pos h, e]; rfl
theorem addM_full {N : Nat} {ks tl : List Key} {hd : Key} {m : Int → List Int → Option (List Int)} {f : Int} {l r : List Int} (h : N < ks.length + 1) (e : ks ++ [(f, l)] = hd :: tl) : addM N ks m f l r = upd (upd m f l (some r)) hd.1 hd.2 none := by
  unfold addM headKey
  rw [if_pos h, e]; rfl

structure Added (w : World) (base cb mb N cnt : Nat) (v : Value) (ks : List Key) (m : Int → List Int → Option (List Int)) (f : Int) (l r : List Int) (w' : World) (v' : Value) : Prop where
  is : CacheIs w' base cb mb N (cnt + 1) v' (addKs N ks (f, l)) (addM N ks m f l r)
  but : But w w' cb mb v.ownBlock
  at_ : v'.ownBlock = v.ownBlock ∨ ∃ j, v'.ownBlock = some j ∧ w.heap.size ≤ j
def AddEnd (w : World) (base cb mb N cnt : Nat) (v : Value) (ks : List Key) (m : Int → List Int → Option (List Int)) (f : Int) (l r : List Int) (e : Ending) (w' : World) : Prop :=
  ((m f l).isSome = true ∧ e = .returned (.int .i64 7) ∧ Below w.heap.size w w') ∨ (m f l = none ∧ e = .returned (.int .i64 0) ∧ ∃ v', Added w base cb mb N cnt v ks m f l r w' v')

theorem infoK : ∃ i, Tryd.prog.info? 85 = some i ∧ i.zero = some (.agg #[.int .u64 0, .string (strOf [])]) ∧ i.size = 2 ∧ i.bytes = 24 := by
  have h : (Tryd.prog.info? 85).map (fun i => (i.zero, i.size, i.bytes)) = some (some (.agg #[.int .u64 0, .string (strOf [])]), 2, 24) := by kernel_rfl
  exact info_parts h

theorem But.drewN {w w' : World} {cb mb : Nat} {r : Option Nat} (h : But w w' cb mb r) (n : Nat) : But w (w'.drewN n) cb mb r := ⟨h.os, h.tape, h.output, h.size, h.block⟩
theorem run_cut1 (w : World) (A : Addr) (n c : Nat) (hn : 1 ≤ c) : (Instr.slice 77 (.slice (some A) (n + 1) c) (some (.int .i64 1)) none none).run Tryd.prog w = .ok (.slice (if c = 1 then some A else some (A.add 2)) n (c - 1)) w := by
  obtain ⟨i, hi, _, h2, _⟩ := infoK
  have he : Tryd.prog.elem 77 = 85 := by simp [Program.elem, Tryd.underlying77]
  rw [run_slice_l w 77 (some A) (n + 1) c (by rw [he]; exact Tryd.underlying77) .i64 1 (by decide) (by omega)]
  simp [he, sizeOf, typeInfo, hi, h2, sliced]
theorem Blk.cells2 {w : World} {g : Nat} {t : TypeId} {cs : Array Value} (h : Blk w g t cs) : ∀ j u, cs.toList[j]? = some u → w.cell? ((⟨g, 0, none⟩ : Addr).add j) = some u := by
  intro j u hu
  rw [add_plain]
  exact h.cell j (by rw [← Array.getElem?_toList]; exact hu)
set_option maxRecDepth 100000 in
set_option maxHeartbeats 2000000 in
theorem cache_add (w : World) (base cb mb N cnt : Nat) (v : Value) (ks : List Key) (m : Int → List Int → Option (List Int)) (h : CacheIs w base cb mb N cnt v ks m) (hbase : base ≤ w.heap.size) (hcnt : cnt < 1000000)
    (f : Int) (A : Option Addr) (c : Nat) (l : List Int) (hl : Rd w A l) (hk : okKey f l) (B : Option Addr) (d : Nat) (r : List Int) (hr : Rd w B r) (hrl : r.length ≤ 1000000) :
    Calls Tryd.prog 19 #[.pointer (some ⟨cb, 0, none⟩), .int .u64 f, .slice A l.length c, .slice B r.length d] w fun e w' => AddEnd w base cb mb N cnt v ks m f l r e w' := by
  have hs := run_str w A c l hl
  obtain ⟨t, ht⟩ : ∃ t, t = strOf ((m f l).getD []) := ⟨_, rfl⟩
  obtain ⟨b, hb⟩ : ∃ b, b = (m f l).isSome := ⟨_, rfl⟩
  have HB := Lib.hid hb
  have HC := Lib.hid hcnt
  clear hcnt
  go_enter Tryd.func19, Tryd.ntmps19
  go_wp2_with fail
  refine (cache_there w base cb mb N cnt v ks m h).mono ?_
  rintro e w1 ⟨rfl, rfl⟩
  go_wp2
  clear hs
  have hB0 : Below w1.heap.size w1 (w1.alloc (.cells #[.int .u64 f, .string (strOf l)] 85)) := (Below.refl _ w1).alloc (Nat.le_refl _) _
  have bk := Blk.new w1 85 #[.int .u64 f, .string (strOf l)]
  have hlt := bk.lt
  have h0 := h.below hB0
  have hl0 := hl.below hB0
  have hr0 := hr.below hB0
  clear hl hr
  generalize w1.alloc (.cells #[.int .u64 f, .string (strOf l)] 85) = x0 at *
  have c1 : x0.cell? ⟨cb, 1, none⟩ = some (.map (some mb)) := h0.blk.cell 1 rfl
  have k0 := bk.cell 0 (v := .int .u64 f) rfl
  have k1 := bk.cell 1 (v := .string (strOf l)) rfl
  have hm : ∀ n, (Instr.lookup 76 (.map (some mb)) (.agg #[.int .u64 f, .string (strOf l)]) true).run Tryd.prog (x0.drewN n) = .ok (.tuple #[.string t, .bool b]) (x0.drewN n) := fun n => by
    rw [ht, hb]
    exact MapIs.look (w := x0.drewN n) h0.map hk
  clear ht hb
  go_quiet (fail)
  clear hm
  cases b with
  | true =>
    go_wp2
    go_ret
    exact .inl ⟨HB.out.symm, rfl, below_drewN hB0 nq⟩
  | false =>
    have hn : m f l = none := by
      have := HB.out
      cases hq : m f l with
      | none => rfl
      | some r => rw [hq] at this; cases this
    have HN := Lib.hid hn
    clear hn HB
    have hB0 : Below w1.heap.size w1 (x0.drewN nq) := below_drewN hB0 nq
    have h0 : CacheIs (x0.drewN nq) base cb mb N cnt v ks m := h0.below (below_drewN (Below.refl _ x0) nq)
    have hr0 := hr0.drewN nq
    have bk : Blk (x0.drewN nq) _ _ _ := bk
    have hlt : w1.heap.size < (x0.drewN nq).heap.size := hlt
    clear c1 k0 k1 hl0
    generalize x0.drewN nq = x1 at *
    have c1 : x1.cell? ⟨cb, 1, none⟩ = some (.map (some mb)) := h0.blk.cell 1 rfl
    have k0 := bk.cell 0 (v := .int .u64 f) rfl
    have k1 := bk.cell 1 (v := .string (strOf l)) rfl
    have hs : (convert 24 9 (.slice B r.length d)).run Tryd.prog x1.drew = .ok (.string (strOf r)) x1.drew := run_str x1.drew B d r (hr0.drewN 1)
    obtain ⟨x2, hup, m2, g2⟩ := MapIs.store (w := x1.drew) h0.map HC.out hk r
    unfold kv at hup
    go_wp2
    refine start_ (n := 8) (S := fun w' => w'.cell? ⟨cb, 1, none⟩ = some (.map (some mb)) ∧ w'.cell? ⟨w1.heap.size, 0, none⟩ = some (.int .u64 f) ∧ w'.cell? ⟨w1.heap.size, 1, none⟩ = some (.string (strOf l))) (ds := [7]) #[false, false, false, false, false, false, false, false] (by kernel_rfl) rfl rfl ⟨c1, k0, k1⟩ (fun hHeld => ?_)
    refine pure_ (i := 0) (N := some 29) (v := ?_) (a' := ?_) #[true, false, false, false, false, false, false, false] rfl rfl (by kernel_rfl) (fun _ _ _ h => h) (Or.inl ⟨by rfl, ?_⟩) ?_ ?_
    rotate_left
    · intro w'
      go_simp
      with_reducible rfl
    rotate_left
    · simp only [Act.put, List.setIfInBounds_toArray, List.set_cons_zero, List.set_cons_succ, i64_w, i32_w]
      rfl
    refine pure_ (i := 1) (N := some 30) (v := ?_) (a' := ?_) #[true, true, false, false, false, false, false, false] rfl rfl (by kernel_rfl) (fun _ _ _ h => h) (Or.inl ⟨by rfl, ?_⟩) ?_ ?_
    rotate_left
    · intro w'
      go_simp
      with_reducible rfl
    rotate_left
    · simp only [Act.put, List.setIfInBounds_toArray, List.set_cons_zero, List.set_cons_succ, i64_w, i32_w]
      rfl
    refine pure_ (i := 2) (N := some 31) (v := ?_) (a' := ?_) #[true, true, true, false, false, false, false, false] rfl rfl (by kernel_rfl) (fun _ _ _ h => h) (Or.inl ⟨by rfl, ?_⟩) ?_ ?_
    rotate_left
    · intro w'
      go_simp
      with_reducible rfl
    rotate_left
    · simp only [Act.put, List.setIfInBounds_toArray, List.set_cons_zero, List.set_cons_succ, i64_w, i32_w]
      rfl
    refine pure_ (i := 5) (N := some 34) (v := ?_) (a' := ?_) #[true, true, true, false, false, true, false, false] rfl rfl (by kernel_rfl) (fun _ _ _ h => h) (Or.inl ⟨by rfl, ?_⟩) ?_ ?_
    rotate_left
    · intro w'
      go_simp
      with_reducible rfl
    rotate_left
    · simp only [Act.put, List.setIfInBounds_toArray, List.set_cons_zero, List.set_cons_succ, i64_w, i32_w]
      rfl
    refine take_ (i := 3) (N := some 32) (v := ?_) (a' := ?_) #[true, true, true, true, false, true, false, false] rfl rfl (by kernel_rfl) (fun _ _ _ h => h) (Or.inl ⟨by rfl, ?_⟩) hHeld ?_ ?_
    rotate_left
    · rintro w' ⟨s0, s1, s2⟩
      go_simp
      with_reducible rfl
    rotate_left
    · simp only [Act.put, List.setIfInBounds_toArray, List.set_cons_zero, List.set_cons_succ, i64_w, i32_w]
      rfl
    refine take_ (i := 4) (N := some 33) (v := ?_) (a' := ?_) #[true, true, true, true, true, true, false, false] rfl rfl (by kernel_rfl) (fun _ _ _ h => h) (Or.inl ⟨by rfl, ?_⟩) hHeld ?_ ?_
    rotate_left
    · rintro w' ⟨s0, s1, s2⟩
      go_simp
      with_reducible rfl
    rotate_left
    · simp only [Act.put, List.setIfInBounds_toArray, List.set_cons_zero, List.set_cons_succ, i64_w, i32_w]
      rfl
    refine one_ (i := 6) (N := some 35) #[true, true, true, true, true, true, true, false] rfl rfl (by kernel_rfl) (by decide) (fun K hK => ?_)
    refine value_ (w1 := ?_) (v := ?_) (by rfl) rfl ?_ ?_
    rotate_left 2
    · go_simp
      constructor
      · rfl
      · rfl
    refine hK.out _ _ ⟨c1, k0, k1⟩ (fun hHeld => ?_)
    clear hK K
    refine norm_ (a' := ?_) ?_ ?_
    rotate_left
    · show Act.put _ (some 35) _ = _
      simp only [Act.put, List.setIfInBounds_toArray, List.set_cons_zero, List.set_cons_succ, i64_w, i32_w]
      rfl
    refine last_ (i := 7) (N := none) #[true, true, true, true, true, true, true, true] rfl rfl (by kernel_rfl) (by decide) (fun K hK => ?_)
    refine skip_ (w1 := ?_) (by rfl) rfl ?_ ?_
    rotate_left
    · go_simp
      rfl
    refine hK.out _ _ ?_
    clear hK K
    refine done_ (by kernel_rfl) ?_
    have hB2 : But w1 x2 cb mb v.ownBlock := ⟨g2.os.trans hB0.os, g2.tape.trans hB0.tape, g2.output.trans hB0.output, Nat.le_trans hB0.size g2.size, fun i hi _ h2 _ => (g2.block i (Nat.lt_of_lt_of_le hi hB0.size) (fun e => h2 (by injection e))).trans (hB0.block i hi)⟩
    have g2 : x1.grownBy x2 (some mb) := ⟨g2.os, g2.tape, g2.output, g2.size, g2.block⟩
    have hcb : Blk x2 cb 79 _ := h0.blk.grown g2 (fun e => h0.ne (by injection e with e; exact e.symm))
    have bk2 : Blk x2 w1.heap.size 85 _ := bk.grown g2 (fun e => (Nat.ne_of_lt h.map.lt) (by injection e with e; exact e.symm))
    have hq : Que x2 base 85 2 v ks.length (kcells ks) := h0.row.kept fun g hg => g2.block g (h0.row.lt hg) (fun e => h0.ne2 (by rw [hg, e]))
    have hvlt : ∀ g, v.ownBlock = some g → g < w1.heap.size := fun g hg => h.row.lt hg
    have hb2 : base ≤ x2.heap.size := Nat.le_trans hbase hB2.size
    have hlen := h0.len
    have hsz := hB2.size
    have hlt2 := bk2.lt
    clear hup g2 c1 k0 k1 hs bk h0 hB0
    obtain ⟨Av, cv, rfl, _, _, _⟩ := hq.form
    have c2 := hcb.cell 2 (v := .slice Av ks.length cv) rfl
    have k0 := bk2.cell 0 (v := .int .u64 f) rfl
    have k1 := bk2.cell 1 (v := .string (strOf l)) rfl
    obtain ⟨i0, hi, hz0, hz1, hz2⟩ := infoK
    go_wp2
    refine start_ (n := 11) (S := fun w' => w'.cell? ⟨cb, 2, none⟩ = some (.slice Av ks.length cv) ∧ w'.cell? ⟨w1.heap.size, 0, none⟩ = some (.int .u64 f) ∧ w'.cell? ⟨w1.heap.size, 1, none⟩ = some (.string (strOf l))) (ds := [10]) #[false, false, false, false, false, false, false, false, false, false, false] (by kernel_rfl) rfl rfl ⟨c2, k0, k1⟩ (fun hHeld => ?_)
    refine pure_ (i := 0) (N := some 36) (v := ?_) (a' := ?_) #[true, false, false, false, false, false, false, false, false, false, false] rfl rfl (by kernel_rfl) (fun _ _ _ h => h) (Or.inl ⟨by rfl, ?_⟩) ?_ ?_
    rotate_left
    · intro w'
      go_simp
      with_reducible rfl
    rotate_left
    · simp only [Act.put, List.setIfInBounds_toArray, List.set_cons_zero, List.set_cons_succ, i64_w, i32_w]
      rfl
    refine pure_ (i := 1) (N := some 37) (v := ?_) (a' := ?_) #[true, true, false, false, false, false, false, false, false, false, false] rfl rfl (by kernel_rfl) (fun _ _ _ h => h) (Or.inl ⟨by rfl, ?_⟩) ?_ ?_
    rotate_left
    · intro w'
      go_simp
      with_reducible rfl
    rotate_left
    · simp only [Act.put, List.setIfInBounds_toArray, List.set_cons_zero, List.set_cons_succ, i64_w, i32_w]
      rfl
    refine pure_ (i := 2) (N := some 38) (v := ?_) (a' := ?_) #[true, true, true, false, false, false, false, false, false, false, false] rfl rfl (by kernel_rfl) (fun _ _ _ h => h) (Or.inl ⟨by rfl, ?_⟩) ?_ ?_
    rotate_left
    · intro w'
      go_simp
      with_reducible rfl
    rotate_left
    · simp only [Act.put, List.setIfInBounds_toArray, List.set_cons_zero, List.set_cons_succ, i64_w, i32_w]
      rfl
    refine pure_ (i := 3) (N := some 39) (v := ?_) (a' := ?_) #[true, true, true, true, false, false, false, false, false, false, false] rfl rfl (by kernel_rfl) (fun _ _ _ h => h) (Or.inl ⟨by rfl, ?_⟩) ?_ ?_
    rotate_left
    · intro w'
      go_simp
      with_reducible rfl
    rotate_left
    · simp only [Act.put, List.setIfInBounds_toArray, List.set_cons_zero, List.set_cons_succ, i64_w, i32_w]
      rfl
    refine take_ (i := 4) (N := some 40) (v := ?_) (a' := ?_) #[true, true, true, true, true, false, false, false, false, false, false] rfl rfl (by kernel_rfl) (fun _ _ _ h => h) (Or.inl ⟨by rfl, ?_⟩) hHeld ?_ ?_
    rotate_left
    · rintro w' ⟨s0, s1, s2⟩
      go_simp
      with_reducible rfl
    rotate_left
    · simp only [Act.put, List.setIfInBounds_toArray, List.set_cons_zero, List.set_cons_succ, i64_w, i32_w]
      rfl
    refine take_ (i := 5) (N := some 41) (v := ?_) (a' := ?_) #[true, true, true, true, true, true, false, false, false, false, false] rfl rfl (by kernel_rfl) (fun _ _ _ h => h) (Or.inl ⟨by rfl, ?_⟩) hHeld ?_ ?_
    rotate_left
    · rintro w' ⟨s0, s1, s2⟩
      go_simp
      with_reducible rfl
    rotate_left
    · simp only [Act.put, List.setIfInBounds_toArray, List.set_cons_zero, List.set_cons_succ, i64_w, i32_w]
      rfl
    refine one_ (i := 6) (N := some 42) #[true, true, true, true, true, true, true, false, false, false, false] rfl rfl (by kernel_rfl) (by decide) (fun K hK => ?_)
    refine value_ (w1 := ?_) (v := ?_) (by rfl) rfl ?_ ?_
    rotate_left 2
    · go_simp
      constructor
      · rfl
      · rfl
    have q3 : Que (x2.drew.alloc (.cells #[.int .u64 f, .string (strOf l)] 85)) base _ 2 _ _ _ := hq.alloc (.cells #[.int .u64 f, .string (strOf l)] 85)
    have n3 : Blk (x2.drew.alloc (.cells #[.int .u64 f, .string (strOf l)] 85)) x2.heap.size _ _ := Blk.new x2.drew 85 #[.int .u64 f, .string (strOf l)]
    have c2 := cell_old c2 (.cells #[.int .u64 f, .string (strOf l)] 85)
    have k0 := cell_old k0 (.cells #[.int .u64 f, .string (strOf l)] 85)
    have k1 := cell_old k1 (.cells #[.int .u64 f, .string (strOf l)] 85)
    have hb3 : base ≤ (x2.drew.alloc (.cells #[.int .u64 f, .string (strOf l)] 85)).heap.size := by simp; omega
    refine hK.out _ _ ⟨c2, k0, k1⟩ (fun hHeld => ?_)
    clear hK K
    refine norm_ (a' := ?_) ?_ ?_
    rotate_left
    · show Act.put _ (some 42) _ = _
      simp only [Act.put, List.setIfInBounds_toArray, List.set_cons_zero, List.set_cons_succ, i64_w, i32_w]
      rfl
    refine one_ (i := 7) (N := some 43) #[true, true, true, true, true, true, true, true, false, false, false] rfl rfl (by kernel_rfl) (by decide) (fun K hK => ?_)
    rw [if_pos (by rfl)]
    refine wp_que _ _ _ 77 rfl base 85 i0 _ 2 24 Tryd.underlying77 hi hz0 hz1 hz2 rfl (by decide) _ _ _ rfl q3 ⟨x2.heap.size, 0, none⟩ 1 1 [.int .u64 f, .string (strOf l)] rfl rfl ?_ ?_ (by decide) ?_ ?_ hb3 ?_
    · exact n3.cells2
    · intro u hu
      simp only [List.mem_cons, List.not_mem_nil, or_false] at hu
      rcases hu with rfl | rfl <;> rfl
    · have := HC.out
      unfold maxLen
      omega
    · have := HC.out
      omega
    intro v4 x4 q4 g4 a4
    have b4 : Blk x4 cb _ _ := (show Blk (x2.drew.alloc (.cells #[.int .u64 f, .string (strOf l)] 85)) cb _ _ from hcb.alloc _).grown g4 (fun e => h.ne1 e.symm)
    have k4 : Blk x4 w1.heap.size _ _ := (show Blk (x2.drew.alloc (.cells #[.int .u64 f, .string (strOf l)] 85)) w1.heap.size _ _ from bk2.alloc _).grown g4 (fun e => absurd (hvlt _ e.symm) (Nat.lt_irrefl _))
    have c24 := b4.cell 2 (v := .slice Av ks.length cv) rfl
    have k04 := k4.cell 0 (v := .int .u64 f) rfl
    have k14 := k4.cell 1 (v := .string (strOf l)) rfl
    have f4 := b4.frozen 2
    obtain ⟨A4, c4, rfl, _, _, _⟩ := q4.form
    refine hK.out _ _ ⟨c24, k04, k14⟩ (fun hHeld => ?_)
    clear hK K
    refine norm_ (a' := ?_) ?_ ?_
    rotate_left
    · show Act.put _ (some 43) _ = _
      simp only [Act.put, List.setIfInBounds_toArray, List.set_cons_zero, List.set_cons_succ, i64_w, i32_w]
      rfl
    refine pure_ (i := 8) (N := some 44) (v := ?_) (a' := ?_) #[true, true, true, true, true, true, true, true, true, false, false] rfl rfl (by kernel_rfl) (fun _ _ _ h => h) (Or.inl ⟨by rfl, ?_⟩) ?_ ?_
    rotate_left
    · intro w'
      go_simp
      with_reducible rfl
    rotate_left
    · simp only [Act.put, List.setIfInBounds_toArray, List.set_cons_zero, List.set_cons_succ, i64_w, i32_w]
      rfl
    refine pure_ (i := 9) (N := some 45) (v := ?_) (a' := ?_) #[true, true, true, true, true, true, true, true, true, true, false] rfl rfl (by kernel_rfl) (fun _ _ _ h => h) (Or.inl ⟨by rfl, ?_⟩) ?_ ?_
    rotate_left
    · intro w'
      go_simp
      with_reducible rfl
    rotate_left
    · simp only [Act.put, List.setIfInBounds_toArray, List.set_cons_zero, List.set_cons_succ, i64_w, i32_w]
      rfl
    refine last_ (i := 10) (N := none) #[true, true, true, true, true, true, true, true, true, true, true] rfl rfl (by kernel_rfl) (by decide) (fun K hK => ?_)
    refine skip_ (w1 := ?_) (by rfl) rfl ?_ ?_
    rotate_left
    · go_simp
      rfl
    refine hK.out _ _ ?_
    clear hK K
    refine done_ (by kernel_rfl) ?_
    have hcbl := hcb.lt
    have hmbl := m2.lt
    have hal : ((x2.alloc (.cells #[.int .u64 f, .string (strOf l)] 85)).drew).heap.size = x2.heap.size + 1 := by simp
    have h4sz := g4.size
    rw [hal] at h4sz a4
    have hat : (Value.slice A4 (ks.length + 1) c4).ownBlock = (Value.slice Av ks.length cv).ownBlock ∨ ∃ j, (Value.slice A4 (ks.length + 1) c4).ownBlock = some j ∧ w1.heap.size ≤ j := a4.imp id fun e => ⟨_, e, by omega⟩
    have hne : ∀ k, k < x2.heap.size → (Value.slice Av ks.length cv).ownBlock ≠ some k → (Value.slice A4 (ks.length + 1) c4).ownBlock ≠ some k := by
      intro k hk hk2 e
      rcases a4 with e' | e'
      · exact hk2 (e' ▸ e)
      · rw [e'] at e
        injection e with e
        omega
    have hb5 : But w1 (x4.setCell ⟨cb, 2, none⟩ (.slice A4 (ks.length + 1) c4)) cb mb (Value.slice Av ks.length cv).ownBlock := by
      refine ⟨g4.os.trans hB2.os, g4.tape.trans hB2.tape, g4.output.trans hB2.output, by simp [World.setCell]; omega, fun i hi e1 e2 e3 => ?_⟩
      rw [Below.heap_setCell x4 ⟨cb, 2, none⟩ _ i e1, g4.block i (by rw [hal]; omega) e3]
      refine (Below.heap_alloc x2 _ i (show i < x2.heap.size by omega)).trans ?_
      exact hB2.block i hi e1 e2 e3
    have his : CacheIs (x4.setCell ⟨cb, 2, none⟩ (.slice A4 (ks.length + 1) c4)) base cb mb N (cnt + 1) (.slice A4 (ks.length + 1) c4) (ks ++ [(f, l)]) (upd m f l (some r)) := by
      refine ⟨b4.set_ 2 _, m2.same ?_, ?_, h.cb_ge, h.mb_ge, h.ne, hne cb hcbl h.ne1, hne mb hmbl h.ne2, ?_, h.pos, h.most, by simp; omega, ?_⟩
      · rw [Below.heap_setCell x4 ⟨cb, 2, none⟩ _ mb h.ne, g4.block mb (by rw [hal]; omega) (fun e => h.ne2 e.symm)]
        exact Below.heap_alloc x2 _ mb hmbl
      · rw [List.length_append, kcells_append]
        refine q4.kept fun g hg => Below.heap_setCell x4 ⟨cb, 2, none⟩ _ g (fun e => hne cb hcbl h.ne1 ?_)
        rw [hg]
        exact congrArg some e
      · intro k hk'
        rcases List.mem_append.1 hk' with hk' | hk'
        · exact h.ok k hk'
        · obtain rfl : k = (f, l) := by simpa using hk'
          exact hk
      · intro g t s hs
        unfold upd at hs
        split at hs
        · injection hs with hs
          subst hs
          exact ⟨hr0.1, hrl⟩
        · exact h.bs g t s hs
    have hb : Below x2.heap.size x2 x2 := Below.refl _ _
    clear hb b4 k4 c24 k04 k14 f4 q4 g4 a4 c2 k0 k1 hq hcb bk2 m2 hB2 hne hal h4sz n3 q3
    generalize x4.setCell ⟨cb, 2, none⟩ (.slice A4 (ks.length + 1) c4) = x5 at *
    have d0 := his.blk.cell 0 (v := .int .i64 N) rfl
    have d1 := his.blk.cell 1 (v := .map (some mb)) rfl
    have d2 := his.blk.cell 2 (v := .slice A4 (ks.length + 1) c4) rfl
    by_cases hfull : N < ks.length + 1
    · have hgt : (N : Int) < (ks.length : Int) + 1 := by omega
      have HF := Lib.hid hfull
      clear hfull
      go_wp2
      go_quiet (fail)
      obtain ⟨hd, tl, hks⟩ : ∃ hd tl, ks ++ [(f, l)] = hd :: tl := by
        cases hq : ks ++ [(f, l)] with
        | nil => simp at hq
        | cons a b => exact ⟨a, b, rfl⟩
      have eK := addKs_full (k := (f, l)) HF.out hks
      have eM := addM_full (m := m) (r := r) HF.out hks
      have hkl : ks.length + 1 = tl.length + 1 := by have := congrArg List.length hks; simpa using this
      have his6 := his.below (below_drewN (Below.refl _ x5) nq)
      have hb6 := hb5.drewN nq
      rw [hks] at his6
      have hokd := his6.ok hd (by simp)
      clear his hb5 d0 d1 d2
      generalize x5.drewN nq = x6 at *
      rw [hkl] at his6 hat ⊢
      have hrow : Que x6 base 85 2 (.slice A4 (tl.length + 1) c4) (tl.length + 1) (kcells (hd :: tl)) := his6.row
      obtain ⟨A', c', ev, hc1, _, q7, hown7⟩ := hrow.tail
      injection ev with ev1 _ ev2
      subst ev1 ev2
      obtain ⟨_, _, ev, _, _, hcell⟩ := hrow.form
      injection ev with ev1 _ ev2
      subst ev1 ev2
      obtain ⟨g, off, eA, hbg, hcl⟩ := hcell (by omega)
      injection eA with eA
      subst eA
      have e0 := hcl 0 (by omega)
      have e1 := hcl 1 (by omega)
      rw [Nat.add_zero] at e0
      simp only [kcells, List.getElem?_cons_zero, List.getElem?_cons_succ] at e0 e1
      have d1 := his6.blk.cell 1 (v := .map (some mb)) rfl
      have d2 := his6.blk.cell 2 (v := .slice (some ⟨g, off, none⟩) (tl.length + 1) c4) rfl
      obtain ⟨x7, hdel, m7, g7⟩ := MapIs.drop (w := x6.drew) his6.map hokd 0
      unfold kv at hdel
      go_wp2
      refine start_ (n := 11) (S := fun w' => w'.cell? ⟨cb, 1, none⟩ = some (.map (some mb)) ∧ w'.cell? ⟨cb, 2, none⟩ = some (.slice (some ⟨g, off, none⟩) (tl.length + 1) c4) ∧ w'.cell? ⟨g, off, none⟩ = some (.int .u64 hd.1) ∧ w'.cell? ⟨g, off + 1, none⟩ = some (.string (strOf hd.2))) (ds := [10]) #[false, false, false, false, false, false, false, false, false, false, false] (by kernel_rfl) rfl rfl ⟨d1, d2, e0, e1⟩ (fun hHeld => ?_)
      refine pure_ (i := 0) (N := some 56) (v := ?_) (a' := ?_) #[true, false, false, false, false, false, false, false, false, false, false] rfl rfl (by kernel_rfl) (fun _ _ _ h => h) (Or.inl ⟨by rfl, ?_⟩) ?_ ?_
      rotate_left
      · intro w'
        go_simp
        with_reducible rfl
      rotate_left
      · simp only [Act.put, List.setIfInBounds_toArray, List.set_cons_zero, List.set_cons_succ, i64_w, i32_w]
        rfl
      refine pure_ (i := 1) (N := some 57) (v := ?_) (a' := ?_) #[true, true, false, false, false, false, false, false, false, false, false] rfl rfl (by kernel_rfl) (fun _ _ _ h => h) (Or.inl ⟨by rfl, ?_⟩) ?_ ?_
      rotate_left
      · intro w'
        go_simp
        with_reducible rfl
      rotate_left
      · simp only [Act.put, List.setIfInBounds_toArray, List.set_cons_zero, List.set_cons_succ, i64_w, i32_w]
        rfl
      refine pure_ (i := 2) (N := some 58) (v := ?_) (a' := ?_) #[true, true, true, false, false, false, false, false, false, false, false] rfl rfl (by kernel_rfl) (fun _ _ _ h => h) (Or.inl ⟨by rfl, ?_⟩) ?_ ?_
      rotate_left
      · intro w'
        go_simp
        with_reducible rfl
      rotate_left
      · simp only [Act.put, List.setIfInBounds_toArray, List.set_cons_zero, List.set_cons_succ, i64_w, i32_w]
        rfl
      refine pure_ (i := 4) (N := some 60) (v := ?_) (a' := ?_) #[true, true, true, false, true, false, false, false, false, false, false] rfl rfl (by kernel_rfl) (fun _ _ _ h => h) (Or.inl ⟨by rfl, ?_⟩) ?_ ?_
      rotate_left
      · intro w'
        go_simp
        with_reducible rfl
      rotate_left
      · simp only [Act.put, List.setIfInBounds_toArray, List.set_cons_zero, List.set_cons_succ, i64_w, i32_w]
        rfl
      refine pure_ (i := 5) (N := some 61) (v := ?_) (a' := ?_) #[true, true, true, false, true, true, false, false, false, false, false] rfl rfl (by kernel_rfl) (fun _ _ _ h => h) (Or.inl ⟨by rfl, ?_⟩) ?_ ?_
      rotate_left
      · intro w'
        go_simp
        with_reducible rfl
      rotate_left
      · simp only [Act.put, List.setIfInBounds_toArray, List.set_cons_zero, List.set_cons_succ, i64_w, i32_w]
        rfl
      refine pure_ (i := 6) (N := some 62) (v := ?_) (a' := ?_) #[true, true, true, false, true, true, true, false, false, false, false] rfl rfl (by kernel_rfl) (fun _ _ _ h => h) (Or.inl ⟨by rfl, ?_⟩) ?_ ?_
      rotate_left
      · intro w'
        go_simp
        with_reducible rfl
      rotate_left
      · simp only [Act.put, List.setIfInBounds_toArray, List.set_cons_zero, List.set_cons_succ, i64_w, i32_w]
        rfl
      refine take_ (i := 3) (N := some 59) (v := ?_) (a' := ?_) #[true, true, true, true, true, true, true, false, false, false, false] rfl rfl (by kernel_rfl) (fun _ _ _ h => h) (Or.inl ⟨by rfl, ?_⟩) hHeld ?_ ?_
      rotate_left
      · rintro w' ⟨s0, s1, s2, s3⟩
        go_simp
        with_reducible rfl
      rotate_left
      · simp only [Act.put, List.setIfInBounds_toArray, List.set_cons_zero, List.set_cons_succ, i64_w, i32_w]
        rfl
      refine take_ (i := 7) (N := some 63) (v := ?_) (a' := ?_) #[true, true, true, true, true, true, true, true, false, false, false] rfl rfl (by kernel_rfl) (fun _ _ _ h => h) (Or.inl ⟨by rfl, ?_⟩) hHeld ?_ ?_
      rotate_left
      · rintro w' ⟨s0, s1, s2, s3⟩
        go_simp
        with_reducible rfl
      rotate_left
      · simp only [Act.put, List.setIfInBounds_toArray, List.set_cons_zero, List.set_cons_succ, i64_w, i32_w]
        rfl
      refine pure_ (i := 8) (N := some 64) (v := ?_) (a' := ?_) #[true, true, true, true, true, true, true, true, true, false, false] rfl rfl (by kernel_rfl) (fun _ _ _ h => h) (Or.inl ⟨by rfl, ?_⟩) ?_ ?_
      rotate_left
      · intro w'
        go_simp
        with_reducible rfl
      rotate_left
      · simp only [Act.put, List.setIfInBounds_toArray, List.set_cons_zero, List.set_cons_succ, i64_w, i32_w]
        rfl
      refine take_ (i := 9) (N := some 65) (v := ?_) (a' := ?_) #[true, true, true, true, true, true, true, true, true, true, false] rfl rfl (by kernel_rfl) (fun _ _ _ h => h) (Or.inl ⟨by rfl, ?_⟩) hHeld ?_ ?_
      rotate_left
      · rintro w' ⟨s0, s1, s2, s3⟩
        go_simp
        with_reducible rfl
      rotate_left
      · simp only [Act.put, List.setIfInBounds_toArray, List.set_cons_zero, List.set_cons_succ, i64_w, i32_w]
        rfl
      refine last_ (i := 10) (N := none) #[true, true, true, true, true, true, true, true, true, true, true] rfl rfl (by kernel_rfl) (by decide) (fun K hK => ?_)
      refine value_ (w1 := ?_) (v := ?_) (by rfl) rfl ?_ ?_
      rotate_left 2
      · go_simp
        constructor
        · rfl
        · rfl
      refine hK.out _ _ ?_
      clear hK K
      refine done_ (by kernel_rfl) ?_
      clear d1 d2 e0 e1 hdel
      have g7 : x6.grownBy x7 (some mb) := ⟨g7.os, g7.tape, g7.output, g7.size, g7.block⟩
      have b7 : Blk x7 cb 79 _ := his6.blk.grown g7 (fun e => h.ne (by injection e with e; exact e.symm))
      have d2 := b7.cell 2 (v := .slice (some ⟨g, off, none⟩) (tl.length + 1) c4) rfl
      have f7 := b7.frozen 2
      have hcut := fun W : World => run_cut1 W ⟨g, off, none⟩ tl.length c4 hc1
      have q7 : Que x7 base 85 2 _ tl.length (kcells tl) := q7.kept fun B hB => g7.block B (hrow.lt ((hown7 B).1 hB)) (fun e => his6.ne2 (by rw [(hown7 B).1 hB, e]))
      have o1 : ∀ B, (Value.slice (if c4 = 1 then some ⟨g, off, none⟩ else some ((⟨g, off, none⟩ : Addr).add 2)) tl.length (c4 - 1)).ownBlock = some B ↔ (Value.slice (some ⟨g, off, none⟩) (tl.length + 1) c4).ownBlock = some B := hown7
      clear hown7
      generalize (if c4 = 1 then some ⟨g, off, none⟩ else some ((⟨g, off, none⟩ : Addr).add 2)) = A7 at *
      have ho := Option.ext o1
      go_wp2
      go_ret
      refine .inr ⟨HN.out, rfl, .slice A7 tl.length (c4 - 1), ⟨?_, ?_, ?_⟩⟩
      · rw [eK, eM]
        refine ⟨b7.set_ 2 _, m7.same (Below.heap_setCell x7 ⟨cb, 2, none⟩ _ mb h.ne), q7.kept fun B hB => Below.heap_setCell x7 ⟨cb, 2, none⟩ _ B (fun e => his6.ne1 ?_), h.cb_ge, h.mb_ge, h.ne, by rw [ho]; exact his6.ne1, by rw [ho]; exact his6.ne2, fun k hk => his6.ok k (List.mem_cons_of_mem _ hk), h.pos, h.most, by omega, ?_⟩
        · rw [← ho, hB]
          exact congrArg some e
        · intro g t s hs
          unfold upd at hs
          split at hs
          · cases hs
          · exact his6.bs g t s hs
      · refine ⟨g7.os.trans hb6.os, g7.tape.trans hb6.tape, g7.output.trans hb6.output, by have := g7.size; have := hb6.size; simp [World.setCell]; omega, fun i hi e1 e2 e3 => ?_⟩
        rw [Below.heap_setCell x7 ⟨cb, 2, none⟩ _ i e1, g7.block i (Nat.lt_of_lt_of_le hi hb6.size) (fun e => e2 (by injection e))]
        exact hb6.block i hi e1 e2 e3
      · rw [ho]
        exact hat
    · have hgt : ¬ (N : Int) < (ks.length : Int) + 1 := by omega
      have HF := Lib.hid hfull
      clear hfull
      go_wp2
      go_quiet (fail)
      go_wp2
      go_ret
      exact .inr ⟨HN.out, rfl, _, ⟨by rw [addKs_no HF.out, addM_no HF.out]; exact his.below (below_drewN (Below.refl _ x5) nq), hb5.drewN nq, hat⟩⟩
end Go.Proofs.YtoodmjdafifbmaaDoor.Hand
