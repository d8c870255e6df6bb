/- replies.Put and replies.Get in one word each, and what the one tells of the other one. -/
import Derived.Test.YtoodmjdafifbmaaDoorRepLaw
import Derived.Test.YtoodmjdafifbmaaDoorRepGetsNo
import Derived.Test.YtoodmjdafifbmaaDoorRepPutNo
namespace Go.Proofs.YtoodmjdafifbmaaDoor.Hand
open Go.RowKit
set_option linter.unusedVariables false
set_option linter.unusedSimpArgs false

/-- May a reply be put? -/
def putOK (how low high : Int) (n : Nat) : Prop := how ∈ keysL ∧ (how = 0 ∨ n = 0) ∧ (toldOf how < 1 → low = 0) ∧ (toldOf how < 2 → high = 0) ∧ (how = 101 → 1 ≤ low ∧ low ≤ 7)
instance (how low high : Int) (n : Nat) : Decidable (putOK how low high n) := by unfold putOK; infer_instance

theorem Put_good (xid how low high : Int) (A : Option Addr) (c : Nat) (body : List Int) (w : World) (hx0 : 0 ≤ xid) (hx1 : xid < 4294967296) (hh0 : 0 ≤ how) (hh1 : how < 4294967296) (hl0 : 0 ≤ low) (hl1 : low < 4294967296) (hi0 : 0 ≤ high) (hi1 : high < 4294967296)
    (hr : Rd w A body) (hc : body.length ≤ c) (hn : body.length ≤ 1048000) (h : putOK how low high body.length) :
    Calls Tryd.prog 7 #[.agg #[.int .u32 xid, .int .u32 how, .int .u32 low, .int .u32 high, .slice A body.length c]] w fun e w' => PutEnd w.heap.size (putL xid how low high body) e w' ∧ Below w.heap.size w w' := by
  obtain ⟨hk, hb, hlo, hhi, hw⟩ := h
  have hk2 := hk
  simp only [keysL, List.mem_cons, List.not_mem_nil, or_false] at hk2
  rcases hk2 with e | e | e | e | e | e | e <;> subst e
  · exact put_zero xid 0 low high A c body w hx0 hx1 hh0 hh1 hl0 hl1 hi0 hi1 hr hc hn hk rfl (by decide) rfl (hlo (by decide)) (hhi (by decide))
  · exact put_plain xid 1 low high A c body w hx0 hx1 hh0 hh1 hl0 hl1 hi0 hi1 hr hc hn hk (by decide) (by decide) rfl (hb.resolve_left (by decide)) (hlo (by decide)) (hhi (by decide))
  · exact put_two xid 2 low high A c body w hx0 hx1 hh0 hh1 hl0 hl1 hi0 hi1 hr hc hn hk (by decide) (by decide) rfl (hb.resolve_left (by decide))
  · exact put_plain xid 3 low high A c body w hx0 hx1 hh0 hh1 hl0 hl1 hi0 hi1 hr hc hn hk (by decide) (by decide) rfl (hb.resolve_left (by decide)) (hlo (by decide)) (hhi (by decide))
  · exact put_plain xid 4 low high A c body w hx0 hx1 hh0 hh1 hl0 hl1 hi0 hi1 hr hc hn hk (by decide) (by decide) rfl (hb.resolve_left (by decide)) (hlo (by decide)) (hhi (by decide))
  · exact put_two xid 100 low high A c body w hx0 hx1 hh0 hh1 hl0 hl1 hi0 hi1 hr hc hn hk (by decide) (by decide) rfl (hb.resolve_left (by decide))
  · exact put_one xid 101 low high A c body w hx0 hx1 hh0 hh1 hl0 hl1 hi0 hi1 hr hc hn hk (by decide) rfl rfl (hb.resolve_left (by decide)) (hhi (by decide)) (hw rfl)

theorem Put_bad (xid how low high : Int) (A : Option Addr) (c : Nat) (body : List Int) (w : World) (hx0 : 0 ≤ xid) (hx1 : xid < 4294967296) (hh0 : 0 ≤ how) (hh1 : how < 4294967296) (hl0 : 0 ≤ low) (hl1 : low < 4294967296) (hi0 : 0 ≤ high) (hi1 : high < 4294967296)
    (hr : Rd w A body) (hc : body.length ≤ c) (hn : body.length ≤ 1048000) (h : ¬ putOK how low high body.length) :
    Calls Tryd.prog 7 #[.agg #[.int .u32 xid, .int .u32 how, .int .u32 low, .int .u32 high, .slice A body.length c]] w fun e w' => e = .returned (.tuple #[.slice none 0 0, .int .i64 1]) ∧ Below w.heap.size w w' := by
  by_cases hk : how ∈ keysL
  · by_cases h0 : how = 0
    · subst h0
      by_cases hlo : low = 0
      · by_cases hhi : high = 0
        · exact absurd ⟨hk, .inl rfl, fun _ => hlo, fun _ => hhi, fun e => absurd e (by decide)⟩ h
        · exact put_high0 xid 0 low high A c body w hx0 hx1 hh0 hh1 hl0 hl1 hi0 hi1 hr hc hn hk rfl rfl hlo hhi
      · exact put_low0 xid 0 low high A c body w hx0 hx1 hh0 hh1 hl0 hl1 hi0 hi1 hr hc hn hk rfl rfl hlo
    · by_cases hb : body.length = 0
      · have hk2 := hk
        simp only [keysL, List.mem_cons, List.not_mem_nil, or_false] at hk2
        by_cases hT : toldOf how = 0
        · by_cases hlo : low = 0
          · by_cases hhi : high = 0
            · refine absurd ⟨hk, .inr hb, fun _ => hlo, fun _ => hhi, fun e => ?_⟩ h
              rw [e] at hT
              exact absurd hT (by decide)
            · exact put_high1 xid how low high A c body w hx0 hx1 hh0 hh1 hl0 hl1 hi0 hi1 hr hc hn hk h0 hT hb hlo hhi
          · exact put_low1 xid how low high A c body w hx0 hx1 hh0 hh1 hl0 hl1 hi0 hi1 hr hc hn hk h0 hT hb hlo
        · by_cases h101 : how = 101
          · subst h101
            by_cases hhi : high = 0
            · by_cases hw : 1 ≤ low ∧ low ≤ 7
              · exact absurd ⟨hk, .inr hb, fun e => absurd e (by decide), fun _ => hhi, fun _ => hw⟩ h
              · exact put_why xid 101 low high A c body w hx0 hx1 hh0 hh1 hl0 hl1 hi0 hi1 hr hc hn hk h0 rfl rfl hb hhi hw
            · exact put_higha xid 101 low high A c body w hx0 hx1 hh0 hh1 hl0 hl1 hi0 hi1 hr hc hn hk h0 rfl hb hhi
          · refine absurd ⟨hk, .inr hb, fun e => ?_, fun e => ?_, fun e => absurd e h101⟩ h
            · exfalso
              rcases hk2 with e2 | e2 | e2 | e2 | e2 | e2 | e2 <;> subst e2 <;> first | exact absurd rfl hT | exact absurd rfl h101 | exact absurd e (by decide)
            · exfalso
              rcases hk2 with e2 | e2 | e2 | e2 | e2 | e2 | e2 <;> subst e2 <;> first | exact absurd rfl hT | exact absurd rfl h101 | exact absurd e (by decide)
      · exact put_body xid how low high A c body w hx0 hx1 hh0 hh1 hl0 hl1 hi0 hi1 hr hc hn hk h0 hb
  · exact put_none xid how low high A c body w hx0 hx1 hh0 hh1 hl0 hl1 hi0 hi1 hr hc hn hk

/-! ### Get -/
inductive RR | ok (xid how low high : Int) (body : List Int) | no (k : Int)
/-- The reply that bytes are. -/
def got (L : List Int) : RR := if L.length ≤ 65536 then (match runG (L.length + 1) [] L with
  | .no k => .no k
  | .ok how l => if how ≠ 0 ∧ 0 < (L.drop (4 * l.length)).length then .no 5 else .ok (nth l 0) how (lowOf how l) (highOf how l) (L.drop (4 * l.length))) else .no 3
def GetR (base : Nat) (r : RR) (e : Ending) (w' : World) : Prop := match r with
  | .no k => e = .returned (.tuple #[repZ, .int .i64 k])
  | .ok xid how low high body => ∃ v, e = .returned (.tuple #[.agg #[.int .u32 xid, .int .u32 how, .int .u32 low, .int .u32 high, v], .int .i64 0]) ∧ Own w' base v body

theorem doneKey_inv {l : List Int} {how : Int} (h : doneKey l = some how) : keysOf l = [how] ∧ (l.length : Int) = 2 + (fixedOf how).length + toldOf how := by
  unfold doneKey at h
  generalize keysOf l = ks at *
  match ks, h with
  | [], h => cases h
  | [y], h =>
    simp only [] at h
    split at h
    · rename_i hl
      injection h with h
      subst h
      exact ⟨rfl, hl⟩
    · cases h
  | y :: z :: r, h => cases h

theorem get_all (A : Option Addr) (c : Nat) (L : List Int) (w : World) (hr : Rd w A L) (hc : L.length ≤ c) :
    Calls Tryd.prog 26 #[.slice A L.length c] w fun e w' => GetR w.heap.size (got L) e w' ∧ Below w.heap.size w w' := by
  by_cases hn : L.length ≤ 65536
  · cases hrun : runG (L.length + 1) [] L with
    | no k =>
      have e : got L = .no k := by unfold got; rw [if_pos hn, hrun]
      rw [e]
      have hk : ¬ k = 0 := by rcases runG_no _ _ _ _ hrun with h | h <;> omega
      exact gets_no A c L w k hr hc hn hrun hk
    | ok how l =>
      obtain ⟨_, hd, s, h1, h2, h3⟩ := runG_ok _ _ _ _ _ hr.1 seen_nil hrun
      obtain ⟨hk, hl⟩ := doneKey_inv hd
      have hmem : how ∈ keysL := (List.mem_filter.1 (show how ∈ keysOf l by rw [hk]; simp)).1
      rw [List.nil_append] at h1
      subst h1
      refine (gets_ok A c L w how l hr hc hn hrun h3 hmem hl).mono ?_
      rintro e w' ⟨hE, hB⟩
      refine ⟨?_, hB⟩
      unfold GetsOk at hE
      unfold got
      rw [if_pos hn, hrun]
      simp only []
      by_cases hbad : how ≠ 0 ∧ 0 < (L.drop (4 * l.length)).length
      · rw [if_pos hbad] at hE ⊢; exact hE
      · rw [if_neg hbad] at hE ⊢; exact hE
  · have e : got L = .no 3 := by unfold got; rw [if_neg hn]
    rw [e]
    exact gets_long A c L w hn

theorem U4.nth0 {l : List Int} (h : U4 l) (k : Nat) : 0 ≤ nth l k ∧ nth l k < 4294967296 := by
  by_cases hk : k < l.length
  · exact h.at_ hk
  · rw [gd0 _ _ (by omega)]; omega
theorem low_u4 {l : List Int} (h : U4 l) (how : Int) : 0 ≤ lowOf how l ∧ lowOf how l < 4294967296 := by
  unfold lowOf
  split
  · exact h.nth0 _
  · omega
theorem high_u4 {l : List Int} (h : U4 l) (how : Int) : 0 ≤ highOf how l ∧ highOf how l < 4294967296 := by
  unfold highOf
  split
  · exact h.nth0 _
  · omega
/-- What a whole row of numbers is. -/
theorem got_shape {l : List Int} {how : Int} (hs : seen l) (hd : doneKey l = some how) : how ∈ keysL ∧ l = goodL (nth l 0) how (lowOf how l) (highOf how l) ∧ (how = 101 → 1 ≤ lowOf how l ∧ lowOf how l ≤ 7) := by
  obtain ⟨hk, hl⟩ := doneKey_inv hd
  have hmem := List.mem_filter.1 (show how ∈ keysOf l by rw [hk]; simp)
  refine ⟨hmem.1, ?_⟩
  have hfit := hmem.2
  have hk2 := hmem.1
  simp only [keysL, List.mem_cons, List.not_mem_nil, or_false] at hk2
  rcases hk2 with e | e | e | e | e | e | e <;> subst e
  · have hlen : l.length = 6 := by have : (l.length : Int) = 6 := hl; omega
    match l, hlen, hs, hfit with
    | [a, b, c, d, e, f], _, hs, hfit =>
      have hb : b = 1 := hs.2.1 (by simp)
      simp [fits, fixedOf, agree] at hfit
      obtain ⟨h1, h2, h3, h4⟩ := hfit
      subst h1 h2 h3 h4 hb
      exact ⟨rfl, fun e => absurd e (by decide)⟩
  · have hlen : l.length = 6 := by have : (l.length : Int) = 6 := hl; omega
    match l, hlen, hs, hfit with
    | [a, b, c, d, e, f], _, hs, hfit =>
      have hb : b = 1 := hs.2.1 (by simp)
      simp [fits, fixedOf, agree] at hfit
      obtain ⟨h1, h2, h3, h4⟩ := hfit
      subst h1 h2 h3 h4 hb
      exact ⟨rfl, fun e => absurd e (by decide)⟩
  · have hlen : l.length = 8 := by have : (l.length : Int) = 8 := hl; omega
    match l, hlen, hs, hfit with
    | [a, b, c, d, e, f, g, h], _, hs, hfit =>
      have hb : b = 1 := hs.2.1 (by simp)
      simp [fits, fixedOf, agree] at hfit
      obtain ⟨h1, h2, h3, h4⟩ := hfit
      subst h1 h2 h3 h4 hb
      exact ⟨rfl, fun e => absurd e (by decide)⟩
  · have hlen : l.length = 6 := by have : (l.length : Int) = 6 := hl; omega
    match l, hlen, hs, hfit with
    | [a, b, c, d, e, f], _, hs, hfit =>
      have hb : b = 1 := hs.2.1 (by simp)
      simp [fits, fixedOf, agree] at hfit
      obtain ⟨h1, h2, h3, h4⟩ := hfit
      subst h1 h2 h3 h4 hb
      exact ⟨rfl, fun e => absurd e (by decide)⟩
  · have hlen : l.length = 6 := by have : (l.length : Int) = 6 := hl; omega
    match l, hlen, hs, hfit with
    | [a, b, c, d, e, f], _, hs, hfit =>
      have hb : b = 1 := hs.2.1 (by simp)
      simp [fits, fixedOf, agree] at hfit
      obtain ⟨h1, h2, h3, h4⟩ := hfit
      subst h1 h2 h3 h4 hb
      exact ⟨rfl, fun e => absurd e (by decide)⟩
  · have hlen : l.length = 6 := by have : (l.length : Int) = 6 := hl; omega
    match l, hlen, hs, hfit with
    | [a, b, c, d, e, f], _, hs, hfit =>
      have hb : b = 1 := hs.2.1 (by simp)
      simp [fits, fixedOf, agree] at hfit
      obtain ⟨h1, h2⟩ := hfit
      subst h1 h2 hb
      exact ⟨rfl, fun e => absurd e (by decide)⟩
  · have hlen : l.length = 5 := by have : (l.length : Int) = 5 := hl; omega
    have hw := hs.2.2 hlen hk
    match l, hlen, hs, hfit, hw with
    | [a, b, c, d, e], _, hs, hfit, hw =>
      have hb : b = 1 := hs.2.1 (by simp)
      simp [fits, fixedOf, agree] at hfit
      obtain ⟨h1, h2⟩ := hfit
      subst h1 h2 hb
      exact ⟨rfl, fun _ => hw⟩

theorem putL_good {xid how low high : Int} (hk : how ∈ keysL) (body : List Int) : putL xid how low high body = rw4 (goodL xid how low high) ++ body := by
  unfold putL goodL rowF
  rw [if_pos hk, rw4_append, rw4_append]
theorem goodL_length {xid how low high : Int} (hk : how ∈ keysL) : 5 ≤ (goodL xid how low high).length ∧ (goodL xid how low high).length ≤ 8 ∧ ((goodL xid how low high).length : Int) = 2 + (fixedOf how).length + toldOf how := by
  simp only [keysL, List.mem_cons, List.not_mem_nil, or_false] at hk
  rcases hk with e | e | e | e | e | e | e <;> subst e <;> simp [goodL, fixedOf, toldOf]
theorem goodL_low {xid how low high : Int} {n : Nat} (h : putOK how low high n) : nth (goodL xid how low high) 0 = xid ∧ lowOf how (goodL xid how low high) = low ∧ highOf how (goodL xid how low high) = high := by
  obtain ⟨hk, _, hlo, hhi, _⟩ := h
  refine ⟨rfl, ?_⟩
  simp only [keysL, List.mem_cons, List.not_mem_nil, or_false] at hk
  rcases hk with e | e | e | e | e | e | e <;> subst e
  · exact ⟨(hlo (by decide)).symm, (hhi (by decide)).symm⟩
  · exact ⟨(hlo (by decide)).symm, (hhi (by decide)).symm⟩
  · exact ⟨rfl, rfl⟩
  · exact ⟨(hlo (by decide)).symm, (hhi (by decide)).symm⟩
  · exact ⟨(hlo (by decide)).symm, (hhi (by decide)).symm⟩
  · exact ⟨rfl, rfl⟩
  · exact ⟨rfl, (hhi (by decide)).symm⟩

/-- What was put is got. -/
theorem got_put {xid how low high : Int} {body : List Int} (h : putOK how low high body.length) (hx : 0 ≤ xid ∧ xid < 4294967296) (hl : 0 ≤ low ∧ low < 4294967296) (hh : 0 ≤ high ∧ high < 4294967296) (hn : (putL xid how low high body).length ≤ 65536) :
    got (putL xid how low high body) = .ok xid how low high body := by
  obtain ⟨h1, h2, h3⟩ := goodL_low (xid := xid) h
  obtain ⟨hk, hb, _, _, hw⟩ := h
  have hg := got_back hk hx hl hh hw body (rw4 (goodL xid how low high) ++ body).length
  rw [List.take_length] at hg
  rw [if_neg (by rw [List.length_append, rw4_length]; omega)] at hg
  unfold got
  rw [if_pos hn, putL_good hk, hg]
  simp only []
  have hd : (rw4 (goodL xid how low high) ++ body).drop (4 * (goodL xid how low high).length) = body := by
    rw [← rw4_length, List.drop_left]
  rw [hd, h1, h2, h3, if_neg]
  rintro ⟨e1, e2⟩
  rcases hb with hb | hb
  · exact e1 hb
  · omega
/-- Of fewer bytes than its numbers have none is got. -/
theorem got_less {xid how low high : Int} {body : List Int} (h : putOK how low high body.length) (hx : 0 ≤ xid ∧ xid < 4294967296) (hl : 0 ≤ low ∧ low < 4294967296) (hh : 0 ≤ high ∧ high < 4294967296) {i : Nat} (hi : i + body.length < (putL xid how low high body).length) :
    got ((putL xid how low high body).take i) = .no 4 := by
  obtain ⟨hk, hb, _, _, hw⟩ := h
  obtain ⟨g1, g2, _⟩ := goodL_length (xid := xid) (low := low) (high := high) hk
  rw [putL_good hk] at hi ⊢
  rw [List.length_append, rw4_length] at hi
  have hg := got_back hk hx hl hh hw body i
  rw [if_pos (by omega)] at hg
  unfold got
  rw [if_pos (by rw [List.length_take]; omega), hg]
theorem got_no {L : List Int} {k : Int} (h : got L = .no k) : k = 3 ∨ k = 4 ∨ k = 5 := by
  unfold got at h
  split at h
  · split at h
    · rename_i k' hk
      injection h with h
      subst h
      exact .inr (runG_no _ _ _ _ hk)
    · split at h
      · injection h with h; omega
      · cases h
  · injection h with h; omega
/-- What is got is put as these bytes. -/
theorem got_ok {L : List Int} {xid how low high : Int} {body : List Int} (hb : Bs L) (h : got L = .ok xid how low high body) :
    putOK how low high body.length ∧ putL xid how low high body = L ∧ L.length ≤ 65536 ∧ (0 ≤ xid ∧ xid < 4294967296) ∧ (0 ≤ how ∧ how < 4294967296) ∧ (0 ≤ low ∧ low < 4294967296) ∧ (0 ≤ high ∧ high < 4294967296) := by
  unfold got at h
  split at h
  · rename_i hn
    split at h
    · cases h
    · rename_i how' l hrun
      split at h
      · cases h
      · rename_i hbad
        injection h with e1 e2 e3 e4 e5
        subst e1 e2 e3 e4 e5
        obtain ⟨hs, hd, s, h1, h2, h3⟩ := runG_ok _ _ _ _ _ hb seen_nil hrun
        rw [List.nil_append] at h1
        subst h1
        obtain ⟨hk, hl, hw⟩ := got_shape hs hd
        refine ⟨⟨hk, ?_, fun hT => ?_, fun hT => ?_, hw⟩, ?_, hn, hs.1.nth0 _, keys_u32 hk, low_u4 hs.1 _, high_u4 hs.1 _⟩
        · by_cases h0 : how' = 0
          · exact .inl h0
          · exact .inr (Nat.eq_zero_of_not_pos fun hp => hbad ⟨h0, hp⟩)
        · unfold lowOf; rw [if_neg (by omega)]
        · unfold highOf; rw [if_neg (by omega)]
        · rw [putL_good hk, ← hl, h2, List.take_append_drop]
  · cases h
end Go.Proofs.YtoodmjdafifbmaaDoor.Hand
