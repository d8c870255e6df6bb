/- string(b) of a slice of bytes, and the order of such texts: the bytes of numbers, the highest first, are in the numbers' order. -/
import Derived.Laws.BytesArg
import Derived.Laws.Strings
import Derived.Test.YtoodmjdafifbmaaDoorLib
namespace Go.Proofs.YtoodmjdafifbmaaDoor.Hand
open Go.RowKit

/-- The text of bytes. -/
def strOf (l : List Int) : ByteArray := strOfNums l
def u8s (l : List Int) : List UInt8 := l.map fun n => UInt8.ofNat n.toNat
theorem strOf_list (l : List Int) : (strOf l).toList = u8s l := by rw [ByteArray.toList_eq]; rfl
theorem strOf_data (l : List Int) : (strOf l).data.toList = u8s l := rfl

theorem run_str (w : World) (A : Option Addr) (c : Nat) (l : List Int) (hr : Rd w A l) :
    (convert 24 9 (.slice A l.length c)).run Tryd.prog w = .ok (.string (strOf l)) w := by
  rcases A with _ | a
  · have hl : l = [] := by
      rcases Nat.eq_zero_or_pos l.length with h0 | h0
      · exact List.eq_nil_of_length_eq_zero h0
      · obtain ⟨ad, e, _⟩ := hr.2 h0
        cases e
    subst hl
    exact run_convert_bytes_nil w 24 5 Tryd.underlying24 Tryd.underlying5 _ c 9 Tryd.underlying9
  · have hl : (loadCells a l.length).run Tryd.prog w = .ok (l.map (Value.int .u8)).toArray w := by
      have := run_loadCells_list (P := Tryd.prog) w a (l.map (Value.int .u8)) (fun j v hj => by
        rw [List.getElem?_map] at hj
        by_cases hjl : j < l.length
        · obtain ⟨ad, e, hc⟩ := hr.at_ hjl
          cases e
          rw [List.getElem?_eq_getElem hjl, ← gd _ _ hjl] at hj
          rw [hc]
          exact hj
        · rw [List.getElem?_eq_none (by omega)] at hj
          cases hj)
      simpa using this
    rw [run_convert_bytes_string w 24 9 5 _ _ c Tryd.underlying24 Tryd.underlying5 Tryd.underlying9, run_bytesToString w a l.length c l hl, foldl_push_bytes]
    simp [strOf, strOfNums]

theorem u8_lt {a b : Int} (ha0 : 0 ≤ a) (ha : a < 256) (hb0 : 0 ≤ b) (hb : b < 256) : (UInt8.ofNat a.toNat < UInt8.ofNat b.toNat) ↔ a < b := by
  rw [UInt8.lt_iff_toNat_lt, UInt8.toNat_ofNat', UInt8.toNat_ofNat', Nat.mod_eq_of_lt (by omega), Nat.mod_eq_of_lt (by omega)]
  omega
theorem u8_eq {a b : Int} (ha0 : 0 ≤ a) (ha : a < 256) (hb0 : 0 ≤ b) (hb : b < 256) : (UInt8.ofNat a.toNat = UInt8.ofNat b.toNat) ↔ a = b := by
  rw [← UInt8.toNat_inj, UInt8.toNat_ofNat', UInt8.toNat_ofNat', Nat.mod_eq_of_lt (by omega), Nat.mod_eq_of_lt (by omega)]
  omega
theorem u8s_inj {l m : List Int} (hl : Bs l) (hm : Bs m) (h : u8s l = u8s m) : l = m := by
  induction l generalizing m with
  | nil => cases m with
    | nil => rfl
    | cons y m => simp [u8s] at h
  | cons x l ih => cases m with
    | nil => simp [u8s] at h
    | cons y m =>
      simp only [u8s, List.map_cons, List.cons.injEq] at h
      have hx := hl x (by simp)
      have hy := hm y (by simp)
      have e := (u8_eq hx.1 hx.2 hy.1 hy.2).1 h.1
      rw [e, ih (fun z hz => hl z (List.mem_cons_of_mem _ hz)) (fun z hz => hm z (List.mem_cons_of_mem _ hz)) h.2]

/-- Of the two texts: which comes first. -/
def less (l m : List Int) : Bool := Op.bytesLess (u8s l) (u8s m)
theorem less_nil : less [] [] = false := rfl
theorem less_cons {x y : Int} {l m : List Int} (hx0 : 0 ≤ x) (hx : x < 256) (hy0 : 0 ≤ y) (hy : y < 256) : less (x :: l) (y :: m) = (decide (x < y) || (decide (x = y) && less l m)) := by
  have e1 := u8_lt hx0 hx hy0 hy
  have e2 := u8_eq hx0 hx hy0 hy
  unfold less u8s
  simp only [List.map_cons, Op.bytesLess]
  by_cases h1 : x < y
  · simp [h1, e1.2 h1]
  · by_cases h2 : x = y
    · subst h2
      simp
    · simp [h1, h2, e1, e2]
theorem emod_mul256 (a q : Int) (hq : 0 < q) : a % (q * 256) = q * (a / q % 256) + a % q := by
  have h1 := Int.mul_ediv_add_emod a q
  have h2 := Int.mul_ediv_add_emod (a / q) 256
  have h3 := Int.emod_nonneg a (Int.ne_of_gt hq); have h4 := Int.emod_lt_of_pos a hq
  have h5 := Int.emod_nonneg (a / q) (show (256 : Int) ≠ 0 by decide); have h6 := Int.emod_lt_of_pos (a / q) (show (0 : Int) < 256 by decide)
  have e : a = (q * (a / q % 256) + a % q) + (q * 256) * (a / q / 256) := by
    rw [Int.mul_assoc]
    have h7 : q * (a / q) = q * (256 * (a / q / 256)) + q * (a / q % 256) := by rw [← Int.mul_add, h2]
    omega
  have hb : 0 ≤ q * (a / q % 256) := Int.mul_nonneg (by omega) h5
  have hc : q * (a / q % 256) ≤ q * 255 := Int.mul_le_mul_of_nonneg_left (by omega) (by omega)
  rw [e, Int.add_mul_emod_self_left, Int.emod_eq_of_lt (by omega) (by omega), ← e]
theorem less_be (m : Nat) (a b : Int) : less (be a m) (be b m) = decide (a % 2 ^ (8 * m) < b % 2 ^ (8 * m)) := by
  induction m with
  | zero => simp [be, less_nil, Int.emod_one]
  | succ m ih =>
    have hq : (0 : Int) < 2 ^ (8 * m) := Int.pow_pos (by decide)
    have e : ∀ a : Int, a % 2 ^ (8 * (m + 1)) = 2 ^ (8 * m) * (a / 2 ^ (8 * m) % 256) + a % 2 ^ (8 * m) := fun a => by
      rw [show (2 : Int) ^ (8 * (m + 1)) = 2 ^ (8 * m) * 256 from by rw [show 8 * (m + 1) = 8 * m + 8 from by omega, Int.pow_add]; rfl]
      exact emod_mul256 a _ hq
    rw [show be a (m + 1) = a / 2 ^ (8 * m) % 256 :: be a m from rfl, show be b (m + 1) = b / 2 ^ (8 * m) % 256 :: be b m from rfl]
    rw [less_cons (Int.emod_nonneg _ (by decide)) (Int.emod_lt_of_pos _ (by decide)) (Int.emod_nonneg _ (by decide)) (Int.emod_lt_of_pos _ (by decide)), ih, e a, e b]
    have ra := Int.emod_nonneg a (Int.ne_of_gt hq); have ra' := Int.emod_lt_of_pos a hq
    have rb := Int.emod_nonneg b (Int.ne_of_gt hq); have rb' := Int.emod_lt_of_pos b hq
    generalize a / 2 ^ (8 * m) % 256 = x
    generalize b / 2 ^ (8 * m) % 256 = y
    generalize a % 2 ^ (8 * m) = r at *
    generalize b % 2 ^ (8 * m) = s at *
    generalize (2 : Int) ^ (8 * m) = q at *
    rw [Bool.eq_iff_iff]
    simp only [Bool.or_eq_true, Bool.and_eq_true, decide_eq_true_eq]
    constructor
    · rintro (h | ⟨rfl, h⟩)
      · have h2 : q * (x + 1) ≤ q * y := Int.mul_le_mul_of_nonneg_left (by omega) (by omega)
        rw [Int.mul_add, Int.mul_one] at h2
        omega
      · omega
    · intro h
      by_cases h1 : x < y
      · exact .inl h1
      · by_cases h2 : x = y
        · subst h2
          exact .inr ⟨rfl, by omega⟩
        · have h3 : q * (y + 1) ≤ q * x := Int.mul_le_mul_of_nonneg_left (by omega) (by omega)
          rw [Int.mul_add, Int.mul_one] at h3
          omega
theorem run_str_n {w : World} {A : Option Addr} {c n : Nat} {l : List Int} (hr : Rd w A l) (hn : l.length = n) :
    (convert 24 9 (.slice A n c)).run Tryd.prog w = .ok (.string (strOf l)) w := by
  subst hn
  exact run_str w A c l hr
theorem less_str (l m : List Int) : Op.bytesLess (strOf l).toList (strOf m).toList = less l m := by rw [strOf_list, strOf_list]; rfl
end Go.Proofs.YtoodmjdafifbmaaDoor.Hand
