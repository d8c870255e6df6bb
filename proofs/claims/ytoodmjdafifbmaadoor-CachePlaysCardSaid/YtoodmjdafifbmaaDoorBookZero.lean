/- A Book that holds nothing: Apart answers true. -/
import Derived.Test.YtoodmjdafifbmaaDoorBookNone
namespace Go.Proofs.YtoodmjdafifbmaaDoor.Hand
open Go.RowKit
set_option linter.unusedVariables false
set_option linter.unusedSimpArgs false

set_option maxRecDepth 100000 in
set_option maxHeartbeats 1000000 in
theorem fillByte0 (kb n : Nat) (w : World) (hb : BookAt w kb n (.slice none 0 0)) : Calls Tryd.prog 34 #[.pointer (some ⟨kb, 0, none⟩)] w fun e w' => (∃ v, e = .returned v) ∧ w' = w := by
  have k := Blk.cell hb 1 (v := .slice none 0 0) rfl
  go_enter Tryd.func34, Tryd.ntmps34
  go_wp2
  go_loop [2] (fun i => i = .int .i64 0) (fun _ => 0)
  case atStart => rfl
  case round =>
    obtain rfl := hrel
    go_wp2
    go_end0
    exact ⟨⟨_, rfl⟩, rfl⟩

set_option maxRecDepth 100000 in
set_option maxHeartbeats 1000000 in
theorem growByte0 (kb n : Nat) (w : World) (hb : BookAt w kb n (.slice none 0 0)) : Calls Tryd.prog 41 #[.pointer (some ⟨kb, 0, none⟩)] w fun e w' => (∃ v, e = .returned v) ∧ w' = w := by
  have k := Blk.cell hb 1 (v := .slice none 0 0) rfl
  go_enter Tryd.func41, Tryd.ntmps41
  go_wp2
  go_loop [2] (fun i => i = .int .i64 0) (fun _ => 0)
  case atStart => rfl
  case round =>
    obtain rfl := hrel
    go_wp2
    go_end0
    exact ⟨⟨_, rfl⟩, rfl⟩

set_option maxRecDepth 100000 in
set_option maxHeartbeats 1000000 in
theorem lookByte0 (kb n : Nat) (w : World) (hb : BookAt w kb n (.slice none 0 0)) : Calls Tryd.prog 48 #[.pointer (some ⟨kb, 0, none⟩)] w fun e w' => e = .returned (.bool true) ∧ w' = w := by
  have k := Blk.cell hb 1 (v := .slice none 0 0) rfl
  go_enter Tryd.func48, Tryd.ntmps48
  go_wp2
  go_loop [3] (fun i => i = .int .i64 0) (fun _ => 0)
  case atStart => rfl
  case round =>
    obtain rfl := hrel
    go_wp2
    go_ret
    exact ⟨rfl, rfl⟩

set_option maxRecDepth 100000 in
set_option maxHeartbeats 4000000 in
theorem apart0 (kb n : Nat) (w : World) (hb : BookAt w kb n (.slice none 0 0)) : Calls Tryd.prog 13 #[.pointer (some ⟨kb, 0, none⟩)] w fun e w' => e = .returned (.bool true) ∧ w' = w := by
  go_enter Tryd.func13, Tryd.ntmps13
  go_wp2_with fail
  refine (fillByte0 kb n w hb).mono ?_
  rintro e w ⟨⟨v, rfl⟩, rfl⟩
  go_wp2_with fail
  refine (fillNumber kb n _ w hb).mono ?_
  rintro e w ⟨⟨v, rfl⟩, rfl⟩
  go_wp2_with fail
  refine (fillText kb n _ w hb).mono ?_
  rintro e w ⟨⟨v, rfl⟩, rfl⟩
  go_wp2_with fail
  refine (fillBlob kb n _ w hb).mono ?_
  rintro e w ⟨⟨v, rfl⟩, rfl⟩
  go_wp2_with fail
  refine (fillItem kb n _ w hb).mono ?_
  rintro e w ⟨⟨v, rfl⟩, rfl⟩
  go_wp2_with fail
  refine (fillEntry kb n _ w hb).mono ?_
  rintro e w ⟨⟨v, rfl⟩, rfl⟩
  go_wp2_with fail
  refine (fillNode kb n _ w hb).mono ?_
  rintro e w ⟨⟨v, rfl⟩, rfl⟩
  go_wp2_with fail
  refine (growByte0 kb n w hb).mono ?_
  rintro e w ⟨⟨v, rfl⟩, rfl⟩
  go_wp2_with fail
  refine (growNumber kb n _ w hb).mono ?_
  rintro e w ⟨⟨v, rfl⟩, rfl⟩
  go_wp2_with fail
  refine (growText kb n _ w hb).mono ?_
  rintro e w ⟨⟨v, rfl⟩, rfl⟩
  go_wp2_with fail
  refine (growBlob kb n _ w hb).mono ?_
  rintro e w ⟨⟨v, rfl⟩, rfl⟩
  go_wp2_with fail
  refine (growItem kb n _ w hb).mono ?_
  rintro e w ⟨⟨v, rfl⟩, rfl⟩
  go_wp2_with fail
  refine (growEntry kb n _ w hb).mono ?_
  rintro e w ⟨⟨v, rfl⟩, rfl⟩
  go_wp2_with fail
  refine (growNode kb n _ w hb).mono ?_
  rintro e w ⟨⟨v, rfl⟩, rfl⟩
  go_wp2_with fail
  refine (lookByte0 kb n w hb).mono ?_
  rintro e w ⟨rfl, rfl⟩
  go_wp2_with fail
  refine (lookNumber kb n _ w hb).mono ?_
  rintro e w ⟨rfl, rfl⟩
  go_wp2_with fail
  refine (lookText kb n _ w hb).mono ?_
  rintro e w ⟨rfl, rfl⟩
  go_wp2_with fail
  refine (lookBlob kb n _ w hb).mono ?_
  rintro e w ⟨rfl, rfl⟩
  go_wp2_with fail
  refine (lookItem kb n _ w hb).mono ?_
  rintro e w ⟨rfl, rfl⟩
  go_wp2_with fail
  refine (lookEntry kb n _ w hb).mono ?_
  rintro e w ⟨rfl, rfl⟩
  go_wp2_with fail
  refine (lookNode kb n _ w hb).mono ?_
  rintro e w ⟨rfl, rfl⟩
  go_wp2
  go_ret
  exact ⟨rfl, rfl⟩
end Go.Proofs.YtoodmjdafifbmaaDoor.Hand
