/- The Book's lists that are empty: their fill, grow and look do nothing. -/
import Derived.Test.YtoodmjdafifbmaaDoorBookFill
namespace Go.Proofs.YtoodmjdafifbmaaDoor.Hand
open Go.RowKit
set_option linter.unusedVariables false
set_option linter.unusedSimpArgs false

set_option maxRecDepth 100000 in
set_option maxHeartbeats 1000000 in
theorem fillNumber {M : Value} (kb n : Nat) (V : Value) (w : World) (hb : BookAt w kb n V M) : Calls Tryd.prog 35 #[.pointer (some ⟨kb, 0, none⟩)] w fun e w' => (∃ v, e = .returned v) ∧ w' = w := by
  have k := Blk.cell hb 2 (v := .slice none 0 0) rfl
  go_enter Tryd.func35, Tryd.ntmps35
  go_wp2
  go_loop [2] (fun i => i = .int .i64 0) (fun _ => 0)
  case atStart => rfl
  case round =>
    obtain rfl := hrel
    go_wp2
    go_end0
    exact ⟨⟨_, rfl⟩, rfl⟩

set_option maxRecDepth 100000 in
set_option maxHeartbeats 1000000 in
theorem growNumber {M : Value} (kb n : Nat) (V : Value) (w : World) (hb : BookAt w kb n V M) : Calls Tryd.prog 42 #[.pointer (some ⟨kb, 0, none⟩)] w fun e w' => (∃ v, e = .returned v) ∧ w' = w := by
  have k := Blk.cell hb 2 (v := .slice none 0 0) rfl
  go_enter Tryd.func42, Tryd.ntmps42
  go_wp2
  go_loop [2] (fun i => i = .int .i64 0) (fun _ => 0)
  case atStart => rfl
  case round =>
    obtain rfl := hrel
    go_wp2
    go_end0
    exact ⟨⟨_, rfl⟩, rfl⟩

set_option maxRecDepth 100000 in
set_option maxHeartbeats 1000000 in
theorem lookNumber {M : Value} (kb n : Nat) (V : Value) (w : World) (hb : BookAt w kb n V M) : Calls Tryd.prog 49 #[.pointer (some ⟨kb, 0, none⟩)] w fun e w' => e = .returned (.bool true) ∧ w' = w := by
  have k := Blk.cell hb 2 (v := .slice none 0 0) rfl
  go_enter Tryd.func49, Tryd.ntmps49
  go_wp2
  go_loop [3] (fun i => i = .int .i64 0) (fun _ => 0)
  case atStart => rfl
  case round =>
    obtain rfl := hrel
    go_wp2
    go_ret
    exact ⟨rfl, rfl⟩

set_option maxRecDepth 100000 in
set_option maxHeartbeats 1000000 in
theorem fillText {M : Value} (kb n : Nat) (V : Value) (w : World) (hb : BookAt w kb n V M) : Calls Tryd.prog 36 #[.pointer (some ⟨kb, 0, none⟩)] w fun e w' => (∃ v, e = .returned v) ∧ w' = w := by
  have k := Blk.cell hb 3 (v := .slice none 0 0) rfl
  go_enter Tryd.func36, Tryd.ntmps36
  go_wp2
  go_loop [2] (fun i => i = .int .i64 0) (fun _ => 0)
  case atStart => rfl
  case round =>
    obtain rfl := hrel
    go_wp2
    go_end0
    exact ⟨⟨_, rfl⟩, rfl⟩

set_option maxRecDepth 100000 in
set_option maxHeartbeats 1000000 in
theorem growText {M : Value} (kb n : Nat) (V : Value) (w : World) (hb : BookAt w kb n V M) : Calls Tryd.prog 43 #[.pointer (some ⟨kb, 0, none⟩)] w fun e w' => (∃ v, e = .returned v) ∧ w' = w := by
  have k := Blk.cell hb 3 (v := .slice none 0 0) rfl
  go_enter Tryd.func43, Tryd.ntmps43
  go_wp2
  go_loop [2] (fun i => i = .int .i64 0) (fun _ => 0)
  case atStart => rfl
  case round =>
    obtain rfl := hrel
    go_wp2
    go_end0
    exact ⟨⟨_, rfl⟩, rfl⟩

set_option maxRecDepth 100000 in
set_option maxHeartbeats 1000000 in
theorem lookText {M : Value} (kb n : Nat) (V : Value) (w : World) (hb : BookAt w kb n V M) : Calls Tryd.prog 50 #[.pointer (some ⟨kb, 0, none⟩)] w fun e w' => e = .returned (.bool true) ∧ w' = w := by
  have k := Blk.cell hb 3 (v := .slice none 0 0) rfl
  go_enter Tryd.func50, Tryd.ntmps50
  go_wp2
  go_loop [3] (fun i => i = .int .i64 0) (fun _ => 0)
  case atStart => rfl
  case round =>
    obtain rfl := hrel
    go_wp2
    go_ret
    exact ⟨rfl, rfl⟩

set_option maxRecDepth 100000 in
set_option maxHeartbeats 1000000 in
theorem fillBlob (kb n : Nat) (V : Value) (w : World) (hb : BookAt w kb n V) : Calls Tryd.prog 37 #[.pointer (some ⟨kb, 0, none⟩)] w fun e w' => (∃ v, e = .returned v) ∧ w' = w := by
  have k := Blk.cell hb 4 (v := .slice none 0 0) rfl
  go_enter Tryd.func37, Tryd.ntmps37
  go_wp2
  go_loop [2] (fun i => i = .int .i64 0) (fun _ => 0)
  case atStart => rfl
  case round =>
    obtain rfl := hrel
    go_wp2
    go_end0
    exact ⟨⟨_, rfl⟩, rfl⟩

set_option maxRecDepth 100000 in
set_option maxHeartbeats 1000000 in
theorem growBlob (kb n : Nat) (V : Value) (w : World) (hb : BookAt w kb n V) : Calls Tryd.prog 44 #[.pointer (some ⟨kb, 0, none⟩)] w fun e w' => (∃ v, e = .returned v) ∧ w' = w := by
  have k := Blk.cell hb 4 (v := .slice none 0 0) rfl
  go_enter Tryd.func44, Tryd.ntmps44
  go_wp2
  go_loop [2] (fun i => i = .int .i64 0) (fun _ => 0)
  case atStart => rfl
  case round =>
    obtain rfl := hrel
    go_wp2
    go_end0
    exact ⟨⟨_, rfl⟩, rfl⟩

set_option maxRecDepth 100000 in
set_option maxHeartbeats 1000000 in
theorem lookBlob (kb n : Nat) (V : Value) (w : World) (hb : BookAt w kb n V) : Calls Tryd.prog 51 #[.pointer (some ⟨kb, 0, none⟩)] w fun e w' => e = .returned (.bool true) ∧ w' = w := by
  have k := Blk.cell hb 4 (v := .slice none 0 0) rfl
  go_enter Tryd.func51, Tryd.ntmps51
  go_wp2
  go_loop [3] (fun i => i = .int .i64 0) (fun _ => 0)
  case atStart => rfl
  case round =>
    obtain rfl := hrel
    go_wp2
    go_ret
    exact ⟨rfl, rfl⟩

set_option maxRecDepth 100000 in
set_option maxHeartbeats 1000000 in
theorem fillItem {M : Value} (kb n : Nat) (V : Value) (w : World) (hb : BookAt w kb n V M) : Calls Tryd.prog 38 #[.pointer (some ⟨kb, 0, none⟩)] w fun e w' => (∃ v, e = .returned v) ∧ w' = w := by
  have k := Blk.cell hb 5 (v := .slice none 0 0) rfl
  go_enter Tryd.func38, Tryd.ntmps38
  go_wp2
  go_loop [2] (fun i => i = .int .i64 0) (fun _ => 0)
  case atStart => rfl
  case round =>
    obtain rfl := hrel
    go_wp2
    go_end0
    exact ⟨⟨_, rfl⟩, rfl⟩

set_option maxRecDepth 100000 in
set_option maxHeartbeats 1000000 in
theorem growItem {M : Value} (kb n : Nat) (V : Value) (w : World) (hb : BookAt w kb n V M) : Calls Tryd.prog 45 #[.pointer (some ⟨kb, 0, none⟩)] w fun e w' => (∃ v, e = .returned v) ∧ w' = w := by
  have k := Blk.cell hb 5 (v := .slice none 0 0) rfl
  go_enter Tryd.func45, Tryd.ntmps45
  go_wp2
  go_loop [2] (fun i => i = .int .i64 0) (fun _ => 0)
  case atStart => rfl
  case round =>
    obtain rfl := hrel
    go_wp2
    go_end0
    exact ⟨⟨_, rfl⟩, rfl⟩

set_option maxRecDepth 100000 in
set_option maxHeartbeats 1000000 in
theorem lookItem {M : Value} (kb n : Nat) (V : Value) (w : World) (hb : BookAt w kb n V M) : Calls Tryd.prog 52 #[.pointer (some ⟨kb, 0, none⟩)] w fun e w' => e = .returned (.bool true) ∧ w' = w := by
  have k := Blk.cell hb 5 (v := .slice none 0 0) rfl
  go_enter Tryd.func52, Tryd.ntmps52
  go_wp2
  go_loop [3] (fun i => i = .int .i64 0) (fun _ => 0)
  case atStart => rfl
  case round =>
    obtain rfl := hrel
    go_wp2
    go_ret
    exact ⟨rfl, rfl⟩

set_option maxRecDepth 100000 in
set_option maxHeartbeats 1000000 in
theorem fillEntry {M : Value} (kb n : Nat) (V : Value) (w : World) (hb : BookAt w kb n V M) : Calls Tryd.prog 39 #[.pointer (some ⟨kb, 0, none⟩)] w fun e w' => (∃ v, e = .returned v) ∧ w' = w := by
  have k := Blk.cell hb 6 (v := .slice none 0 0) rfl
  go_enter Tryd.func39, Tryd.ntmps39
  go_wp2
  go_loop [2] (fun i => i = .int .i64 0) (fun _ => 0)
  case atStart => rfl
  case round =>
    obtain rfl := hrel
    go_wp2
    go_end0
    exact ⟨⟨_, rfl⟩, rfl⟩

set_option maxRecDepth 100000 in
set_option maxHeartbeats 1000000 in
theorem growEntry {M : Value} (kb n : Nat) (V : Value) (w : World) (hb : BookAt w kb n V M) : Calls Tryd.prog 46 #[.pointer (some ⟨kb, 0, none⟩)] w fun e w' => (∃ v, e = .returned v) ∧ w' = w := by
  have k := Blk.cell hb 6 (v := .slice none 0 0) rfl
  go_enter Tryd.func46, Tryd.ntmps46
  go_wp2
  go_loop [2] (fun i => i = .int .i64 0) (fun _ => 0)
  case atStart => rfl
  case round =>
    obtain rfl := hrel
    go_wp2
    go_end0
    exact ⟨⟨_, rfl⟩, rfl⟩

set_option maxRecDepth 100000 in
set_option maxHeartbeats 1000000 in
theorem lookEntry {M : Value} (kb n : Nat) (V : Value) (w : World) (hb : BookAt w kb n V M) : Calls Tryd.prog 53 #[.pointer (some ⟨kb, 0, none⟩)] w fun e w' => e = .returned (.bool true) ∧ w' = w := by
  have k := Blk.cell hb 6 (v := .slice none 0 0) rfl
  go_enter Tryd.func53, Tryd.ntmps53
  go_wp2
  go_loop [3] (fun i => i = .int .i64 0) (fun _ => 0)
  case atStart => rfl
  case round =>
    obtain rfl := hrel
    go_wp2
    go_ret
    exact ⟨rfl, rfl⟩

set_option maxRecDepth 100000 in
set_option maxHeartbeats 1000000 in
theorem fillNode {M : Value} (kb n : Nat) (V : Value) (w : World) (hb : BookAt w kb n V M) : Calls Tryd.prog 40 #[.pointer (some ⟨kb, 0, none⟩)] w fun e w' => (∃ v, e = .returned v) ∧ w' = w := by
  have k := Blk.cell hb 7 (v := .slice none 0 0) rfl
  go_enter Tryd.func40, Tryd.ntmps40
  go_wp2
  go_loop [2] (fun i => i = .int .i64 0) (fun _ => 0)
  case atStart => rfl
  case round =>
    obtain rfl := hrel
    go_wp2
    go_end0
    exact ⟨⟨_, rfl⟩, rfl⟩

set_option maxRecDepth 100000 in
set_option maxHeartbeats 1000000 in
theorem growNode {M : Value} (kb n : Nat) (V : Value) (w : World) (hb : BookAt w kb n V M) : Calls Tryd.prog 47 #[.pointer (some ⟨kb, 0, none⟩)] w fun e w' => (∃ v, e = .returned v) ∧ w' = w := by
  have k := Blk.cell hb 7 (v := .slice none 0 0) rfl
  go_enter Tryd.func47, Tryd.ntmps47
  go_wp2
  go_loop [2] (fun i => i = .int .i64 0) (fun _ => 0)
  case atStart => rfl
  case round =>
    obtain rfl := hrel
    go_wp2
    go_end0
    exact ⟨⟨_, rfl⟩, rfl⟩

set_option maxRecDepth 100000 in
set_option maxHeartbeats 1000000 in
theorem lookNode {M : Value} (kb n : Nat) (V : Value) (w : World) (hb : BookAt w kb n V M) : Calls Tryd.prog 54 #[.pointer (some ⟨kb, 0, none⟩)] w fun e w' => e = .returned (.bool true) ∧ w' = w := by
  have k := Blk.cell hb 7 (v := .slice none 0 0) rfl
  go_enter Tryd.func54, Tryd.ntmps54
  go_wp2
  go_loop [3] (fun i => i = .int .i64 0) (fun _ => 0)
  case atStart => rfl
  case round =>
    obtain rfl := hrel
    go_wp2
    go_ret
    exact ⟨rfl, rfl⟩

end Go.Proofs.YtoodmjdafifbmaaDoor.Hand
