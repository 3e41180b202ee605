/- The last line of each statement: a configuration of zeros is bad; only new memory is made. No conditions. -/
import Derived.Test.YtkfnjlnbppgghaaGreatDoorProg
import Derived.WalkKit
import Derived.WalkSpells
import Derived.WalkLawsBesides
import Derived.Laws.ResultCell
import Derived.KernelRfl
set_option maxRecDepth 100000
namespace Go.Proofs.YtkfnjlnbppgghaaGreatDoor
open Go.RowKit

set_option maxHeartbeats 1000000 in
theorem l_run (a b c d e f g h i j k l m o s : Value) (w : World) : Calls Tryz.prog 37 #[.agg #[.int .i64 0, a, b, c, d, e, f, g, h, i, j, k, l, m, o], s] w fun e w' =>
    e = .returned (.agg #[.int .i64 2, .int .i64 0, .int .i64 0, .int .i64 0, .int .i64 0, .slice none 0 0, .slice none 0 0, .bool false, .slice none 0 0, .int .i64 0, .int .i64 0, .int .i64 0, .int .i64 0, .int .i64 0, .int .i64 0]) ∧ Below w.heap.size w w' := by
  go_enter Tryz.func37, Tryz.ntmps37
  go_wp2
  refine bodyPost_ret (v := .agg #[.int .i64 2, .int .i64 0, .int .i64 0, .int .i64 0, .int .i64 0, .slice none 0 0, .slice none 0 0, .bool false, .slice none 0 0, .int .i64 0, .int .i64 0, .int .i64 0, .int .i64 0, .int .i64 0, .int .i64 0]) ?_ rfl ?_
  · simp [results, Tryz.results37, go_sem]
  · exact ⟨rfl, (((Below.refl _ _).alloc (Nat.le_refl _) _).alloc (by simp) _).alloc (by simp; omega) _⟩

theorem live_ok (w : World) : Calls Tryz.prog 11 #[] w fun e w' => e = .returned (.bool true) ∧ Below w.heap.size w w' := by
  go_enter Tryz.func11, Tryz.ntmps11
  go_wp2_with fail
  refine (l_run _ _ _ _ _ _ _ _ _ _ _ _ _ _ _ _).mono ?_
  rintro e w1 ⟨rfl, hb⟩
  have hf : ∀ w, (Instr.field 86 (.agg #[.int .i64 2, .int .i64 0, .int .i64 0, .int .i64 0, .int .i64 0, .slice none 0 0, .slice none 0 0, .bool false, .slice none 0 0, .int .i64 0, .int .i64 0, .int .i64 0, .int .i64 0, .int .i64 0, .int .i64 0]) 0).run Tryz.prog w = .ok (.int .i64 2) w := fun _ => by kernel_rfl
  go_wp2
  go_ret
  exact ⟨rfl, hb⟩
end Go.Proofs.YtkfnjlnbppgghaaGreatDoor
