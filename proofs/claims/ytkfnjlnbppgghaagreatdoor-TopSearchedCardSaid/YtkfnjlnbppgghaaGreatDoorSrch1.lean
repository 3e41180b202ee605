/- The search's small functions: what they answer, and that only new memory is made. Conditions: the search's cells hold numbers from 0 to 100. -/
import Derived.Test.YtkfnjlnbppgghaaGreatDoorProg
import Derived.WalkKit
import Derived.WalkSpells
import Derived.WalkLawsBesides
import Derived.Deep.QuietTactic
import Derived.Deep.RegionHeld3
import Derived.BigQuiet
import Derived.KernelRfl
import Derived.Lib.Hide
set_option maxRecDepth 100000
namespace Go.Proofs.YtkfnjlnbppgghaaGreatDoor
open Go.RowKit

theorem ret_int {k : IntKind} {a b : Int} (h : a = b) : Ending.returned (.int k a) = .returned (.int k b) := by rw [h]
theorem _root_.Go.RowKit.Below.drewN {B : Nat} {a w : World} (h : Below B a w) (n : Nat) : Below B a (w.drewN n) := ⟨h.os, h.tape, h.output, h.size, h.block⟩

set_option maxHeartbeats 400000 in
theorem s_ended (g : Nat) (lo hi : Int) (w : World) (b : Bool) (hb : (hi == lo + 1) = b) (hl : 0 ≤ lo) (hl2 : lo ≤ 100)
    (h1 : w.cell? ⟨g, 1, none⟩ = some (.int .i64 lo)) (h2 : w.cell? ⟨g, 2, none⟩ = some (.int .i64 hi)) :
    Calls Tryz.prog 36 #[.pointer (some ⟨g, 0, none⟩)] w fun e w' => ∃ n, e = .returned (.bool b) ∧ w' = w.drewN n := by
  go_enter Tryz.func36, Tryz.ntmps36
  go_wp2
  go_quiet (fail)
  go_wp2
  go_ret
  exact ⟨_, rfl, rfl⟩

set_option maxHeartbeats 400000 in
theorem s_found_no (g : Nat) (lo hi : Int) (w : World) (hb : (hi == lo + 1) = false) (hl : 0 ≤ lo) (hl2 : lo ≤ 100)
    (h1 : w.cell? ⟨g, 1, none⟩ = some (.int .i64 lo)) (h2 : w.cell? ⟨g, 2, none⟩ = some (.int .i64 hi)) :
    Calls Tryz.prog 8 #[.pointer (some ⟨g, 0, none⟩)] w fun e w' => e = .returned (.tuple #[.int .i64 0, .bool false]) ∧ ∃ n, w' = w.drewN n := by
  go_enter Tryz.func8, Tryz.ntmps8
  go_wp2_with fail
  refine (s_ended g lo hi w _ hb hl hl2 h1 h2).mono ?_
  rintro e w' ⟨n, rfl, rfl⟩
  go_wp2
  go_ret2
  exact ⟨rfl, _, rfl⟩

set_option maxHeartbeats 400000 in
theorem s_found_yes (g : Nat) (lo hi : Int) (w : World) (hb : (hi == lo + 1) = true) (hl : 0 ≤ lo) (hl2 : lo ≤ 100)
    (h1 : w.cell? ⟨g, 1, none⟩ = some (.int .i64 lo)) (h2 : w.cell? ⟨g, 2, none⟩ = some (.int .i64 hi)) :
    Calls Tryz.prog 8 #[.pointer (some ⟨g, 0, none⟩)] w fun e w' => e = .returned (.tuple #[.int .i64 lo, .bool true]) ∧ ∃ n, w' = w.drewN n := by
  go_enter Tryz.func8, Tryz.ntmps8
  go_wp2_with fail
  refine (s_ended g lo hi w _ hb hl hl2 h1 h2).mono ?_
  rintro e w' ⟨n, rfl, rfl⟩
  go_wp2
  go_ret2
  exact ⟨rfl, _, rfl⟩

set_option maxHeartbeats 400000 in
theorem s_asked (g : Nat) (n : Int) (w : World) (h3 : w.cell? ⟨g, 3, none⟩ = some (.int .i64 n)) :
    Calls Tryz.prog 9 #[.pointer (some ⟨g, 0, none⟩)] w fun e w' => e = .returned (.int .i64 n) ∧ w = w' := by
  go_enter Tryz.func9, Tryz.ntmps9
  go_wp2
  go_ret
  exact ⟨rfl, rfl⟩

theorem s_lnext (lo hi : Int) (w : World) (hl : 0 ≤ lo) (hl2 : lo ≤ 100) :
    Calls Tryz.prog 264 #[.agg #[], .agg #[.int .i64 lo, .int .i64 hi]] w fun e w' => e = .returned (.int .i64 (lo + 1)) ∧ Below w.heap.size w w' := by
  go_enter Tryz.func264, Tryz.ntmps264
  go_wp2
  go_ret
  exact ⟨rfl, ((Below.refl _ _).alloc (Nat.le_refl _) _).alloc (by simp) _⟩

theorem s_bnext (lo hi : Int) (w : World) (hl : 0 ≤ lo) (hl2 : lo < hi) (hl3 : hi ≤ 100) :
    Calls Tryz.prog 266 #[.agg #[], .agg #[.int .i64 lo, .int .i64 hi]] w fun e w' => e = .returned (.int .i64 (lo + (hi - lo) / 2)) ∧ Below w.heap.size w w' := by
  go_enter Tryz.func266, Tryz.ntmps266
  go_wp2
  go_ret
  exact ⟨rfl, ((Below.refl _ _).alloc (Nat.le_refl _) _).alloc (by simp) _⟩

set_option maxHeartbeats 400000 in
theorem s_enext_no (g : Nat) (lo hi : Int) (w : World) (hl : 0 ≤ lo) (hl2 : lo < hi) (hl3 : hi ≤ 100) (h1 : w.cell? ⟨g, 1, none⟩ = some (.bool true)) :
    Calls Tryz.prog 268 #[.pointer (some ⟨g, 0, none⟩), .agg #[.int .i64 lo, .int .i64 hi]] w fun e w' => e = .returned (.int .i64 (lo + (hi - lo) / 2)) ∧ Below w.heap.size w w' := by
  have hlt := World.block_lt_of_cell? w _ h1
  go_enter Tryz.func268, Tryz.ntmps268
  go_wp2_with fail
  refine (s_bnext lo hi _ hl hl2 hl3).mono ?_
  rintro e w' ⟨rfl, hb⟩
  go_wp2
  go_ret
  exact ⟨rfl, ((Below.refl _ _).alloc (Nat.le_refl _) _).trans (hb.mono (by simp))⟩

set_option maxHeartbeats 400000 in
theorem s_enext_yes (g : Nat) (lo hi st m : Int) (w : World) (hl : 0 ≤ lo) (hl2 : lo < hi) (hl3 : hi ≤ 100) (hs : 1 ≤ st) (hs2 : st ≤ 1099511627776) (hm : max (hi - st) (lo + 1) = m)
    (h0 : w.cell? ⟨g, 0, none⟩ = some (.int .i64 st)) (h1 : w.cell? ⟨g, 1, none⟩ = some (.bool false)) :
    Calls Tryz.prog 268 #[.pointer (some ⟨g, 0, none⟩), .agg #[.int .i64 lo, .int .i64 hi]] w fun e w' => e = .returned (.int .i64 m) ∧ Below w.heap.size w w' := by
  have hlt := World.block_lt_of_cell? w _ h1
  have Hm := Lib.hid hm
  clear hm
  go_enter Tryz.func268, Tryz.ntmps268
  go_wp2
  go_quiet (fail)
  go_wp2
  all_goals
    go_ret
    have hm := Hm.out
    refine ⟨ret_int (by omega), ((Below.refl _ _).alloc (Nat.le_refl _) _).drewN _⟩
end Go.Proofs.YtkfnjlnbppgghaaGreatDoor
