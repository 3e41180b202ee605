/- Asking a search: the place that its way tells; only new memory is made. Conditions: the search's cells hold numbers from 0 to 100. -/
import Derived.Test.YtkfnjlnbppgghaaGreatDoorSrch1
set_option maxRecDepth 100000
namespace Go.Proofs.YtkfnjlnbppgghaaGreatDoor
open Go.RowKit

theorem cell_keep {w w1 : World} (hb : Below w.heap.size w w1) {a : Addr} {v : Value} (h : w.cell? a = some v) : w1.cell? a = some v := (hb.cell (World.block_lt_of_cell? w a h)).trans h

set_option maxHeartbeats 400000 in
theorem s_ask_end (g : Nat) (lo hi : Int) (w : World) (hb : (hi == lo + 1) = true) (hl : 0 ≤ lo) (hl2 : lo ≤ 100)
    (h1 : w.cell? ⟨g, 1, none⟩ = some (.int .i64 lo)) (h2 : w.cell? ⟨g, 2, none⟩ = some (.int .i64 hi)) :
    Calls Tryz.prog 7 #[.pointer (some ⟨g, 0, none⟩)] w fun e w' => e = .returned (.tuple #[.int .i64 0, .bool false]) ∧ ∃ n, w' = w.drewN n := by
  go_enter Tryz.func7, Tryz.ntmps7
  go_wp2_with fail
  refine (s_ended g lo hi w _ hb hl hl2 h1 h2).mono ?_
  rintro e w' ⟨n, rfl, rfl⟩
  go_wp2
  go_ret2
  exact ⟨rfl, _, rfl⟩

theorem s_nil_l (n : Nat) (w : World) : (nilAhead (n + 1) 72 (.agg #[]) "tutor/point.next").run Tryz.prog w = .ok (some false) w := by kernel_rfl
theorem s_nil_b (n : Nat) (w : World) : (nilAhead (n + 1) 73 (.agg #[]) "tutor/point.next").run Tryz.prog w = .ok (some false) w := by kernel_rfl
theorem s_nil_e (n : Nat) (a : Addr) (w : World) : (nilAhead (n + 1) 74 (.pointer (some a)) "tutor/point.next").run Tryz.prog w = .ok (some false) w := by kernel_rfl
theorem s_met_l (n : Nat) (w : World) : (method (n + 1) 72 (.agg #[]) "tutor/point.next").run Tryz.prog w = .ok (264, .agg #[]) w := by kernel_rfl
theorem s_met_b (n : Nat) (w : World) : (method (n + 1) 73 (.agg #[]) "tutor/point.next").run Tryz.prog w = .ok (266, .agg #[]) w := by kernel_rfl
theorem s_met_e (n : Nat) (a : Addr) (w : World) : (method (n + 1) 74 (.pointer (some a)) "tutor/point.next").run Tryz.prog w = .ok (268, .pointer (some a)) w := by kernel_rfl

set_option maxHeartbeats 800000 in
theorem s_ask_l (g : Nat) (lo hi : Int) (w : World) (hb : (hi == lo + 1) = false) (hl : 0 ≤ lo) (hl2 : lo ≤ 100)
    (h0 : w.cell? ⟨g, 0, none⟩ = some (.iface 72 (.agg #[])))
    (h1 : w.cell? ⟨g, 1, none⟩ = some (.int .i64 lo)) (h2 : w.cell? ⟨g, 2, none⟩ = some (.int .i64 hi)) :
    Calls Tryz.prog 7 #[.pointer (some ⟨g, 0, none⟩)] w fun e w' => e = .returned (.tuple #[.int .i64 (lo + 1), .bool true]) ∧ Below w.heap.size w w' := by
  have e1 : ∀ w, (nilAhead 507 72 (.agg #[]) "tutor/point.next").run Tryz.prog w = .ok (some false) w := fun w => s_nil_l _ w
  have e2 : ∀ w, (method 507 72 (.agg #[]) "tutor/point.next").run Tryz.prog w = .ok (264, .agg #[]) w := fun w => s_met_l _ w
  go_enter Tryz.func7, Tryz.ntmps7
  go_wp2_with fail
  refine (s_ended g lo hi w _ hb hl hl2 h1 h2).mono ?_
  rintro e w' ⟨n, rfl, rfl⟩
  go_wp2
  go_region_held3 (fun w' => w'.cell? ⟨g, 0, none⟩ = some (.iface 72 (.agg #[])) ∧ w'.cell? ⟨g, 1, none⟩ = some (.int .i64 lo) ∧ w'.cell? ⟨g, 2, none⟩ = some (.int .i64 hi)) (first | go_keep | exact ⟨cell_keep hb1 h0, cell_keep hb1 h1, cell_keep hb1 h2⟩)
    ((go_at_call 264; refine (s_lnext _ _ _ hl hl2).mono ?_; rintro e w1 ⟨rfl, hb1⟩))
  go_wp2
  go_ret2
  exact ⟨rfl, (Below.drewN (Below.refl _ _) _).trans hb1⟩

set_option maxHeartbeats 1600000 in
theorem s_ask_b (g : Nat) (lo hi : Int) (w : World) (hb : (hi == lo + 1) = false) (hl : 0 ≤ lo) (hl2 : lo < hi) (hl3 : hi ≤ 100)
    (h0 : w.cell? ⟨g, 0, none⟩ = some (.iface 73 (.agg #[])))
    (h1 : w.cell? ⟨g, 1, none⟩ = some (.int .i64 lo)) (h2 : w.cell? ⟨g, 2, none⟩ = some (.int .i64 hi)) :
    Calls Tryz.prog 7 #[.pointer (some ⟨g, 0, none⟩)] w fun e w' => e = .returned (.tuple #[.int .i64 (lo + (hi - lo) / 2), .bool true]) ∧ Below w.heap.size w w' := by
  have e1 : ∀ w, (nilAhead 507 73 (.agg #[]) "tutor/point.next").run Tryz.prog w = .ok (some false) w := fun w => s_nil_b _ w
  have e2 : ∀ w, (method 507 73 (.agg #[]) "tutor/point.next").run Tryz.prog w = .ok (266, .agg #[]) w := fun w => s_met_b _ w
  go_enter Tryz.func7, Tryz.ntmps7
  go_wp2_with fail
  refine (s_ended g lo hi w _ hb hl (by omega) h1 h2).mono ?_
  rintro e w' ⟨n, rfl, rfl⟩
  go_wp2
  go_region_held3 (fun w' => w'.cell? ⟨g, 0, none⟩ = some (.iface 73 (.agg #[])) ∧ w'.cell? ⟨g, 1, none⟩ = some (.int .i64 lo) ∧ w'.cell? ⟨g, 2, none⟩ = some (.int .i64 hi)) (first | go_keep | exact ⟨cell_keep hb1 h0, cell_keep hb1 h1, cell_keep hb1 h2⟩)
    ((go_at_call 266; refine (s_bnext _ _ _ hl hl2 hl3).mono ?_; rintro e w1 ⟨rfl, hb1⟩))
  go_wp2
  go_ret2
  exact ⟨rfl, (Below.drewN (Below.refl _ _) _).trans hb1⟩

set_option maxHeartbeats 1600000 in
theorem s_ask_e_no (g g2 : Nat) (lo hi : Int) (w : World) (hb : (hi == lo + 1) = false) (hl : 0 ≤ lo) (hl2 : lo < hi) (hl3 : hi ≤ 100)
    (h0 : w.cell? ⟨g, 0, none⟩ = some (.iface 74 (.pointer (some ⟨g2, 0, none⟩))))
    (h1 : w.cell? ⟨g, 1, none⟩ = some (.int .i64 lo)) (h2 : w.cell? ⟨g, 2, none⟩ = some (.int .i64 hi)) (h4 : w.cell? ⟨g2, 1, none⟩ = some (.bool true)) :
    Calls Tryz.prog 7 #[.pointer (some ⟨g, 0, none⟩)] w fun e w' => e = .returned (.tuple #[.int .i64 (lo + (hi - lo) / 2), .bool true]) ∧ Below w.heap.size w w' := by
  have e1 : ∀ w, (nilAhead 507 74 (.pointer (some ⟨g2, 0, none⟩)) "tutor/point.next").run Tryz.prog w = .ok (some false) w := fun w => s_nil_e _ _ w
  have e2 : ∀ w, (method 507 74 (.pointer (some ⟨g2, 0, none⟩)) "tutor/point.next").run Tryz.prog w = .ok (268, .pointer (some ⟨g2, 0, none⟩)) w := fun w => s_met_e _ _ w
  go_enter Tryz.func7, Tryz.ntmps7
  go_wp2_with fail
  refine (s_ended g lo hi w _ hb hl (by omega) h1 h2).mono ?_
  rintro e w' ⟨n, rfl, rfl⟩
  go_wp2
  go_region_held3 (fun w' => w'.cell? ⟨g, 0, none⟩ = some (.iface 74 (.pointer (some ⟨g2, 0, none⟩))) ∧ w'.cell? ⟨g, 1, none⟩ = some (.int .i64 lo) ∧ w'.cell? ⟨g, 2, none⟩ = some (.int .i64 hi) ∧ w'.cell? ⟨g2, 1, none⟩ = some (.bool true)) (first | go_keep | exact ⟨cell_keep hb1 h0, cell_keep hb1 h1, cell_keep hb1 h2, cell_keep hb1 h4⟩)
    ((go_at_call 268; refine (s_enext_no _ _ _ _ hl hl2 hl3 (by simpa using h4)).mono ?_; rintro e w1 ⟨rfl, hb1⟩))
  go_wp2
  go_ret2
  exact ⟨rfl, (Below.drewN (Below.refl _ _) _).trans hb1⟩

set_option maxHeartbeats 1600000 in
theorem s_ask_e_yes (g g2 : Nat) (lo hi st m : Int) (w : World) (hb : (hi == lo + 1) = false) (hl : 0 ≤ lo) (hl2 : lo < hi) (hl3 : hi ≤ 100) (hs : 1 ≤ st) (hs2 : st ≤ 1099511627776) (Hm : Hid (max (hi - st) (lo + 1) = m))
    (h0 : w.cell? ⟨g, 0, none⟩ = some (.iface 74 (.pointer (some ⟨g2, 0, none⟩))))
    (h1 : w.cell? ⟨g, 1, none⟩ = some (.int .i64 lo)) (h2 : w.cell? ⟨g, 2, none⟩ = some (.int .i64 hi)) (h3 : w.cell? ⟨g2, 0, none⟩ = some (.int .i64 st)) (h4 : w.cell? ⟨g2, 1, none⟩ = some (.bool false)) :
    Calls Tryz.prog 7 #[.pointer (some ⟨g, 0, none⟩)] w fun e w' => e = .returned (.tuple #[.int .i64 m, .bool true]) ∧ Below w.heap.size w w' := by
  have e1 : ∀ w, (nilAhead 507 74 (.pointer (some ⟨g2, 0, none⟩)) "tutor/point.next").run Tryz.prog w = .ok (some false) w := fun w => s_nil_e _ _ w
  have e2 : ∀ w, (method 507 74 (.pointer (some ⟨g2, 0, none⟩)) "tutor/point.next").run Tryz.prog w = .ok (268, .pointer (some ⟨g2, 0, none⟩)) w := fun w => s_met_e _ _ w
  go_enter Tryz.func7, Tryz.ntmps7
  go_wp2_with fail
  refine (s_ended g lo hi w _ hb hl (by omega) h1 h2).mono ?_
  rintro e w' ⟨n, rfl, rfl⟩
  go_wp2
  go_region_held3 (fun w' => w'.cell? ⟨g, 0, none⟩ = some (.iface 74 (.pointer (some ⟨g2, 0, none⟩))) ∧ w'.cell? ⟨g, 1, none⟩ = some (.int .i64 lo) ∧ w'.cell? ⟨g, 2, none⟩ = some (.int .i64 hi) ∧ w'.cell? ⟨g2, 0, none⟩ = some (.int .i64 st) ∧ w'.cell? ⟨g2, 1, none⟩ = some (.bool false)) (first | go_keep | exact ⟨cell_keep hb1 h0, cell_keep hb1 h1, cell_keep hb1 h2, cell_keep hb1 h3, cell_keep hb1 h4⟩)
    ((go_at_call 268; refine (s_enext_yes _ _ _ _ _ _ hl hl2 hl3 hs hs2 Hm.out (by simpa using h3) (by simpa using h4)).mono ?_; rintro e w1 ⟨rfl, hb1⟩))
  go_wp2
  go_ret2
  exact ⟨rfl, (Below.drewN (Below.refl _ _) _).trans hb1⟩

end Go.Proofs.YtkfnjlnbppgghaaGreatDoor
