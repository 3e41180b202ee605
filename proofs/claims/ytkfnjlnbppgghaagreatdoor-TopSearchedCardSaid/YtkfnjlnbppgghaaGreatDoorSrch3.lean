/- Telling a search: its span is narrowed, one more is counted, its way is told. Conditions: the search's cells hold numbers from 0 to 100. -/
import Derived.Test.YtkfnjlnbppgghaaGreatDoorSrch2
set_option maxRecDepth 100000
namespace Go.Proofs.YtkfnjlnbppgghaaGreatDoor
open Go.RowKit

theorem blk_cell {w : World} {g : Nat} {cs : Array Value} {t : TypeId} (h : w.heap[g]? = some (.cells cs t (0, 0))) (i : Nat) : w.cell? ⟨g, i, none⟩ = cs[i]? := by
  simp [World.cell?, h]
theorem blk_free {w : World} {g : Nat} {cs : Array Value} {t : TypeId} (h : w.heap[g]? = some (.cells cs t (0, 0))) (i : Nat) : w.frozen? ⟨g, i, none⟩ = false := by
  simp [World.frozen?, h]
theorem blk_set {w : World} {g : Nat} {cs : Array Value} {t : TypeId} (h : w.heap[g]? = some (.cells cs t (0, 0))) (i : Nat) (v : Value) : (w.setCell ⟨g, i, none⟩ v).heap[g]? = some (.cells (cs.setIfInBounds i v) t (0, 0)) := by
  simp [World.setCell, Array.getElem?_modify, h]
theorem blk_far {w : World} {g : Nat} (b i : Nat) (v : Value) (h : g ≠ b) : (w.setCell ⟨b, i, none⟩ v).heap[g]? = w.heap[g]? := Below.heap_setCell w ⟨b, i, none⟩ v g h
theorem blk_keep {w w1 : World} (hb : Below w.heap.size w w1) {g : Nat} {o : Obj} (h : w.heap[g]? = some o) : w1.heap[g]? = some o := (hb.block g (Array.getElem?_eq_some_iff.1 h).1).trans h
theorem blk_lt {w : World} {g : Nat} {o : Obj} (h : w.heap[g]? = some o) : g < w.heap.size := (Array.getElem?_eq_some_iff.1 h).1
theorem blk_alloc {w : World} {g : Nat} {o : Obj} (h : w.heap[g]? = some o) (o' : Obj) : (w.alloc o').heap[g]? = some o := (Below.heap_alloc w o' g (blk_lt h)).trans h

set_option maxHeartbeats 800000 in
theorem s_tell_end (g : Nat) (lo hi : Int) (v : Bool) (w : World) (hb : (hi == lo + 1) = true) (hl : 0 ≤ lo) (hl2 : lo ≤ 100)
    (h1 : w.cell? ⟨g, 1, none⟩ = some (.int .i64 lo)) (h2 : w.cell? ⟨g, 2, none⟩ = some (.int .i64 hi)) :
    Calls Tryz.prog 10 #[.pointer (some ⟨g, 0, none⟩), .bool v] w fun e w' => e = .returned (.int .i64 7) ∧ ∃ n, w' = w.drewN n := by
  go_enter Tryz.func10, Tryz.ntmps10
  go_wp2_with fail
  refine (s_ask_end g lo hi w hb hl hl2 h1 h2).mono ?_
  rintro e w' ⟨rfl, n, rfl⟩
  go_wp2
  go_ret
  exact ⟨rfl, _, rfl⟩

set_option maxHeartbeats 1600000 in
theorem s_tell_l (g B : Nat) (lo hi n : Int) (w : World) (v : Bool) (hb : (hi == lo + 1) = false) (hl : 0 ≤ lo) (hl2 : lo ≤ 100) (hn : 0 ≤ n) (hn2 : n ≤ 100) (hB : B ≤ g)
    (h : w.heap[g]? = some (.cells #[.iface 72 (.agg #[]), .int .i64 lo, .int .i64 hi, .int .i64 n] 80 (0, 0))) :
    Calls Tryz.prog 10 #[.pointer (some ⟨g, 0, none⟩), .bool v] w fun e w' => e = .returned (.int .i64 0) ∧ Below B w w' ∧
      w'.heap[g]? = some (.cells #[.iface 72 (.agg #[]), .int .i64 (if v then lo else lo + 1), .int .i64 (if v then lo + 1 else hi), .int .i64 (n + 1)] 80 (0, 0)) := by
  have hg := blk_lt h
  go_enter Tryz.func10, Tryz.ntmps10
  go_wp2_with fail
  refine (s_ask_l g lo hi w hb hl hl2 (blk_cell h 0) (blk_cell h 1) (blk_cell h 2)).mono ?_
  rintro e w1 ⟨rfl, hb1⟩
  have k := blk_keep hb1 h
  have hg1 := blk_lt k
  have c0 : w1.cell? ⟨g, 0, none⟩ = some (.iface 72 (.agg #[])) := blk_cell k 0
  have c1 : w1.cell? ⟨g, 1, none⟩ = some (.int .i64 lo) := blk_cell k 1
  have c2 : w1.cell? ⟨g, 2, none⟩ = some (.int .i64 hi) := blk_cell k 2
  have c3 : w1.cell? ⟨g, 3, none⟩ = some (.int .i64 n) := blk_cell k 3
  have f1 := blk_free k 1
  have f2 := blk_free k 2
  have f3 := blk_free k 3
  have ht : ∀ w, (Instr.typeAssert (.iface 72 (.agg #[])) 70 72 true).run Tryz.prog w = .ok (.tuple #[.agg #[], .bool true]) w := fun _ => by kernel_rfl
  have K := Lib.hid k
  have H := Lib.hid h
  clear k h
  cases v
  all_goals
    go_wp2
    go_ret
    have k := K.out
    refine ⟨rfl, ?_, ?_⟩
    · exact (((hb1.mono (by omega)).setCell hB _).setCell hB _).alloc (by simp; omega) _
    · exact blk_alloc (blk_set (blk_set k _ _) _ _) _

theorem s_btold (v : Bool) (w : World) : Calls Tryz.prog 267 #[.agg #[], .bool v] w fun e w' => e = .returned (.tuple #[]) ∧ Below w.heap.size w w' := by
  go_enter Tryz.func267, Tryz.ntmps267
  go_wp2
  go_end0
  exact ⟨rfl, (Below.refl _ _).alloc (Nat.le_refl _) _⟩

set_option maxHeartbeats 1600000 in
theorem s_etold (g B : Nat) (st : Int) (no v : Bool) (w : World) (hs : 1 ≤ st) (hs2 : st ≤ 1099511627776) (hB : B ≤ g)
    (h : w.heap[g]? = some (.cells #[.int .i64 st, .bool no] 76 (0, 0))) :
    Calls Tryz.prog 269 #[.pointer (some ⟨g, 0, none⟩), .bool v] w fun e w' => e = .returned (.tuple #[]) ∧ Below B w w' ∧ (∀ k, k ≠ g → w'.heap[k]? = w.heap[k]?) ∧
      w'.heap[g]? = some (.cells #[.int .i64 (2 * st), .bool (no || !v)] 76 (0, 0)) := by
  have c0 : w.cell? ⟨g, 0, none⟩ = some (.int .i64 st) := blk_cell h 0
  have c1 : w.cell? ⟨g, 1, none⟩ = some (.bool no) := blk_cell h 1
  have f0 := blk_free h 0
  have f1 := blk_free h 1
  have H := Lib.hid h
  clear h
  go_enter Tryz.func269, Tryz.ntmps269
  cases no <;> cases v
  all_goals
    go_wp2
    go_end0
    have h := H.out
    refine ⟨rfl, ?_, ?_, ?_⟩
    · exact ((Below.refl _ _).setCell hB _).setCell hB _
    · intro k hk
      rw [blk_far _ _ _ hk, blk_far _ _ _ hk]
    · have e : st * 2 = 2 * st := by omega
      rw [← e]
      simpa using blk_set (blk_set h 0 (.int .i64 (st * 2))) 1 _

set_option maxHeartbeats 1600000 in
theorem s_tell_b (g B : Nat) (lo hi n m : Int) (w : World) (v : Bool) (hb : (hi == lo + 1) = false) (hl : 0 ≤ lo) (hl2 : lo < hi) (hl3 : hi ≤ 100) (hn : 0 ≤ n) (hn2 : n ≤ 100) (hB : B ≤ g) (Hm : Hid (lo + (hi - lo) / 2 = m))
    (h : w.heap[g]? = some (.cells #[.iface 73 (.agg #[]), .int .i64 lo, .int .i64 hi, .int .i64 n] 80 (0, 0))) :
    Calls Tryz.prog 10 #[.pointer (some ⟨g, 0, none⟩), .bool v] w fun e w' => e = .returned (.int .i64 0) ∧ Below B w w' ∧
      w'.heap[g]? = some (.cells #[.iface 73 (.agg #[]), .int .i64 (if v then lo else m), .int .i64 (if v then m else hi), .int .i64 (n + 1)] 80 (0, 0)) := by
  have hg := blk_lt h
  have e2 : ∀ w, (method 507 73 (.agg #[]) "tutor/point.told").run Tryz.prog w = .ok (267, .agg #[]) w := fun w => by kernel_rfl
  go_enter Tryz.func10, Tryz.ntmps10
  go_wp2_with fail
  refine (s_ask_b g lo hi w hb hl hl2 hl3 (blk_cell h 0) (blk_cell h 1) (blk_cell h 2)).mono ?_
  rintro e w1 ⟨rfl, hb1⟩
  rw [Hm.out]
  have k := blk_keep hb1 h
  have hg1 := blk_lt k
  have c0 : w1.cell? ⟨g, 0, none⟩ = some (.iface 73 (.agg #[])) := blk_cell k 0
  have c1 : w1.cell? ⟨g, 1, none⟩ = some (.int .i64 lo) := blk_cell k 1
  have c2 : w1.cell? ⟨g, 2, none⟩ = some (.int .i64 hi) := blk_cell k 2
  have c3 : w1.cell? ⟨g, 3, none⟩ = some (.int .i64 n) := blk_cell k 3
  have f1 := blk_free k 1
  have f2 := blk_free k 2
  have f3 := blk_free k 3
  have ht : ∀ w, (Instr.typeAssert (.iface 73 (.agg #[])) 70 72 true).run Tryz.prog w = .ok (.tuple #[.agg #[], .bool false]) w := fun _ => by kernel_rfl
  have K := Lib.hid k
  have H := Lib.hid h
  clear k h
  cases v
  all_goals
    go_wp2_with fail
    refine (s_btold _ _).mono ?_
    rintro e w2 ⟨rfl, hb2⟩
    have k := K.out
    have k2 := blk_keep hb2 (blk_alloc (blk_set k _ _) _)
    have c3 : w2.cell? ⟨g, 3, none⟩ = some (.int .i64 n) := blk_cell k2 3
    have f3 := blk_free k2 3
    have K2 := Lib.hid k2
    clear k k2
    go_wp2
    go_ret
    have k2 := K2.out
    refine ⟨rfl, ?_, ?_⟩
    · exact ((((hb1.mono (by omega)).setCell hB _).alloc (by simp; omega) _).trans (hb2.mono (by simp; omega))).setCell hB _
    · simpa using blk_set k2 3 _
theorem s_met_t (n : Nat) (a : Addr) (w : World) : (method (n + 1) 74 (.pointer (some a)) "tutor/point.told").run Tryz.prog w = .ok (269, .pointer (some a)) w := by kernel_rfl

set_option maxHeartbeats 1600000 in
theorem s_tell_e_no (g g2 B : Nat) (lo hi n m st : Int) (w : World) (v : Bool) (hb : (hi == lo + 1) = false) (hl : 0 ≤ lo) (hl2 : lo < hi) (hl3 : hi ≤ 100) (hn : 0 ≤ n) (hn2 : n ≤ 100) (hB : B ≤ g) (hB2 : B ≤ g2) (hne : g2 ≠ g) (hs : 1 ≤ st) (hs2 : st ≤ 1099511627776) (Hm : Hid (lo + (hi - lo) / 2 = m))
    (h' : w.heap[g2]? = some (.cells #[.int .i64 st, .bool true] 76 (0, 0)))
    (h : w.heap[g]? = some (.cells #[.iface 74 (.pointer (some ⟨g2, 0, none⟩)), .int .i64 lo, .int .i64 hi, .int .i64 n] 80 (0, 0))) :
    Calls Tryz.prog 10 #[.pointer (some ⟨g, 0, none⟩), .bool v] w fun e w' => e = .returned (.int .i64 0) ∧ Below B w w' ∧
      w'.heap[g]? = some (.cells #[.iface 74 (.pointer (some ⟨g2, 0, none⟩)), .int .i64 (if v then lo else m), .int .i64 (if v then m else hi), .int .i64 (n + 1)] 80 (0, 0)) ∧
      w'.heap[g2]? = some (.cells #[.int .i64 (2 * st), .bool (true || !v)] 76 (0, 0)) := by
  have hg := blk_lt h
  have e2 : ∀ w, (method 507 74 (.pointer (some ⟨g2, 0, none⟩)) "tutor/point.told").run Tryz.prog w = .ok (269, .pointer (some ⟨g2, 0, none⟩)) w := fun w => s_met_t _ _ w
  go_enter Tryz.func10, Tryz.ntmps10
  go_wp2_with fail
  refine (s_ask_e_no g g2 lo hi w hb hl hl2 hl3 (blk_cell h 0) (blk_cell h 1) (blk_cell h 2) (blk_cell h' 1)).mono ?_
  rintro e w1 ⟨rfl, hb1⟩
  rw [Hm.out]
  have k := blk_keep hb1 h
  have k' := blk_keep hb1 h'
  have hg1 := blk_lt k
  have c0 : w1.cell? ⟨g, 0, none⟩ = some (.iface 74 (.pointer (some ⟨g2, 0, none⟩))) := blk_cell k 0
  have c1 : w1.cell? ⟨g, 1, none⟩ = some (.int .i64 lo) := blk_cell k 1
  have c2 : w1.cell? ⟨g, 2, none⟩ = some (.int .i64 hi) := blk_cell k 2
  have c3 : w1.cell? ⟨g, 3, none⟩ = some (.int .i64 n) := blk_cell k 3
  have f1 := blk_free k 1
  have f2 := blk_free k 2
  have f3 := blk_free k 3
  have ht : ∀ w, (Instr.typeAssert (.iface 74 (.pointer (some ⟨g2, 0, none⟩))) 70 72 true).run Tryz.prog w = .ok (.tuple #[.agg #[], .bool false]) w := fun _ => by kernel_rfl
  have K := Lib.hid k
  have K' := Lib.hid k'
  clear k h k' h'
  cases v
  all_goals
    go_wp2_with fail
    have k := K.out
    have k' := K'.out
    refine (s_etold g2 B st true _ _ hs hs2 hB2 (blk_alloc ((blk_far _ _ _ hne).trans k') _)).mono ?_
    rintro e w2 ⟨rfl, hb2, hfar, kk⟩
    have k2 := (hfar g (Ne.symm hne)).trans (blk_alloc (blk_set k _ _) _)
    have c3 : w2.cell? ⟨g, 3, none⟩ = some (.int .i64 n) := blk_cell k2 3
    have f3 := blk_free k2 3
    have K2 := Lib.hid k2
    have KK := Lib.hid kk
    clear k k2 k' kk hfar
    go_wp2
    go_ret
    have k2 := K2.out
    refine ⟨rfl, ?_, ?_, ?_⟩
    · exact ((((hb1.mono (by omega)).setCell hB _).alloc (by simp; omega) _).trans hb2).setCell hB _
    · simpa using blk_set k2 3 _
    · exact (blk_far _ _ _ hne).trans KK.out
set_option maxHeartbeats 1600000 in
theorem s_tell_e_yes (g g2 B : Nat) (lo hi n m st : Int) (w : World) (v : Bool) (hb : (hi == lo + 1) = false) (hl : 0 ≤ lo) (hl2 : lo < hi) (hl3 : hi ≤ 100) (hn : 0 ≤ n) (hn2 : n ≤ 100) (hB : B ≤ g) (hB2 : B ≤ g2) (hne : g2 ≠ g) (hs : 1 ≤ st) (hs2 : st ≤ 1099511627776) (Hm : Hid (max (hi - st) (lo + 1) = m))
    (h' : w.heap[g2]? = some (.cells #[.int .i64 st, .bool false] 76 (0, 0)))
    (h : w.heap[g]? = some (.cells #[.iface 74 (.pointer (some ⟨g2, 0, none⟩)), .int .i64 lo, .int .i64 hi, .int .i64 n] 80 (0, 0))) :
    Calls Tryz.prog 10 #[.pointer (some ⟨g, 0, none⟩), .bool v] w fun e w' => e = .returned (.int .i64 0) ∧ Below B w w' ∧
      w'.heap[g]? = some (.cells #[.iface 74 (.pointer (some ⟨g2, 0, none⟩)), .int .i64 (if v then lo else m), .int .i64 (if v then m else hi), .int .i64 (n + 1)] 80 (0, 0)) ∧
      w'.heap[g2]? = some (.cells #[.int .i64 (2 * st), .bool (false || !v)] 76 (0, 0)) := by
  have hg := blk_lt h
  have e2 : ∀ w, (method 507 74 (.pointer (some ⟨g2, 0, none⟩)) "tutor/point.told").run Tryz.prog w = .ok (269, .pointer (some ⟨g2, 0, none⟩)) w := fun w => s_met_t _ _ w
  go_enter Tryz.func10, Tryz.ntmps10
  go_wp2_with fail
  refine (s_ask_e_yes g g2 lo hi st m w hb hl hl2 hl3 hs hs2 Hm (blk_cell h 0) (blk_cell h 1) (blk_cell h 2) (blk_cell h' 0) (blk_cell h' 1)).mono ?_
  rintro e w1 ⟨rfl, hb1⟩
  have k := blk_keep hb1 h
  have k' := blk_keep hb1 h'
  have hg1 := blk_lt k
  have c0 : w1.cell? ⟨g, 0, none⟩ = some (.iface 74 (.pointer (some ⟨g2, 0, none⟩))) := blk_cell k 0
  have c1 : w1.cell? ⟨g, 1, none⟩ = some (.int .i64 lo) := blk_cell k 1
  have c2 : w1.cell? ⟨g, 2, none⟩ = some (.int .i64 hi) := blk_cell k 2
  have c3 : w1.cell? ⟨g, 3, none⟩ = some (.int .i64 n) := blk_cell k 3
  have f1 := blk_free k 1
  have f2 := blk_free k 2
  have f3 := blk_free k 3
  have ht : ∀ w, (Instr.typeAssert (.iface 74 (.pointer (some ⟨g2, 0, none⟩))) 70 72 true).run Tryz.prog w = .ok (.tuple #[.agg #[], .bool false]) w := fun _ => by kernel_rfl
  have K := Lib.hid k
  have K' := Lib.hid k'
  clear k h k' h'
  cases v
  all_goals
    go_wp2_with fail
    have k := K.out
    have k' := K'.out
    refine (s_etold g2 B st false _ _ hs hs2 hB2 (blk_alloc ((blk_far _ _ _ hne).trans k') _)).mono ?_
    rintro e w2 ⟨rfl, hb2, hfar, kk⟩
    have k2 := (hfar g (Ne.symm hne)).trans (blk_alloc (blk_set k _ _) _)
    have c3 : w2.cell? ⟨g, 3, none⟩ = some (.int .i64 n) := blk_cell k2 3
    have f3 := blk_free k2 3
    have K2 := Lib.hid k2
    have KK := Lib.hid kk
    clear k k2 k' kk hfar
    go_wp2
    go_ret
    have k2 := K2.out
    refine ⟨rfl, ?_, ?_, ?_⟩
    · exact ((((hb1.mono (by omega)).setCell hB _).alloc (by simp; omega) _).trans hb2).setCell hB _
    · simpa using blk_set k2 3 _
    · exact (blk_far _ _ _ hne).trans KK.out
end Go.Proofs.YtkfnjlnbppgghaaGreatDoor
