/- A search of whatever kind under one contract: what it is made as, asks, tells, counts. Conditions: places from 0 to 100. -/
import Derived.Test.YtkfnjlnbppgghaaGreatDoorSrch3
set_option maxRecDepth 100000
namespace Go.Proofs.YtkfnjlnbppgghaaGreatDoor
open Go.RowKit

def wayv (k : Int) (g2 : Nat) : Value := if k = 1 then .iface 72 (.agg #[]) else if k = 2 then .iface 73 (.agg #[]) else .iface 74 (.pointer (some ⟨g2, 0, none⟩))

/-- A search in memory. -/
structure Srch (w : World) (g g2 : Nat) (k lo hi n st : Int) (no : Bool) : Prop where
  kind : k = 1 ∨ k = 2 ∨ k = 3
  blk : w.heap[g]? = some (.cells #[wayv k g2, .int .i64 lo, .int .i64 hi, .int .i64 n] 80 (0, 0))
  exp : k = 3 → w.heap[g2]? = some (.cells #[.int .i64 st, .bool no] 76 (0, 0)) ∧ g2 ≠ g

theorem Srch.keep {w w1 : World} {g g2 : Nat} {k lo hi n st : Int} {no : Bool} (h : Srch w g g2 k lo hi n st no) (hb : Below w.heap.size w w1) : Srch w1 g g2 k lo hi n st no :=
  ⟨h.kind, blk_keep hb h.blk, fun hk => ⟨blk_keep hb (h.exp hk).1, (h.exp hk).2⟩⟩
theorem Srch.drewN {w : World} {g g2 : Nat} {k lo hi n st : Int} {no : Bool} (h : Srch w g g2 k lo hi n st no) (m : Nat) : Srch (w.drewN m) g g2 k lo hi n st no :=
  ⟨h.kind, h.blk, h.exp⟩

/-- The place that is asked for next. -/
def nxt (k lo hi st : Int) (no : Bool) : Int := if k = 2 ∨ k = 3 ∧ no = true then lo + (hi - lo) / 2 else if k = 3 then max (hi - st) (lo + 1) else lo + 1

theorem srch_ask {g g2 : Nat} {k lo hi n st m : Int} {no : Bool} {w : World} (h : Srch w g g2 k lo hi n st no) (hl : 0 ≤ lo) (hl2 : lo + 1 < hi) (hl3 : hi ≤ 100) (hs : 1 ≤ st) (hs2 : st ≤ 1099511627776) (Hm : Hid (nxt k lo hi st no = m)) :
    Calls Tryz.prog 7 #[.pointer (some ⟨g, 0, none⟩)] w fun e w' => e = .returned (.tuple #[.int .i64 m, .bool true]) ∧ Below w.heap.size w w' := by
  have hm := Hm.out
  have hb : (hi == lo + 1) = false := by simp; omega
  obtain ⟨hk, hblk, hexp⟩ := h
  rcases hk with rfl | rfl | rfl
  · have : m = lo + 1 := by rw [← hm]; simp [nxt]
    subst this
    exact s_ask_l g lo hi w hb hl (by omega) (blk_cell hblk 0) (blk_cell hblk 1) (blk_cell hblk 2)
  · have : m = lo + (hi - lo) / 2 := by rw [← hm]; simp [nxt]
    subst this
    exact s_ask_b g lo hi w hb hl (by omega) hl3 (blk_cell hblk 0) (blk_cell hblk 1) (blk_cell hblk 2)
  · obtain ⟨he, hne⟩ := hexp rfl
    cases no with
    | true =>
      have : m = lo + (hi - lo) / 2 := by rw [← hm]; simp [nxt]
      subst this
      exact s_ask_e_no g g2 lo hi w hb hl (by omega) hl3 (blk_cell hblk 0) (blk_cell hblk 1) (blk_cell hblk 2) (blk_cell he 1)
    | false =>
      exact s_ask_e_yes g g2 lo hi st m w hb hl (by omega) hl3 hs hs2 (Lib.hid (by rw [← hm]; simp [nxt])) (blk_cell hblk 0) (blk_cell hblk 1) (blk_cell hblk 2) (blk_cell he 0) (blk_cell he 1)

theorem srch_tell {g g2 : Nat} {k lo hi n st m : Int} {no v : Bool} {w : World} (B : Nat) (h : Srch w g g2 k lo hi n st no) (hl : 0 ≤ lo) (hl2 : lo + 1 < hi) (hl3 : hi ≤ 100) (hn : 0 ≤ n) (hn2 : n ≤ 100) (hs : 1 ≤ st) (hs2 : st ≤ 1099511627776)
    (hB : B ≤ g) (hB2 : k = 3 → B ≤ g2) (Hm : Hid (nxt k lo hi st no = m)) :
    Calls Tryz.prog 10 #[.pointer (some ⟨g, 0, none⟩), .bool v] w fun e w' => e = .returned (.int .i64 0) ∧ Below B w w' ∧ Srch w' g g2 k (if v then lo else m) (if v then m else hi) (n + 1) (2 * st) (no || !v) := by
  have hm := Hm.out
  have hb : (hi == lo + 1) = false := by simp; omega
  obtain ⟨hk, hblk, hexp⟩ := h
  rcases hk with rfl | rfl | rfl
  · have : m = lo + 1 := by rw [← hm]; simp [nxt]
    subst this
    exact (s_tell_l g B lo hi n w v hb hl (by omega) hn hn2 hB hblk).mono fun e w' ⟨h1, h2, h3⟩ => ⟨h1, h2, .inl rfl, h3, fun h => by omega⟩
  · have : m = lo + (hi - lo) / 2 := by rw [← hm]; simp [nxt]
    exact (s_tell_b g B lo hi n m w v hb hl (by omega) hl3 hn hn2 hB (Lib.hid this.symm) hblk).mono fun e w' ⟨h1, h2, h3⟩ => ⟨h1, h2, .inr (.inl rfl), h3, fun h => by omega⟩
  · obtain ⟨he, hne⟩ := hexp rfl
    cases no with
    | true =>
      have : m = lo + (hi - lo) / 2 := by rw [← hm]; simp [nxt]
      exact (s_tell_e_no g g2 B lo hi n m st w v hb hl (by omega) hl3 hn hn2 hB (hB2 rfl) hne hs hs2 (Lib.hid this.symm) he hblk).mono fun e w' ⟨h1, h2, h3, h4⟩ => ⟨h1, h2, .inr (.inr rfl), h3, fun _ => ⟨h4, hne⟩⟩
    | false =>
      exact (s_tell_e_yes g g2 B lo hi n m st w v hb hl (by omega) hl3 hn hn2 hB (hB2 rfl) hne hs hs2 (Lib.hid (by rw [← hm]; simp [nxt])) he hblk).mono fun e w' ⟨h1, h2, h3, h4⟩ => ⟨h1, h2, .inr (.inr rfl), h3, fun _ => ⟨h4, hne⟩⟩

set_option maxHeartbeats 1600000 in
theorem srch_new (k n : Int) (w : World) (hk : k = 1 ∨ k = 2 ∨ k = 3) (hn : 1 ≤ n) (hn2 : n ≤ 100) :
    Calls Tryz.prog 6 #[.int .i64 k, .int .i64 n] w fun e w' => ∃ g g2 : Nat, e = .returned (.tuple #[.pointer (some ⟨g, 0, none⟩), .int .i64 0]) ∧ Below w.heap.size w w' ∧ w.heap.size ≤ g ∧ (k = 3 → w.heap.size ≤ g2) ∧ Srch w' g g2 k 0 n 0 1 false := by
  rcases hk with rfl | rfl | rfl
  · go_enter Tryz.func6, Tryz.ntmps6
    go_wp2
    go_ret2
    exact ⟨w.heap.size, 0, rfl, (Below.refl _ _).alloc (Nat.le_refl _) _, Nat.le_refl _, fun h => by omega, .inl rfl, heap_alloc_new _ _, fun h => by omega⟩
  · go_enter Tryz.func6, Tryz.ntmps6
    go_wp2
    go_ret2
    exact ⟨w.heap.size, 0, rfl, (Below.refl _ _).alloc (Nat.le_refl _) _, Nat.le_refl _, fun h => by omega, .inr (.inl rfl), heap_alloc_new _ _, fun h => by omega⟩
  · go_enter Tryz.func6, Tryz.ntmps6
    go_wp2
    go_ret2
    refine ⟨w.heap.size + 1, w.heap.size, by simp, ((Below.refl _ _).alloc (Nat.le_refl _) _).alloc (by simp) _, by omega, fun _ => Nat.le_refl _, .inr (.inr rfl), ?_, fun _ => ⟨blk_alloc (heap_alloc_new _ _) _, by omega⟩⟩
    have := heap_alloc_new (w.alloc (.cells #[.int .i64 1, .bool false] 76)) (.cells #[wayv 3 w.heap.size, .int .i64 0, .int .i64 n, .int .i64 0] 80)
    simpa [wayv] using this
end Go.Proofs.YtkfnjlnbppgghaaGreatDoor
