/- TopSearched returns true, and only new memory is made. Conditions: the list reads as bools. -/
import Derived.Test.YtkfnjlnbppgghaaGreatDoorSrch4
import Derived.Test.YtkfnjlnbppgghaaGreatDoorLive
set_option maxRecDepth 100000
namespace Go.Proofs.YtkfnjlnbppgghaaGreatDoor
open Go.RowKit

/-- A slice of bools that is read. -/
def RdBools (w : World) (A : Option Addr) (n : Nat) (f : Nat → Bool) : Prop := 0 < n → ∃ b off : Nat, A = some ⟨b, off, none⟩ ∧ ∀ j, j < n → w.cell? ⟨b, off + j, none⟩ = some (.bool (f j))

theorem drewn_below {P : Program} {f : FuncId} {args : Array Value} {w : World} {v : Value} (h : Calls P f args w fun e w' => e = .returned v ∧ ∃ n, w' = w.drewN n) : Calls P f args w fun e w' => e = .returned v ∧ Below w.heap.size w w' :=
  h.mono fun e w' ⟨h1, n, h2⟩ => ⟨h1, by subst h2; exact (Below.refl _ _).drewN n⟩

theorem Srch.found_no {w : World} {g g2 : Nat} {k lo hi n st : Int} {no : Bool} (h : Srch w g g2 k lo hi n st no) (hl : 0 ≤ lo) (hl2 : lo + 1 < hi) (hl3 : hi ≤ 100) :
    Calls Tryz.prog 8 #[.pointer (some ⟨g, 0, none⟩)] w fun e w' => e = .returned (.tuple #[.int .i64 0, .bool false]) ∧ Below w.heap.size w w' :=
  drewn_below <| s_found_no g lo hi w (by simp; omega) hl (by omega) (blk_cell h.blk 1) (blk_cell h.blk 2)
theorem Srch.found_yes {w : World} {g g2 : Nat} {k lo hi n st : Int} {no : Bool} (h : Srch w g g2 k lo hi n st no) (hl : 0 ≤ lo) (hl2 : hi = lo + 1) (hl3 : hi ≤ 100) :
    Calls Tryz.prog 8 #[.pointer (some ⟨g, 0, none⟩)] w fun e w' => e = .returned (.tuple #[.int .i64 lo, .bool true]) ∧ Below w.heap.size w w' :=
  drewn_below <| s_found_yes g lo hi w (by simp; omega) hl (by omega) (blk_cell h.blk 1) (blk_cell h.blk 2)
theorem Srch.ask_end {w : World} {g g2 : Nat} {k lo hi n st : Int} {no : Bool} (h : Srch w g g2 k lo hi n st no) (hl : 0 ≤ lo) (hl2 : hi = lo + 1) (hl3 : hi ≤ 100) :
    Calls Tryz.prog 7 #[.pointer (some ⟨g, 0, none⟩)] w fun e w' => e = .returned (.tuple #[.int .i64 0, .bool false]) ∧ Below w.heap.size w w' :=
  drewn_below <| s_ask_end g lo hi w (by simp; omega) hl (by omega) (blk_cell h.blk 1) (blk_cell h.blk 2)
theorem Srch.tell_end {w : World} {g g2 : Nat} {k lo hi n st : Int} {no : Bool} (h : Srch w g g2 k lo hi n st no) (hl : 0 ≤ lo) (hl2 : hi = lo + 1) (hl3 : hi ≤ 100) (v : Bool) :
    Calls Tryz.prog 10 #[.pointer (some ⟨g, 0, none⟩), .bool v] w fun e w' => e = .returned (.int .i64 7) ∧ Below w.heap.size w w' :=
  drewn_below <| s_tell_end g lo hi v w (by simp; omega) hl (by omega) (blk_cell h.blk 1) (blk_cell h.blk 2)
theorem Srch.asked {w : World} {g g2 : Nat} {k lo hi n st : Int} {no : Bool} (h : Srch w g g2 k lo hi n st no) :
    Calls Tryz.prog 9 #[.pointer (some ⟨g, 0, none⟩)] w fun e w' => e = .returned (.int .i64 n) ∧ w = w' := s_asked g n w (blk_cell h.blk 3)

theorem _root_.Go.RowKit.Below.then_ {a b c : World} (h : Below a.heap.size a b) (k : Below b.heap.size b c) : Below a.heap.size a c := h.trans (k.mono h.size)

def pow2 (n : Nat) : Int := 2 ^ n
theorem pow2_succ (n : Nat) : pow2 (n + 1) = 2 * pow2 n := by unfold pow2; rw [Int.pow_succ]; omega
theorem pow2_pos (n : Nat) : 1 ≤ pow2 n := by
  induction n with
  | zero => decide
  | succ n ih => rw [pow2_succ]; omega
theorem pow2_mono {a b : Nat} (h : a ≤ b) : pow2 a ≤ pow2 b := by
  induction b with
  | zero => have : a = 0 := by omega
            subst this; exact Int.le_refl _
  | succ b ih =>
    rcases Nat.lt_or_ge a (b + 1) with hlt | hge
    · have := ih (by omega); have := pow2_pos b; rw [pow2_succ]; omega
    · have : a = b + 1 := by omega
      subst this; exact Int.le_refl _
theorem pow2_le {n : Nat} (h : n ≤ 40) : pow2 n ≤ 1099511627776 := Int.le_trans (pow2_mono h) (by decide)

/-- What holds at each round's head: the search is as the law's own count says. -/
structure Inv (w0 wr : World) (g g2 : Nat) (k most lo hi stT : Int) (no : Bool) (j : Nat) : Prop where
  below : Below w0.heap.size w0 wr
  lo0 : 0 ≤ lo
  hi1 : lo + 1 ≤ hi
  span : hi - lo + j ≤ most
  top : hi ≤ most
  stT1 : 1 ≤ stT
  stT2 : stT ≤ pow2 j
  st : ∃ st, 1 ≤ st ∧ st ≤ pow2 j ∧ (no = false → stT = st) ∧ Srch wr g g2 k lo hi j st no

structure StEq (b : Bool) (s st : Int) : Prop where out : b = false → s = st
structure Above (k : Int) (a b : Nat) : Prop where out : k = 3 → a ≤ b

theorem hinv_stT2 {w0 wr : World} {g g2 : Nat} {k most lo hi stT : Int} {no : Bool} {j : Nat} (h : Hid (Inv w0 wr g g2 k most lo hi stT no j)) : stT ≤ pow2 j := h.out.stT2
theorem hinv_st2 {st : Int} {j : Nat} (h : Hid (st ≤ pow2 j)) : st ≤ pow2 j := h.out

set_option maxHeartbeats 4000000 in
theorem top_walk (how n : Int) (A : Option Addr) (len cap : Nat) (f : Nat → Bool) (w : World) (h0 : 0 ≤ how) (h1 : how ≤ 255) (h2 : 0 ≤ n) (h3 : n ≤ 255) (hlen : len ≤ 9223372036854775807) (hf : RdBools w A len f) :
    Calls Tryz.prog 3 #[.int .u8 how, .int .u8 n, .slice A len cap] w fun e w' => e = .returned (.bool true) ∧ Below w.heap.size w w' := by
  obtain ⟨k, hk, hk3⟩ : ∃ k, 1 + how % 3 = k ∧ (k = 1 ∨ k = 2 ∨ k = 3) := ⟨_, rfl, by omega⟩
  obtain ⟨most, hm, hm1, hm2⟩ : ∃ m, 1 + n % 40 = m ∧ 1 ≤ m ∧ m ≤ 40 := ⟨_, rfl, by omega, by omega⟩
  have F := Lib.hid hf
  clear hf
  have Hk3 := Lib.hid hk3
  clear hk3
  go_enter Tryz.func3, Tryz.ntmps3
  go_wp2_with fail
  refine (srch_new k most w Hk3.out hm1 (by omega)).mono ?_
  rintro e w1 ⟨g, g2, rfl, hb1, hg, hg2, hs⟩
  have HK := Lib.hid hk
  have HM := Lib.hid hm
  have HG2 : Above k w.heap.size g2 := ⟨hg2⟩
  have HS := Lib.hid hs
  clear hk hm hg2 hs
  go_wp2_with fail
  go_loopw [11, 12, 13, 14, 15]
    (fun lo hi st no j wr => ∃ (l h s : Int) (b : Bool) (i : Nat), lo = .int .i64 l ∧ hi = .int .i64 h ∧ st = .int .i64 s ∧ no = .bool b ∧ j = .int .i64 i ∧ Inv w wr g g2 k most l h s b i)
    (fun lo hi _ _ _ _ => (intOf hi - intOf lo).toNat)
  case atStart => exact ⟨0, most, 1, false, 0, rfl, rfl, rfl, rfl, rfl, ⟨hb1, by omega, by omega, by simp, by omega, by omega, pow2_pos 0, 1, by omega, pow2_pos 0, fun _ => rfl, HS.out⟩⟩
  case round =>
    obtain ⟨l, h, s, b, i, rfl, rfl, rfl, rfl, rfl, hinv⟩ := hrel
    have hlo := hinv.lo0
    have hhi := hinv.hi1
    have hsp := hinv.span
    have htp := hinv.top
    have hs1 := hinv.stT1
    have hs2 : s ≤ 1099511627776 := Int.le_trans hinv.stT2 (pow2_le (by omega))
    have HI := Lib.hid hinv
    clear hinv
    by_cases hlt : l + 1 < h
    · obtain ⟨st, hst1, hst2, hst3, hS⟩ := HI.out.st
      have hst4 : st ≤ 1099511627776 := Int.le_trans hst2 (pow2_le (by omega))
      have hB := HI.out.below
      have HS2 := Lib.hid hS
      have HST : StEq b s st := ⟨hst3⟩
      have HST2 := Lib.hid hst2
      clear hS hst3 hst2
      by_cases hj : i < len
      · obtain ⟨bb, off, hA, hc⟩ := F.out (by omega)
        subst hA
        have hc' := hc i hj
        have hcb := World.block_lt_of_cell? _ _ hc'
        clear hc
        have HC := Lib.hid hc'
        clear hc'
        obtain ⟨v, hv⟩ : ∃ v, f i = v := ⟨_, rfl⟩
        have HV := Lib.hid hv
        clear hv
        have hm : (nxt k l h st b = l + 1 ∧ (k = 1 ∨ k = 3 ∧ b = false ∧ h - s < l + 1)) ∨ (nxt k l h st b = l + (h - l) / 2 ∧ (k = 2 ∨ k = 3 ∧ b = true)) ∨ (nxt k l h st b = h - s ∧ k = 3 ∧ b = false ∧ l + 1 ≤ h - s) := by
          unfold nxt
          rcases Hk3.out with rfl | rfl | rfl
          · left; simp
          · right; left; simp
          · cases b with
            | true => right; left; simp
            | false =>
              have := HST.out rfl
              subst this
              by_cases hx : h - s < l + 1
              · left; simp [hx]; omega
              · right; right; simp; omega
        rcases hm with ⟨hm, rfl | ⟨rfl, rfl, hx⟩⟩ | ⟨hm, rfl | ⟨rfl, rfl⟩⟩ | ⟨hm, rfl, rfl, hx⟩
        all_goals
          have Hm := Lib.hid hm
          clear hm
          go_wp2_with fail
          refine (srch_ask HS2.out hlo hlt (by omega) hst1 hst4 Hm).mono ?_
          rintro e w2 ⟨rfl, b2⟩
          go_wp2_with fail
          refine (srch_ask (HS2.out.keep b2) hlo hlt (by omega) hst1 hst4 Hm).mono ?_
          rintro e w3 ⟨rfl, b3⟩
          go_wp2_with fail
          refine (((HS2.out.keep b2).keep b3).found_no hlo hlt (by omega)).mono ?_
          rintro e w4 ⟨rfl, b4⟩
          go_wp2_with fail
          refine ((((HS2.out.keep b2).keep b3).keep b4).asked).mono ?_
          rintro e w5 ⟨rfl, rfl⟩
          have hcc : w4.cell? ⟨bb, off + i, none⟩ = some (.bool v) := by rw [← HV.out]; exact cell_keep (hB.then_ (b2.then_ (b3.then_ b4))) HC.out
          go_wp2_with fail
          refine (srch_tell w.heap.size (((HS2.out.keep b2).keep b3).keep b4) hlo hlt (by omega) (by omega) (by omega) hst1 hst4 hg HG2.out Hm).mono ?_
          rintro e w5 ⟨rfl, b5, S5⟩
          have H5 := Lib.hid S5
          have hp := pow2_succ i
          have hp1 := hinv_stT2 HI
          have hp2 := hinv_st2 HST2
          have hbb := (hB.then_ (b2.then_ (b3.then_ b4))).trans b5
          have HB5 := Lib.hid hbb
          have HP := Lib.hid (And.intro hp (And.intro hp1 hp2))
          clear S5 hp hp1 hp2 hbb
          cases v
          all_goals
            go_wp2
            go_roundw
            case rel =>
              obtain ⟨hp, hp1, hp2⟩ := HP.out
              refine ⟨_, _, _, _, i + 1, rfl, rfl, rfl, rfl, by go_num, HB5.out, ?_, ?_, ?_, ?_, ?_, ?_, 2 * st, ?_, ?_, ?_, ?_⟩
              all_goals (first | omega | (exact H5.out) | (intro hno; first | (cases hno; done) | (have := HST.out hno; omega)) | (simpa using H5.out))
            case measure => simp [intOf]; omega
      · obtain ⟨v, hv⟩ : ∃ v, false = v := ⟨_, rfl⟩
        have HV := Lib.hid hv
        clear hv
        have hm : (nxt k l h st b = l + 1 ∧ (k = 1 ∨ k = 3 ∧ b = false ∧ h - s < l + 1)) ∨ (nxt k l h st b = l + (h - l) / 2 ∧ (k = 2 ∨ k = 3 ∧ b = true)) ∨ (nxt k l h st b = h - s ∧ k = 3 ∧ b = false ∧ l + 1 ≤ h - s) := by
          unfold nxt
          rcases Hk3.out with rfl | rfl | rfl
          · left; simp
          · right; left; simp
          · cases b with
            | true => right; left; simp
            | false =>
              have := HST.out rfl
              subst this
              by_cases hx : h - s < l + 1
              · left; simp [hx]; omega
              · right; right; simp; omega
        rcases hm with ⟨hm, rfl | ⟨rfl, rfl, hx⟩⟩ | ⟨hm, rfl | ⟨rfl, rfl⟩⟩ | ⟨hm, rfl, rfl, hx⟩
        all_goals
          have Hm := Lib.hid hm
          clear hm
          go_wp2_with fail
          refine (srch_ask HS2.out hlo hlt (by omega) hst1 hst4 Hm).mono ?_
          rintro e w2 ⟨rfl, b2⟩
          go_wp2_with fail
          refine (srch_ask (HS2.out.keep b2) hlo hlt (by omega) hst1 hst4 Hm).mono ?_
          rintro e w3 ⟨rfl, b3⟩
          go_wp2_with fail
          refine (((HS2.out.keep b2).keep b3).found_no hlo hlt (by omega)).mono ?_
          rintro e w4 ⟨rfl, b4⟩
          go_wp2_with fail
          refine ((((HS2.out.keep b2).keep b3).keep b4).asked).mono ?_
          rintro e w5 ⟨rfl, rfl⟩
          have hv := HV.out
          subst hv
          go_wp2_with fail
          refine (srch_tell w.heap.size (((HS2.out.keep b2).keep b3).keep b4) hlo hlt (by omega) (by omega) (by omega) hst1 hst4 hg HG2.out Hm).mono ?_
          rintro e w5 ⟨rfl, b5, S5⟩
          have H5 := Lib.hid S5
          have hp := pow2_succ i
          have hp1 := hinv_stT2 HI
          have hp2 := hinv_st2 HST2
          have hbb := (hB.then_ (b2.then_ (b3.then_ b4))).trans b5
          have HB5 := Lib.hid hbb
          have HP := Lib.hid (And.intro hp (And.intro hp1 hp2))
          clear S5 hp hp1 hp2 hbb
          all_goals
            go_wp2
            go_roundw
            case rel =>
              obtain ⟨hp, hp1, hp2⟩ := HP.out
              refine ⟨_, _, _, _, i + 1, rfl, rfl, rfl, rfl, by go_num, HB5.out, ?_, ?_, ?_, ?_, ?_, ?_, 2 * st, ?_, ?_, ?_, ?_⟩
              all_goals (first | omega | (exact H5.out) | (intro hno; first | (cases hno; done) | (have := HST.out hno; omega)) | (simpa using H5.out))
            case measure => simp [intOf]; omega
    · have he : h = l + 1 := by omega
      have HE := Lib.hid he
      clear he
      obtain ⟨st, _, _, _, hS⟩ := HI.out.st
      have hB := HI.out.below
      have HS2 := Lib.hid hS
      clear hS
      go_wp2_with fail
      refine (HS2.out.ask_end hlo HE.out (by omega)).mono ?_
      rintro e w2 ⟨rfl, b2⟩
      go_wp2_with fail
      refine ((HS2.out.keep b2).found_yes hlo HE.out (by omega)).mono ?_
      rintro e w3 ⟨rfl, b3⟩
      go_wp2_with fail
      refine (((HS2.out.keep b2).keep b3).asked).mono ?_
      rintro e w' ⟨rfl, rfl⟩
      go_wp2_with fail
      refine (((HS2.out.keep b2).keep b3).tell_end hlo HE.out (by omega) true).mono ?_
      rintro e w4 ⟨rfl, b4⟩
      go_wp2_with fail
      refine (live_ok _).mono ?_
      rintro e w' ⟨rfl, hb9⟩
      go_wp2
      go_ret
      exact ⟨rfl, hB.then_ (b2.then_ (b3.then_ (b4.then_ hb9)))⟩
end Go.Proofs.YtkfnjlnbppgghaaGreatDoor
