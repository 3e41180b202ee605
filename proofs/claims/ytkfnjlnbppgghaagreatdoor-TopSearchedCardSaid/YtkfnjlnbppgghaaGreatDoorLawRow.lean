/- What each law's row owes besides its walk: arguments that read behind the call as before it; a world in which the listed variable is laid; the card. No conditions. -/
import Derived.Test.YtkfnjlnbppgghaaGreatDoorRows
import Derived.Test.YtkfnjlnbppgghaaGreatDoorTie
import Derived.WalkKit
import Derived.ChangeSame
import Derived.ChangeVars
import Derived.ChangeOld
import Derived.JoinedOf
import Derived.RowKit
import Derived.RowKitTokens
import Derived.LaidLaws
import Derived.LaidHandle
import Derived.Stop.Joined
import Derived.SevenTiedAt
import Derived.ProofKit
set_option maxRecDepth 100000
namespace Go.Proofs.YtkfnjlnbppgghaaGreatDoor
open Go.ChangeShapes Go.WideShapes Go.RowKit

theorem r_own : ownKnob Tryz.prog.godebug = none := by kernel_rfl
theorem r_laidOut : laidOutB Tryz.prog = true := by kernel_rfl

/-- A world that meets the condition: the settled one, the variable's cell laid. -/
noncomputable def laidWorld (os : Os) : World :=
  let w0 := World.holding Tryz.prog os ⟨#[], #[], []⟩
  { w0 with heap := w0.heap.modify 0 fun
      | .cells _ t frozen => .cells #[.iface 301 (.agg #[.pointer (some ⟨1, 197, none⟩)])] t frozen
      | o => o }
theorem laidWorld_met (os : Os) (args : Array Value) : laidMetH Tryz.prog [("errors.errorType", Rows.laid_errors_errorType)] ((laidWorld os).forCall (fun _ _ => 0) ⟨#[], args, []⟩).memory :=
  laidMetH_of_parts (laidMet_nil _ _) (by kernel_rfl)

theorem trodAll_below {H : Type} {enc : TypeId × Value → H} {P : Program} (hl : laidOutB P = true) {W W' : World} (hb : Below W.heap.size W W') (ts : List TypeId) :
    ∀ (vs : List Value) (ds : List (DataW H)) (ps : List MemPlace), (∀ t ∈ ts, P.readableRec t = true ∧ t < P.types.size) →
      DataW.TrodAll enc P W 0 (fun _ => true) true ts vs ds ps → DataW.TrodAll enc P W' 0 (fun b => decide (b < W.heap.size)) true ts vs ds ps := by
  induction ts with
  | nil =>
    intro vs ds ps _ h
    cases vs with
    | cons v vs => exact h.elim
    | nil => cases ds with
      | cons d ds => exact h.elim
      | nil => exact h
  | cons t ts ih =>
    intro vs ds ps hr h
    cases vs with
    | nil => exact h.elim
    | cons v vs => cases ds with
      | nil => exact h.elim
      | cons d ds =>
        obtain ⟨p, q, h1, h2, rfl⟩ := h
        have hr0 := hr t List.mem_cons_self
        refine ⟨p, q, Below.trod hl hr0.1 hr0.2 h1 hb ?_, ih vs ds q (fun t ht => hr t (List.mem_cons_of_mem _ ht)) h2, rfl⟩
        obtain ⟨fuel, hf⟩ := h1
        exact fun x hx => DataW.trod_lt fuel t _ _ hf x hx

/-- The post of a law, out of its walk's: true; nothing that was there has turned. -/
theorem law_post {H : Type} {enc : TypeId × Value → H} {fn : Func} {s : ChangeSpec} {W W' : World} {args : Array Value} {ds gs : List (DataW H)} {before : List MemPlace}
    (hres : fn.resultTypes = #[4]) (hu : Tryz.prog.underlying 4 = some .bool) (hps : (fn.params.toList.all fun t => Tryz.prog.readableRec t && decide (t < Tryz.prog.types.size)) = true)
    (hvars : s.vars = []) (hW : DataW.Whole enc Tryz.prog fn.params.toList s.vars false W args.toList ds gs before)
    (hs : gs = [] → s.fn H (ds ++ gs) = { results := [.lit (.bool true)], args := ds }) (hb : Below W.heap.size W W') :
    s.post enc Tryz.prog fn false true false false W args (.bool true) W' := by
  have hW' := hW
  obtain ⟨p, q, hA, hV, rfl, hfz, hnd⟩ := hW
  rw [hvars] at hV
  have hgs : gs = [] := by
    cases gs with
    | nil => rfl
    | cons g r => exact absurd hV (by intro h; cases h)
  have hS := hs hgs
  refine ⟨ds, gs, p ++ q, [], p, [], hW', ?_, ?_, ?_, hb.frame _, fun h => by cases h⟩
  · rw [hS, hres]
    exact trodAll_mk1 (shut_bool hu true)
  · rw [hS]
    refine trodAll_below r_laidOut hb _ _ _ _ (fun t ht => ?_) hA
    have := List.all_eq_true.1 hps t ht
    simpa using this
  · rw [hS, hvars]; rfl
end Go.Proofs.YtkfnjlnbppgghaaGreatDoor
