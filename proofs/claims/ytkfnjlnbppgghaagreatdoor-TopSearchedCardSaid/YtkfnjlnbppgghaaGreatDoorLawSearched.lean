/- TopSearched's statement: for every input the call returns true, and the arguments read as before. No conditions (what the row lists is tied to the program's text). -/
import Derived.Test.YtkfnjlnbppgghaaGreatDoorLawRow
import Derived.Test.YtkfnjlnbppgghaaGreatDoorSrch5
import Derived.Test.YtkfnjlnbppgghaaGreatDoorCards
import Derived.Deep.Slices
import Derived.OpenShut
set_option maxRecDepth 100000
namespace Go.Proofs.YtkfnjlnbppgghaaGreatDoor
open Go.ChangeShapes Go.WideShapes Go.RowKit Go.Deep

theorem searched_lifted (os : Os) (started : os.Started) (H : Type) (enc : TypeId × Value → H) :
    ReturnsInHanded {} Tryz.checked os 3 .any (fun w args => (Rows.topSearchedSpec.pre enc Tryz.prog Tryz.f3 [] false w args ∧ laidMetH Tryz.prog [("errors.errorType", Rows.laid_errors_errorType)] w) ∧ sizedMet enc Tryz.prog Tryz.f3 (OpenSpec.ofChange Rows.topSearchedSpec) false w args)
      (Rows.topSearchedSpec.post enc Tryz.prog Tryz.f3 false true false false) := by
  refine returnsInHanded_of_change_and (C := Tryz.checked) (X := fun w _ => laidMetH Tryz.prog [("errors.errorType", Rows.laid_errors_errorType)] w) (fun _ _ _ hh h => h.of_heap hh) r_own started (by kernel_rfl) Tryz.func3
    (ChangeSpec.witness_at (enc := enc) (C := Tryz.checked) (os := os) (X := fun w _ => laidMetH Tryz.prog [("errors.errorType", Rows.laid_errors_errorType)] w) false (laidWorld os) #[.int .u8 0, .int .u8 0, .slice none 0 0] 8 rfl (by kernel_rfl) (by kernel_rfl) (by kernel_rfl) (by kernel_rfl) (by kernel_rfl) (laidWorld_met os _)) ?_
  intro W base args ds gs before hval0 hW _ _ _ _
  have hval : ∀ (j : Nat) t v, Tryz.f3.params[j]? = some t → args[j]? = some v → Value.okWide Tryz.prog W .any base t v := hval0
  have hW' := hW
  obtain ⟨p, q, hA0, hV0, rfl, hfz, hnd⟩ := hW
  have hA : DataW.TrodAll enc Tryz.prog W 0 (fun _ => true) true Tryz.f3.params.toList args.toList ds p := hA0
  rw [Tryz.params3] at hA hval
  obtain ⟨v0, v1, v2, d0, d1, d2, p0, p1, p2, rfl, rfl, rfl, h0, h1, h2⟩ := trodAll_three hA
  obtain ⟨how, rfl, rfl, rfl, wh⟩ := open_int Tryz.underlying5 (hval 0 5 v0 rfl rfl) h0
  obtain ⟨n, rfl, rfl, rfl, wn⟩ := open_int Tryz.underlying5 (hval 1 5 v1 rfl rfl) h1
  have bh := bounds_u8 wh
  have bn := bounds_u8 wn
  obtain ⟨A, len, cap, rfl⟩ := okWide_slice Tryz.underlying22 (hval 2 22 v2 rfl rfl)
  obtain ⟨fuel, hf⟩ := h2
  have hb : ∃ f, RdBools W A len f ∧ len ≤ 9223372036854775807 := by
    rcases open_slice1 Tryz.underlying22 (by kernel_rfl) hf with ⟨hcs, hx⟩ | ⟨a, len', cap', m, k, V, D, Pl, hcs, _, hlc, hcm, hm, hx, hcell⟩
    · have : len = 0 := by simp [Value.cells] at hcs; omega
      subst this
      exact ⟨fun _ => false, fun h => by omega, by omega⟩
    · obtain ⟨hA', hl', hc'⟩ : A = some a ∧ len = len' ∧ cap = cap' := by simpa [Value.cells] using hcs
      subst hA' hl' hc'
      unfold maxLen at hcm
      have hall : ∀ j, ∃ b : Bool, j < len → W.cell? (a.add j) = some (.bool b) := by
        intro j
        by_cases hj : j < len
        · obtain ⟨h1, h2⟩ := hcell j (by simp at hm; omega)
          obtain ⟨b, hb, _⟩ := DataW.trod_bool Tryz.underlying4 h2
          have hV : V j = .bool b := by simpa using hb
          exact ⟨b, fun _ => by rw [h1, hV]⟩
        · exact ⟨false, fun h => absurd h hj⟩
      obtain ⟨f, hf⟩ := Classical.axiomOfChoice hall
      refine ⟨f, fun hlen => ?_, by omega⟩
      obtain ⟨b, off, spot⟩ := a
      have hspot : spot = none := by simpa [Addr.add] using World.cell?_spot (hf 0 hlen)
      subst hspot
      exact ⟨b, off, rfl, fun j hj => by rw [← Go.WideShapes.add_plain]; exact hf j hj⟩
  obtain ⟨f, hf1, hf2⟩ := hb
  refine (top_walk how n A len cap f W bh.1 bh.2 bn.1 bn.2 hf2 hf1).mono fun e W' ⟨he, hb⟩ => ⟨_, he, ?_⟩
  exact law_post (by rfl) Tryz.underlying4 (by kernel_rfl) rfl hW' (fun h => by subst h; rfl) hb

theorem searched_holds : Rows.TopSearchedSaid :=
  OpenClaim.holds_of_wide 3 Tryz.f3 rfl rfl rfl rfl rfl rfl rfl ⟨rfl, rfl, rfl, rfl, rfl⟩ rfl rfl rfl rfl rfl (by kernel_rfl) Tryz.func3 (by kernel_rfl)
    (of_decide_eq_true (by kernel_rfl)) (by unfold Func.isWrapper; rw [if_neg (of_decide_eq_false (by kernel_rfl))]; exact ⟨rfl, rfl⟩)
    (fun os started H enc _ => searched_lifted os started H enc)

theorem searched_card : Rows.TopSearchedCardSaid :=
  Claim7.holds_tied_plain_at .later [] [.handle] true (true, "d717488c38b2ed67f309d36ebd086f60412743b655a082e21fb703e61e88a081") true
    searched_holds (fun _ h => by cases h) (by kernel_rfl) (fun _ h => by cases h) topSearched_row_tie rfl ⟨rfl, rfl⟩ (by kernel_rfl) rfl
    (fun f fn hf hfn => by
      obtain rfl : f = 3 := Option.some.inj ((show Tryz.prog.funcNamed "tutor/tutortop.TopSearched" = some 3 by kernel_rfl).symm.trans hf) |>.symm
      obtain rfl : fn = Tryz.f3 := (Option.some.inj (Tryz.func3.symm.trans hfn)).symm
      exact ⟨by kernel_rfl, fun j t ht => by
        rw [Tryz.params3] at ht
        have h3 : t ∈ [5, 5, 22] := by
          have := Array.mem_of_getElem? ht
          simpa using this
        have hall : ([5, 5, 22].all fun t => Tryz.prog.wantsStandIn t == false) = true := by kernel_rfl
        have := List.all_eq_true.1 hall t h3
        exact (show Tryz.prog.wantsStandIn t = false by simpa using this)⟩)
    (by kernel_rfl)
#print axioms searched_card
end Go.Proofs.YtkfnjlnbppgghaaGreatDoor
