/- The program's CompareDec returns what the reference's returns: for every two values of laws.Dec, where Go's own tables unicode/utf8.acceptRanges and unicode/utf8.first hold what the program's text lays in them. -/
import Derived.Test.YtilmhfkbpnejeaaDoorRows
import Derived.Test.YtilmhfkbpnejeaaDoorCards
import Derived.Test.YtilmhfkbpnejeaaDoorTie
import Derived.Test.YtilmhfkbpnejeaaDoorL23
import Derived.Test.YtilmhfkbpnejeaaDoorPureCompareDec
import Derived.WalkKit
import Derived.ProofKit
import Derived.OpenShut
import Derived.ShutString
import Derived.ChangeOld
import Derived.Below
import Derived.SizedLaws
import Derived.Lib.SmallJoins
import Derived.Lay
import Derived.LaidMore
import Derived.SevenTiedAt
namespace Go.Proofs.YtilmhfkbpnejeaaDoor.fnExactCompareDec
open Go.ChangeShapes Go.WideShapes Go.ChangeAt Go.RowKit Go.Joins
open Go.ChangeMaps (open_string shut_string)
set_option linter.unusedVariables false
theorem own : ownKnob Tryd.prog.godebug = none := by kernel_rfl
theorem laidOut : laidOutB Tryd.prog = true := by kernel_rfl
abbrev laid : List (String × DataW Unit) := [("unicode/utf8.acceptRanges", Rows.laid_unicode_utf8_acceptRanges), ("unicode/utf8.first", Rows.laid_unicode_utf8_first)]
set_option maxRecDepth 100000 in
theorem lifted (os : Os) (started : os.Started) (H : Type) (enc : TypeId × Value → H) :
    ReturnsInHanded {} Tryd.checked os 3 .any (fun w args => (Rows.fnExactCompareDecSpec.pre enc Tryd.prog Tryd.f3 [] false w args ∧ laidMetH Tryd.prog laid w) ∧ sizedMet enc Tryd.prog Tryd.f3 (OpenSpec.ofChange Rows.fnExactCompareDecSpec) false w args)
      (Rows.fnExactCompareDecSpec.post enc Tryd.prog Tryd.f3 false true false false) := by
  refine returnsInHanded_of_change_and (C := Tryd.checked) (X := fun w _ => laidMetH Tryd.prog laid w) (fun _ _ _ hh h => h.of_heap hh) own started (by kernel_rfl) Tryd.func3
    (ChangeSpec.witness_shaped (enc := enc) (C := Tryd.checked) (os := os) (X := fun w _ => laidMetH Tryd.prog laid w) false (World.laidAll Tryd.prog os laid) #[.agg #[.bool false, .string ⟨#[]⟩, .int .i64 0], .agg #[.bool false, .string ⟨#[]⟩, .int .i64 0]] 8 (World.laidAll_os _ _ _)
      (World.shaped_of_ZipB (by kernel_rfl) (by kernel_rfl)) (by kernel_rfl) (by kernel_rfl) (by kernel_rfl)
      (by rw [MakeChecks.laidMetH_plain _ _ _ (by kernel_rfl)]; exact laidMet_laidAll _ (by kernel_rfl) (by kernel_rfl))) ?_
  intro W base args ds gs before hval0 hW hcnd _ hL _
  have hval : ∀ (j : Nat) t v, Tryd.f3.params[j]? = some t → args[j]? = some v → Value.okWide Tryd.prog W .any base t v := hval0
  have hW' := hW
  obtain ⟨p, q, hA0, hV, rfl, hfz, hnd⟩ := hW
  have hA : DataW.TrodAll enc Tryd.prog W 0 (fun _ => true) true Tryd.f3.params.toList args.toList ds p := hA0
  rw [Tryd.params3] at hA hval
  obtain ⟨v0, v1, d0, d1, p0, p1, rfl, rfl, rfl, h0, h1⟩ := trodAll_two hA
  obtain ⟨rfl, rfl⟩ := trodVars_none hV
  have k0 := h0
  have k1 := h1
  have lt0 : ∀ x ∈ p0, x.block < W.heap.size := by obtain ⟨m, hm⟩ := k0; exact DataW.trod_lt m _ _ _ hm
  have lt1 : ∀ x ∈ p1, x.block < W.heap.size := by obtain ⟨m, hm⟩ := k1; exact DataW.trod_lt m _ _ _ hm
  obtain ⟨c0, c1, c2, y0, y1, y2, m, rfl, rfl, rfl, e0, e1, e2⟩ := open_agg3 Tryd.underlying23 (by kernel_rfl) (by kernel_rfl) (hval 0 23 v0 rfl rfl) h0
  obtain ⟨c3, c4, c5, y3, y4, y5, m', rfl, rfl, rfl, e3, e4, e5⟩ := open_agg3 Tryd.underlying23 (by kernel_rfl) (by kernel_rfl) (hval 1 23 v1 rfl rfl) h1
  obtain ⟨b0, q0, rfl⟩ := DataW.trod_bool Tryd.underlying4 e0
  obtain ⟨s0, q1, rfl, z0⟩ := DataW.trod_string Tryd.underlying9 e1
  obtain ⟨n0, q2, rfl, w0⟩ := DataW.trod_int Tryd.underlying2 e2
  obtain ⟨b1, q3, rfl⟩ := DataW.trod_bool Tryd.underlying4 e3
  obtain ⟨s1, q4, rfl, z1⟩ := DataW.trod_string Tryd.underlying9 e4
  obtain ⟨n1, q5, rfl, w1⟩ := DataW.trod_int Tryd.underlying2 e5
  obtain rfl : c0 = .bool b0 := by simpa using q0
  obtain rfl : c1 = .string s0 := by simpa using q1
  obtain rfl : c2 = .int .i64 n0 := by simpa using q2
  obtain rfl : c3 = .bool b1 := by simpa using q3
  obtain rfl : c4 = .string s1 := by simpa using q4
  obtain rfl : c5 = .int .i64 n1 := by simpa using q5
  clear hA0 hval0
  obtain ⟨K, hK⟩ := Pure.FnExactCompareDec b0 s0 n0 b1 s1 n1 z0 z1 w0 w1
  refine (L.laws_FnExactCompareDec.calls K b0 s0 n0 b1 s1 n1 true W hK).mono fun e W' ⟨he, bel⟩ => ?_
  subst he
  exact ⟨_, rfl, _, _, _, [], _, [], hW', trodAll_mk1 (shut_bool Tryd.underlying4 _), (trodAll_cons_mk (Below.trod laidOut (by kernel_rfl) (of_decide_eq_true (by kernel_rfl)) k0 bel lt0) (trodAll_cons_mk (Below.trod laidOut (by kernel_rfl) (of_decide_eq_true (by kernel_rfl)) k1 bel lt1) trodAll_mk0)), rfl, bel.frame _, fun h => by cases h⟩
theorem over : Rows.fnExactCompareDecRow.holds Tryd.pinned (OpenSpec.ofChange Rows.fnExactCompareDecSpec) :=
  OpenClaim.holds_of_wide 3 Tryd.f3 rfl rfl rfl rfl rfl rfl rfl ⟨rfl, rfl, rfl, rfl, rfl⟩ rfl rfl rfl rfl rfl (by kernel_rfl) Tryd.func3 (by kernel_rfl)
    (of_decide_eq_true (by kernel_rfl)) (by unfold Func.isWrapper; first | (rw [if_pos (by decide +kernel)]; kernel_rfl) | (rw [if_neg (by decide +kernel)]; exact ⟨rfl, rfl⟩))
    (fun os started H enc _ => lifted os started H enc)
theorem said : Rows.FnExactCompareDecSaid := over
theorem card : Rows.FnExactCompareDecCardSaid :=
  Claim7.holds_tied_plain_at .later [] [.data, .pinned] true (true, "4a61d948b812248cc51bcf06df5496e41b10d70eed4e46b572ca6dc1aae8b1fc") false
    over (fun _ h => by cases h) (by kernel_rfl) (fun _ h => by cases h) fnExactCompareDec_row_tie rfl ⟨rfl, rfl⟩ (by kernel_rfl) rfl
    (fun f fn hf hfn => by
      obtain rfl : f = 3 := Option.some.inj ((show Tryd.prog.funcNamed "loop.example/g00262/laws.FnExactCompareDec" = some 3 by kernel_rfl).symm.trans hf) |>.symm
      obtain rfl : fn = Tryd.f3 := (Option.some.inj (Tryd.func3.symm.trans hfn)).symm
      exact ⟨by kernel_rfl, fun j t ht => by
        rw [Tryd.params3] at ht
        have hm : t ∈ [23, 23] := by simpa using Array.mem_of_getElem? ht
        have hall : ([23, 23].all fun u => !Tryd.prog.wantsStandIn u) = true := by kernel_rfl
        exact (show Tryd.prog.wantsStandIn t = false by simpa using List.all_eq_true.1 hall t hm)⟩)
    (by kernel_rfl)
end Go.Proofs.YtilmhfkbpnejeaaDoor.fnExactCompareDec
namespace Go.Proofs.YtilmhfkbpnejeaaDoor
theorem fnExactCompareDec_card_holds : Rows.FnExactCompareDecCardSaid := fnExactCompareDec.card
#print axioms fnExactCompareDec_card_holds
end Go.Proofs.YtilmhfkbpnejeaaDoor
