/- Words and contracts for the row RowFnDeepPath: what the Go functions answer that it calls; printed by programs of the kit and of this session, and merged. -/
import Derived.Test.YtpmjpbaeecnpiaaDoorQd9
import Derived.Sort.Walk0
import Derived.Lib.SplitLaws
import Derived.Lib.IndexBytes
import Derived.Lib.ValidLaws
import Derived.Lib.DecodeN
import Derived.Lib.MapLaws
import Derived.Lib.TrimUEq
namespace Go.Proofs.YtpmjpbaeecnpiaaDoor.L
open Go.RowKit Go.Proofs.YtpmjpbaeecnpiaaDoorW.PrintWords Go.Proofs.YtpmjpbaeecnpiaaDoorW.PrintLast Go.Proofs.YtpmjpbaeecnpiaaDoorW.PrintMore
attribute [local go_sem] max2_int min2_int max_two min_two max_three min_three max_four min_four
set_option linter.unusedVariables false
set_option linter.unusedSimpArgs false

/-! ### laws_FnDeepPath: function 5 -/
mutual
def laws_FnDeepPath.j0 : Nat → List (S39) → Int → ByteArray → List Int → Bool → Option (Bool)
 | 0, _, _, _, _, _ => none
 | k + 1, x3, x4, x5, x6, x64 => if x64 = true then ((spec_Select.f k x3 x4 x5).bind fun t597 => ((laws_sameInts.f k x6 t597).bind fun t600 => (some t600))) else (if 2 + x5.size ≤ 9223372036854775807 then ((impl_Select.f k x3 x4 ((⟨#[47, 47]⟩ : ByteArray) ++ x5)).bind fun t601 => ((some (([] : List Int) : List Int)).bind fun y604 => (if y604.length + x6.length < 17592186044416 then (laws_FnDeepPath.l0 k x3 x4 x5 t601 (y604 ++ x6) (wrap64 (x4 + 1))) else (none)))) else (none))
def laws_FnDeepPath.l0 : Nat → List (S39) → Int → ByteArray → List Int → List Int → Int → Option (Bool)
 | 0, _, _, _, _, _, _ => none
 | k + 1, x3, x4, x5, x7, x8, x9 => if x9 < (x3.length : Int) then (laws_FnDeepPath.l1 k x3 x4 x5 x7 x8 x9 x9) else (laws_FnDeepPath.l2 k x7 x8 0)
def laws_FnDeepPath.l1 : Nat → List (S39) → Int → ByteArray → List Int → List Int → Int → Int → Option (Bool)
 | 0, _, _, _, _, _, _, _ => none
 | k + 1, x3, x4, x5, x7, x8, x9, x10 => if x10 > x4 then (if 0 ≤ x10 then (if x10 < (x3.length : Int) then (laws_FnDeepPath.l1 k x3 x4 x5 x7 x8 x9 ((rd_T39 x3 x10).f0)) else (none)) else (none)) else (if x10 = x4 then (if 0 ≤ x9 then (if x9 < (x3.length : Int) then (if ((rd_T39 x3 x9).f1).toList = ([] : List UInt8) then (laws_FnDeepPath.l0 k x3 x4 x5 x7 x8 (wrap64 (x9 + 1))) else ((impl_Select.f k x3 x9 x5).bind fun t612 => (if x8.length + t612.length < 17592186044416 then (laws_FnDeepPath.l0 k x3 x4 x5 x7 (x8 ++ t612) (wrap64 (x9 + 1))) else (none)))) else (none)) else (none)) else (laws_FnDeepPath.l0 k x3 x4 x5 x7 x8 (wrap64 (x9 + 1))))
def laws_FnDeepPath.l2 : Nat → List Int → List Int → Int → Option (Bool)
 | 0, _, _, _ => none
 | k + 1, x7, x8, x11 => if x11 < (x8.length : Int) then (if 0 ≤ x11 then ((laws_has.f k x7 (rd x8 x11)).bind fun t619 => (if t619 = true then (laws_FnDeepPath.l2 k x7 x8 (wrap64 (x11 + 1))) else (some false))) else (none)) else (laws_FnDeepPath.l3 k x7 x8 0)
def laws_FnDeepPath.l3 : Nat → List Int → List Int → Int → Option (Bool)
 | 0, _, _, _ => none
 | k + 1, x7, x8, x12 => if x12 < (x7.length : Int) then (if 0 ≤ x12 then ((laws_has.f k x8 (rd x7 x12)).bind fun t621 => (if t621 = true then (laws_FnDeepPath.l3 k x7 x8 (wrap64 (x12 + 1))) else (some false))) else (none)) else (some true)
end
def laws_FnDeepPath.f (k : Nat) (l0 : List Int) : Option (Bool) := (laws_big.f l0).bind fun t581 => (if t581 = true then (some true) else ((spec_DrawSelect.f k l0).bind fun bt582 => ((impl_Select.f k bt582.1 bt582.2.1 bt582.2.2).bind fun t587 => ((spec_Select.f k bt582.1 bt582.2.1 bt582.2.2).bind fun t590 => ((laws_sameInts.f k t587 t590).bind fun t593 => (if t593 = true then ((spec_DocOk.f k bt582.1).bind fun t594 => (if t594 = true then (if bt582.2.1 < 0 then (laws_FnDeepPath.j0 k bt582.1 bt582.2.1 bt582.2.2 t587 true) else (if bt582.2.1 ≥ (bt582.1.length : Int) then (laws_FnDeepPath.j0 k bt582.1 bt582.2.1 bt582.2.2 t587 true) else (if 0 ≤ bt582.2.1 then (if bt582.2.1 < (bt582.1.length : Int) then (if ((rd_T39 bt582.1 bt582.2.1).f1).toList = ([] : List UInt8) then (laws_FnDeepPath.j0 k bt582.1 bt582.2.1 bt582.2.2 t587 true) else ((spec_PathOk.f k bt582.2.2).bind fun t596 => (if t596 = true then (if 0 < (bt582.2.2.size : Int) then (laws_FnDeepPath.j0 k bt582.1 bt582.2.1 bt582.2.2 t587 ((bt bt582.2.2 0) == 47)) else (none)) else (laws_FnDeepPath.j0 k bt582.1 bt582.2.1 bt582.2.2 t587 true)))) else (none)) else (none)))) else (laws_FnDeepPath.j0 k bt582.1 bt582.2.1 bt582.2.2 t587 true))) else (laws_FnDeepPath.j0 k bt582.1 bt582.2.1 bt582.2.2 t587 true)))))))
set_option maxHeartbeats 8000000 in
set_option maxRecDepth 100000 in
theorem laws_FnDeepPath.calls (k : Nat) (A0 : Option Addr) (c0 : Nat) (l0 : List Int) (r : Bool) (w : World) (hT : Gl w) (hr0 : Kd.C (Kd.int .u8) w A0 l0.length l0) (hc0 : l0.length ≤ c0) (h : laws_FnDeepPath.f k l0 = some r) :
  Calls Tryd.prog 5 #[.slice A0 l0.length c0] w fun e w' => e = .returned (.bool r) ∧ Below w.heap.size w w' := by
 have HR0 := Aside0.mk hr0
 have HC0 := Aside0.mk hc0
 clear hr0 hc0
 have HT := Aside0.mk hT
 clear hT
 have HB := Aside0.mk (Below.refl w.heap.size w)
 have H : ((laws_big.f l0).bind fun t581 => (if t581 = true then (some true) else ((spec_DrawSelect.f k l0).bind fun bt582 => ((impl_Select.f k bt582.1 bt582.2.1 bt582.2.2).bind fun t587 => ((spec_Select.f k bt582.1 bt582.2.1 bt582.2.2).bind fun t590 => ((laws_sameInts.f k t587 t590).bind fun t593 => (if t593 = true then ((spec_DocOk.f k bt582.1).bind fun t594 => (if t594 = true then (if bt582.2.1 < 0 then (laws_FnDeepPath.j0 k bt582.1 bt582.2.1 bt582.2.2 t587 true) else (if bt582.2.1 ≥ (bt582.1.length : Int) then (laws_FnDeepPath.j0 k bt582.1 bt582.2.1 bt582.2.2 t587 true) else (if 0 ≤ bt582.2.1 then (if bt582.2.1 < (bt582.1.length : Int) then (if ((rd_T39 bt582.1 bt582.2.1).f1).toList = ([] : List UInt8) then (laws_FnDeepPath.j0 k bt582.1 bt582.2.1 bt582.2.2 t587 true) else ((spec_PathOk.f k bt582.2.2).bind fun t596 => (if t596 = true then (if 0 < (bt582.2.2.size : Int) then (laws_FnDeepPath.j0 k bt582.1 bt582.2.1 bt582.2.2 t587 ((bt bt582.2.2 0) == 47)) else (none)) else (laws_FnDeepPath.j0 k bt582.1 bt582.2.1 bt582.2.2 t587 true)))) else (none)) else (none)))) else (laws_FnDeepPath.j0 k bt582.1 bt582.2.1 bt582.2.2 t587 true))) else (laws_FnDeepPath.j0 k bt582.1 bt582.2.1 bt582.2.2 t587 true)))))))) = some r := h
 clear h
 replace H := Option.bind_eq_some_iff.mp H
 obtain ⟨t581, A20, H⟩ := H
 replace H : (if t581 = true then (some true) else ((spec_DrawSelect.f k l0).bind fun bt582 => ((impl_Select.f k bt582.1 bt582.2.1 bt582.2.2).bind fun t587 => ((spec_Select.f k bt582.1 bt582.2.1 bt582.2.2).bind fun t590 => ((laws_sameInts.f k t587 t590).bind fun t593 => (if t593 = true then ((spec_DocOk.f k bt582.1).bind fun t594 => (if t594 = true then (if bt582.2.1 < 0 then (laws_FnDeepPath.j0 k bt582.1 bt582.2.1 bt582.2.2 t587 true) else (if bt582.2.1 ≥ (bt582.1.length : Int) then (laws_FnDeepPath.j0 k bt582.1 bt582.2.1 bt582.2.2 t587 true) else (if 0 ≤ bt582.2.1 then (if bt582.2.1 < (bt582.1.length : Int) then (if ((rd_T39 bt582.1 bt582.2.1).f1).toList = ([] : List UInt8) then (laws_FnDeepPath.j0 k bt582.1 bt582.2.1 bt582.2.2 t587 true) else ((spec_PathOk.f k bt582.2.2).bind fun t596 => (if t596 = true then (if 0 < (bt582.2.2.size : Int) then (laws_FnDeepPath.j0 k bt582.1 bt582.2.1 bt582.2.2 t587 ((bt bt582.2.2 0) == 47)) else (none)) else (laws_FnDeepPath.j0 k bt582.1 bt582.2.1 bt582.2.2 t587 true)))) else (none)) else (none)))) else (laws_FnDeepPath.j0 k bt582.1 bt582.2.1 bt582.2.2 t587 true))) else (laws_FnDeepPath.j0 k bt582.1 bt582.2.1 bt582.2.2 t587 true))))))) = some r := H
 have A2 := Aside0.mk A20
 clear A20
 by_cases c3 : t581 = true
 ·subst c3
  have H1 : (some true) = some r := by rw [if_pos rfl] at H; exact H
  clear H
  have H := H1
  clear H1
  obtain rfl := Option.some.inj H
  go_enter Tryd.func5, Tryd.ntmps5
  go_wp2_with (first | ((with_reducible refine gate_callee (f := 18) rfl ?_); refine goesL_ (some 14) rfl rfl Tryd.func18 dq30 rfl #[.slice A0 l0.length c0] rfl dq29 ?_; (with_reducible refine (laws_big.calls _ _ l0 true _ ?side1 ?side2 A2.out).mono ?_); (case side1 => exact dq2); (case side2 => exact HC0.out); rintro e w' ⟨rfl, ⟨nd, rfl⟩⟩; refine ⟨_, rfl, ?_⟩))
  go_ret
  exact ⟨dq35, dq33⟩
 replace c3 := Bool.eq_false_iff.mpr c3
 subst c3
 have H1 : ((spec_DrawSelect.f k l0).bind fun bt582 => ((impl_Select.f k bt582.1 bt582.2.1 bt582.2.2).bind fun t587 => ((spec_Select.f k bt582.1 bt582.2.1 bt582.2.2).bind fun t590 => ((laws_sameInts.f k t587 t590).bind fun t593 => (if t593 = true then ((spec_DocOk.f k bt582.1).bind fun t594 => (if t594 = true then (if bt582.2.1 < 0 then (laws_FnDeepPath.j0 k bt582.1 bt582.2.1 bt582.2.2 t587 true) else (if bt582.2.1 ≥ (bt582.1.length : Int) then (laws_FnDeepPath.j0 k bt582.1 bt582.2.1 bt582.2.2 t587 true) else (if 0 ≤ bt582.2.1 then (if bt582.2.1 < (bt582.1.length : Int) then (if ((rd_T39 bt582.1 bt582.2.1).f1).toList = ([] : List UInt8) then (laws_FnDeepPath.j0 k bt582.1 bt582.2.1 bt582.2.2 t587 true) else ((spec_PathOk.f k bt582.2.2).bind fun t596 => (if t596 = true then (if 0 < (bt582.2.2.size : Int) then (laws_FnDeepPath.j0 k bt582.1 bt582.2.1 bt582.2.2 t587 ((bt bt582.2.2 0) == 47)) else (none)) else (laws_FnDeepPath.j0 k bt582.1 bt582.2.1 bt582.2.2 t587 true)))) else (none)) else (none)))) else (laws_FnDeepPath.j0 k bt582.1 bt582.2.1 bt582.2.2 t587 true))) else (laws_FnDeepPath.j0 k bt582.1 bt582.2.1 bt582.2.2 t587 true)))))) = some r := by rw [if_neg (show ¬ (false = true) by decide)] at H; exact H
 clear H
 have H := H1
 clear H1
 replace H := Option.bind_eq_some_iff.mp H
 obtain ⟨⟨t582, t583, t584⟩, A40, H⟩ := H
 replace H : ((impl_Select.f k t582 t583 t584).bind fun t587 => ((spec_Select.f k t582 t583 t584).bind fun t590 => ((laws_sameInts.f k t587 t590).bind fun t593 => (if t593 = true then ((spec_DocOk.f k t582).bind fun t594 => (if t594 = true then (if t583 < 0 then (laws_FnDeepPath.j0 k t582 t583 t584 t587 true) else (if t583 ≥ (t582.length : Int) then (laws_FnDeepPath.j0 k t582 t583 t584 t587 true) else (if 0 ≤ t583 then (if t583 < (t582.length : Int) then (if ((rd_T39 t582 t583).f1).toList = ([] : List UInt8) then (laws_FnDeepPath.j0 k t582 t583 t584 t587 true) else ((spec_PathOk.f k t584).bind fun t596 => (if t596 = true then (if 0 < (t584.size : Int) then (laws_FnDeepPath.j0 k t582 t583 t584 t587 ((bt t584 0) == 47)) else (none)) else (laws_FnDeepPath.j0 k t582 t583 t584 t587 true)))) else (none)) else (none)))) else (laws_FnDeepPath.j0 k t582 t583 t584 t587 true))) else (laws_FnDeepPath.j0 k t582 t583 t584 t587 true))))) = some r := H
 have A4 := Aside0.mk A40
 clear A40
 replace H := Option.bind_eq_some_iff.mp H
 obtain ⟨t587, A50, H⟩ := H
 replace H : ((spec_Select.f k t582 t583 t584).bind fun t590 => ((laws_sameInts.f k t587 t590).bind fun t593 => (if t593 = true then ((spec_DocOk.f k t582).bind fun t594 => (if t594 = true then (if t583 < 0 then (laws_FnDeepPath.j0 k t582 t583 t584 t587 true) else (if t583 ≥ (t582.length : Int) then (laws_FnDeepPath.j0 k t582 t583 t584 t587 true) else (if 0 ≤ t583 then (if t583 < (t582.length : Int) then (if ((rd_T39 t582 t583).f1).toList = ([] : List UInt8) then (laws_FnDeepPath.j0 k t582 t583 t584 t587 true) else ((spec_PathOk.f k t584).bind fun t596 => (if t596 = true then (if 0 < (t584.size : Int) then (laws_FnDeepPath.j0 k t582 t583 t584 t587 ((bt t584 0) == 47)) else (none)) else (laws_FnDeepPath.j0 k t582 t583 t584 t587 true)))) else (none)) else (none)))) else (laws_FnDeepPath.j0 k t582 t583 t584 t587 true))) else (laws_FnDeepPath.j0 k t582 t583 t584 t587 true)))) = some r := H
 have A5 := Aside0.mk A50
 clear A50
 have HC6 := Aside0.mk H
 clear H
 go_enter Tryd.func5, Tryd.ntmps5
 go_upto_region 5 with (first | ((with_reducible refine gate_callee (f := 18) rfl ?_); refine goesL_ (some 14) rfl rfl Tryd.func18 dq30 rfl #[.slice A0 l0.length c0] rfl dq29 ?_; (with_reducible refine (laws_big.calls _ _ l0 false _ ?side1 ?side2 A2.out).mono ?_); (case side1 => exact dq2); (case side2 => exact HC0.out); rintro e w' ⟨rfl, ⟨nd, rfl⟩⟩; refine ⟨_, rfl, ?_⟩) | ((with_reducible refine gate_callee (f := 19) rfl ?_); refine goesL_ (some 17) rfl rfl Tryd.func19 dq30 rfl #[.slice A0 l0.length c0] rfl dq29 ?_; (with_reducible refine (spec_DrawSelect.calls k _ _ l0 t582 t583 t584 _ ?side1 ?side2 A4.out).mono ?_); (case side1 => exact dq2); (case side2 => exact HC0.out); rintro e w7 ⟨v585, rfl, ho0, hb⟩; refine ⟨_, rfl, ?_⟩; have n0_ := Aside0.mk (Kd.S_lower ho0 (below_size dq33)); have n1_ := Aside0.mk (below_step dq33 hb); clear HB; have HO586 := n0_; have HB := n1_; clear n0_ n1_; (try clear hb); (try clear hb2); (try clear hk); (try clear hi); (try clear ho0); obtain ⟨Ao8, co8, eo8⟩ := Kd.S_slice HO586.out; subst eo8) | ((with_reducible refine gate_callee (f := 12) rfl ?_); refine goesL_ (some 24) rfl rfl Tryd.func12 dq30 rfl #[.slice Ao8 t582.length co8, .int .i64 t583, .string t584] rfl dq29 ?_; (with_reducible refine (impl_Select.calls k _ _ t582 t583 t584 t587 _ ?side3 ?side1 ?side2 A5.out).mono ?_); (case side1 => exact dq19); (case side2 => exact dq20); (case side3 => exact dq3); rintro e w9 ⟨v588, rfl, ho0, hb⟩; refine ⟨_, rfl, ?_⟩; have n0_ := Aside0.mk (Kd.S_below dq139 hb); have n1_ := Aside0.mk (Kd.R_lower ho0 (below_size dq33)); have n2_ := Aside0.mk (below_step dq33 hb); clear HO586; clear HB; have HO586 := n0_; have HO589 := n1_; have HB := n2_; clear n0_ n1_ n2_; (try clear hb); (try clear hb2); (try clear hk); (try clear hi); (try clear ho0)))
 (try simp only [Act.put, List.setIfInBounds_toArray, List.set_cons_zero, List.set_cons_succ])
 go_cut [64] (fun v64 wc => ∃ (kq : Nat) (x64_5 : Bool), v64 = .bool x64_5 ∧ Aside0 (laws_FnDeepPath.j0 kq t582 t583 t584 t587 x64_5 = some r) ∧ Aside0 (kq ≤ k) ∧ Aside0 (Kd.S k39 39 wc w.heap.size (fun _ => True) (.slice Ao8 t582.length co8) t582) ∧ Aside0 (Kd.R (Kd.int .i64) 2 wc w.heap.size (fun _ => True) v588 t587) ∧ Aside0 (Below w.heap.size w wc))
 case first =>
  have H := HC6.out
  clear HC6
  replace H := Option.bind_eq_some_iff.mp H
  obtain ⟨t590, A100, H⟩ := H
  replace H : ((laws_sameInts.f k t587 t590).bind fun t593 => (if t593 = true then ((spec_DocOk.f k t582).bind fun t594 => (if t594 = true then (if t583 < 0 then (laws_FnDeepPath.j0 k t582 t583 t584 t587 true) else (if t583 ≥ (t582.length : Int) then (laws_FnDeepPath.j0 k t582 t583 t584 t587 true) else (if 0 ≤ t583 then (if t583 < (t582.length : Int) then (if ((rd_T39 t582 t583).f1).toList = ([] : List UInt8) then (laws_FnDeepPath.j0 k t582 t583 t584 t587 true) else ((spec_PathOk.f k t584).bind fun t596 => (if t596 = true then (if 0 < (t584.size : Int) then (laws_FnDeepPath.j0 k t582 t583 t584 t587 ((bt t584 0) == 47)) else (none)) else (laws_FnDeepPath.j0 k t582 t583 t584 t587 true)))) else (none)) else (none)))) else (laws_FnDeepPath.j0 k t582 t583 t584 t587 true))) else (laws_FnDeepPath.j0 k t582 t583 t584 t587 true))) = some r := H
  have A10 := Aside0.mk A100
  clear A100
  replace H := Option.bind_eq_some_iff.mp H
  obtain ⟨t593, A110, H⟩ := H
  replace H : (if t593 = true then ((spec_DocOk.f k t582).bind fun t594 => (if t594 = true then (if t583 < 0 then (laws_FnDeepPath.j0 k t582 t583 t584 t587 true) else (if t583 ≥ (t582.length : Int) then (laws_FnDeepPath.j0 k t582 t583 t584 t587 true) else (if 0 ≤ t583 then (if t583 < (t582.length : Int) then (if ((rd_T39 t582 t583).f1).toList = ([] : List UInt8) then (laws_FnDeepPath.j0 k t582 t583 t584 t587 true) else ((spec_PathOk.f k t584).bind fun t596 => (if t596 = true then (if 0 < (t584.size : Int) then (laws_FnDeepPath.j0 k t582 t583 t584 t587 ((bt t584 0) == 47)) else (none)) else (laws_FnDeepPath.j0 k t582 t583 t584 t587 true)))) else (none)) else (none)))) else (laws_FnDeepPath.j0 k t582 t583 t584 t587 true))) else (laws_FnDeepPath.j0 k t582 t583 t584 t587 true)) = some r := H
  have A11 := Aside0.mk A110
  clear A110
  by_cases c12 : t593 = true
  rotate_left
  ·replace c12 := Bool.eq_false_iff.mpr c12
   subst c12
   have H1 : (laws_FnDeepPath.j0 k t582 t583 t584 t587 true) = some r := by rw [if_neg (show ¬ (false = true) by decide)] at H; exact H
   clear H
   have H := H1
   clear H1
   have H' := Aside0.mk H
   clear H
   go_wp2_with (first | ((with_reducible refine gate_callee (f := 10) rfl ?_); refine goesL_ (some 29) rfl rfl Tryd.func10 dq30 rfl #[.slice Ao8 t582.length co8, .int .i64 t583, .string t584] rfl dq29 ?_; (with_reducible refine (spec_Select.calls k _ _ t582 t583 t584 t590 _ ?side1 ?side2 A10.out).mono ?_); (case side1 => exact dq19); (case side2 => exact dq20); rintro e w50 ⟨v591, rfl, ho0, hb⟩; refine ⟨_, rfl, ?_⟩; have n0_ := Aside0.mk (Kd.S_below dq139 hb); have n1_ := Aside0.mk (Kd.R_elder' dq141 (Kd.R_base ho0) hb); have n2_ := Aside0.mk (Kd.R_lower (Kd.R_new' ho0 (Kd.R_lt dq141)) (below_size dq33)); have n3_ := Aside0.mk (below_step dq33 hb); clear HO586; clear HO589; clear HB; have HO586 := n0_; have HO589 := n1_; have HO592 := n2_; have HB := n3_; clear n0_ n1_ n2_ n3_; (try clear hb); (try clear hb2); (try clear hk); (try clear hi); (try clear ho0); obtain ⟨Ao51, co51, eo51⟩ := Kd.R_slice HO589.out; subst eo51; obtain ⟨Ao52, co52, eo52⟩ := Kd.R_slice HO592.out; subst eo52) | ((with_reducible refine gate_callee (f := 20) rfl ?_); refine goesL_ (some 30) rfl rfl Tryd.func20 dq30 rfl #[.slice Ao51 t587.length co51, .slice Ao52 t590.length co52] rfl dq29 ?_; (with_reducible refine (laws_sameInts.calls k _ _ t587 _ _ t590 false _ ?side1 ?side2 ?side3 ?side4 A11.out).mono ?_); (case side1 => exact dq21); (case side2 => exact (Kd.R_reads' HO589.out).2.1); (case side3 => exact dq22); (case side4 => exact (Kd.R_reads' HO592.out).2.1); rintro e w' ⟨rfl, ⟨nd, rfl⟩⟩; refine ⟨_, rfl, ?_⟩))
   go_meet
   case rel => exact ⟨_, (true), dq25, H', ⟨dq32⟩, ⟨dq139⟩, ⟨dq142⟩, ⟨dq33⟩⟩
  subst c12
  have H1 : ((spec_DocOk.f k t582).bind fun t594 => (if t594 = true then (if t583 < 0 then (laws_FnDeepPath.j0 k t582 t583 t584 t587 true) else (if t583 ≥ (t582.length : Int) then (laws_FnDeepPath.j0 k t582 t583 t584 t587 true) else (if 0 ≤ t583 then (if t583 < (t582.length : Int) then (if ((rd_T39 t582 t583).f1).toList = ([] : List UInt8) then (laws_FnDeepPath.j0 k t582 t583 t584 t587 true) else ((spec_PathOk.f k t584).bind fun t596 => (if t596 = true then (if 0 < (t584.size : Int) then (laws_FnDeepPath.j0 k t582 t583 t584 t587 ((bt t584 0) == 47)) else (none)) else (laws_FnDeepPath.j0 k t582 t583 t584 t587 true)))) else (none)) else (none)))) else (laws_FnDeepPath.j0 k t582 t583 t584 t587 true))) = some r := by rw [if_pos rfl] at H; exact H
  clear H
  have H := H1
  clear H1
  replace H := Option.bind_eq_some_iff.mp H
  obtain ⟨t594, A130, H⟩ := H
  replace H : (if t594 = true then (if t583 < 0 then (laws_FnDeepPath.j0 k t582 t583 t584 t587 true) else (if t583 ≥ (t582.length : Int) then (laws_FnDeepPath.j0 k t582 t583 t584 t587 true) else (if 0 ≤ t583 then (if t583 < (t582.length : Int) then (if ((rd_T39 t582 t583).f1).toList = ([] : List UInt8) then (laws_FnDeepPath.j0 k t582 t583 t584 t587 true) else ((spec_PathOk.f k t584).bind fun t596 => (if t596 = true then (if 0 < (t584.size : Int) then (laws_FnDeepPath.j0 k t582 t583 t584 t587 ((bt t584 0) == 47)) else (none)) else (laws_FnDeepPath.j0 k t582 t583 t584 t587 true)))) else (none)) else (none)))) else (laws_FnDeepPath.j0 k t582 t583 t584 t587 true)) = some r := H
  have A13 := Aside0.mk A130
  clear A130
  by_cases c14 : t594 = true
  rotate_left
  ·replace c14 := Bool.eq_false_iff.mpr c14
   subst c14
   have H1 : (laws_FnDeepPath.j0 k t582 t583 t584 t587 true) = some r := by rw [if_neg (show ¬ (false = true) by decide)] at H; exact H
   clear H
   have H := H1
   clear H1
   have H' := Aside0.mk H
   clear H
   go_wp2_with (first | ((with_reducible refine gate_callee (f := 10) rfl ?_); refine goesL_ (some 29) rfl rfl Tryd.func10 dq30 rfl #[.slice Ao8 t582.length co8, .int .i64 t583, .string t584] rfl dq29 ?_; (with_reducible refine (spec_Select.calls k _ _ t582 t583 t584 t590 _ ?side1 ?side2 A10.out).mono ?_); (case side1 => exact dq19); (case side2 => exact dq20); rintro e w46 ⟨v591, rfl, ho0, hb⟩; refine ⟨_, rfl, ?_⟩; have n0_ := Aside0.mk (Kd.S_below dq139 hb); have n1_ := Aside0.mk (Kd.R_elder' dq141 (Kd.R_base ho0) hb); have n2_ := Aside0.mk (Kd.R_lower (Kd.R_new' ho0 (Kd.R_lt dq141)) (below_size dq33)); have n3_ := Aside0.mk (below_step dq33 hb); clear HO586; clear HO589; clear HB; have HO586 := n0_; have HO589 := n1_; have HO592 := n2_; have HB := n3_; clear n0_ n1_ n2_ n3_; (try clear hb); (try clear hb2); (try clear hk); (try clear hi); (try clear ho0); obtain ⟨Ao47, co47, eo47⟩ := Kd.R_slice HO589.out; subst eo47; obtain ⟨Ao48, co48, eo48⟩ := Kd.R_slice HO592.out; subst eo48) | ((with_reducible refine gate_callee (f := 20) rfl ?_); refine goesL_ (some 30) rfl rfl Tryd.func20 dq30 rfl #[.slice Ao47 t587.length co47, .slice Ao48 t590.length co48] rfl dq29 ?_; (with_reducible refine (laws_sameInts.calls k _ _ t587 _ _ t590 true _ ?side1 ?side2 ?side3 ?side4 A11.out).mono ?_); (case side1 => exact dq21); (case side2 => exact (Kd.R_reads' HO589.out).2.1); (case side3 => exact dq22); (case side4 => exact (Kd.R_reads' HO592.out).2.1); rintro e w' ⟨rfl, ⟨nd, rfl⟩⟩; refine ⟨_, rfl, ?_⟩) | (go_at_call 23; (with_reducible refine (spec_DocOk.calls k _ _ t582 false _ ?side1 ?side2 A13.out).mono ?_); (case side1 => exact dq19); (case side2 => exact dq20); rintro e w49 ⟨rfl, hb⟩; have n0_ := Aside0.mk (Kd.S_below dq139 hb); have n1_ := Aside0.mk (Kd.R_below dq141 hb); have n2_ := Aside0.mk (Kd.R_below dq140 hb); have n3_ := Aside0.mk (below_step dq33 hb); clear HO586; clear HO589; clear HO592; clear HB; have HO586 := n0_; have HO589 := n1_; have HO592 := n2_; have HB := n3_; clear n0_ n1_ n2_ n3_; (try clear hb); (try clear hb2); (try clear hk); (try clear hi)))
   go_meet
   case rel => exact ⟨_, (true), dq25, H', ⟨dq32⟩, ⟨dq139⟩, ⟨dq142⟩, ⟨dq33⟩⟩
  subst c14
  have H1 : (if t583 < 0 then (laws_FnDeepPath.j0 k t582 t583 t584 t587 true) else (if t583 ≥ (t582.length : Int) then (laws_FnDeepPath.j0 k t582 t583 t584 t587 true) else (if 0 ≤ t583 then (if t583 < (t582.length : Int) then (if ((rd_T39 t582 t583).f1).toList = ([] : List UInt8) then (laws_FnDeepPath.j0 k t582 t583 t584 t587 true) else ((spec_PathOk.f k t584).bind fun t596 => (if t596 = true then (if 0 < (t584.size : Int) then (laws_FnDeepPath.j0 k t582 t583 t584 t587 ((bt t584 0) == 47)) else (none)) else (laws_FnDeepPath.j0 k t582 t583 t584 t587 true)))) else (none)) else (none)))) = some r := by rw [if_pos rfl] at H; exact H
  clear H
  have H := H1
  clear H1
  by_cases c15 : t583 < 0
  ·rw [if_pos c15] at H
   have c15b0 := decide_eq_true c15
   clear c15
   (first | rw [c15b0] | (simp only [i64_w, i32_w]; rw [c15b0]) | skip)
   have H' := Aside0.mk H
   clear H
   go_wp2_with (first | ((with_reducible refine gate_callee (f := 10) rfl ?_); refine goesL_ (some 29) rfl rfl Tryd.func10 dq30 rfl #[.slice Ao8 t582.length co8, .int .i64 t583, .string t584] rfl dq29 ?_; (with_reducible refine (spec_Select.calls k _ _ t582 t583 t584 t590 _ ?side1 ?side2 A10.out).mono ?_); (case side1 => exact dq19); (case side2 => exact dq20); rintro e w16 ⟨v591, rfl, ho0, hb⟩; refine ⟨_, rfl, ?_⟩; have n0_ := Aside0.mk (Kd.S_below dq139 hb); have n1_ := Aside0.mk (Kd.R_elder' dq141 (Kd.R_base ho0) hb); have n2_ := Aside0.mk (Kd.R_lower (Kd.R_new' ho0 (Kd.R_lt dq141)) (below_size dq33)); have n3_ := Aside0.mk (below_step dq33 hb); clear HO586; clear HO589; clear HB; have HO586 := n0_; have HO589 := n1_; have HO592 := n2_; have HB := n3_; clear n0_ n1_ n2_ n3_; (try clear hb); (try clear hb2); (try clear hk); (try clear hi); (try clear ho0); obtain ⟨Ao17, co17, eo17⟩ := Kd.R_slice HO589.out; subst eo17; obtain ⟨Ao18, co18, eo18⟩ := Kd.R_slice HO592.out; subst eo18) | ((with_reducible refine gate_callee (f := 20) rfl ?_); refine goesL_ (some 30) rfl rfl Tryd.func20 dq30 rfl #[.slice Ao17 t587.length co17, .slice Ao18 t590.length co18] rfl dq29 ?_; (with_reducible refine (laws_sameInts.calls k _ _ t587 _ _ t590 true _ ?side1 ?side2 ?side3 ?side4 A11.out).mono ?_); (case side1 => exact dq21); (case side2 => exact (Kd.R_reads' HO589.out).2.1); (case side3 => exact dq22); (case side4 => exact (Kd.R_reads' HO592.out).2.1); rintro e w' ⟨rfl, ⟨nd, rfl⟩⟩; refine ⟨_, rfl, ?_⟩) | (go_at_call 23; (with_reducible refine (spec_DocOk.calls k _ _ t582 true _ ?side1 ?side2 A13.out).mono ?_); (case side1 => exact dq19); (case side2 => exact dq20); rintro e w19 ⟨rfl, hb⟩; have n0_ := Aside0.mk (Kd.S_below dq139 hb); have n1_ := Aside0.mk (Kd.R_below dq141 hb); have n2_ := Aside0.mk (Kd.R_below dq140 hb); have n3_ := Aside0.mk (below_step dq33 hb); clear HO586; clear HO589; clear HO592; clear HB; have HO586 := n0_; have HO589 := n1_; have HO592 := n2_; have HB := n3_; clear n0_ n1_ n2_ n3_; (try clear hb); (try clear hb2); (try clear hk); (try clear hi)))
   go_meet
   case rel => exact ⟨_, (true), dq25, H', ⟨dq32⟩, ⟨dq139⟩, ⟨dq142⟩, ⟨dq33⟩⟩
  rw [if_neg c15] at H
  have c15b0 := decide_eq_false c15
  clear c15
  (first | rw [c15b0] | (simp only [i64_w, i32_w]; rw [c15b0]) | skip)
  by_cases c20 : t583 ≥ (t582.length : Int)
  ·rw [if_pos c20] at H
   have c20b0 : decide ((t582.length : Int) ≤ t583) = true := decide_eq_true c20
   clear c20
   have H' := Aside0.mk H
   clear H
   go_wp2_with (first | ((with_reducible refine gate_callee (f := 10) rfl ?_); refine goesL_ (some 29) rfl rfl Tryd.func10 dq30 rfl #[.slice Ao8 t582.length co8, .int .i64 t583, .string t584] rfl dq29 ?_; (with_reducible refine (spec_Select.calls k _ _ t582 t583 t584 t590 _ ?side1 ?side2 A10.out).mono ?_); (case side1 => exact dq19); (case side2 => exact dq20); rintro e w21 ⟨v591, rfl, ho0, hb⟩; refine ⟨_, rfl, ?_⟩; have n0_ := Aside0.mk (Kd.S_below dq139 hb); have n1_ := Aside0.mk (Kd.R_elder' dq141 (Kd.R_base ho0) hb); have n2_ := Aside0.mk (Kd.R_lower (Kd.R_new' ho0 (Kd.R_lt dq141)) (below_size dq33)); have n3_ := Aside0.mk (below_step dq33 hb); clear HO586; clear HO589; clear HB; have HO586 := n0_; have HO589 := n1_; have HO592 := n2_; have HB := n3_; clear n0_ n1_ n2_ n3_; (try clear hb); (try clear hb2); (try clear hk); (try clear hi); (try clear ho0); obtain ⟨Ao22, co22, eo22⟩ := Kd.R_slice HO589.out; subst eo22; obtain ⟨Ao23, co23, eo23⟩ := Kd.R_slice HO592.out; subst eo23) | ((with_reducible refine gate_callee (f := 20) rfl ?_); refine goesL_ (some 30) rfl rfl Tryd.func20 dq30 rfl #[.slice Ao22 t587.length co22, .slice Ao23 t590.length co23] rfl dq29 ?_; (with_reducible refine (laws_sameInts.calls k _ _ t587 _ _ t590 true _ ?side1 ?side2 ?side3 ?side4 A11.out).mono ?_); (case side1 => exact dq21); (case side2 => exact (Kd.R_reads' HO589.out).2.1); (case side3 => exact dq22); (case side4 => exact (Kd.R_reads' HO592.out).2.1); rintro e w' ⟨rfl, ⟨nd, rfl⟩⟩; refine ⟨_, rfl, ?_⟩) | (go_at_call 23; (with_reducible refine (spec_DocOk.calls k _ _ t582 true _ ?side1 ?side2 A13.out).mono ?_); (case side1 => exact dq19); (case side2 => exact dq20); rintro e w24 ⟨rfl, hb⟩; have n0_ := Aside0.mk (Kd.S_below dq139 hb); have n1_ := Aside0.mk (Kd.R_below dq141 hb); have n2_ := Aside0.mk (Kd.R_below dq140 hb); have n3_ := Aside0.mk (below_step dq33 hb); clear HO586; clear HO589; clear HO592; clear HB; have HO586 := n0_; have HO589 := n1_; have HO592 := n2_; have HB := n3_; clear n0_ n1_ n2_ n3_; (try clear hb); (try clear hb2); (try clear hk); (try clear hi)))
   go_meet
   case rel => exact ⟨_, (true), dq25, H', ⟨dq32⟩, ⟨dq139⟩, ⟨dq142⟩, ⟨dq33⟩⟩
  rw [if_neg c20] at H
  have c20b0 : decide ((t582.length : Int) ≤ t583) = false := decide_eq_false c20
  clear c20
  by_cases c25 : 0 ≤ t583
  rotate_left
  ·rw [if_neg c25] at H
   exact absurd H dq28
  rw [if_pos c25] at H
  have c25b0 := decide_eq_true c25
  clear c25
  by_cases c26 : t583 < (t582.length : Int)
  rotate_left
  ·rw [if_neg c26] at H
   exact absurd H dq28
  rw [if_pos c26] at H
  have c26b0 := decide_eq_true c26
  clear c26
  by_cases c27 : ((rd_T39 t582 t583).f1).toList = ([] : List UInt8)
  ·rw [if_pos c27] at H
   have c27b0 := beq_iff_eq.mpr c27
   have c27b1 := bne_eq_false_iff_eq.mpr c27
   clear c27
   have H' := Aside0.mk H
   clear H
   go_wp2_with (first | ((with_reducible refine gate_callee (f := 10) rfl ?_); refine goesL_ (some 29) rfl rfl Tryd.func10 dq30 rfl #[.slice Ao8 t582.length co8, .int .i64 t583, .string t584] rfl dq29 ?_; (with_reducible refine (spec_Select.calls k _ _ t582 t583 t584 t590 _ ?side1 ?side2 A10.out).mono ?_); (case side1 => exact dq19); (case side2 => exact dq20); rintro e w28 ⟨v591, rfl, ho0, hb⟩; refine ⟨_, rfl, ?_⟩; have n0_ := Aside0.mk (Kd.S_below dq139 hb); have n1_ := Aside0.mk (Kd.R_elder' dq141 (Kd.R_base ho0) hb); have n2_ := Aside0.mk (Kd.R_lower (Kd.R_new' ho0 (Kd.R_lt dq141)) (below_size dq33)); have n3_ := Aside0.mk (below_step dq33 hb); clear HO586; clear HO589; clear HB; have HO586 := n0_; have HO589 := n1_; have HO592 := n2_; have HB := n3_; clear n0_ n1_ n2_ n3_; (try clear hb); (try clear hb2); (try clear hk); (try clear hi); (try clear ho0); obtain ⟨Ao29, co29, eo29⟩ := Kd.R_slice HO589.out; subst eo29; obtain ⟨Ao30, co30, eo30⟩ := Kd.R_slice HO592.out; subst eo30) | ((with_reducible refine gate_callee (f := 20) rfl ?_); refine goesL_ (some 30) rfl rfl Tryd.func20 dq30 rfl #[.slice Ao29 t587.length co29, .slice Ao30 t590.length co30] rfl dq29 ?_; (with_reducible refine (laws_sameInts.calls k _ _ t587 _ _ t590 true _ ?side1 ?side2 ?side3 ?side4 A11.out).mono ?_); (case side1 => exact dq21); (case side2 => exact (Kd.R_reads' HO589.out).2.1); (case side3 => exact dq22); (case side4 => exact (Kd.R_reads' HO592.out).2.1); rintro e w' ⟨rfl, ⟨nd, rfl⟩⟩; refine ⟨_, rfl, ?_⟩) | (go_at_call 23; (with_reducible refine (spec_DocOk.calls k _ _ t582 true _ ?side1 ?side2 A13.out).mono ?_); (case side1 => exact dq19); (case side2 => exact dq20); rintro e w31 ⟨rfl, hb⟩; have n0_ := Aside0.mk (Kd.S_below dq139 hb); have n1_ := Aside0.mk (Kd.R_below dq141 hb); have n2_ := Aside0.mk (Kd.R_below dq140 hb); have n3_ := Aside0.mk (below_step dq33 hb); clear HO586; clear HO589; clear HO592; clear HB; have HO586 := n0_; have HO589 := n1_; have HO592 := n2_; have HB := n3_; clear n0_ n1_ n2_ n3_; (try clear hb); (try clear hb2); (try clear hk); (try clear hi); have p595 : 0 ≤ (t583 : Int) := of_decide_eq_true dq26; have q595 : t583 < (t582.length : Int) := of_decide_eq_true dq26; obtain ⟨ad595, A595_3, c595_3, e595, hx595_0, hx595_1, hx595_2, hx595_3, hl595_3, hi595_3⟩ := at_T39 (Kd.S_reads' HO586.out).2.2 t583 p595 q595; cases e595; obtain ⟨ce595, hce595, hMe595, hcc595⟩ := Kd.S_get HO586.out z39 t583 p595 dq143; obtain ⟨ve595_3, rfl, ge595_3⟩ := k39_openM hMe595; have hv595_3 := hcc595 3 _ rfl; rw [add_field _ _ 3 dq31] at hv595_3; replace hv595_3 := Option.some.inj (hv595_3.symm.trans hx595_3); rw [hv595_3] at ge595_3; have HL595_3 := Aside0.mk (show Kd.R k46 46 _ _ _ _ ((rd_T39 t582 t583).f3) from ge595_3); clear hv595_3 ge595_3; clear hcc595 hce595; have HR595_3 := Aside0.mk hi595_3; have HC595_3 := Aside0.mk hl595_3; clear hi595_3 hl595_3; replace p595 := eq_true p595; replace q595 := eq_true q595))
   go_meet
   case rel => exact ⟨_, (true), dq25, H', ⟨dq32⟩, ⟨dq139⟩, ⟨dq142⟩, ⟨dq33⟩⟩
  rw [if_neg c27] at H
  have c27b0 := beq_eq_false_iff_ne.mpr c27
  have c27b1 := bne_iff_ne.mpr c27
  replace H := Option.bind_eq_some_iff.mp H
  obtain ⟨t596, A320, H⟩ := H
  replace H : (if t596 = true then (if 0 < (t584.size : Int) then (laws_FnDeepPath.j0 k t582 t583 t584 t587 ((bt t584 0) == 47)) else (none)) else (laws_FnDeepPath.j0 k t582 t583 t584 t587 true)) = some r := H
  have A32 := Aside0.mk A320
  clear A320
  by_cases c33 : t596 = true
  rotate_left
  ·replace c33 := Bool.eq_false_iff.mpr c33
   subst c33
   have H1 : (laws_FnDeepPath.j0 k t582 t583 t584 t587 true) = some r := by rw [if_neg (show ¬ (false = true) by decide)] at H; exact H
   clear H
   have H := H1
   clear H1
   have H' := Aside0.mk H
   clear H
   go_wp2_with (first | ((with_reducible refine gate_callee (f := 10) rfl ?_); refine goesL_ (some 29) rfl rfl Tryd.func10 dq30 rfl #[.slice Ao8 t582.length co8, .int .i64 t583, .string t584] rfl dq29 ?_; (with_reducible refine (spec_Select.calls k _ _ t582 t583 t584 t590 _ ?side1 ?side2 A10.out).mono ?_); (case side1 => exact dq19); (case side2 => exact dq20); rintro e w41 ⟨v591, rfl, ho0, hb⟩; refine ⟨_, rfl, ?_⟩; have n0_ := Aside0.mk (Kd.S_below dq139 hb); have n1_ := Aside0.mk (Kd.R_elder' dq141 (Kd.R_base ho0) hb); have n2_ := Aside0.mk (Kd.R_lower (Kd.R_new' ho0 (Kd.R_lt dq141)) (below_size dq33)); have n3_ := Aside0.mk (below_step dq33 hb); clear HO586; clear HO589; clear HB; have HO586 := n0_; have HO589 := n1_; have HO592 := n2_; have HB := n3_; clear n0_ n1_ n2_ n3_; (try clear hb); (try clear hb2); (try clear hk); (try clear hi); (try clear ho0); obtain ⟨Ao42, co42, eo42⟩ := Kd.R_slice HO589.out; subst eo42; obtain ⟨Ao43, co43, eo43⟩ := Kd.R_slice HO592.out; subst eo43) | ((with_reducible refine gate_callee (f := 20) rfl ?_); refine goesL_ (some 30) rfl rfl Tryd.func20 dq30 rfl #[.slice Ao42 t587.length co42, .slice Ao43 t590.length co43] rfl dq29 ?_; (with_reducible refine (laws_sameInts.calls k _ _ t587 _ _ t590 true _ ?side1 ?side2 ?side3 ?side4 A11.out).mono ?_); (case side1 => exact dq21); (case side2 => exact (Kd.R_reads' HO589.out).2.1); (case side3 => exact dq22); (case side4 => exact (Kd.R_reads' HO592.out).2.1); rintro e w' ⟨rfl, ⟨nd, rfl⟩⟩; refine ⟨_, rfl, ?_⟩) | (go_at_call 23; (with_reducible refine (spec_DocOk.calls k _ _ t582 true _ ?side1 ?side2 A13.out).mono ?_); (case side1 => exact dq19); (case side2 => exact dq20); rintro e w44 ⟨rfl, hb⟩; have n0_ := Aside0.mk (Kd.S_below dq139 hb); have n1_ := Aside0.mk (Kd.R_below dq141 hb); have n2_ := Aside0.mk (Kd.R_below dq140 hb); have n3_ := Aside0.mk (below_step dq33 hb); clear HO586; clear HO589; clear HO592; clear HB; have HO586 := n0_; have HO589 := n1_; have HO592 := n2_; have HB := n3_; clear n0_ n1_ n2_ n3_; (try clear hb); (try clear hb2); (try clear hk); (try clear hi); have p595 : 0 ≤ (t583 : Int) := of_decide_eq_true dq26; have q595 : t583 < (t582.length : Int) := of_decide_eq_true dq26; obtain ⟨ad595, A595_3, c595_3, e595, hx595_0, hx595_1, hx595_2, hx595_3, hl595_3, hi595_3⟩ := at_T39 (Kd.S_reads' HO586.out).2.2 t583 p595 q595; cases e595; obtain ⟨ce595, hce595, hMe595, hcc595⟩ := Kd.S_get HO586.out z39 t583 p595 dq143; obtain ⟨ve595_3, rfl, ge595_3⟩ := k39_openM hMe595; have hv595_3 := hcc595 3 _ rfl; rw [add_field _ _ 3 dq31] at hv595_3; replace hv595_3 := Option.some.inj (hv595_3.symm.trans hx595_3); rw [hv595_3] at ge595_3; have HL595_3 := Aside0.mk (show Kd.R k46 46 _ _ _ _ ((rd_T39 t582 t583).f3) from ge595_3); clear hv595_3 ge595_3; clear hcc595 hce595; have HR595_3 := Aside0.mk hi595_3; have HC595_3 := Aside0.mk hl595_3; clear hi595_3 hl595_3; replace p595 := eq_true p595; replace q595 := eq_true q595) | (go_at_call 24; (with_reducible refine (spec_PathOk.calls k t584 false _ A32.out).mono ?_); rintro e w45 ⟨rfl, hb⟩; have n0_ := Aside0.mk (Kd.S_below dq139 hb); have n1_ := Aside0.mk (Kd.R_below dq141 hb); have n2_ := Aside0.mk (Kd.R_below dq140 hb); have n3_ := Aside0.mk (Kd.R_below (by (with_reducible repeat (first | apply Kd.R_alloc | apply Kd.R_drewN | apply Kd.R_drew)); exact HL595_3.out) hb); have n4_ := Aside0.mk (Kd.C_below dq144 hb); have n5_ := Aside0.mk (below_step dq33 hb); clear HO586; clear HO589; clear HO592; clear HL595_3; clear HR595_3; clear HB; have HO586 := n0_; have HO589 := n1_; have HO592 := n2_; have HL595_3 := n3_; have HR595_3 := n4_; have HB := n5_; clear n0_ n1_ n2_ n3_ n4_ n5_; (try clear hb); (try clear hb2); (try clear hk); (try clear hi)))
   go_meet
   case rel => exact ⟨_, (true), dq25, H', ⟨dq32⟩, ⟨dq139⟩, ⟨dq142⟩, ⟨dq33⟩⟩
  subst c33
  have H1 : (if 0 < (t584.size : Int) then (laws_FnDeepPath.j0 k t582 t583 t584 t587 ((bt t584 0) == 47)) else (none)) = some r := by rw [if_pos rfl] at H; exact H
  clear H
  have H := H1
  clear H1
  by_cases c34 : 0 < (t584.size : Int)
  rotate_left
  ·rw [if_neg c34] at H
   exact absurd H dq28
  rw [if_pos c34] at H
  have c34b0 := decide_eq_true c34
  have c34b1 : decide (0 < t584.size) = true := decide_eq_true dq31
  clear c34
  have H' := Aside0.mk H
  clear H
  go_wp2_with (first | ((with_reducible refine gate_callee (f := 10) rfl ?_); refine goesL_ (some 29) rfl rfl Tryd.func10 dq30 rfl #[.slice Ao8 t582.length co8, .int .i64 t583, .string t584] rfl dq29 ?_; (with_reducible refine (spec_Select.calls k _ _ t582 t583 t584 t590 _ ?side1 ?side2 A10.out).mono ?_); (case side1 => exact dq19); (case side2 => exact dq20); rintro e w36 ⟨v591, rfl, ho0, hb⟩; refine ⟨_, rfl, ?_⟩; have n0_ := Aside0.mk (Kd.S_below dq139 hb); have n1_ := Aside0.mk (Kd.R_elder' dq141 (Kd.R_base ho0) hb); have n2_ := Aside0.mk (Kd.R_lower (Kd.R_new' ho0 (Kd.R_lt dq141)) (below_size dq33)); have n3_ := Aside0.mk (below_step dq33 hb); clear HO586; clear HO589; clear HB; have HO586 := n0_; have HO589 := n1_; have HO592 := n2_; have HB := n3_; clear n0_ n1_ n2_ n3_; (try clear hb); (try clear hb2); (try clear hk); (try clear hi); (try clear ho0); obtain ⟨Ao37, co37, eo37⟩ := Kd.R_slice HO589.out; subst eo37; obtain ⟨Ao38, co38, eo38⟩ := Kd.R_slice HO592.out; subst eo38) | ((with_reducible refine gate_callee (f := 20) rfl ?_); refine goesL_ (some 30) rfl rfl Tryd.func20 dq30 rfl #[.slice Ao37 t587.length co37, .slice Ao38 t590.length co38] rfl dq29 ?_; (with_reducible refine (laws_sameInts.calls k _ _ t587 _ _ t590 true _ ?side1 ?side2 ?side3 ?side4 A11.out).mono ?_); (case side1 => exact dq21); (case side2 => exact (Kd.R_reads' HO589.out).2.1); (case side3 => exact dq22); (case side4 => exact (Kd.R_reads' HO592.out).2.1); rintro e w' ⟨rfl, ⟨nd, rfl⟩⟩; refine ⟨_, rfl, ?_⟩) | (go_at_call 23; (with_reducible refine (spec_DocOk.calls k _ _ t582 true _ ?side1 ?side2 A13.out).mono ?_); (case side1 => exact dq19); (case side2 => exact dq20); rintro e w39 ⟨rfl, hb⟩; have n0_ := Aside0.mk (Kd.S_below dq139 hb); have n1_ := Aside0.mk (Kd.R_below dq141 hb); have n2_ := Aside0.mk (Kd.R_below dq140 hb); have n3_ := Aside0.mk (below_step dq33 hb); clear HO586; clear HO589; clear HO592; clear HB; have HO586 := n0_; have HO589 := n1_; have HO592 := n2_; have HB := n3_; clear n0_ n1_ n2_ n3_; (try clear hb); (try clear hb2); (try clear hk); (try clear hi); have p595 : 0 ≤ (t583 : Int) := of_decide_eq_true dq26; have q595 : t583 < (t582.length : Int) := of_decide_eq_true dq26; obtain ⟨ad595, A595_3, c595_3, e595, hx595_0, hx595_1, hx595_2, hx595_3, hl595_3, hi595_3⟩ := at_T39 (Kd.S_reads' HO586.out).2.2 t583 p595 q595; cases e595; obtain ⟨ce595, hce595, hMe595, hcc595⟩ := Kd.S_get HO586.out z39 t583 p595 dq143; obtain ⟨ve595_3, rfl, ge595_3⟩ := k39_openM hMe595; have hv595_3 := hcc595 3 _ rfl; rw [add_field _ _ 3 dq31] at hv595_3; replace hv595_3 := Option.some.inj (hv595_3.symm.trans hx595_3); rw [hv595_3] at ge595_3; have HL595_3 := Aside0.mk (show Kd.R k46 46 _ _ _ _ ((rd_T39 t582 t583).f3) from ge595_3); clear hv595_3 ge595_3; clear hcc595 hce595; have HR595_3 := Aside0.mk hi595_3; have HC595_3 := Aside0.mk hl595_3; clear hi595_3 hl595_3; replace p595 := eq_true p595; replace q595 := eq_true q595) | (go_at_call 24; (with_reducible refine (spec_PathOk.calls k t584 true _ A32.out).mono ?_); rintro e w40 ⟨rfl, hb⟩; have n0_ := Aside0.mk (Kd.S_below dq139 hb); have n1_ := Aside0.mk (Kd.R_below dq141 hb); have n2_ := Aside0.mk (Kd.R_below dq140 hb); have n3_ := Aside0.mk (Kd.R_below (by (with_reducible repeat (first | apply Kd.R_alloc | apply Kd.R_drewN | apply Kd.R_drew)); exact HL595_3.out) hb); have n4_ := Aside0.mk (Kd.C_below dq144 hb); have n5_ := Aside0.mk (below_step dq33 hb); clear HO586; clear HO589; clear HO592; clear HL595_3; clear HR595_3; clear HB; have HO586 := n0_; have HO589 := n1_; have HO592 := n2_; have HL595_3 := n3_; have HR595_3 := n4_; have HB := n5_; clear n0_ n1_ n2_ n3_ n4_ n5_; (try clear hb); (try clear hb2); (try clear hk); (try clear hi); have p35 : 0 ≤ (0 : Int) := dq31; have q35 : 0 < t584.size := (by have : (0 : Int) < (t584.size : Int) := of_decide_eq_true dq26; omega); have hx35 : ∀ h : 0 < t584.size, ((t584[0]'h).toNat : Int) = bt t584 0 := bt_at t584 0; clear p35; have qi35 : (0 < (t584.size : Int)) = True := eq_true (of_decide_eq_true dq26); replace q35 := eq_true q35))
  go_meet
  case rel => exact ⟨_, (((bt t584 0) == 47)), dq25, H', ⟨dq32⟩, ⟨dq139⟩, ⟨dq142⟩, ⟨dq33⟩⟩
 clear HC6
 obtain ⟨kq, x64_5, rfl, HA, HJ5, HO_3, HO_6, HB⟩ := hcut
 cases kq with
 | zero => exact absurd HA.out (by simp [laws_FnDeepPath.j0])
 | succ kj5 =>
  have H := HA.out
  clear HA
  simp only [laws_FnDeepPath.j0] at H
  by_cases c53 : x64_5 = true
  ·subst c53
   have H1 : ((spec_Select.f kj5 t582 t583 t584).bind fun t597 => ((laws_sameInts.f kj5 t587 t597).bind fun t600 => (some t600))) = some r := by rw [if_pos rfl] at H; exact H
   clear H
   have H := H1
   clear H1
   replace H := Option.bind_eq_some_iff.mp H
   obtain ⟨t597, A540, H⟩ := H
   replace H : ((laws_sameInts.f kj5 t587 t597).bind fun t600 => (some t600)) = some r := H
   have A54 := Aside0.mk A540
   clear A540
   replace H := Option.bind_eq_some_iff.mp H
   obtain ⟨t600, A550, H⟩ := H
   replace H : (some t600) = some r := H
   have A55 := Aside0.mk A550
   clear A550
   obtain rfl := Option.some.inj H
   go_wp2_with (first | ((with_reducible refine gate_callee (f := 10) rfl ?_); refine goesL_ (some 69) rfl rfl Tryd.func10 dq30 rfl #[.slice Ao8 t582.length co8, .int .i64 t583, .string t584] rfl dq29 ?_; (with_reducible refine (spec_Select.calls kj5 _ _ t582 t583 t584 t597 _ ?side1 ?side2 A54.out).mono ?_); (case side1 => exact dq23); (case side2 => exact (Kd.S_reads' HO_3.out).2.1); rintro e w56 ⟨v598, rfl, ho0, hb⟩; refine ⟨_, rfl, ?_⟩; have n0_ := Aside0.mk (Kd.S_below dq100 hb); have n1_ := Aside0.mk (Kd.R_elder' dq45 (Kd.R_base ho0) hb); have n2_ := Aside0.mk (Kd.R_lower (Kd.R_new' ho0 (Kd.R_lt dq45)) (below_size dq33)); have n3_ := Aside0.mk (below_step dq33 hb); clear HO_3; clear HO_6; clear HB; have HO_3 := n0_; have HO_6 := n1_; have HO599 := n2_; have HB := n3_; clear n0_ n1_ n2_ n3_; (try clear hb); (try clear hb2); (try clear hk); (try clear hi); (try clear ho0); obtain ⟨Ao57, co57, eo57⟩ := Kd.R_slice HO_6.out; subst eo57; obtain ⟨Ao58, co58, eo58⟩ := Kd.R_slice HO599.out; subst eo58) | ((with_reducible refine gate_callee (f := 20) rfl ?_); refine goesL_ (some 70) rfl rfl Tryd.func20 dq30 rfl #[.slice Ao57 t587.length co57, .slice Ao58 t597.length co58] rfl dq29 ?_; (with_reducible refine (laws_sameInts.calls kj5 _ _ t587 _ _ t597 t600 _ ?side1 ?side2 ?side3 ?side4 A55.out).mono ?_); (case side1 => repeat (first | exact (Kd.R_reads' HO_6.out).2.2 | (with_reducible refine Kd.C_alloc ?_ _) | (with_reducible refine Kd.C_drewN ?_ _) | (with_reducible refine Kd.C_drew ?_))); (case side2 => exact (Kd.R_reads' HO_6.out).2.1); (case side3 => repeat (first | exact (Kd.R_reads' HO599.out).2.2 | (with_reducible refine Kd.C_alloc ?_ _) | (with_reducible refine Kd.C_drewN ?_ _) | (with_reducible refine Kd.C_drew ?_))); (case side4 => exact (Kd.R_reads' HO599.out).2.1); rintro e w' ⟨rfl, ⟨nd, rfl⟩⟩; refine ⟨_, rfl, ?_⟩))
   go_ret
   exact ⟨dq35, dq33⟩
  replace c53 := Bool.eq_false_iff.mpr c53
  subst c53
  have H1 : (if 2 + t584.size ≤ 9223372036854775807 then ((impl_Select.f kj5 t582 t583 ((⟨#[47, 47]⟩ : ByteArray) ++ t584)).bind fun t601 => ((some (([] : List Int) : List Int)).bind fun y604 => (if y604.length + t587.length < 17592186044416 then (laws_FnDeepPath.l0 kj5 t582 t583 t584 t601 (y604 ++ t587) (wrap64 (t583 + 1))) else (none)))) else (none)) = some r := by rw [if_neg (show ¬ (false = true) by decide)] at H; exact H
  clear H
  have H := H1
  clear H1
  by_cases c59 : 2 + t584.size ≤ 9223372036854775807
  rotate_left
  ·rw [if_neg c59] at H
   exact absurd H dq28
  rw [if_pos c59] at H
  have c59b0 := eq_true c59
  have c59b1 := decide_eq_true c59
  try have c59b2 : (9223372036854775807 < 2 + t584.size) = False := eq_false (Nat.not_lt.2 c59)
  replace H := Option.bind_eq_some_iff.mp H
  obtain ⟨t601, A600, H⟩ := H
  replace H : ((some (([] : List Int) : List Int)).bind fun y604 => (if y604.length + t587.length < 17592186044416 then (laws_FnDeepPath.l0 kj5 t582 t583 t584 t601 (y604 ++ t587) (wrap64 (t583 + 1))) else (none))) = some r := H
  have A60 := Aside0.mk A600
  clear A600
  obtain ⟨y604, hy604⟩ : ∃ y_ : List Int, y_ = (([] : List Int)) := ⟨_, rfl⟩
  replace H : (if y604.length + t587.length < 17592186044416 then (laws_FnDeepPath.l0 kj5 t582 t583 t584 t601 (y604 ++ t587) (wrap64 (t583 + 1))) else (none)) = some r := by first | (rw [hy604]; with_reducible exact H) | (have H2_ := (Option.bind_some _ _).symm.trans H; rw [hy604]; with_reducible exact H2_) | (have H2_ := (Option.bind_some _ _).symm.trans H; with_reducible exact H2_) | with_reducible exact H | (rw [hy604]; exact H) | exact H
  have Ny604 := Aside0.mk hy604
  clear hy604
  by_cases c61 : y604.length + t587.length < 17592186044416
  rotate_left
  ·rw [if_neg c61] at H
   exact absurd H dq28
  rw [if_pos c61] at H
  have LMc61 := Aside0.mk c61
  clear c61
  obtain ⟨y607, hy607⟩ : ∃ y_ : List Int, y_ = (y604 ++ t587) := ⟨_, rfl⟩
  replace H : (laws_FnDeepPath.l0 kj5 t582 t583 t584 t601 y607 (wrap64 (t583 + 1))) = some r := by first | (rw [hy607]; with_reducible exact H) | (have H2_ := (Option.bind_some _ _).symm.trans H; rw [hy607]; with_reducible exact H2_) | (have H2_ := (Option.bind_some _ _).symm.trans H; with_reducible exact H2_) | with_reducible exact H | (rw [hy607]; exact H) | exact H
  have Ny607 := Aside0.mk hy607
  clear hy607
  have H' := Aside0.mk H
  clear H
  go_wp2_with (first | ((with_reducible refine gate_callee (f := 12) rfl ?_); refine goesL_ (some 75) rfl rfl Tryd.func12 dq30 rfl #[.slice Ao8 t582.length co8, .int .i64 t583, .string ((⟨#[47, 47]⟩ : ByteArray) ++ t584)] rfl dq29 ?_; (with_reducible refine (impl_Select.calls kj5 _ _ t582 t583 ((⟨#[47, 47]⟩ : ByteArray) ++ t584) t601 _ ?side3 ?side1 ?side2 A60.out).mono ?_); (case side1 => exact dq23); (case side2 => exact (Kd.S_reads' HO_3.out).2.1); (case side3 => exact dq3); rintro e w62 ⟨v602, rfl, ho0, hb⟩; refine ⟨_, rfl, ?_⟩; have n0_ := Aside0.mk (Kd.S_below dq100 hb); have n1_ := Aside0.mk (Kd.R_elder' dq45 (Kd.R_base ho0) hb); have n2_ := Aside0.mk (Kd.R_lower (Kd.R_new' ho0 (Kd.R_lt dq45)) (below_size dq33)); have n3_ := Aside0.mk (below_step dq33 hb); clear HO_3; clear HO_6; clear HB; have HO_3 := n0_; have HO_6 := n1_; have HO603 := n2_; have HB := n3_; clear n0_ n1_ n2_ n3_; (try clear hb); (try clear hb2); (try clear hk); (try clear hi); (try clear ho0)) | ((with_reducible refine gate_dst (N := 76) rfl ?_); (try (refine gate_guard (by rfl) ?_; dsimp only)); refine Kd.R_lit (Kd.int .i64) _ 2 ?hg (N := 76) ?hd (xs := ([] : List Int)) (inner := []) (ok := fun _ => True) (okp := fun _ => True) ?hr ?hp (fun _ hk => hk) trivial (Below.refl _ _) (Nat.le_refl _) dq28 ?_; (case hd => rfl); (case hg => rfl); (case hr => exact dq0); (case hp => exact (Reps.none _ _)); intro v605 w63 ho64 hb hg_ hnew_; clear hg_ hnew_; (first | rw [← Ny604.out] at ho64 | (simp only [Int.reduceToNat] at ho64; rw [← Ny604.out] at ho64)); have n0_ := Aside0.mk (Kd.S_below dq100 hb); have n1_ := Aside0.mk (Kd.R_elder' dq45 (Kd.R_base ho64) hb); have n2_ := Aside0.mk (Kd.R_elder' dq145 (Kd.R_base ho64) hb); have n3_ := Aside0.mk (Kd.R_lower (Kd.R_new' (Kd.R_new' ho64 (Kd.R_lt dq45)) (Kd.R_lt dq145)) (below_size dq33)); have n4_ := Aside0.mk (below_step dq33 hb); clear HO_3; clear HO_6; clear HO603; clear HB; have HO_3 := n0_; have HO_6 := n1_; have HO603 := n2_; have HO606 := n3_; have HB := n4_; clear n0_ n1_ n2_ n3_ n4_; clear hb ho64; obtain ⟨Ao66, co66, eo66⟩ := Kd.R_slice HO_6.out; subst eo66) | ((with_reducible refine gate_builtin (b := .append) (xs := #[.tmp 76, .tmp 77]) rfl ?_); (try (refine gate_guard (by rfl) ?_; dsimp only)); at_builtin; refine Kd.R_append_rows (Kd.int .i64) (w0 := w) w.heap.size rfl (.tmp 76) (.tmp 77) 24 2 (.int .i64 0) 8 rfl Tryd.underlying24 info2 rfl dq37 dq31 v605 y604 t587 _ _ _ (fun k_ => some k_ ≠ (.slice Ao66 t587.length co66 : Value).ownBlock ∧ some k_ ≠ (v602 : Value).ownBlock) (fun _ => False) rfl rfl ?aO ?aR (fun _ _ h => h) (fun _ h => h.elim) ?aF ?aB ?aS ?aL ?_; (case aR => repeat (first | exact (Kd.R_reads' HO_6.out).2.2 | (with_reducible refine Kd.C_alloc ?_ _) | (with_reducible refine Kd.C_drewN ?_ _) | (with_reducible refine Kd.C_drew ?_))); (case aB => exact dq33); (case aF => exact (fun k_ hk => ⟨Kd.fresh' (Kd.R_lt dq45) k_ hk, Kd.fresh' (Kd.R_lt dq145) k_ hk⟩)); (case aO => exact (by (with_reducible repeat (first | apply Kd.R_alloc | apply Kd.R_drewN | apply Kd.R_drew)); exact Kd.R_mono HO606.out (fun _ hk => ⟨hk.1.2, hk.2⟩))); (case aS => exact (below_size dq33)); (case aL => have := LMc61.out; omega); intro v608 w65 ho hb hg hat; rw [← Ny607.out] at ho; have n0_ := Aside0.mk (Kd.S_over' dq100 (Kd.R_typed (by (with_reducible repeat (first | apply Kd.R_alloc | apply Kd.R_drewN | apply Kd.R_drew)); exact HO606.out)) dq37 hg); have n1_ := Aside0.mk (Kd.R_after (ok := (fun k_ => some k_ ≠ (v602 : Value).ownBlock)) (by (with_reducible repeat (first | apply Kd.R_alloc | apply Kd.R_drewN | apply Kd.R_drew)); exact Kd.R_mono HO_6.out (fun _ hk => ⟨hk.1.2, hk.2⟩)) hg hat); have n2_ := Aside0.mk (Kd.R_after (ok := (fun k_ => some k_ ≠ (.slice Ao66 t587.length co66 : Value).ownBlock)) (by (with_reducible repeat (first | apply Kd.R_alloc | apply Kd.R_drewN | apply Kd.R_drew)); exact Kd.R_mono HO603.out (fun _ hk => ⟨hk.1.2, hk.2⟩)) hg hat); have n3_ := Aside0.mk (hb); have n4_ := Aside0.mk (ho); clear HO_3; clear HO_6; clear HO603; clear HB; clear HO606; have HO_3 := n0_; have HO_6 := n1_; have HO603 := n2_; have HB := n3_; have HO609 := n4_; clear n0_ n1_ n2_ n3_ n4_; clear ho hb hg hat))
  go_loopg [8, 9] kj5 (fun kq v8 v9 w' => ∃ (x8_2 : List Int) (x9_2 : Int), v9 = .int .i64 x9_2 ∧ Aside0 (laws_FnDeepPath.l0 kq t582 t583 t584 t601 x8_2 x9_2 = some r) ∧ Aside0 (kq ≤ kj5) ∧ Aside0 (Kd.S k39 39 w' w.heap.size (fun _ => True) (.slice Ao8 t582.length co8) t582) ∧ Aside0 (Kd.R (Kd.int .i64) 2 w' w.heap.size (fun k_ => some k_ ≠ (v8 : Value).ownBlock) v602 t601) ∧ Aside0 (Kd.R (Kd.int .i64) 2 w' w.heap.size (fun k_ => some k_ ≠ (v602 : Value).ownBlock) v8 x8_2) ∧ Aside0 (Below w.heap.size w w'))
  case atStart => exact ⟨(y607), (wrap64 (t583 + 1)), dq25, H', ⟨Nat.le_refl _⟩, ⟨dq100⟩, ⟨by (with_reducible repeat (first | apply Kd.R_alloc | apply Kd.R_drewN | apply Kd.R_drew)); exact Kd.R_mono HO603.out (fun _ hk => hk.2)⟩, ⟨by (with_reducible repeat (first | apply Kd.R_alloc | apply Kd.R_drewN | apply Kd.R_drew)); exact Kd.R_mono HO609.out (fun _ hk => hk.2)⟩, ⟨dq33⟩⟩
  clear H'
  try clear c59
  try clear c59b0
  try clear c59b1
  try clear c59b2
  obtain ⟨x8_2, x9_2, rfl, HA, HK2, HO_3, HO_7, HO_8, HB⟩ := hrel
  cases gk with
  | zero => exact absurd HA.out (by simp [laws_FnDeepPath.l0])
  | succ k2 =>
   have H := HA.out
   clear HA
   simp only [laws_FnDeepPath.l0] at H
   by_cases c67 : x9_2 < (t582.length : Int)
   rotate_left
   ·rw [if_neg c67] at H
    have c67b0 := decide_eq_false c67
    clear c67
    have H' := Aside0.mk H
    clear H
    go_wp2
    go_loopg [11] k2 (fun kq v11 w' => ∃ (x11_3 : Int), v11 = .int .i64 x11_3 ∧ Aside0 (laws_FnDeepPath.l2 kq t601 x8_2 x11_3 = some r) ∧ Aside0 (kq ≤ k2) ∧ Aside0 (Kd.R (Kd.int .i64) 2 w' w.heap.size (fun k_ => some k_ ≠ (u8 : Value).ownBlock) v602 t601) ∧ Aside0 (Kd.R (Kd.int .i64) 2 w' w.heap.size (fun k_ => some k_ ≠ (v602 : Value).ownBlock) u8 x8_2) ∧ Aside0 (Below w.heap.size w w'))
    case atStart => exact ⟨(0), dq25, H', ⟨Nat.le_refl _⟩, ⟨dq52⟩, ⟨dq146⟩, ⟨dq33⟩⟩
    clear H'
    try clear c67b0
    obtain ⟨x11_3, rfl, HA, HK3, HO_7, HO_8, HB⟩ := hrel
    cases gk with
    | zero => exact absurd HA.out (by simp [laws_FnDeepPath.l2])
    | succ k3 =>
     have H := HA.out
     clear HA
     simp only [laws_FnDeepPath.l2] at H
     by_cases c80 : x11_3 < (x8_2.length : Int)
     ·rw [if_pos c80] at H
      have c80b0 := decide_eq_true c80
      clear c80
      by_cases c81 : 0 ≤ x11_3
      rotate_left
      ·rw [if_neg c81] at H
       exact absurd H dq28
      rw [if_pos c81] at H
      have c81b0 := decide_eq_true c81
      clear c81
      replace H := Option.bind_eq_some_iff.mp H
      obtain ⟨t619, A820, H⟩ := H
      replace H : (if t619 = true then (laws_FnDeepPath.l2 k3 t601 x8_2 (wrap64 (x11_3 + 1))) else (some false)) = some r := H
      have A82 := Aside0.mk A820
      clear A820
      by_cases c83 : t619 = true
      rotate_left
      ·replace c83 := Bool.eq_false_iff.mpr c83
       subst c83
       have H1 : (some false) = some r := by rw [if_neg (show ¬ (false = true) by decide)] at H; exact H
       clear H
       have H := H1
       clear H1
       obtain rfl := Option.some.inj H
       obtain ⟨Ao86, co86, eo86⟩ := Kd.R_slice HO_8.out
       subst eo86
       have p618 : 0 ≤ (x11_3 : Int) := of_decide_eq_true dq26
       have q618 : x11_3 < (x8_2.length : Int) := of_decide_eq_true dq26
       obtain ⟨ad618, e618, hx618_0⟩ := Kd.at_int (Kd.R_reads' HO_8.out).2.2 x11_3 p618 q618
       cases e618
       replace p618 := eq_true p618
       replace q618 := eq_true q618
       obtain ⟨Ao87, co87, eo87⟩ := Kd.R_slice HO_7.out
       subst eo87
       go_wp2_with (first | ((with_reducible refine gate_callee (f := 25) rfl ?_); refine goesL_ (some 124) rfl rfl Tryd.func25 dq30 rfl #[.slice Ao87 t601.length co87, .int .i64 (rd x8_2 x11_3)] rfl dq29 ?_; (with_reducible refine (laws_has.calls k3 _ _ t601 (rd x8_2 x11_3) false _ ?side1 ?side2 A82.out).mono ?_); (case side1 => repeat (first | exact (Kd.R_reads' HO_7.out).2.2 | (with_reducible refine Kd.C_alloc ?_ _) | (with_reducible refine Kd.C_drewN ?_ _) | (with_reducible refine Kd.C_drew ?_))); (case side2 => exact (Kd.R_reads' HO_7.out).2.1); rintro e w' ⟨rfl, ⟨nd, rfl⟩⟩; refine ⟨_, rfl, ?_⟩))
       go_ret
       exact ⟨dq35, dq33⟩
      subst c83
      have H1 : (laws_FnDeepPath.l2 k3 t601 x8_2 (wrap64 (x11_3 + 1))) = some r := by rw [if_pos rfl] at H; exact H
      clear H
      have H := H1
      clear H1
      have H' := Aside0.mk H
      clear H
      obtain ⟨Ao84, co84, eo84⟩ := Kd.R_slice HO_8.out
      subst eo84
      have p618 : 0 ≤ (x11_3 : Int) := of_decide_eq_true dq26
      have q618 : x11_3 < (x8_2.length : Int) := of_decide_eq_true dq26
      obtain ⟨ad618, e618, hx618_0⟩ := Kd.at_int (Kd.R_reads' HO_8.out).2.2 x11_3 p618 q618
      cases e618
      replace p618 := eq_true p618
      replace q618 := eq_true q618
      obtain ⟨Ao85, co85, eo85⟩ := Kd.R_slice HO_7.out
      subst eo85
      go_wp2_with (first | ((with_reducible refine gate_callee (f := 25) rfl ?_); refine goesL_ (some 124) rfl rfl Tryd.func25 dq30 rfl #[.slice Ao85 t601.length co85, .int .i64 (rd x8_2 x11_3)] rfl dq29 ?_; (with_reducible refine (laws_has.calls k3 _ _ t601 (rd x8_2 x11_3) true _ ?side1 ?side2 A82.out).mono ?_); (case side1 => repeat (first | exact (Kd.R_reads' HO_7.out).2.2 | (with_reducible refine Kd.C_alloc ?_ _) | (with_reducible refine Kd.C_drewN ?_ _) | (with_reducible refine Kd.C_drew ?_))); (case side2 => exact (Kd.R_reads' HO_7.out).2.1); rintro e w' ⟨rfl, ⟨nd, rfl⟩⟩; refine ⟨_, rfl, ?_⟩))
      go_roundg k3
      case measure => have := HJ5.out; have := HK2.out; have := HK3.out; omega
      case rel => exact ⟨(wrap64 (x11_3 + 1)), dq25, H', ⟨dq147⟩, ⟨dq52⟩, ⟨dq146⟩, ⟨dq33⟩⟩
     rw [if_neg c80] at H
     have c80b0 := decide_eq_false c80
     clear c80
     have H' := Aside0.mk H
     clear H
     obtain ⟨Ao88, co88, eo88⟩ := Kd.R_slice HO_8.out
     subst eo88
     go_wp2
     go_loopg [12] k3 (fun kq v12 w' => ∃ (x12_4 : Int), v12 = .int .i64 x12_4 ∧ Aside0 (laws_FnDeepPath.l3 kq t601 x8_2 x12_4 = some r) ∧ Aside0 (kq ≤ k3) ∧ Aside0 (Kd.R (Kd.int .i64) 2 w' w.heap.size (fun k_ => some k_ ≠ ((.slice Ao88 x8_2.length co88) : Value).ownBlock) v602 t601) ∧ Aside0 (Kd.R (Kd.int .i64) 2 w' w.heap.size (fun k_ => some k_ ≠ (v602 : Value).ownBlock) (.slice Ao88 x8_2.length co88) x8_2) ∧ Aside0 (Below w.heap.size w w'))
     case atStart => exact ⟨(0), dq25, H', ⟨Nat.le_refl _⟩, ⟨dq52⟩, ⟨dq146⟩, ⟨dq33⟩⟩
     clear H'
     try clear c80b0
     obtain ⟨x12_4, rfl, HA, HK4, HO_7, HO_8, HB⟩ := hrel
     cases gk with
     | zero => exact absurd HA.out (by simp [laws_FnDeepPath.l3])
     | succ k4 =>
      have H := HA.out
      clear HA
      simp only [laws_FnDeepPath.l3] at H
      by_cases c89 : x12_4 < (t601.length : Int)
      rotate_left
      ·rw [if_neg c89] at H
       have c89b0 := decide_eq_false c89
       clear c89
       obtain rfl := Option.some.inj H
       obtain ⟨Ao95, co95, eo95⟩ := Kd.R_slice HO_7.out
       subst eo95
       go_wp2
       go_ret
       exact ⟨dq35, dq33⟩
      rw [if_pos c89] at H
      have c89b0 := decide_eq_true c89
      clear c89
      by_cases c90 : 0 ≤ x12_4
      rotate_left
      ·rw [if_neg c90] at H
       exact absurd H dq28
      rw [if_pos c90] at H
      have c90b0 := decide_eq_true c90
      clear c90
      replace H := Option.bind_eq_some_iff.mp H
      obtain ⟨t621, A910, H⟩ := H
      replace H : (if t621 = true then (laws_FnDeepPath.l3 k4 t601 x8_2 (wrap64 (x12_4 + 1))) else (some false)) = some r := H
      have A91 := Aside0.mk A910
      clear A910
      by_cases c92 : t621 = true
      rotate_left
      ·replace c92 := Bool.eq_false_iff.mpr c92
       subst c92
       have H1 : (some false) = some r := by rw [if_neg (show ¬ (false = true) by decide)] at H; exact H
       clear H
       have H := H1
       clear H1
       obtain rfl := Option.some.inj H
       obtain ⟨Ao94, co94, eo94⟩ := Kd.R_slice HO_7.out
       subst eo94
       have p620 : 0 ≤ (x12_4 : Int) := of_decide_eq_true dq26
       have q620 : x12_4 < (t601.length : Int) := of_decide_eq_true dq26
       obtain ⟨ad620, e620, hx620_0⟩ := Kd.at_int (Kd.R_reads' HO_7.out).2.2 x12_4 p620 q620
       cases e620
       replace p620 := eq_true p620
       replace q620 := eq_true q620
       go_wp2_with (first | ((with_reducible refine gate_callee (f := 25) rfl ?_); refine goesL_ (some 137) rfl rfl Tryd.func25 dq30 rfl #[.slice Ao88 x8_2.length co88, .int .i64 (rd t601 x12_4)] rfl dq29 ?_; (with_reducible refine (laws_has.calls k4 _ _ x8_2 (rd t601 x12_4) false _ ?side1 ?side2 A91.out).mono ?_); (case side1 => repeat (first | exact (Kd.R_reads' HO_8.out).2.2 | (with_reducible refine Kd.C_alloc ?_ _) | (with_reducible refine Kd.C_drewN ?_ _) | (with_reducible refine Kd.C_drew ?_))); (case side2 => exact (Kd.R_reads' HO_8.out).2.1); rintro e w' ⟨rfl, ⟨nd, rfl⟩⟩; refine ⟨_, rfl, ?_⟩))
       go_ret
       exact ⟨dq35, dq33⟩
      subst c92
      have H1 : (laws_FnDeepPath.l3 k4 t601 x8_2 (wrap64 (x12_4 + 1))) = some r := by rw [if_pos rfl] at H; exact H
      clear H
      have H := H1
      clear H1
      have H' := Aside0.mk H
      clear H
      obtain ⟨Ao93, co93, eo93⟩ := Kd.R_slice HO_7.out
      subst eo93
      have p620 : 0 ≤ (x12_4 : Int) := of_decide_eq_true dq26
      have q620 : x12_4 < (t601.length : Int) := of_decide_eq_true dq26
      obtain ⟨ad620, e620, hx620_0⟩ := Kd.at_int (Kd.R_reads' HO_7.out).2.2 x12_4 p620 q620
      cases e620
      replace p620 := eq_true p620
      replace q620 := eq_true q620
      go_wp2_with (first | ((with_reducible refine gate_callee (f := 25) rfl ?_); refine goesL_ (some 137) rfl rfl Tryd.func25 dq30 rfl #[.slice Ao88 x8_2.length co88, .int .i64 (rd t601 x12_4)] rfl dq29 ?_; (with_reducible refine (laws_has.calls k4 _ _ x8_2 (rd t601 x12_4) true _ ?side1 ?side2 A91.out).mono ?_); (case side1 => repeat (first | exact (Kd.R_reads' HO_8.out).2.2 | (with_reducible refine Kd.C_alloc ?_ _) | (with_reducible refine Kd.C_drewN ?_ _) | (with_reducible refine Kd.C_drew ?_))); (case side2 => exact (Kd.R_reads' HO_8.out).2.1); rintro e w' ⟨rfl, ⟨nd, rfl⟩⟩; refine ⟨_, rfl, ?_⟩))
      go_roundg k4
      case measure => have := HJ5.out; have := HK2.out; have := HK3.out; have := HK4.out; omega
      case rel => exact ⟨(wrap64 (x12_4 + 1)), dq25, H', ⟨by have := HJ5.out; have := HK2.out; have := HK3.out; have := HK4.out; omega⟩, ⟨dq52⟩, ⟨dq146⟩, ⟨dq33⟩⟩
   rw [if_pos c67] at H
   have c67b0 := decide_eq_true c67
   clear c67
   have H' := Aside0.mk H
   clear H
   go_wp2
   go_loopg [10] k2 (fun kq v10 w' => ∃ (x10_3 : Int), v10 = .int .i64 x10_3 ∧ Aside0 (laws_FnDeepPath.l1 kq t582 t583 t584 t601 x8_2 x9_2 x10_3 = some r) ∧ Aside0 (kq ≤ k2) ∧ Aside0 (Kd.S k39 39 w' w.heap.size (fun _ => True) (.slice Ao8 t582.length co8) t582) ∧ Aside0 (Kd.R (Kd.int .i64) 2 w' w.heap.size (fun k_ => some k_ ≠ (u8 : Value).ownBlock) v602 t601) ∧ Aside0 (Kd.R (Kd.int .i64) 2 w' w.heap.size (fun k_ => some k_ ≠ (v602 : Value).ownBlock) u8 x8_2) ∧ Aside0 (Below w.heap.size w w'))
   case atStart => exact ⟨(x9_2), dq25, H', ⟨Nat.le_refl _⟩, ⟨dq100⟩, ⟨dq52⟩, ⟨dq146⟩, ⟨dq33⟩⟩
   clear H'
   try clear c67b0
   obtain ⟨x10_3, rfl, HA, HK3, HO_3, HO_7, HO_8, HB⟩ := hrel
   cases gk with
   | zero => exact absurd HA.out (by simp [laws_FnDeepPath.l1])
   | succ k3 =>
    have H := HA.out
    clear HA
    simp only [laws_FnDeepPath.l1] at H
    by_cases c68 : x10_3 > t583
    ·rw [if_pos c68] at H
     have c68b0 : decide (t583 < x10_3) = true := decide_eq_true c68
     clear c68
     by_cases c69 : 0 ≤ x10_3
     rotate_left
     ·rw [if_neg c69] at H
      exact absurd H dq28
     rw [if_pos c69] at H
     have c69b0 := decide_eq_true c69
     clear c69
     by_cases c70 : x10_3 < (t582.length : Int)
     rotate_left
     ·rw [if_neg c70] at H
      exact absurd H dq28
     rw [if_pos c70] at H
     have c70b0 := decide_eq_true c70
     clear c70
     have H' := Aside0.mk H
     clear H
     have p610 : 0 ≤ (x10_3 : Int) := of_decide_eq_true dq26
     have q610 : x10_3 < (t582.length : Int) := of_decide_eq_true dq26
     obtain ⟨ad610, A610_3, c610_3, e610, hx610_0, hx610_1, hx610_2, hx610_3, hl610_3, hi610_3⟩ := at_T39 (Kd.S_reads' HO_3.out).2.2 x10_3 p610 q610
     cases e610
     obtain ⟨ce610, hce610, hMe610, hcc610⟩ := Kd.S_get HO_3.out z39 x10_3 p610 (by first | exact q610 | exact of_decide_eq_true dq26 | (have e_ := (Kd.S_reads' HO_3.out).1; omega))
     obtain ⟨ve610_3, rfl, ge610_3⟩ := k39_openM hMe610
     have hv610_3 := hcc610 3 _ rfl
     rw [add_field _ _ 3 dq31] at hv610_3
     replace hv610_3 := Option.some.inj (hv610_3.symm.trans hx610_3)
     rw [hv610_3] at ge610_3
     have HL610_3 := Aside0.mk (show Kd.R k46 46 _ _ _ _ ((rd_T39 t582 x10_3).f3) from ge610_3)
     clear hv610_3 ge610_3
     clear hcc610 hce610
     have HR610_3 := Aside0.mk hi610_3
     have HC610_3 := Aside0.mk hl610_3
     clear hi610_3 hl610_3
     replace p610 := eq_true p610
     replace q610 := eq_true q610
     go_wp2
     go_roundg k3
     case measure => have := HJ5.out; have := HK2.out; have := HK3.out; omega
     case rel => exact ⟨((rd_T39 t582 x10_3).f0), dq25, H', ⟨dq147⟩, ⟨dq100⟩, ⟨dq52⟩, ⟨dq146⟩, ⟨dq33⟩⟩
    rw [if_neg c68] at H
    have c68b0 : decide (t583 < x10_3) = false := decide_eq_false c68
    clear c68
    by_cases c71 : x10_3 = t583
    rotate_left
    ·rw [if_neg c71] at H
     have c71b0 := beq_eq_false_iff_ne.mpr c71
     have c71b1 := bne_iff_ne.mpr c71
     have H' := Aside0.mk H
     clear H
     go_wp2
     go_roundg k3
     case measure => have := HJ5.out; have := HK2.out; have := HK3.out; omega
     case rel => exact ⟨(x8_2), (wrap64 (x9_2 + 1)), dq25, H', ⟨dq147⟩, ⟨dq100⟩, ⟨dq52⟩, ⟨dq146⟩, ⟨dq33⟩⟩
    rw [if_pos c71] at H
    have c71b0 := beq_iff_eq.mpr c71
    have c71b1 := bne_eq_false_iff_eq.mpr c71
    clear c71
    by_cases c72 : 0 ≤ x9_2
    rotate_left
    ·rw [if_neg c72] at H
     exact absurd H dq28
    rw [if_pos c72] at H
    have c72b0 := decide_eq_true c72
    clear c72
    by_cases c73 : x9_2 < (t582.length : Int)
    rotate_left
    ·rw [if_neg c73] at H
     exact absurd H dq28
    rw [if_pos c73] at H
    have c73b0 := decide_eq_true c73
    clear c73
    by_cases c74 : ((rd_T39 t582 x9_2).f1).toList = ([] : List UInt8)
    ·rw [if_pos c74] at H
     have c74b0 := beq_iff_eq.mpr c74
     have c74b1 := bne_eq_false_iff_eq.mpr c74
     clear c74
     have H' := Aside0.mk H
     clear H
     have p611 : 0 ≤ (x9_2 : Int) := of_decide_eq_true dq26
     have q611 : x9_2 < (t582.length : Int) := of_decide_eq_true dq26
     obtain ⟨ad611, A611_3, c611_3, e611, hx611_0, hx611_1, hx611_2, hx611_3, hl611_3, hi611_3⟩ := at_T39 (Kd.S_reads' HO_3.out).2.2 x9_2 p611 q611
     cases e611
     obtain ⟨ce611, hce611, hMe611, hcc611⟩ := Kd.S_get HO_3.out z39 x9_2 p611 dq148
     obtain ⟨ve611_3, rfl, ge611_3⟩ := k39_openM hMe611
     have hv611_3 := hcc611 3 _ rfl
     rw [add_field _ _ 3 dq31] at hv611_3
     replace hv611_3 := Option.some.inj (hv611_3.symm.trans hx611_3)
     rw [hv611_3] at ge611_3
     have HL611_3 := Aside0.mk (show Kd.R k46 46 _ _ _ _ ((rd_T39 t582 x9_2).f3) from ge611_3)
     clear hv611_3 ge611_3
     clear hcc611 hce611
     have HR611_3 := Aside0.mk hi611_3
     have HC611_3 := Aside0.mk hl611_3
     clear hi611_3 hl611_3
     replace p611 := eq_true p611
     replace q611 := eq_true q611
     go_wp2
     go_roundg k3
     case measure => have := HJ5.out; have := HK2.out; have := HK3.out; omega
     case rel => exact ⟨(x8_2), (wrap64 (x9_2 + 1)), dq25, H', ⟨dq147⟩, ⟨dq100⟩, ⟨dq52⟩, ⟨dq146⟩, ⟨dq33⟩⟩
    rw [if_neg c74] at H
    have c74b0 := beq_eq_false_iff_ne.mpr c74
    have c74b1 := bne_iff_ne.mpr c74
    replace H := Option.bind_eq_some_iff.mp H
    obtain ⟨t612, A750, H⟩ := H
    replace H : (if x8_2.length + t612.length < 17592186044416 then (laws_FnDeepPath.l0 k3 t582 t583 t584 t601 (x8_2 ++ t612) (wrap64 (x9_2 + 1))) else (none)) = some r := H
    have A75 := Aside0.mk A750
    clear A750
    by_cases c76 : x8_2.length + t612.length < 17592186044416
    rotate_left
    ·rw [if_neg c76] at H
     exact absurd H dq28
    rw [if_pos c76] at H
    have LMc76 := Aside0.mk c76
    clear c76
    obtain ⟨y615, hy615⟩ : ∃ y_ : List Int, y_ = (x8_2 ++ t612) := ⟨_, rfl⟩
    replace H : (laws_FnDeepPath.l0 k3 t582 t583 t584 t601 y615 (wrap64 (x9_2 + 1))) = some r := by first | (rw [hy615]; with_reducible exact H) | (have H2_ := (Option.bind_some _ _).symm.trans H; rw [hy615]; with_reducible exact H2_) | (have H2_ := (Option.bind_some _ _).symm.trans H; with_reducible exact H2_) | with_reducible exact H | (rw [hy615]; exact H) | exact H
    have Ny615 := Aside0.mk hy615
    clear hy615
    have H' := Aside0.mk H
    clear H
    have p611 : 0 ≤ (x9_2 : Int) := of_decide_eq_true dq26
    have q611 : x9_2 < (t582.length : Int) := of_decide_eq_true dq26
    obtain ⟨ad611, A611_3, c611_3, e611, hx611_0, hx611_1, hx611_2, hx611_3, hl611_3, hi611_3⟩ := at_T39 (Kd.S_reads' HO_3.out).2.2 x9_2 p611 q611
    cases e611
    obtain ⟨ce611, hce611, hMe611, hcc611⟩ := Kd.S_get HO_3.out z39 x9_2 p611 dq148
    obtain ⟨ve611_3, rfl, ge611_3⟩ := k39_openM hMe611
    have hv611_3 := hcc611 3 _ rfl
    rw [add_field _ _ 3 dq31] at hv611_3
    replace hv611_3 := Option.some.inj (hv611_3.symm.trans hx611_3)
    rw [hv611_3] at ge611_3
    have HL611_3 := Aside0.mk (show Kd.R k46 46 _ _ _ _ ((rd_T39 t582 x9_2).f3) from ge611_3)
    clear hv611_3 ge611_3
    clear hcc611 hce611
    have HR611_3 := Aside0.mk hi611_3
    have HC611_3 := Aside0.mk hl611_3
    clear hi611_3 hl611_3
    replace p611 := eq_true p611
    replace q611 := eq_true q611
    go_wp2_with (first | ((with_reducible refine gate_callee (f := 12) rfl ?_); refine goesL_ (some 111) rfl rfl Tryd.func12 dq30 rfl #[.slice (some ad611) t582.length co8, .int .i64 x9_2, .string t584] rfl dq29 ?_; (with_reducible refine (impl_Select.calls k3 _ _ t582 x9_2 t584 t612 _ ?side3 ?side1 ?side2 A75.out).mono ?_); (case side1 => exact dq23); (case side2 => exact (Kd.S_reads' HO_3.out).2.1); (case side3 => exact dq3); rintro e w77 ⟨v613, rfl, ho0, hb⟩; refine ⟨_, rfl, ?_⟩; have n0_ := Aside0.mk (Kd.S_below dq100 hb); have n1_ := Aside0.mk (Kd.R_elder' dq52 (Kd.R_base ho0) hb); have n2_ := Aside0.mk (Kd.R_elder' dq146 (Kd.R_base ho0) hb); have n3_ := Aside0.mk (Kd.R_below (by (with_reducible repeat (first | apply Kd.R_alloc | apply Kd.R_drewN | apply Kd.R_drew)); exact HL611_3.out) hb); have n4_ := Aside0.mk (Kd.R_lower (Kd.R_new' (Kd.R_new' ho0 (Kd.R_lt dq52)) (Kd.R_lt dq146)) (below_size dq33)); have n5_ := Aside0.mk (Kd.C_below (by repeat (first | (with_reducible exact HR611_3.out) | (with_reducible refine Kd.C_alloc ?_ _) | (with_reducible refine Kd.C_drewN ?_ _) | (with_reducible refine Kd.C_drew ?_) | exact HR611_3.out)) hb); have n6_ := Aside0.mk (below_step dq33 hb); clear HO_3; clear HO_7; clear HO_8; clear HL611_3; clear HR611_3; clear HB; have HO_3 := n0_; have HO_7 := n1_; have HO_8 := n2_; have HL611_3 := n3_; have HO614 := n4_; have HR611_3 := n5_; have HB := n6_; clear n0_ n1_ n2_ n3_ n4_ n5_ n6_; (try clear hb); (try clear hb2); (try clear hk); (try clear hi); (try clear ho0); obtain ⟨Ao79, co79, eo79⟩ := Kd.R_slice HO614.out; subst eo79) | ((with_reducible refine gate_builtin (b := .append) (xs := #[.tmp 107, .tmp 111]) rfl ?_); (try (refine gate_guard (by rfl) ?_; dsimp only)); at_builtin; refine Kd.R_append_rows (Kd.int .i64) (w0 := w) w.heap.size rfl (.tmp 107) (.tmp 111) 24 2 (.int .i64 0) 8 rfl Tryd.underlying24 info2 rfl dq37 dq31 u8 x8_2 t612 _ _ _ (fun k_ => some k_ ≠ (v602 : Value).ownBlock ∧ some k_ ≠ (.slice Ao79 t612.length co79 : Value).ownBlock) (fun _ => False) rfl rfl ?aO ?aR (fun _ _ h => h) (fun _ h => h.elim) ?aF ?aB ?aS ?aL ?_; (case aR => repeat (first | exact (Kd.R_reads' HO614.out).2.2 | (with_reducible refine Kd.C_alloc ?_ _) | (with_reducible refine Kd.C_drewN ?_ _) | (with_reducible refine Kd.C_drew ?_))); (case aB => exact dq33); (case aF => exact (fun k_ hk => ⟨Kd.fresh' (Kd.R_lt dq52) k_ hk, Kd.fresh' (Kd.R_lt (by (with_reducible repeat (first | apply Kd.R_alloc | apply Kd.R_drewN | apply Kd.R_drew)); exact HO614.out)) k_ hk⟩)); (case aO => exact dq146); (case aS => exact (below_size dq33)); (case aL => have := LMc76.out; omega); intro v616 w78 ho hb hg hat; rw [← Ny615.out] at ho; have n0_ := Aside0.mk (Kd.S_over' dq100 (Kd.R_typed dq146) dq37 hg); have n1_ := Aside0.mk (Kd.R_after (ok := (fun k_ => some k_ ≠ (.slice Ao79 t612.length co79 : Value).ownBlock)) (by (with_reducible repeat (first | apply Kd.R_alloc | apply Kd.R_drewN | apply Kd.R_drew)); exact Kd.R_mono HO_7.out (fun _ hk => ⟨hk.2, hk.1⟩)) hg hat); have n2_ := Aside0.mk (Kd.R_over' (by (with_reducible repeat (first | apply Kd.R_alloc | apply Kd.R_drewN | apply Kd.R_drew)); exact HL611_3.out) (Kd.R_typed dq146) dq37 hg); have n3_ := Aside0.mk (Kd.R_after (ok := (fun k_ => some k_ ≠ (v602 : Value).ownBlock)) (by (with_reducible repeat (first | apply Kd.R_alloc | apply Kd.R_drewN | apply Kd.R_drew)); exact Kd.R_mono HO614.out (fun _ hk => ⟨hk.1.2, hk.2⟩)) hg hat); have n4_ := Aside0.mk (hb); have n5_ := Aside0.mk (ho); clear HO_3; clear HO_7; clear HL611_3; clear HO614; clear HB; clear HO_8; have HO_3 := n0_; have HO_7 := n1_; have HL611_3 := n2_; have HO614 := n3_; have HB := n4_; have HO617 := n5_; clear n0_ n1_ n2_ n3_ n4_ n5_; clear ho hb hg hat))
    go_roundg k3
    case measure => have := HJ5.out; have := HK2.out; have := HK3.out; omega
    case rel => exact ⟨(y615), (wrap64 (x9_2 + 1)), dq25, H', ⟨dq147⟩, ⟨dq100⟩, ⟨by (with_reducible repeat (first | apply Kd.R_alloc | apply Kd.R_drewN | apply Kd.R_drew)); exact Kd.R_mono HO_7.out (fun _ hk => hk.2)⟩, ⟨by (with_reducible repeat (first | apply Kd.R_alloc | apply Kd.R_drewN | apply Kd.R_drew)); exact Kd.R_mono HO617.out (fun _ hk => hk.1)⟩, ⟨dq33⟩⟩

/-- THE ONE PURE STATEMENT of laws_FnDeepPath: yours. -/
def laws_FnDeepPath.Pure : Prop := ∀ (l0 : List Int), l0.length ≤ maxLen → l0.length * 1 ≤ 140737488351232 → (∀ x ∈ l0, (Lit.int .u8 x).wf = true) → ∃ k, laws_FnDeepPath.f k l0 = some true
theorem laws_FnDeepPath.walk (P : laws_FnDeepPath.Pure) (a0 : Option Addr) (len0 cap0 : Nat) (z0 : List Int) (w : World) (hT : Gl w) (w0 : (a0 = none ∧ len0 = 0 ∧ cap0 = 0 ∧ z0 = []) ∨ ∃ x, a0 = some x ∧ len0 ≤ cap0 ∧ cap0 ≤ maxLen ∧ z0.length = cap0 ∧ (∀ i, i < z0.length → w.cell? (x.add i) = some (.int .u8 (z0.getD i 0))) ∧ ∀ n ∈ z0, (Lit.int .u8 n).wf = true) (y0 : len0 * 1 ≤ 140737488351232) :
  Calls Tryd.prog 5 #[.slice a0 len0 cap0] w fun e w' => e = .returned (.bool true) ∧ Below w.heap.size w w' := by
 obtain ⟨l0, rfl, hr0, hm0, hw0, hc0⟩ := ReadsInt.ofRowC w0
 obtain ⟨k, h⟩ := P l0 hm0 y0 hw0
 refine (laws_FnDeepPath.calls k _ _ l0 true w hT (Kd.C_of_reads (d := (0 : Int)) (h1 := fun _ => rfl) hr0) hc0 h).mono ?_
 rintro e w' ⟨rfl, hd⟩
 exact ⟨rfl, hd⟩

end Go.Proofs.YtpmjpbaeecnpiaaDoor.L

namespace Go.Proofs.YtpmjpbaeecnpiaaDoor.Pure
open Go.RowKit Go.Proofs.YtpmjpbaeecnpiaaDoor.L Go.Proofs.YtpmjpbaeecnpiaaDoorW.PrintWords Go.Proofs.YtpmjpbaeecnpiaaDoorW.PrintLast Go.Proofs.YtpmjpbaeecnpiaaDoorW.PrintMore
set_option linter.unusedVariables false
set_option linter.unusedSimpArgs false

theorem ba_ext {a b : ByteArray} (h : a.data.toList = b.data.toList) : a = b := by
  cases a; cases b; simp only [ByteArray.mk.injEq]; exact Array.toList_inj.mp h
theorem ba_app (a b : ByteArray) : (a ++ b).data.toList = a.data.toList ++ b.data.toList := by
  rw [ByteArray.data_append, Array.toList_append]
theorem sz (a : ByteArray) : a.size = a.data.toList.length := (data_length a).symm
theorem w64 {n : Int} (h : -9223372036854775808 ≤ n) (h' : n ≤ 9223372036854775807) : wrap64 n = n := by unfold wrap64; omega
theorem bt_nat (s : ByteArray) (i : Nat) (h : i < s.data.toList.length) : bt s (i : Int) = ((s.data.toList[i]).toNat : Int) := by
  have h' : i < s.size := by rw [sz]; exact h
  unfold bt
  rw [dif_pos (by simpa using h')]
  simp only [Int.toNat_natCast]
  rfl
theorem first_bt (s : ByteArray) (b : UInt8) (l : List UInt8) (h : s.data.toList = b :: l) : bt s 0 = (b.toNat : Int) := by
  have := bt_nat s 0 (by rw [h]; simp)
  simp only [h, Int.ofNat_zero, List.getElem_cons_zero] at this
  simpa using this
def mkB (l : List UInt8) : ByteArray := ⟨l.toArray⟩
theorem mkB_list (l : List UInt8) : (mkB l).data.toList = l := by simp [mkB]
theorem mkB_of (s : ByteArray) : mkB s.data.toList = s := ba_ext (mkB_list _)
theorem byte_is (b : UInt8) (n : Nat) (hn : n < 256) : ((b.toNat : Int) = (n : Int)) ↔ b = UInt8.ofNat n := by
  constructor
  · intro h
    apply UInt8.toNat.inj
    rw [UInt8.toNat_ofNat']
    omega
  · intro h; subst h; rw [UInt8.toNat_ofNat']; omega
/-- The pieces of a row of bytes between strokes, the first one behind what was gathered. -/
def segs : List UInt8 → List UInt8 → List (List UInt8)
  | acc, [] => [acc]
  | acc, b :: t => if b = 47 then acc :: segs [] t else segs (acc ++ [b]) t
theorem segs_miss : ∀ (l acc : List UInt8), (∀ k : Nat, l[k]? ≠ some 47) → segs acc l = [acc ++ l]
  | [], acc, _ => by simp [segs]
  | b :: t, acc, h => by
    have hb : b ≠ 47 := fun e => h 0 (by simp [e])
    have ht : ∀ k : Nat, t[k]? ≠ some 47 := fun k => by simpa using h (k + 1)
    unfold segs
    rw [if_neg hb, segs_miss t (acc ++ [b]) ht]
    simp
theorem segs_hit : ∀ (i : Nat) (l acc : List UInt8), l[i]? = some 47 → (∀ k : Nat, k < i → l[k]? ≠ some 47) → segs acc l = (acc ++ l.take i) :: segs [] (l.drop (i + 1))
  | i, [], acc, h, _ => by simp at h
  | 0, b :: t, acc, h, _ => by
    have hb : b = 47 := by simpa using h
    rw [segs, if_pos hb]
    simp
  | i + 1, b :: t, acc, h, h2 => by
    have hb : b ≠ 47 := fun e => h2 0 (by omega) (by simp [e])
    have h' : t[i]? = some 47 := by simpa using h
    have h2' : ∀ k : Nat, k < i → t[k]? ≠ some 47 := fun k hk => by simpa using h2 (k + 1) (by omega)
    rw [segs, if_neg hb, segs_hit i t (acc ++ [b]) h' h2']
    simp
theorem slash_size : slash.size = 1 := rfl
theorem slash_index (s : ByteArray) : Lib.indexB s slash = Lib.indexByte s.data.toList 47 := by
  rw [Lib.one s slash slash_size]
  rfl
theorem names_of_aux : ∀ (n : Nat) (s : ByteArray), s.size ≤ n → (namesOf s).map (fun x => x.data.toList) = segs [] s.data.toList := by
  intro n
  induction n with
  | zero =>
    intro s hs
    rcases Lib.indexB_cases s slash with hix | ⟨i, _, hroom⟩
    · unfold namesOf
      rw [Lib.splitB_miss slash 0 _ s hix]
      rw [slash_index] at hix
      rw [segs_miss _ _ (Lib.indexByte_none hix)]
      simp
    · rw [slash_size] at hroom; omega
  | succ n ih =>
    intro s hs
    rcases Lib.indexB_cases s slash with hix | ⟨i, hix, hroom⟩
    · unfold namesOf
      rw [Lib.splitB_miss slash 0 _ s hix]
      rw [slash_index] at hix
      rw [segs_miss _ _ (Lib.indexByte_none hix)]
      simp
    · rw [slash_size] at hroom
      have e2 : (s.extract (i + 1) s.size).size = s.size - (i + 1) := by rw [ByteArray.size_extract]; omega
      have := ih (s.extract (i + 1) s.size) (by omega)
      unfold namesOf at this ⊢
      rw [Lib.countB_hit s slash i (by decide) hix, Nat.add_comm, Lib.splitB_hit slash 0 _ s i hix]
      rw [slash_size, List.map_cons, this]
      rw [slash_index] at hix
      obtain ⟨h1, h2⟩ := Lib.indexByte_some hix
      rw [segs_hit i _ [] h1 h2]
      congr 1
      · simp
      · rw [Lib.extract_to_end]
theorem names_of (s : ByteArray) : (namesOf s).map (fun x => x.data.toList) = segs [] s.data.toList := names_of_aux s.size s (Nat.le_refl _)
theorem names_len (s : ByteArray) : (namesOf s).length = Lib.countB s slash + 1 := Lib.splitB_all slash (by decide) 0 _ s rfl
theorem names_most (s : ByteArray) : (namesOf s).length ≤ s.size + 1 := by
  rw [names_len]
  have := Lib.countB_le slash (by decide) s.size s (Nat.le_refl _)
  omega

/-- A row of bytes that is a name. -/
def fstB (b : UInt8) : Bool := decide (97 ≤ b.toNat ∧ b.toNat ≤ 122) || decide (65 ≤ b.toNat ∧ b.toNat ≤ 90) || decide (b.toNat = 95)
def moreB (b : UInt8) : Bool := fstB b || decide (48 ≤ b.toNat ∧ b.toNat ≤ 57) || decide (b.toNat = 46) || decide (b.toNat = 45)
def nameB : List UInt8 → Bool
  | [] => false
  | b :: t => fstB b && t.all moreB && decide (t.length + 1 ≤ 40)
theorem u8_all {p : UInt8 → Prop} (h : ∀ n : Fin 256, p (UInt8.ofNat n.val)) (b : UInt8) : p b := by
  have := h ⟨b.toNat, b.toNat_lt⟩
  simpa using this
theorem first_f (b : UInt8) : spec_l1First.f (b.toNat : Int) = some (fstB b) := by
  revert b
  refine u8_all ?_
  decide +kernel
theorem more_f (b : UInt8) : spec_l1More.f (b.toNat : Int) = some (moreB b) := by
  revert b
  refine u8_all ?_
  decide +kernel
theorem spec_name_l0 (s : ByteArray) (hs : s.data.toList.length ≤ 9223372036854775806) : ∀ (n i : Nat), i + n = s.data.toList.length →
    Ev (fun k => spec_NameOk.l0 k s (i : Int)) ((s.data.toList.drop i).all moreB) := by
  intro n
  induction n with
  | zero =>
    intro i hi
    refine Ev.step (f := fun _ => some true) (fun k => ?_) ?_
    · unfold spec_NameOk.l0
      rw [if_neg (by rw [sz]; omega)]
    · rw [List.drop_of_length_le (by omega)]; exact Ev.now _
  | succ n ih =>
    intro i hi
    have hlt : i < s.data.toList.length := by omega
    have e : spec_l1More.f (bt s (i : Int)) = some (moreB (s.data.toList[i])) := by rw [bt_nat s i hlt]; exact more_f _
    have hd : s.data.toList.drop i = s.data.toList[i] :: s.data.toList.drop (i + 1) := List.drop_eq_getElem_cons hlt
    have w : wrap64 ((i : Int) + 1) = ((i + 1 : Nat) : Int) := by rw [w64] <;> omega
    by_cases c : moreB (s.data.toList[i]) = true
    · refine Ev.step (f := fun k => spec_NameOk.l0 k s ((i + 1 : Nat) : Int)) (fun k => ?_) ?_
      · conv => lhs; unfold spec_NameOk.l0
        rw [if_pos (by rw [sz]; omega), if_pos (by omega), e]
        simp only [Option.bind_some, if_pos c, w]
      · rw [hd, List.all_cons, c, Bool.true_and]; exact ih (i + 1) (by omega)
    · refine Ev.step (f := fun _ => some false) (fun k => ?_) ?_
      · conv => lhs; unfold spec_NameOk.l0
        rw [if_pos (by rw [sz]; omega), if_pos (by omega), e]
        simp only [Option.bind_some, if_neg c]
      · rw [hd, List.all_cons]
        rw [Bool.not_eq_true] at c
        rw [c, Bool.false_and]; exact Ev.now _
theorem spec_name (s : ByteArray) : Ev (fun k => spec_NameOk.f k s) (nameB s.data.toList) := by
  cases hl : s.data.toList with
  | nil =>
    refine Ev.congr (f := fun k => spec_NameOk.j0 k s true) (fun k => ?_) ?_
    · unfold spec_NameOk.f
      rw [if_pos (by rw [sz, hl]; decide)]
    · refine Ev.step (f := fun _ => some false) (fun k => ?_) (Ev.now _)
      rfl
  | cons b t =>
    have hz : (s.size : Int) = (t.length : Int) + 1 := by rw [sz, hl]; simp
    by_cases c : t.length + 1 ≤ 40
    · refine Ev.congr (f := fun k => spec_NameOk.j0 k s (!fstB b)) (fun k => ?_) ?_
      · unfold spec_NameOk.f
        rw [if_neg (by omega), if_neg (by omega), if_pos (by omega), first_bt s b t hl, first_f]
        rfl
      · by_cases d : fstB b = true
        · refine Ev.step (f := fun k => spec_NameOk.l0 k s ((1 : Nat) : Int)) (fun k => ?_) ?_
          · rw [d]; rfl
          · have := spec_name_l0 s (by rw [hl]; simp; omega) t.length 1 (by rw [hl]; simp; omega)
            rw [hl] at this
            have e : nameB (b :: t) = ((b :: t).drop 1).all moreB := by simp [nameB, d, c]
            rw [e]; exact this
        · rw [Bool.not_eq_true] at d
          have e : nameB (b :: t) = false := by simp [nameB, d]
          rw [e]
          refine Ev.step (f := fun _ => some false) (fun k => ?_) (Ev.now _)
          rw [d]; rfl
    · have e : nameB (b :: t) = false := by simp [nameB, c]
      rw [e]
      refine Ev.congr (f := fun k => spec_NameOk.j0 k s true) (fun k => ?_) ?_
      · unfold spec_NameOk.f
        rw [if_neg (by omega), if_pos (by omega)]
      · refine Ev.step (f := fun _ => some false) (fun k => ?_) (Ev.now _)
        rfl

def lenB (n : Nat) : Bool := decide (1 ≤ n) && decide (n ≤ 40)
theorem in_len (n : Nat) : impl_in.f (n : Int) 1 40 = some (lenB n) := by
  unfold impl_in.f lenB
  by_cases h : 1 ≤ n
  · rw [if_pos (by omega)]; simp [h]; omega
  · rw [if_neg (by omega)]; simp [h]
theorem fst_iff (b : UInt8) : fstB b = true ↔ ((97 ≤ (b.toNat : Int) ∧ (b.toNat : Int) ≤ 122) ∨ (65 ≤ (b.toNat : Int) ∧ (b.toNat : Int) ≤ 90) ∨ (b.toNat : Int) = 95) := by
  unfold fstB
  simp only [Bool.or_eq_true, decide_eq_true_eq]
  omega
theorem more_iff (b : UInt8) : moreB b = true ↔ (((97 ≤ (b.toNat : Int) ∧ (b.toNat : Int) ≤ 122) ∨ (65 ≤ (b.toNat : Int) ∧ (b.toNat : Int) ≤ 90) ∨ (b.toNat : Int) = 95) ∨ (48 ≤ (b.toNat : Int) ∧ (b.toNat : Int) ≤ 57) ∨ (b.toNat : Int) = 46 ∨ (b.toNat : Int) = 45) := by
  unfold moreB
  simp only [Bool.or_eq_true, decide_eq_true_eq, fst_iff]
  omega
theorem impl_name_l0 (s : ByteArray) (hs : s.data.toList.length ≤ 9223372036854775806) : ∀ (n i : Nat), 1 ≤ i → i + n = s.data.toList.length →
    Ev (fun k => impl_NameOk.l0 k s (s.size : Int) (i : Int)) ((s.data.toList.drop i).all moreB && lenB s.data.toList.length) := by
  intro n
  induction n with
  | zero =>
    intro i h1 hi
    refine Ev.step (f := fun _ => some (lenB s.data.toList.length)) (fun k => ?_) ?_
    · unfold impl_NameOk.l0
      rw [if_neg (by rw [sz]; omega), sz, in_len]
      rfl
    · rw [List.drop_of_length_le (by omega)]; exact Ev.now _
  | succ n ih =>
    intro i h1 hi
    have hlt : i < s.data.toList.length := by omega
    have hd : s.data.toList.drop i = s.data.toList[i] :: s.data.toList.drop (i + 1) := List.drop_eq_getElem_cons hlt
    have w : wrap64 ((i : Int) + 1) = ((i + 1 : Nat) : Int) := by rw [w64] <;> omega
    have hm := more_iff (s.data.toList[i])
    by_cases c : moreB (s.data.toList[i]) = true
    · have hv := hm.1 c
      refine Ev.step (f := fun k => impl_NameOk.l0 k s (s.size : Int) ((i + 1 : Nat) : Int)) (fun k => ?_) ?_
      · conv => lhs; unfold impl_NameOk.l0
        rw [if_pos (by rw [sz]; omega), if_pos (by omega), if_pos (by rw [sz]; omega), bt_nat s i hlt, w]
        generalize impl_NameOk.l0 k s (s.size : Int) ((i + 1 : Nat) : Int) = X
        generalize ((s.data.toList[i]).toNat : Int) = v at hv
        clear hm ih c hd w hs hi hlt
        have hi0 : ¬ (i : Int) = 0 := by omega
        simp only [if_neg hi0]
        clear hi0 h1
        repeat' split
        all_goals first | rfl | (exfalso; omega)
      · rw [hd, List.all_cons, c, Bool.true_and]; exact ih (i + 1) (by omega) (by omega)
    · have hv := mt hm.2 c
      refine Ev.step (f := fun _ => some false) (fun k => ?_) ?_
      · conv => lhs; unfold impl_NameOk.l0
        rw [if_pos (by rw [sz]; omega), if_pos (by omega), if_pos (by rw [sz]; omega), bt_nat s i hlt, w]
        generalize impl_NameOk.l0 k s (s.size : Int) ((i + 1 : Nat) : Int) = X
        generalize ((s.data.toList[i]).toNat : Int) = v at hv
        clear hm ih c hd w hs hi hlt
        have hi0 : ¬ (i : Int) = 0 := by omega
        simp only [if_neg hi0]
        clear hi0 h1
        repeat' split
        all_goals first | rfl | (exfalso; omega)
      · rw [hd, List.all_cons]
        rw [Bool.not_eq_true] at c
        rw [c, Bool.false_and, Bool.false_and]; exact Ev.now _
theorem impl_name (s : ByteArray) (hs : s.data.toList.length ≤ 9223372036854775806) : Ev (fun k => impl_NameOk.f k s) (nameB s.data.toList) := by
  cases hl : s.data.toList with
  | nil =>
    unfold impl_NameOk.f
    refine Ev.step (f := fun _ => some false) (fun k => ?_) (Ev.now _)
    unfold impl_NameOk.l0
    have hz : s.size = 0 := by rw [sz, hl]; rfl
    rw [if_neg (by omega), hz]
    rfl
  | cons b t =>
    have hlt : 0 < s.data.toList.length := by rw [hl]; simp
    have hlen : s.data.toList.length = t.length + 1 := by rw [hl]; simp
    have w : wrap64 ((0 : Int) + 1) = ((1 : Nat) : Int) := by rw [w64 (by omega) (by omega)]; rfl
    have hm := fst_iff b
    have eb : bt s 0 = (b.toNat : Int) := first_bt s b t hl
    unfold impl_NameOk.f
    by_cases c : fstB b = true
    · have hv := hm.1 c
      refine Ev.step (f := fun k => impl_NameOk.l0 k s (s.size : Int) ((1 : Nat) : Int)) (fun k => ?_) ?_
      · conv => lhs; unfold impl_NameOk.l0
        rw [if_pos (by rw [sz]; omega), if_pos (by omega), if_pos (by rw [sz]; omega), eb, w]
        generalize impl_NameOk.l0 k s (s.size : Int) ((1 : Nat) : Int) = X
        generalize (b.toNat : Int) = v at hv
        clear hm c eb w hs hlt hlen hl
        simp only [if_true]
        repeat' split
        all_goals first | rfl | (exfalso; omega)
      · have := impl_name_l0 s hs t.length 1 (by omega) (by omega)
        rw [hl] at this
        have e : nameB (b :: t) = (((b :: t).drop 1).all moreB && lenB (b :: t).length) := by
          simp [nameB, lenB, c]
        rw [e]; exact this
    · have hv := mt hm.2 c
      refine Ev.step (f := fun _ => some false) (fun k => ?_) ?_
      · conv => lhs; unfold impl_NameOk.l0
        rw [if_pos (by rw [sz]; omega), if_pos (by omega), if_pos (by rw [sz]; omega), eb, w]
        generalize impl_NameOk.l0 k s (s.size : Int) ((1 : Nat) : Int) = X
        generalize (b.toNat : Int) = v at hv
        clear hm c eb w hs hlt hlen hl
        simp only [if_true]
        repeat' split
        all_goals first | rfl | (exfalso; omega)
      · rw [Bool.not_eq_true] at c
        have e : nameB (b :: t) = false := by simp [nameB, c]
        rw [e]; exact Ev.now _
def B (s : ByteArray) (i : Nat) : Nat := (s.get! i).toNat
theorem B_lt (s : ByteArray) (i : Nat) : B s i < 256 := (s.get! i).toNat_lt
theorem bt_B (s : ByteArray) (i : Nat) (h : i < s.size) : bt s (i : Int) = (B s i : Int) := by
  have hl : i < s.data.toList.length := by rw [← sz]; exact h
  rw [bt_nat s i hl]
  have h2 : i < s.data.size := by simpa using hl
  have e : s.get! i = s.data[i] := by unfold ByteArray.get!; exact getElem!_pos s.data i h2
  unfold B
  rw [e]
  simp
theorem tm (b m : Nat) : Int.tmod (b : Int) (m : Int) = ((b % m : Nat) : Int) := (Int.ofNat_tmod b m).symm
def charB (x : Nat) : Bool := decide (x ≤ 55295) || (decide (57344 ≤ x) && decide (x ≤ 1114111))
theorem char_f (x : Nat) : spec_l1Char.f (x : Int) = some (charB x) := by
  unfold spec_l1Char.f spec_l1In.f charB
  by_cases h1 : x ≤ 55295
  · rw [if_pos (by omega)]
    have : decide ((x : Int) ≤ 55295) = true := decide_eq_true (by omega)
    rw [this]
    simp [h1]
  · rw [if_pos (by omega)]
    have : decide ((x : Int) ≤ 55295) = false := decide_eq_false (by omega)
    rw [this]
    simp only [Option.bind_some, Bool.false_eq_true, if_false]
    by_cases h2 : 57344 ≤ x
    · rw [if_pos (by omega)]
      have e : decide ((x : Int) ≤ 1114111) = decide (x ≤ 1114111) := by simp only [decide_eq_decide]; omega
      simp [h1, h2, e]
    · rw [if_neg (by omega)]
      simp [h1, h2]
def finV (x n low : Nat) : Int × Int := if x < low then (0, 0) else if charB x = true then ((x : Int), (n : Int)) else (0, 0)
theorem l0_end (s : ByteArray) (x n low : Nat) : Ev (fun k => spec_l1Rune.l0 k s (x : Int) (n : Int) (low : Int) (n : Int)) (finV x n low) := by
  refine Ev.step (f := fun _ => some (finV x n low)) (fun k => ?_) (Ev.now _)
  conv => lhs; unfold spec_l1Rune.l0
  rw [if_neg (by omega), char_f]
  unfold finV
  by_cases h : x < low
  · rw [if_pos (by omega), if_pos h]
  · rw [if_neg (by omega), if_neg h]
    simp only [Option.bind_some]
    cases charB x <;> rfl
theorem l0_go (s : ByteArray) (x n low i : Nat) (hi : i < n) (hs : i < s.size) (hn : n ≤ 4) (hx : x < 4194304) (hc : B s i / 64 = 2) (r : Int × Int)
    (h : Ev (fun k => spec_l1Rune.l0 k s ((64 * x + B s i % 64 : Nat) : Int) (n : Int) (low : Int) ((i + 1 : Nat) : Int)) r) : Ev (fun k => spec_l1Rune.l0 k s (x : Int) (n : Int) (low : Int) (i : Int)) r := by
  have hb := B_lt s i
  refine Ev.step (fun k => ?_) h
  conv => lhs; unfold spec_l1Rune.l0
  have e1 : wrap64 (64 * (x : Int)) = ((64 * x : Nat) : Int) := by rw [w64] <;> omega
  have e2 : wrap64 (Int.tmod (B s i : Int) 64) = ((B s i % 64 : Nat) : Int) := by
    have := tm (B s i) 64
    rw [show ((64 : Nat) : Int) = 64 from rfl] at this
    rw [this, w64] <;> omega
  have e3 : wrap64 (((64 * x : Nat) : Int) + ((B s i % 64 : Nat) : Int)) = ((64 * x + B s i % 64 : Nat) : Int) := by rw [w64] <;> omega
  have e4 : wrap64 ((i : Int) + 1) = ((i + 1 : Nat) : Int) := by rw [w64] <;> omega
  rw [if_pos (by omega), if_pos (by omega), if_pos (by omega), bt_B s i hs, if_neg (by omega), if_neg (by omega), e1, e2, e3, e4]
theorem l0_no (s : ByteArray) (x n low i : Nat) (hi : i < n) (hs : i < s.size) (hc : ¬ B s i / 64 = 2) : Ev (fun k => spec_l1Rune.l0 k s (x : Int) (n : Int) (low : Int) (i : Int)) (0, 0) := by
  have hb := B_lt s i
  refine Ev.step (f := fun _ => some (0, 0)) (fun k => ?_) (Ev.now _)
  conv => lhs; unfold spec_l1Rune.l0
  rw [if_pos (by omega), if_pos (by omega), if_pos (by omega), bt_B s i hs]
  by_cases h : B s i < 128
  · rw [if_pos (by omega)]
  · rw [if_neg (by omega), if_pos (by omega)]
/-- What the reference says of the first character: the model's decoding, 0 bytes where that fails. -/
def runeV (s : ByteArray) : Int × Int := if (Utf8.decode s 0).1 = 65533 ∧ (Utf8.decode s 0).2 = 1 then (0, 0) else (((Utf8.decode s 0).1 : Int), ((Utf8.decode s 0).2 : Int))
def runeN (n b0 b1 b2 b3 : Nat) : Int × Int := if (Lib.decodeN n b0 b1 b2 b3).1 = 65533 ∧ (Lib.decodeN n b0 b1 b2 b3).2 = 1 then (0, 0) else (((Lib.decodeN n b0 b1 b2 b3).1 : Int), ((Lib.decodeN n b0 b1 b2 b3).2 : Int))
theorem runeV_N (s : ByteArray) : runeV s = runeN s.size (B s 0) (B s 1) (B s 2) (B s 3) := by
  unfold runeV runeN B
  rw [Lib.decode_at s 0]
  simp only [Nat.sub_zero, Nat.zero_add]
theorem j2_few (s : ByteArray) (x n low : Nat) (h : s.size < n) : Ev (fun k => spec_l1Rune.j2 k s (x : Int) (n : Int) (low : Int)) (0, 0) := by
  refine Ev.step (f := fun _ => some (0, 0)) (fun k => ?_) (Ev.now _)
  have e : spec_l1Rune.j2 (k + 1) s (x : Int) (n : Int) (low : Int) = (if (s.size : Int) < (n : Int) then some (0, 0) else spec_l1Rune.l0 k s (x : Int) (n : Int) (low : Int) 1) := rfl
  rw [e, if_pos (by omega)]
theorem j2_go (s : ByteArray) (x n low : Nat) (h : n ≤ s.size) (r : Int × Int) (hr : Ev (fun k => spec_l1Rune.l0 k s (x : Int) (n : Int) (low : Int) ((1 : Nat) : Int)) r) : Ev (fun k => spec_l1Rune.j2 k s (x : Int) (n : Int) (low : Int)) r := by
  refine Ev.step (f := fun k => spec_l1Rune.l0 k s (x : Int) (n : Int) (low : Int) ((1 : Nat) : Int)) (fun k => ?_) hr
  have e : spec_l1Rune.j2 (k + 1) s (x : Int) (n : Int) (low : Int) = (if (s.size : Int) < (n : Int) then some (0, 0) else spec_l1Rune.l0 k s (x : Int) (n : Int) (low : Int) 1) := rfl
  rw [e, if_neg (by omega)]
  rfl
theorem bad_N {n b0 b1 b2 b3 : Nat} (h : Lib.decodeN n b0 b1 b2 b3 = (65533, 1)) : runeN n b0 b1 b2 b3 = (0, 0) := by
  unfold runeN; rw [h]; rfl
theorem two_rune (s : ByteArray) (h0 : B s 0 / 32 = 6) : Ev (fun k => spec_l1Rune.j2 k s ((B s 0 % 32 : Nat) : Int) ((2 : Nat) : Int) ((128 : Nat) : Int)) (runeN s.size (B s 0) (B s 1) (B s 2) (B s 3)) := by
  have hb := B_lt s 0
  by_cases hz : s.size < 2
  · rw [bad_N]
    · exact j2_few s _ 2 128 hz
    · unfold Lib.decodeN
      rw [if_neg (by omega), if_neg (by omega), if_neg (by omega), if_neg (by omega)]
  · refine j2_go s _ 2 128 (by omega) _ ?_
    by_cases c1 : B s 1 / 64 = 2
    · refine l0_go s _ 2 128 1 (by omega) (by omega) (by omega) (by omega) c1 _ ?_
      have e : runeN s.size (B s 0) (B s 1) (B s 2) (B s 3) = finV (64 * (B s 0 % 32) + B s 1 % 64) 2 128 := by
        unfold runeN Lib.decodeN finV charB
        rw [if_neg (show ¬ B s 0 < 128 by omega), if_pos (show B s 0 / 32 = 6 ∧ (1 < s.size ∧ B s 1 / 64 = 2) from ⟨h0, by omega, c1⟩)]
        by_cases c : B s 0 % 32 * 64 + B s 1 % 64 ≥ 128
        · rw [if_pos c, if_neg (show ¬ (64 * (B s 0 % 32) + B s 1 % 64) < 128 by omega)]
          rw [decide_eq_true (show 64 * (B s 0 % 32) + B s 1 % 64 ≤ 55295 by omega)]
          simp only [Bool.true_or, if_true]
          rw [if_neg (show ¬ (B s 0 % 32 * 64 + B s 1 % 64 = 65533 ∧ (2 : Nat) = 1) by omega)]
          congr 1
          omega
        · rw [if_neg c, if_pos (show (64 * (B s 0 % 32) + B s 1 % 64) < 128 by omega)]
          rfl
      rw [e]
      exact l0_end s _ 2 128
    · rw [bad_N]
      · exact l0_no s _ 2 128 1 (by omega) (by omega) c1
      · unfold Lib.decodeN
        rw [if_neg (by omega), if_neg (by omega), if_neg (by omega), if_neg (by omega)]
theorem three_rune (s : ByteArray) (h0 : B s 0 / 16 = 14) : Ev (fun k => spec_l1Rune.j2 k s ((B s 0 % 16 : Nat) : Int) ((3 : Nat) : Int) ((2048 : Nat) : Int)) (runeN s.size (B s 0) (B s 1) (B s 2) (B s 3)) := by
  have hb := B_lt s 0
  by_cases hz : s.size < 3
  · rw [bad_N]
    · exact j2_few s _ 3 2048 hz
    · unfold Lib.decodeN
      rw [if_neg (by omega), if_neg (by omega), if_neg (by omega), if_neg (by omega)]
  · refine j2_go s _ 3 2048 (by omega) _ ?_
    by_cases c1 : B s 1 / 64 = 2
    · refine l0_go s _ 3 2048 1 (by omega) (by omega) (by omega) (by omega) c1 _ ?_
      by_cases c2 : B s 2 / 64 = 2
      · refine l0_go s _ 3 2048 2 (by omega) (by omega) (by omega) (by omega) c2 _ ?_
        have e : runeN s.size (B s 0) (B s 1) (B s 2) (B s 3) = finV (64 * (64 * (B s 0 % 16) + B s 1 % 64) + B s 2 % 64) 3 2048 := by
          obtain ⟨y, hy⟩ : ∃ y, 64 * (64 * (B s 0 % 16) + B s 1 % 64) + B s 2 % 64 = y := ⟨_, rfl⟩
          have hy2 : B s 0 % 16 * 4096 + B s 1 % 64 * 64 + B s 2 % 64 = y := by omega
          unfold runeN Lib.decodeN
          rw [hy, hy2, if_neg (show ¬ B s 0 < 128 by omega), if_neg (show ¬ (B s 0 / 32 = 6 ∧ (1 < s.size ∧ B s 1 / 64 = 2)) by omega), if_pos (show B s 0 / 16 = 14 ∧ (1 < s.size ∧ B s 1 / 64 = 2) ∧ (2 < s.size ∧ B s 2 / 64 = 2) from ⟨h0, ⟨by omega, c1⟩, by omega, c2⟩)]
          clear hy hy2
          unfold finV charB
          by_cases d : y < 2048
          · rw [if_neg (show ¬ (y ≥ 2048 ∧ (y < 55296 ∨ (57344 ≤ y ∧ y ≤ 1114111))) by omega), if_pos d]; rfl
          · by_cases d2 : y < 55296 ∨ (57344 ≤ y ∧ y ≤ 1114111)
            · rw [if_pos (show y ≥ 2048 ∧ (y < 55296 ∨ (57344 ≤ y ∧ y ≤ 1114111)) from ⟨by omega, d2⟩), if_neg (show ¬ (((y, 3) : Nat × Nat).1 = 65533 ∧ ((y, 3) : Nat × Nat).2 = 1) from fun h => by cases h.2), if_neg d, if_pos (show (decide (y ≤ 55295) || (decide (57344 ≤ y) && decide (y ≤ 1114111))) = true by simp only [Bool.or_eq_true, Bool.and_eq_true, decide_eq_true_eq]; omega)]
            · rw [if_neg (show ¬ (y ≥ 2048 ∧ (y < 55296 ∨ (57344 ≤ y ∧ y ≤ 1114111))) by omega), if_neg d, if_neg (show ¬ ((decide (y ≤ 55295) || (decide (57344 ≤ y) && decide (y ≤ 1114111))) = true) by simp only [Bool.or_eq_true, Bool.and_eq_true, decide_eq_true_eq]; omega)]; rfl
        rw [e]
        exact l0_end s _ 3 2048
      · rw [bad_N]
        · exact l0_no s _ 3 2048 2 (by omega) (by omega) c2
        · unfold Lib.decodeN
          rw [if_neg (by omega), if_neg (by omega), if_neg (by omega), if_neg (by omega)]
    · rw [bad_N]
      · exact l0_no s _ 3 2048 1 (by omega) (by omega) c1
      · unfold Lib.decodeN
        rw [if_neg (by omega), if_neg (by omega), if_neg (by omega), if_neg (by omega)]
theorem four_rune (s : ByteArray) (h0 : B s 0 / 8 = 30) : Ev (fun k => spec_l1Rune.j2 k s ((B s 0 % 8 : Nat) : Int) ((4 : Nat) : Int) ((65536 : Nat) : Int)) (runeN s.size (B s 0) (B s 1) (B s 2) (B s 3)) := by
  have hb := B_lt s 0
  by_cases hz : s.size < 4
  · rw [bad_N]
    · exact j2_few s _ 4 65536 hz
    · unfold Lib.decodeN
      rw [if_neg (by omega), if_neg (by omega), if_neg (by omega), if_neg (by omega)]
  · refine j2_go s _ 4 65536 (by omega) _ ?_
    by_cases c1 : B s 1 / 64 = 2
    · refine l0_go s _ 4 65536 1 (by omega) (by omega) (by omega) (by omega) c1 _ ?_
      by_cases c2 : B s 2 / 64 = 2
      · refine l0_go s _ 4 65536 2 (by omega) (by omega) (by omega) (by omega) c2 _ ?_
        by_cases c3 : B s 3 / 64 = 2
        · refine l0_go s _ 4 65536 3 (by omega) (by omega) (by omega) (by omega) c3 _ ?_
          have e : runeN s.size (B s 0) (B s 1) (B s 2) (B s 3) = finV (64 * (64 * (64 * (B s 0 % 8) + B s 1 % 64) + B s 2 % 64) + B s 3 % 64) 4 65536 := by
            obtain ⟨y, hy⟩ : ∃ y, 64 * (64 * (64 * (B s 0 % 8) + B s 1 % 64) + B s 2 % 64) + B s 3 % 64 = y := ⟨_, rfl⟩
            have hy2 : B s 0 % 8 * 262144 + B s 1 % 64 * 4096 + B s 2 % 64 * 64 + B s 3 % 64 = y := by omega
            unfold runeN Lib.decodeN
            rw [hy, hy2, if_neg (show ¬ B s 0 < 128 by omega), if_neg (show ¬ (B s 0 / 32 = 6 ∧ (1 < s.size ∧ B s 1 / 64 = 2)) by omega), if_neg (show ¬ (B s 0 / 16 = 14 ∧ (1 < s.size ∧ B s 1 / 64 = 2) ∧ (2 < s.size ∧ B s 2 / 64 = 2)) by omega), if_pos (show B s 0 / 8 = 30 ∧ (1 < s.size ∧ B s 1 / 64 = 2) ∧ (2 < s.size ∧ B s 2 / 64 = 2) ∧ (3 < s.size ∧ B s 3 / 64 = 2) from ⟨h0, ⟨by omega, c1⟩, ⟨by omega, c2⟩, by omega, c3⟩)]
            clear hy hy2
            unfold finV charB
            by_cases d : y < 65536
            · rw [if_neg (show ¬ (y ≥ 65536 ∧ (y < 55296 ∨ (57344 ≤ y ∧ y ≤ 1114111))) by omega), if_pos d]; rfl
            · by_cases d2 : y < 55296 ∨ (57344 ≤ y ∧ y ≤ 1114111)
              · rw [if_pos (show y ≥ 65536 ∧ (y < 55296 ∨ (57344 ≤ y ∧ y ≤ 1114111)) from ⟨by omega, d2⟩), if_neg (show ¬ (((y, 4) : Nat × Nat).1 = 65533 ∧ ((y, 4) : Nat × Nat).2 = 1) from fun h => by cases h.2), if_neg d, if_pos (show (decide (y ≤ 55295) || (decide (57344 ≤ y) && decide (y ≤ 1114111))) = true by simp only [Bool.or_eq_true, Bool.and_eq_true, decide_eq_true_eq]; omega)]
              · rw [if_neg (show ¬ (y ≥ 65536 ∧ (y < 55296 ∨ (57344 ≤ y ∧ y ≤ 1114111))) by omega), if_neg d, if_neg (show ¬ ((decide (y ≤ 55295) || (decide (57344 ≤ y) && decide (y ≤ 1114111))) = true) by simp only [Bool.or_eq_true, Bool.and_eq_true, decide_eq_true_eq]; omega)]; rfl
          rw [e]
          exact l0_end s _ 4 65536
        · rw [bad_N]
          · exact l0_no s _ 4 65536 3 (by omega) (by omega) c3
          · unfold Lib.decodeN
            rw [if_neg (by omega), if_neg (by omega), if_neg (by omega), if_neg (by omega)]
      · rw [bad_N]
        · exact l0_no s _ 4 65536 2 (by omega) (by omega) c2
        · unfold Lib.decodeN
          rw [if_neg (by omega), if_neg (by omega), if_neg (by omega), if_neg (by omega)]
    · rw [bad_N]
      · exact l0_no s _ 4 65536 1 (by omega) (by omega) c1
      · unfold Lib.decodeN
        rw [if_neg (by omega), if_neg (by omega), if_neg (by omega), if_neg (by omega)]
theorem tmod_of (b m : Nat) : Int.tmod (b : Int) (m : Int) = ((b % m : Nat) : Int) := tm b m
theorem j0_true (k : Nat) (s : ByteArray) (x : Int) : spec_l1Rune.j0 (k + 1) s x true = spec_l1Rune.j2 k s (Int.tmod x 32) 2 128 := rfl
theorem j0_false (k : Nat) (s : ByteArray) (x : Int) : spec_l1Rune.j0 (k + 1) s x false = (if x ≥ 224 then (spec_l1Rune.j1 k s x (decide (x < 240))) else (spec_l1Rune.j1 k s x false)) := rfl
theorem j1_true (k : Nat) (s : ByteArray) (x : Int) : spec_l1Rune.j1 (k + 1) s x true = spec_l1Rune.j2 k s (Int.tmod x 16) 3 2048 := rfl
theorem j1_false (k : Nat) (s : ByteArray) (x : Int) : spec_l1Rune.j1 (k + 1) s x false = (if x ≥ 240 then (if x < 248 then (spec_l1Rune.j2 k s (Int.tmod x 8) 4 65536) else (some (0, 0))) else (some (0, 0))) := rfl
theorem rune_f (s : ByteArray) (hne : 0 < s.size) : Ev (fun k => spec_l1Rune.f k s) (runeV s) := by
  rw [runeV_N]
  have hb := B_lt s 0
  have hnil : ¬ s.toList = ([] : List UInt8) := by
    rw [Lib.toList_data]
    intro e
    rw [sz, e] at hne
    simp at hne
  have hw : wrap64 (bt s 0) = (B s 0 : Int) := by
    have := bt_B s 0 hne
    rw [show ((0 : Nat) : Int) = 0 from rfl] at this
    rw [this, w64] <;> omega
  by_cases a : B s 0 < 128
  · refine Ev.congr (f := fun _ => some ((B s 0 : Int), 1)) (fun k => ?_) ?_
    · unfold spec_l1Rune.f
      rw [if_neg hnil, if_pos (by omega), hw, if_pos (by omega)]
    · have : runeN s.size (B s 0) (B s 1) (B s 2) (B s 3) = ((B s 0 : Int), 1) := by
        unfold runeN Lib.decodeN
        rw [if_pos a, if_neg (show ¬ (B s 0 = 65533 ∧ (1 : Nat) = 1) by omega)]
        rfl
      rw [this]
      exact Ev.now _
  · have hf : ∀ k, spec_l1Rune.f k s = if (B s 0 : Int) ≥ 192 then (spec_l1Rune.j0 k s (B s 0 : Int) (decide ((B s 0 : Int) < 224))) else (spec_l1Rune.j0 k s (B s 0 : Int) false) := by
      intro k
      unfold spec_l1Rune.f
      rw [if_neg hnil, if_pos (by omega), hw, if_neg (by omega)]
    by_cases c2 : B s 0 / 32 = 6
    · refine Ev.congr (f := fun k => spec_l1Rune.j0 k s (B s 0 : Int) true) (fun k => ?_) ?_
      · rw [hf, if_pos (by omega), decide_eq_true (by omega)]
      · refine Ev.step (f := fun k => spec_l1Rune.j2 k s ((B s 0 % 32 : Nat) : Int) ((2 : Nat) : Int) ((128 : Nat) : Int)) (fun k => ?_) (two_rune s c2)
        rw [j0_true, ← tmod_of]
        rfl
    · have hj1 : ∀ r, Ev (fun k => if (B s 0 : Int) ≥ 224 then (spec_l1Rune.j1 k s (B s 0 : Int) (decide ((B s 0 : Int) < 240))) else (spec_l1Rune.j1 k s (B s 0 : Int) false)) r → Ev (fun k => spec_l1Rune.f k s) r := by
        intro r hr
        refine Ev.congr (f := fun k => spec_l1Rune.j0 k s (B s 0 : Int) false) (fun k => ?_) ?_
        · rw [hf]
          by_cases d : (B s 0 : Int) ≥ 192
          · rw [if_pos d, decide_eq_false (by omega)]
          · rw [if_neg d]
        · exact Ev.step (fun k => j0_false k s _) hr
      by_cases c3 : B s 0 / 16 = 14
      · refine hj1 _ ?_
        refine Ev.congr (f := fun k => spec_l1Rune.j1 k s (B s 0 : Int) true) (fun k => ?_) ?_
        · rw [if_pos (by omega), decide_eq_true (by omega)]
        · refine Ev.step (f := fun k => spec_l1Rune.j2 k s ((B s 0 % 16 : Nat) : Int) ((3 : Nat) : Int) ((2048 : Nat) : Int)) (fun k => ?_) (three_rune s c3)
          rw [j1_true, ← tmod_of]
          rfl
      · have hj1f : ∀ r, Ev (fun k => if (B s 0 : Int) ≥ 240 then (if (B s 0 : Int) < 248 then (spec_l1Rune.j2 k s (Int.tmod (B s 0 : Int) 8) 4 65536) else (some (0, 0))) else (some (0, 0))) r → Ev (fun k => spec_l1Rune.f k s) r := by
          intro r hr
          refine hj1 _ ?_
          refine Ev.congr (f := fun k => spec_l1Rune.j1 k s (B s 0 : Int) false) (fun k => ?_) ?_
          · by_cases d : (B s 0 : Int) ≥ 224
            · rw [if_pos d, decide_eq_false (by omega)]
            · rw [if_neg d]
          · exact Ev.step (fun k => j1_false k s _) hr
        refine hj1f _ ?_
        by_cases c4 : B s 0 / 8 = 30
        · refine Ev.congr (f := fun k => spec_l1Rune.j2 k s ((B s 0 % 8 : Nat) : Int) ((4 : Nat) : Int) ((65536 : Nat) : Int)) (fun k => ?_) (four_rune s c4)
          rw [if_pos (by omega), if_pos (by omega), ← tmod_of]
          rfl
        · rw [bad_N]
          · refine Ev.congr (f := fun _ => some (0, 0)) (fun k => ?_) (Ev.now _)
            by_cases d : (B s 0 : Int) ≥ 240
            · rw [if_pos d, if_neg (by omega)]
            · rw [if_neg d]
          · unfold Lib.decodeN
            rw [if_neg (by omega), if_neg (by omega), if_neg (by omega), if_neg (by omega)]
def runesV (s : ByteArray) : List Int × Bool := if 20000 < s.size then ([], false) else if Lib.validD s.data.toList = true then (runesOf s, true) else ([], false)
theorem impl_runes (s : ByteArray) (hs : s.size ≤ 9223372036854775807) : impl_Runes.f s = some (runesV s) := by
  unfold impl_Runes.f runesV
  rw [if_pos hs]
  split
  · rfl
  · split <;> rfl
theorem spec_runes_l0 (s : ByteArray) (hs : s.size ≤ 20000) : ∀ (fuel pos : Nat) (acc : List Int), s.size ≤ pos + fuel → pos ≤ s.size → acc.length ≤ pos →
    Ev (fun k => spec_Runes.l0 k (s.extract pos s.size) acc) (if Lib.validD (s.data.toList.drop pos) = true then (acc ++ runesFrom s fuel pos, true) else ([], false)) := by
  intro fuel
  have hend : ∀ (fuel pos : Nat) (acc : List Int), pos = s.size → Ev (fun k => spec_Runes.l0 k (s.extract pos s.size) acc) (if Lib.validD (s.data.toList.drop pos) = true then (acc ++ runesFrom s fuel pos, true) else ([], false)) := by
    intro fuel pos acc e
    have hd : s.data.toList.drop pos = [] := List.drop_of_length_le (by rw [← sz]; omega)
    rw [runesFrom_end s fuel pos (by omega), hd, Lib.validD_nil, if_pos rfl, List.append_nil]
    refine Ev.step (f := fun _ => some (acc, true)) (fun k => ?_) (Ev.now _)
    conv => lhs; unfold spec_Runes.l0
    rw [if_pos (by rw [Lib.toList_data, Lib.extract_to_end, hd])]
  induction fuel with
  | zero =>
    intro pos acc h1 h2 h3
    exact hend 0 pos acc (by omega)
  | succ f ih =>
    intro pos acc h1 h2 h3
    by_cases he : pos = s.size
    · exact hend (f + 1) pos acc he
    · obtain ⟨t, ht⟩ : ∃ t, s.extract pos s.size = t := ⟨_, rfl⟩
      have htl : t.data.toList = s.data.toList.drop pos := by rw [← ht]; exact Lib.extract_to_end s pos
      have htz : t.size = s.size - pos := by rw [sz t, htl, List.length_drop, ← sz]
      have hne : s.data.toList.drop pos ≠ [] := by
        intro e
        have := congrArg List.length e
        rw [List.length_drop, ← sz] at this
        simp at this
        omega
      have hdec : Utf8.decode t 0 = Utf8.decode s pos := by
        have e1 := Lib.decodeL_drop t 0
        have e2 := Lib.decodeL_drop s pos
        rw [List.drop_zero, htl] at e1
        rw [← e1, e2]
      have hdl := Lib.decodeL_drop s pos
      have hstep := Lib.validD_step (s.data.toList.drop pos) hne
      have hle := Lib.decodeL_le (s.data.toList.drop pos) hne
      rw [hdl] at hstep hle
      rw [List.length_drop, ← sz] at hle
      have hw := rune_width s pos (by omega)
      have hr := rune_f t (by omega)
      have hV : runeV t = if (Utf8.decode s pos).1 = 65533 ∧ (Utf8.decode s pos).2 = 1 then (0, 0) else (((Utf8.decode s pos).1 : Int), ((Utf8.decode s pos).2 : Int)) := by
        unfold runeV
        rw [hdec]
      have hnil : ¬ t.toList = ([] : List UInt8) := by rw [Lib.toList_data, htl]; exact hne
      rw [ht]
      have hf : ∀ k, spec_Runes.l0 (k + 1) t acc = (spec_l1Rune.f k t).bind fun bt111 => (if bt111.2 = 0 then (some (([] : List Int), false)) else (if acc.length < 17592186044416 then (if 0 ≤ bt111.2 then (if bt111.2 ≤ (t.size : Int) then (spec_Runes.l0 k (t.extract (bt111.2 : Int).toNat t.size) (acc ++ [bt111.1])) else (none)) else (none)) else (none))) := by
        intro k
        conv => lhs; unfold spec_Runes.l0
        rw [if_neg hnil]
      refine Ev.step hf (Ev.bind hr ?_)
      rw [hV, hstep]
      by_cases hb : (Utf8.decode s pos).1 = 65533 ∧ (Utf8.decode s pos).2 = 1
      · rw [if_pos hb, if_pos hb, if_neg (by decide)]
        simp only [if_true]
        exact Ev.now _
      · rw [if_neg hb, if_neg hb]
        have hx : t.extract (Utf8.decode s pos).2 t.size = s.extract (pos + (Utf8.decode s pos).2) s.size := by
          apply ba_ext
          rw [Lib.extract_to_end, htl, Lib.extract_to_end, List.drop_drop]
        have hih := ih (pos + (Utf8.decode s pos).2) (acc ++ [((Utf8.decode s pos).1 : Int)]) (by omega) (by omega) (by simp; omega)
        rw [List.drop_drop]
        have hrf : runesFrom s (f + 1) pos = ((Utf8.decode s pos).1 : Int) :: runesFrom s f (pos + (Utf8.decode s pos).2) := by
          simp [runesFrom, show pos < s.size by omega]
        rw [hrf, ← hx] at *
        simp only [if_neg (show ¬ ((Utf8.decode s pos).2 : Int) = 0 by omega), if_pos (show acc.length < 17592186044416 by omega), if_pos (show (0 : Int) ≤ ((Utf8.decode s pos).2 : Int) by omega), if_pos (show ((Utf8.decode s pos).2 : Int) ≤ (t.size : Int) by omega), Int.toNat_natCast]
        simpa using hih
theorem spec_runes (s : ByteArray) : Ev (fun k => spec_Runes.f k s) (runesV s) := by
  unfold runesV
  by_cases c : 20000 < s.size
  · rw [if_pos c]
    refine Ev.congr (f := fun _ => some (([] : List Int), false)) (fun k => ?_) (Ev.now _)
    unfold spec_Runes.f
    rw [if_pos (by omega)]
  · rw [if_neg c]
    have h := spec_runes_l0 s (by omega) s.size 0 [] (by omega) (by omega) (by simp)
    have e : s.extract 0 s.size = s := by apply ba_ext; rw [Lib.extract_to_end, List.drop_zero]
    rw [e, List.drop_zero, List.nil_append] at h
    refine Ev.congr (f := fun k => spec_Runes.l0 k s []) (fun k => ?_) h
    unfold spec_Runes.f
    rw [if_neg (by omega)]
theorem Ev.step2' {α : Type} {g f : Nat → Option α} {r : α} (h : ∀ k, g (k + 1 + 1) = f k) (k : Ev f r) : Ev g r := Ev.step (f := fun k => g (k + 1)) (fun _ => rfl) (Ev.step h k)
theorem w1n {i m : Nat} (h : i < m) (hm : m ≤ 9223372036854775807) : wrap64 ((i : Int) + 1) = ((i + 1 : Nat) : Int) := by rw [w64] <;> omega
theorem idx_is {l : List UInt8} {c : UInt8} {i : Nat} (h1 : l[i]? = some c) (h2 : ∀ k : Nat, k < i → l[k]? ≠ some c) : Lib.indexByte l c = (i : Int) := by
  have hge := Lib.indexByte_ge l c
  by_cases e : Lib.indexByte l c = -1
  · exact absurd h1 (Lib.indexByte_none e i)
  · obtain ⟨o, ho⟩ := Int.eq_ofNat_of_zero_le (show 0 ≤ Lib.indexByte l c by omega)
    obtain ⟨h3, h4⟩ := Lib.indexByte_some ho
    rw [ho]
    rcases Nat.lt_trichotomy o i with h | h | h
    · exact absurd h3 (h2 o h)
    · rw [h]
    · exact absurd h1 (h4 i h)
theorem idx_no {l : List UInt8} {c : UInt8} (h : ∀ k : Nat, l[k]? ≠ some c) : Lib.indexByte l c = -1 := by
  have hge := Lib.indexByte_ge l c
  by_cases e : Lib.indexByte l c = -1
  · exact e
  · obtain ⟨o, ho⟩ := Int.eq_ofNat_of_zero_le (show 0 ≤ Lib.indexByte l c by omega)
    exact absurd (Lib.indexByte_some ho).1 (h o)
def noB : ByteArray := ⟨#[]⟩
/-- A name: its prefix, and what stands behind it. -/
def splitV (s : ByteArray) : ByteArray × ByteArray × Bool :=
  if 0 ≤ Lib.indexByte s.data.toList 58 then (if nameB (s.data.toList.take (Lib.indexByte s.data.toList 58).toNat) = true then (if nameB (s.data.toList.drop ((Lib.indexByte s.data.toList 58).toNat + 1)) = true then (s.extract 0 (Lib.indexByte s.data.toList 58).toNat, s.extract ((Lib.indexByte s.data.toList 58).toNat + 1) s.size, true) else (noB, noB, false)) else (noB, noB, false))
  else if nameB s.data.toList = true then (noB, s, true) else (noB, noB, false)
theorem ex_to (s : ByteArray) (n : Nat) : (s.extract 0 n).data.toList = s.data.toList.take n := by
  simp [ByteArray.data_extract]
theorem ex_from (s : ByteArray) (n : Nat) : (s.extract n s.size).data.toList = s.data.toList.drop n := Lib.extract_to_end s n
theorem impl_split (s : ByteArray) (hs : s.data.toList.length ≤ 9223372036854775806) : Ev (fun k => impl_Split.f k s) (splitV s) := by
  have hc : strings_Cut.f s ⟨#[58]⟩ = some (if 0 ≤ Lib.indexByte s.data.toList 58 then (s.extract 0 (Lib.indexByte s.data.toList 58).toNat, s.extract ((Lib.indexByte s.data.toList 58).toNat + 1) s.size, true) else (s, ⟨#[]⟩, false)) := by
    unfold strings_Cut.f
    simp only
    rw [if_pos (by rw [sz]; omega)]
    split <;> rfl
  unfold splitV
  by_cases h : 0 ≤ Lib.indexByte s.data.toList 58
  · rw [if_pos h] at hc ⊢
    have n1 := impl_name (s.extract 0 (Lib.indexByte s.data.toList 58).toNat) (by rw [ex_to, List.length_take]; omega)
    have n2 := impl_name (s.extract ((Lib.indexByte s.data.toList 58).toNat + 1) s.size) (by rw [ex_from, List.length_drop]; omega)
    rw [ex_to] at n1
    rw [ex_from] at n2
    generalize Lib.indexByte s.data.toList 58 = i at *
    refine Ev.congr (f := fun k => impl_Split.j0 k s (s.extract 0 i.toNat) (s.extract (i.toNat + 1) s.size) true false) (fun k => ?_) ?_
    · unfold impl_Split.f
      rw [hc, Option.bind_some]
      simp only [if_true]
    · refine Ev.step (f := fun k => (impl_NameOk.f k (s.extract 0 i.toNat)).bind fun t320 => (if t320 = true then ((impl_NameOk.f k (s.extract (i.toNat + 1) s.size)).bind fun t321 => (if t321 = true then (some (s.extract 0 i.toNat, s.extract (i.toNat + 1) s.size, true)) else (some (noB, noB, false)))) else (some (noB, noB, false)))) (fun k => ?_) (Ev.bind n1 ?_)
      · conv => lhs; unfold impl_Split.j0
        simp only [Bool.false_eq_true, if_false, if_true]
        rfl
      · cases nameB (s.data.toList.take i.toNat) with
        | false => exact Ev.now _
        | true =>
          simp only [if_true]
          refine Ev.bind n2 ?_
          cases nameB (s.data.toList.drop (i.toNat + 1)) <;> exact Ev.now _
  · rw [if_neg h] at hc ⊢
    have n1 := impl_name s hs
    refine Ev.congr (f := fun k => (impl_NameOk.f k s).bind fun t319 => impl_Split.j0 k s s ⟨#[]⟩ false t319) (fun k => ?_) (Ev.bind n1 ?_)
    · unfold impl_Split.f
      rw [hc, Option.bind_some]
      simp only [Bool.false_eq_true, if_false]
    · cases nameB s.data.toList with
      | false =>
        refine Ev.step (f := fun _ => some (noB, noB, false)) (fun k => ?_) (Ev.now _)
        conv => lhs; unfold impl_Split.j0
        simp only [Bool.false_eq_true, if_false]
        rfl
      | true =>
        refine Ev.step (f := fun _ => some (noB, s, true)) (fun k => ?_) (Ev.now _)
        conv => lhs; unfold impl_Split.j0
        simp only [if_true]
        rfl
theorem spec_split_l0 (s : ByteArray) (hs : s.data.toList.length ≤ 9223372036854775806) : ∀ (n i : Nat), i + n = s.data.toList.length → (∀ k : Nat, k < i → s.data.toList[k]? ≠ some 58) →
    Ev (fun k => spec_Split.l0 k s (-1) (i : Int)) (splitV s) := by
  intro n
  induction n with
  | zero =>
    intro i hi hno
    have hidx : Lib.indexByte s.data.toList 58 = -1 := idx_no (fun k => by
      by_cases hk : k < i
      · exact hno k hk
      · rw [List.getElem?_eq_none (by omega)]; simp)
    unfold splitV
    rw [if_neg (by rw [hidx]; decide)]
    refine Ev.step2' (f := fun k => (spec_NameOk.f k s).bind fun t134 => (if t134 = true then (some (noB, s, true)) else (some (noB, noB, false)))) (fun k => ?_) (Ev.bind (spec_name s) ?_)
    · conv => lhs; unfold spec_Split.l0
      rw [if_neg (by rw [sz]; omega)]
      conv => lhs; unfold spec_Split.j1
      rw [if_neg (by decide), if_pos (by decide)]
      rfl
    · cases nameB s.data.toList <;> exact Ev.now _
  | succ n ih =>
    intro i hi hno
    have hlt : i < s.data.toList.length := by omega
    have hw : wrap64 ((i : Int) + 1) = ((i + 1 : Nat) : Int) := w1n hlt (by omega)
    by_cases c : s.data.toList[i] = 58
    · have h58 : s.data.toList[i]? = some 58 := by rw [List.getElem?_eq_getElem hlt, c]
      have hidx := idx_is h58 hno
      have hb : bt s (i : Int) = 58 := by rw [bt_nat s i hlt, c]; rfl
      unfold splitV
      rw [hidx, if_pos (by omega), Int.toNat_natCast]
      have n1 := spec_name (s.extract 0 i)
      have n2 := spec_name (s.extract (i + 1) s.size)
      rw [ex_to] at n1
      rw [ex_from] at n2
      have hw2 : 0 ≤ ((i + 1 : Nat) : Int) := by omega
      have goal : Ev (fun k => spec_Split.j1 k s (i : Int) ((i + 1 : Nat) : Int) false) (if nameB (s.data.toList.take i) = true then (if nameB (s.data.toList.drop (i + 1)) = true then (s.extract 0 i, s.extract (i + 1) s.size, true) else (noB, noB, false)) else (noB, noB, false)) := by
        refine Ev.step (f := fun k => (spec_NameOk.f k (s.extract 0 i)).bind fun t135 => (if t135 = true then ((spec_NameOk.f k (s.extract (i + 1) s.size)).bind fun t136 => (if t136 = true then (some (s.extract 0 i, s.extract (i + 1) s.size, true)) else (some (noB, noB, false)))) else (some (noB, noB, false)))) (fun k => ?_) (Ev.bind n1 ?_)
        · conv => lhs; unfold spec_Split.j1
          rw [if_neg (by decide), if_neg (by omega), if_pos (by omega), if_pos (by rw [sz]; omega), hw]
          simp only [Int.toNat_natCast, if_pos hw2, if_pos (show ((i + 1 : Nat) : Int) ≤ (s.size : Int) by rw [sz]; omega)]
          rfl
        · cases nameB (s.data.toList.take i) with
          | false => exact Ev.now _
          | true =>
            simp only [if_true]
            refine Ev.bind n2 ?_
            cases nameB (s.data.toList.drop (i + 1)) <;> exact Ev.now _
      have step2 : Ev (fun k => spec_Split.l0 k s (i : Int) ((i + 1 : Nat) : Int)) (if nameB (s.data.toList.take i) = true then (if nameB (s.data.toList.drop (i + 1)) = true then (s.extract 0 i, s.extract (i + 1) s.size, true) else (noB, noB, false)) else (noB, noB, false)) := by
        refine Ev.step (fun k => ?_) goal
        conv => lhs; unfold spec_Split.l0
        split
        · rw [decide_eq_false (by omega)]
        · rfl
      refine Ev.step2' (fun k => ?_) step2
      conv => lhs; unfold spec_Split.l0
      rw [if_pos (by rw [sz]; omega), decide_eq_true (by omega)]
      conv => lhs; unfold spec_Split.j1
      rw [if_pos rfl, if_pos (by omega), if_pos (by rw [sz]; omega), if_pos hb, hw]
    · have hb : ¬ bt s (i : Int) = 58 := by
        rw [bt_nat s i hlt]
        exact fun h => c ((byte_is s.data.toList[i] 58 (by decide)).1 h)
      refine Ev.step2' (fun k => ?_) (ih (i + 1) (by omega) (fun k hk => ?_))
      · conv => lhs; unfold spec_Split.l0
        rw [if_pos (by rw [sz]; omega), decide_eq_true (by omega)]
        conv => lhs; unfold spec_Split.j1
        rw [if_pos rfl, if_pos (by omega), if_pos (by rw [sz]; omega), if_neg hb, hw]
      · by_cases e : k = i
        · subst e
          rw [List.getElem?_eq_getElem hlt]
          simpa using c
        · exact hno k (by omega)
theorem spec_split (s : ByteArray) (hs : s.data.toList.length ≤ 9223372036854775806) : Ev (fun k => spec_Split.f k s) (splitV s) := by
  refine Ev.congr (fun k => ?_) (spec_split_l0 s hs s.data.toList.length 0 (by omega) (fun k hk => by omega))
  rfl
def qualV (s : ByteArray) : Bool := (splitV s).2.2
theorem impl_qual (s : ByteArray) (hs : s.data.toList.length ≤ 9223372036854775806) : Ev (fun k => impl_isQualified.f k s) (qualV s) := by
  refine Ev.congr (f := fun k => (impl_Split.f k s).bind fun bt322 => (some bt322.2.2)) (fun k => rfl) (Ev.bind (impl_split s hs) (Ev.now _))
theorem spec_qual (s : ByteArray) (hs : s.data.toList.length ≤ 9223372036854775806) : Ev (fun k => spec_l1Qual.f k s) (qualV s) := by
  refine Ev.congr (f := fun k => (spec_Split.f k s).bind fun bt322 => (some bt322.2.2)) (fun k => rfl) (Ev.bind (spec_split s hs) (Ev.now _))
/-! plain texts -/
def inZ (n a b : Int) : Bool := decide (a ≤ n) && decide (n ≤ b)
def charZ (n : Int) : Bool := decide (n = 9) || decide (n = 10) || decide (n = 13) || inZ n 32 55295 || inZ n 57344 65533 || inZ n 65536 1114111
theorem impl_in' (n a b : Int) : impl_in.f n a b = some (inZ n a b) := by
  unfold impl_in.f inZ
  split
  · rename_i h; have h' : a ≤ n := by omega
    simp [h']
  · rename_i h; have h' : ¬ a ≤ n := by omega
    simp [h']
theorem spec_in' (n a b : Int) : spec_l1In.f n a b = some (inZ n a b) := by
  unfold spec_l1In.f inZ
  split
  · rename_i h; have h' : a ≤ n := by omega
    simp [h']
  · rename_i h; have h' : ¬ a ≤ n := by omega
    simp [h']
theorem impl_char (n : Int) : impl_CharOk.f n = some (charZ n) := by
  unfold impl_CharOk.f charZ
  simp only [impl_in', Option.bind_some]
  by_cases h1 : n = 9
  · simp [h1]
  by_cases h2 : n = 10
  · simp [h2]
  by_cases h3 : n = 13
  · simp [h3]
  rw [if_neg h1, if_neg h2, if_neg h3, decide_eq_false h1, decide_eq_false h2, decide_eq_false h3]
  cases inZ n 32 55295 <;> cases inZ n 57344 65533 <;> rfl
theorem spec_char (n : Int) : spec_CharOk.f n = some (charZ n) := by
  unfold spec_CharOk.f charZ
  simp only [spec_in', Option.bind_some]
  by_cases h1 : n = 9
  · simp [h1]
  by_cases h2 : n = 10
  · simp [h2]
  by_cases h3 : n = 13
  · simp [h3]
  rw [if_neg h1, if_neg h2, if_neg h3, decide_eq_false h1, decide_eq_false h2, decide_eq_false h3]
  cases inZ n 32 55295 <;> cases inZ n 57344 65533 <;> rfl
def plainV (s : ByteArray) : Bool := (runesV s).2 && (runesV s).1.all charZ
theorem rdZ (l : List Int) (i : Nat) (h : i < l.length) : rd l (i : Int) = l[i] := by
  unfold rd
  simp [h]
theorem impl_plain_l0 (l : List Int) (hl : l.length ≤ 9223372036854775807) : ∀ (n i : Nat) (b : Bool), i + n = l.length → Ev (fun k => impl_isPlain.l0 k b l (l.length : Int) (i : Int)) (b && (l.drop i).all charZ) := by
  intro n
  induction n with
  | zero =>
    intro i b hi
    rw [List.drop_of_length_le (by omega), List.all_nil, Bool.and_true]
    refine Ev.step (f := fun _ => some b) (fun k => ?_) (Ev.now _)
    conv => lhs; unfold impl_isPlain.l0
    rw [if_neg (by omega)]
  | succ n ih =>
    intro i b hi
    have hlt : i < l.length := by omega
    rw [List.drop_eq_getElem_cons hlt, List.all_cons]
    have hw := w1n hlt hl
    cases b with
    | false =>
      refine Ev.step (fun k => ?_) (ih (i + 1) false (by omega))
      conv => lhs; unfold impl_isPlain.l0
      rw [if_pos (by omega), if_pos (by omega), if_pos (by omega), if_neg (by decide), hw]
    | true =>
      rw [Bool.true_and]
      refine Ev.step (fun k => ?_) (ih (i + 1) (charZ l[i]) (by omega))
      conv => lhs; unfold impl_isPlain.l0
      rw [if_pos (by omega), if_pos (by omega), if_pos (by omega), if_pos rfl, rdZ l i hlt, impl_char, Option.bind_some, hw]
theorem runes_len (s : ByteArray) : (runesV s).1.length ≤ s.size := by
  have h : ∀ (f p : Nat), (runesFrom s f p).length ≤ f := by
    intro f
    induction f with
    | zero => intro p; exact Nat.le_refl _
    | succ f ih =>
      intro p
      unfold runesFrom
      split
      · rw [List.length_cons]; have := ih (p + (Utf8.decode s p).2); omega
      · simp
  unfold runesV runesOf
  split
  · simp
  · split
    · exact h _ _
    · simp
theorem impl_plain (s : ByteArray) (hs : s.size ≤ 9223372036854775807) : Ev (fun k => impl_isPlain.f k s) (plainV s) := by
  refine Ev.congr (fun k => ?_) (impl_plain_l0 (runesV s).1 (by have := runes_len s; omega) (runesV s).1.length 0 (runesV s).2 (by omega))
  unfold impl_isPlain.f
  rw [impl_runes s hs]
  rfl
theorem spec_text_l0 (l : List Int) (hl : l.length ≤ 9223372036854775807) : ∀ (n i : Nat), i + n = l.length → Ev (fun k => spec_l1Text.l0 k l (i : Int)) ((l.drop i).all charZ) := by
  intro n
  induction n with
  | zero =>
    intro i hi
    rw [List.drop_of_length_le (by omega), List.all_nil]
    refine Ev.step (f := fun _ => some true) (fun k => ?_) (Ev.now _)
    conv => lhs; unfold spec_l1Text.l0
    rw [if_neg (by omega)]
  | succ n ih =>
    intro i hi
    have hlt : i < l.length := by omega
    rw [List.drop_eq_getElem_cons hlt, List.all_cons]
    have hw := w1n hlt hl
    cases hc : charZ l[i] with
    | false =>
      refine Ev.step (f := fun _ => some false) (fun k => ?_) (Ev.now _)
      conv => lhs; unfold spec_l1Text.l0
      rw [if_pos (by omega), if_pos (by omega), rdZ l i hlt, spec_char, Option.bind_some, hc, if_neg (by decide)]
    | true =>
      rw [Bool.true_and]
      refine Ev.step (fun k => ?_) (ih (i + 1) (by omega))
      conv => lhs; unfold spec_l1Text.l0
      rw [if_pos (by omega), if_pos (by omega), rdZ l i hlt, spec_char, Option.bind_some, hc, if_pos rfl, hw]
theorem spec_text (s : ByteArray) (hs : s.size ≤ 9223372036854775807) : Ev (fun k => spec_l1Text.f k s) (plainV s) := by
  refine Ev.congr (f := fun k => (spec_Runes.f k s).bind fun bt124 => (if bt124.2 = true then (spec_l1Text.l0 k bt124.1 0) else (some false))) (fun k => rfl) (Ev.bind (spec_runes s) ?_)
  unfold plainV
  have hl := runes_len s
  generalize runesV s = p at *
  obtain ⟨l, ok⟩ := p
  cases ok with
  | false => exact Ev.now _
  | true =>
    simp only [if_true, Bool.true_and]
    exact spec_text_l0 l (by simp only at hl; omega) l.length 0 (by omega)
abbrev It : Type := S39
abbrev At : Type := S46
theorem rdIt (l : List It) (i : Nat) (h : i < l.length) : rd_T39 l (i : Int) = l[i] := by
  unfold rd_T39
  simp [h]
theorem rdAt (l : List At) (i : Nat) (h : i < l.length) : rd_T46 l (i : Int) = l[i] := by
  unfold rd_T46
  simp [h]
/-- p holds at d places from i on. -/
def allN (p : Nat → Bool) : Nat → Nat → Bool
  | _, 0 => true
  | i, d + 1 => p i && allN p (i + 1) d
theorem allN_iff {p : Nat → Bool} : ∀ {d i : Nat}, allN p i d = true ↔ ∀ j, i ≤ j → j < i + d → p j = true
  | 0, i => by simp [allN]; omega
  | d + 1, i => by
    rw [allN, Bool.and_eq_true, allN_iff]
    constructor
    · rintro ⟨h1, h2⟩ j h3 h4
      by_cases e : j = i
      · rw [e]; exact h1
      · exact h2 j (by omega) (by omega)
    · exact fun h => ⟨h i (Nat.le_refl _) (by omega), fun j h1 h2 => h j (by omega) (by omega)⟩
def smallA (a : At) : Prop := a.f0.size ≤ 1048576 ∧ a.f1.size ≤ 1048576
def smallAs (l : List At) : Prop := l.length ≤ 1048576 ∧ ∀ a ∈ l, smallA a
def smallI (x : It) : Prop := x.f1.size ≤ 1048576 ∧ x.f2.size ≤ 1048576 ∧ smallAs x.f3
/-- Attribute i is right, and none ahead of it has its name. -/
def attrV (l : List At) (i : Nat) : Bool := match l[i]? with
  | some a => qualV a.f0 && plainV a.f1 && !(l.take i).any (fun b => decide (b.f0.toList = a.f0.toList))
  | none => false
theorem attrV_at {l : List At} {i : Nat} (h : i < l.length) : attrV l i = (qualV l[i].f0 && plainV l[i].f1 && !(l.take i).any (fun b => decide (b.f0.toList = l[i].f0.toList))) := by
  unfold attrV
  rw [List.getElem?_eq_getElem h]
theorem size_len {s : ByteArray} (h : s.size ≤ 1048576) : s.data.toList.length ≤ 9223372036854775806 := by rw [← sz]; omega
section
variable (l : List At) (hl : smallAs l) (z : It)
include hl
theorem sm (i : Nat) (h : i < l.length) : l[i].f0.size ≤ 1048576 ∧ l[i].f1.size ≤ 1048576 := hl.2 _ (List.getElem_mem h)
theorem impl_names_l1 (i : Nat) (hi : i < l.length) (R : Bool) (hR : Ev (fun k => impl_Item_isGood.l0 k l (l.length : Int) ((i + 1 : Nat) : Int) z.f0 z.f1 z.f2 z.f3) R) (v : ByteArray) : ∀ (n j : Nat), j + n = i →
    Ev (fun k => impl_Item_isGood.l1 k l (l.length : Int) (i : Int) (l.take i) ((l.take i).length : Int) (j : Int) z.f0 z.f1 z.f2 z.f3 l[i].f0 v) (!((l.take i).drop j).any (fun b => decide (b.f0.toList = l[i].f0.toList)) && R) := by
  have h1 := hl.1
  have hlen : (l.take i).length = i := by rw [List.length_take]; omega
  intro n
  induction n with
  | zero =>
    intro j hj
    rw [List.drop_of_length_le (by omega)]
    refine Ev.step (fun k => ?_) hR
    conv => lhs; unfold impl_Item_isGood.l1
    rw [if_neg (by omega), w1n hi (by omega)]
  | succ n ih =>
    intro j hj
    have hlt : j < (l.take i).length := by omega
    rw [List.drop_eq_getElem_cons hlt, List.any_cons]
    by_cases c : (l.take i)[j].f0.toList = l[i].f0.toList
    · rw [decide_eq_true c]
      refine Ev.step (f := fun _ => some false) (fun k => ?_) (Ev.now _)
      conv => lhs; unfold impl_Item_isGood.l1
      rw [if_pos (by omega), if_pos (by omega), if_pos (by omega), rdAt _ j hlt, if_pos c.symm]
    · rw [decide_eq_false c, Bool.false_or]
      refine Ev.step (fun k => ?_) (ih (j + 1) (by omega))
      conv => lhs; unfold impl_Item_isGood.l1
      rw [if_pos (by omega), if_pos (by omega), if_pos (by omega), rdAt _ j hlt, if_neg (fun h => c h.symm), w1n hlt (by omega)]
theorem impl_attrs (hz : z.f3 = l) : ∀ (n i : Nat), i + n = l.length → Ev (fun k => impl_Item_isGood.l0 k l (l.length : Int) (i : Int) z.f0 z.f1 z.f2 z.f3) (allN (attrV l) i n) := by
  have h1 := hl.1
  intro n
  induction n with
  | zero =>
    intro i hi
    refine Ev.step (f := fun _ => some true) (fun k => ?_) (Ev.now _)
    conv => lhs; unfold impl_Item_isGood.l0
    rw [if_neg (by omega)]
  | succ n ih =>
    intro i hi
    have hlt : i < l.length := by omega
    have hs := sm l hl i hlt
    rw [allN, attrV_at hlt]
    have q := impl_qual l[i].f0 (size_len hs.1)
    have p := impl_plain l[i].f1 (by omega)
    have tail : ∀ b : Bool, Ev (fun k => impl_Item_isGood.j2 k (i : Int) l (l.length : Int) (i : Int) b z.f0 z.f1 z.f2 z.f3 l[i].f0 l[i].f1) (!b && (!(l.take i).any (fun b => decide (b.f0.toList = l[i].f0.toList)) && allN (attrV l) (i + 1) n)) := by
      intro b
      cases b with
      | true =>
        refine Ev.step (f := fun _ => some false) (fun k => ?_) (Ev.now _)
        conv => lhs; unfold impl_Item_isGood.j2
        rw [if_pos rfl]
      | false =>
        have := impl_names_l1 l hl z i hlt _ (ih (i + 1) (by omega)) l[i].f1 i 0 (by omega)
        refine Ev.step (fun k => ?_) this
        conv => lhs; unfold impl_Item_isGood.j2
        rw [if_neg (by decide), if_pos (by omega), if_pos (by rw [hz]; omega)]
        simp only [Option.bind_some, Int.toNat_natCast, hz]
        rfl
    refine Ev.step (f := fun k => (impl_isQualified.f k l[i].f0).bind fun t330 => (if t330 = true then ((impl_isPlain.f k l[i].f1).bind fun t331 => (impl_Item_isGood.j2 k (i : Int) l (l.length : Int) (i : Int) (!t331) z.f0 z.f1 z.f2 z.f3 l[i].f0 l[i].f1)) else (impl_Item_isGood.j2 k (i : Int) l (l.length : Int) (i : Int) true z.f0 z.f1 z.f2 z.f3 l[i].f0 l[i].f1))) (fun k => ?_) (Ev.bind q ?_)
    · conv => lhs; unfold impl_Item_isGood.l0
      rw [if_pos (by omega), if_pos (by omega), if_pos (by omega), rdAt l i hlt]
    · cases qualV l[i].f0 with
      | false => exact tail true
      | true =>
        simp only [if_true, Bool.true_and]
        refine Ev.bind p ?_
        have := tail (!plainV l[i].f1)
        rw [Bool.not_not] at this
        rw [Bool.and_assoc]
        exact this
omit hl in
theorem spec_names_l1 (hl : smallAs l) (i : Nat) (hi : i < l.length) (R : Bool) (hR : Ev (fun k => spec_l2Attrs.l0 k l ((i + 1 : Nat) : Int)) R) : ∀ (n j : Nat), j + n = i →
    Ev (fun k => spec_l2Attrs.l1 k l (i : Int) (j : Int)) (!((l.take i).drop j).any (fun b => decide (b.f0.toList = l[i].f0.toList)) && R) := by
  have h1 := hl.1
  have hlen : (l.take i).length = i := by rw [List.length_take]; omega
  intro n
  induction n with
  | zero =>
    intro j hj
    rw [List.drop_of_length_le (by omega)]
    refine Ev.step (fun k => ?_) hR
    conv => lhs; unfold spec_l2Attrs.l1
    rw [if_neg (by omega), w1n hi (by omega)]
  | succ n ih =>
    intro j hj
    have hlt : j < (l.take i).length := by omega
    have hj2 : j < l.length := by omega
    have ej : (l.take i)[j] = l[j] := List.getElem_take
    rw [List.drop_eq_getElem_cons hlt, List.any_cons, ej]
    by_cases c : l[j].f0.toList = l[i].f0.toList
    · rw [decide_eq_true c]
      refine Ev.step (f := fun _ => some false) (fun k => ?_) (Ev.now _)
      conv => lhs; unfold spec_l2Attrs.l1
      rw [if_pos (by omega), if_pos (by omega), if_pos (by omega), if_pos (by omega), if_pos (by omega), rdAt _ j hj2, rdAt _ i hi, if_pos c]
    · rw [decide_eq_false c, Bool.false_or]
      refine Ev.step (fun k => ?_) (ih (j + 1) (by omega))
      conv => lhs; unfold spec_l2Attrs.l1
      rw [if_pos (by omega), if_pos (by omega), if_pos (by omega), if_pos (by omega), if_pos (by omega), rdAt _ j hj2, rdAt _ i hi, if_neg c, w1n hlt (by omega)]
theorem spec_attrs_l0 : ∀ (n i : Nat), i + n = l.length → Ev (fun k => spec_l2Attrs.l0 k l (i : Int)) (allN (attrV l) i n) := by
  have h1 := hl.1
  intro n
  induction n with
  | zero =>
    intro i hi
    refine Ev.step (f := fun _ => some true) (fun k => ?_) (Ev.now _)
    conv => lhs; unfold spec_l2Attrs.l0
    rw [if_neg (by omega)]
  | succ n ih =>
    intro i hi
    have hlt : i < l.length := by omega
    have hs := sm l hl i hlt
    rw [allN, attrV_at hlt]
    have q := spec_qual l[i].f0 (size_len hs.1)
    have p := spec_text l[i].f1 (by omega)
    have tail : ∀ b : Bool, Ev (fun k => spec_l2Attrs.j1 k l (i : Int) b) (!b && (!(l.take i).any (fun b => decide (b.f0.toList = l[i].f0.toList)) && allN (attrV l) (i + 1) n)) := by
      intro b
      cases b with
      | true =>
        refine Ev.step (f := fun _ => some false) (fun k => ?_) (Ev.now _)
        conv => lhs; unfold spec_l2Attrs.j1
        rw [if_pos rfl]
      | false =>
        refine Ev.step (fun k => ?_) (spec_names_l1 l hl i hlt _ (ih (i + 1) (by omega)) i 0 (by omega))
        conv => lhs; unfold spec_l2Attrs.j1
        rw [if_neg (by decide)]
        rfl
    refine Ev.step (f := fun k => (spec_l1Qual.f k l[i].f0).bind fun t141 => (if t141 = true then ((spec_l1Text.f k l[i].f1).bind fun t143 => (spec_l2Attrs.j1 k l (i : Int) (!t143))) else (spec_l2Attrs.j1 k l (i : Int) true))) (fun k => ?_) (Ev.bind q ?_)
    · conv => lhs; unfold spec_l2Attrs.l0
      rw [if_pos (by omega), if_pos (by omega), rdAt l i hlt]
    · cases qualV l[i].f0 with
      | false => exact tail true
      | true =>
        simp only [if_true, Bool.true_and]
        refine Ev.bind p ?_
        have := tail (!plainV l[i].f1)
        rw [Bool.not_not] at this
        rw [Bool.and_assoc]
        exact this
def attrsV (l : List At) : Bool := decide (l.length ≤ 10) && allN (attrV l) 0 l.length
theorem spec_attrs : Ev (fun k => spec_l2Attrs.f k l) (attrsV l) := by
  unfold attrsV
  by_cases c : l.length ≤ 10
  · rw [decide_eq_true c, Bool.true_and]
    refine Ev.congr (fun k => ?_) (spec_attrs_l0 l hl l.length 0 (by omega))
    unfold spec_l2Attrs.f
    rw [if_neg (by omega)]
    rfl
  · rw [decide_eq_false c]
    refine Ev.congr (f := fun _ => some false) (fun k => ?_) (Ev.now _)
    unfold spec_l2Attrs.f
    rw [if_pos (by omega)]
end
/-- An item that is right in itself. -/
def goodV (x : It) : Bool := if x.f1.toList = ([] : List UInt8) then (if x.f2.toList = ([] : List UInt8) then false else plainV x.f2 && decide (x.f3.length = 0)) else qualV x.f1 && (if x.f2.toList = ([] : List UInt8) then attrsV x.f3 else false)
theorem impl_good (x : It) (h : smallI x) : Ev (fun k => impl_Item_isGood.f k x.f0 x.f1 x.f2 x.f3) (goodV x) := by
  obtain ⟨h1, h2, h3⟩ := h
  unfold goodV
  by_cases c1 : x.f1.toList = ([] : List UInt8)
  · rw [if_pos c1]
    by_cases c2 : x.f2.toList = ([] : List UInt8)
    · rw [if_pos c2]
      refine Ev.congr (f := fun _ => some false) (fun k => ?_) (Ev.now _)
      unfold impl_Item_isGood.f
      rw [if_pos c1, if_pos c2]
    · rw [if_neg c2]
      refine Ev.congr (f := fun k => (impl_isPlain.f k x.f2).bind fun t326 => (if t326 = true then (some ((x.f3.length : Int) == 0)) else (some false))) (fun k => ?_) (Ev.bind (impl_plain x.f2 (by omega)) ?_)
      · unfold impl_Item_isGood.f
        rw [if_pos c1, if_neg c2]
      · cases plainV x.f2 with
        | false => exact Ev.now _
        | true =>
          have e : ((x.f3.length : Int) == 0) = decide (x.f3.length = 0) := by
            rw [Bool.eq_iff_iff]; simp
          simp only [if_true, Bool.true_and, e]
          exact Ev.now _
  · rw [if_neg c1]
    have tail : ∀ b : Bool, Ev (fun k => impl_Item_isGood.j0 k b x.f0 x.f1 x.f2 x.f3) (!b && allN (attrV x.f3) 0 x.f3.length) := by
      intro b
      cases b with
      | true =>
        exact Ev.step (f := fun _ => some false) (fun k => rfl) (Ev.now _)
      | false =>
        exact Ev.step (fun k => rfl) (impl_attrs x.f3 h3 x rfl x.f3.length 0 (by omega))
    refine Ev.congr (f := fun k => (impl_isQualified.f k x.f1).bind fun t327 => (if t327 = true then (if x.f2.toList = ([] : List UInt8) then (impl_Item_isGood.j0 k (decide ((x.f3.length : Int) > 10)) x.f0 x.f1 x.f2 x.f3) else (impl_Item_isGood.j0 k true x.f0 x.f1 x.f2 x.f3)) else (impl_Item_isGood.j0 k true x.f0 x.f1 x.f2 x.f3))) (fun k => ?_) (Ev.bind (impl_qual x.f1 (size_len h1)) ?_)
    · unfold impl_Item_isGood.f
      rw [if_neg c1]
    · cases qualV x.f1 with
      | false => exact tail true
      | true =>
        simp only [if_true, Bool.true_and]
        by_cases c2 : x.f2.toList = ([] : List UInt8)
        · simp only [if_pos c2]
          unfold attrsV
          have e : (!decide ((x.f3.length : Int) > 10)) = decide (x.f3.length ≤ 10) := by
            rw [Bool.eq_iff_iff]; simp; omega
          rw [← e]
          exact tail _
        · simp only [if_neg c2]
          exact tail true
/-! how many bytes -/
def bytesA : List At → Int
  | [] => 0
  | a :: l => (a.f0.size : Int) + a.f1.size + bytesA l
def bytesV (x : It) : Int := (x.f1.size : Int) + x.f2.size + bytesA x.f3
theorem bytesA_bound : ∀ l : List At, (∀ a ∈ l, smallA a) → 0 ≤ bytesA l ∧ bytesA l ≤ 2097152 * l.length
  | [], _ => ⟨by simp [bytesA], by simp [bytesA]⟩
  | a :: l, h => by
    have h1 := h a (by simp)
    have h2 := bytesA_bound l (fun b hb => h b (by simp [hb]))
    unfold smallA at h1
    unfold bytesA
    simp only [List.length_cons]
    constructor <;> omega
theorem impl_bytes_l0 (l : List At) (hl : smallAs l) : ∀ (n i : Nat) (c : Int), i + n = l.length → 0 ≤ c → c ≤ 4194304 + 2097152 * i → Ev (fun k => impl_Item_bytes.l0 k c l (l.length : Int) (i : Int)) (c + bytesA (l.drop i)) := by
  have h1 := hl.1
  intro n
  induction n with
  | zero =>
    intro i c hi h0 hc
    rw [List.drop_of_length_le (by omega)]
    refine Ev.step (f := fun _ => some c) (fun k => ?_) (by rw [bytesA, Int.add_zero]; exact Ev.now _)
    conv => lhs; unfold impl_Item_bytes.l0
    rw [if_neg (by omega)]
  | succ n ih =>
    intro i c hi h0 hc
    have hlt : i < l.length := by omega
    have hs := sm l hl i hlt
    rw [List.drop_eq_getElem_cons hlt, bytesA]
    have e1 : wrap64 ((l[i].f0.size : Int) + (l[i].f1.size : Int)) = (l[i].f0.size : Int) + (l[i].f1.size : Int) := by rw [w64] <;> omega
    have e2 : wrap64 (c + ((l[i].f0.size : Int) + (l[i].f1.size : Int))) = c + ((l[i].f0.size : Int) + (l[i].f1.size : Int)) := by rw [w64] <;> omega
    have := ih (i + 1) (c + ((l[i].f0.size : Int) + (l[i].f1.size : Int))) (by omega) (by omega) (by omega)
    rw [← Int.add_assoc]
    refine Ev.step (fun k => ?_) this
    conv => lhs; unfold impl_Item_bytes.l0
    rw [if_pos (by omega), if_pos (by omega), if_pos (by omega), rdAt l i hlt, e1, e2, w1n hlt (by omega)]
theorem impl_bytes (x : It) (h : smallI x) : Ev (fun k => impl_Item_bytes.f k x.f0 x.f1 x.f2 x.f3) (bytesV x) := by
  obtain ⟨h1, h2, h3⟩ := h
  have := impl_bytes_l0 x.f3 h3 x.f3.length 0 ((x.f1.size : Int) + x.f2.size) (by omega) (by omega) (by omega)
  rw [List.drop_zero] at this
  refine Ev.congr (fun k => ?_) this
  unfold impl_Item_bytes.f
  rw [w64 (by omega) (by omega)]
  rfl
end Go.Proofs.YtpmjpbaeecnpiaaDoor.Pure

namespace Go.Proofs.YtpmjpbaeecnpiaaDoor.Pure
set_option linter.unusedVariables false
set_option linter.unusedSimpArgs false

namespace DT
/-- A place and those above it. -/
def chain (up : Nat → Int) (j : Nat) : List Nat := j :: (if _h : 0 ≤ up j ∧ (up j).toNat < j then chain up (up j).toNat else [])
termination_by j
/-- The first i items stand below elements that stand ahead. -/
def Val (up : Nat → Int) (el : Nat → Bool) (i : Nat) : Prop := (0 < i → up 0 = -1 ∧ el 0 = true) ∧ ∀ j, 0 < j → j < i → 0 ≤ up j ∧ (up j).toNat < j ∧ el (up j).toNat = true
/-- What may stand above the next one. -/
def stk (up : Nat → Int) (el : Nat → Bool) (j : Nat) : List Nat := if el j = true then chain up j else (chain up j).tail
section
variable {up : Nat → Int} {el : Nat → Bool}
theorem chain_eq (j : Nat) : chain up j = j :: (if _h : 0 ≤ up j ∧ (up j).toNat < j then chain up (up j).toNat else []) := by
  conv => lhs; rw [chain]
theorem chain_zero (h : up 0 = -1) : chain up 0 = [0] := by
  rw [chain, dif_neg (by omega)]
theorem chain_up {j : Nat} (h0 : 0 ≤ up j) (h1 : (up j).toNat < j) : chain up j = j :: chain up (up j).toNat := by
  conv => lhs; rw [chain]
  rw [dif_pos ⟨h0, h1⟩]
theorem chain_lt : ∀ j a, a ∈ chain up j → a ≤ j := by
  intro j
  induction j using Nat.strongRecOn with
  | _ j ih =>
  intro a ha
  rw [chain] at ha
  rcases List.mem_cons.1 ha with rfl | ha
  · exact Nat.le_refl _
  · split at ha
    · rename_i h
      have := ih _ h.2 a ha
      omega
    · simp at ha
/-- What stands above is elements. -/
theorem chain_el {i : Nat} (V : Val up el i) : ∀ j, j < i → ∀ a ∈ (chain up j).tail, el a = true := by
  intro j
  induction j using Nat.strongRecOn with
  | _ j ih =>
  intro hj a ha
  by_cases e : j = 0
  · subst e
    rw [chain_zero (V.1 (by omega)).1] at ha
    simp at ha
  · obtain ⟨h0, h1, h2⟩ := V.2 j (by omega) hj
    rw [chain_up h0 h1, List.tail_cons] at ha
    rw [chain] at ha
    rcases List.mem_cons.1 ha with rfl | ha
    · exact h2
    · refine ih (up j).toNat h1 (by omega) a ?_
      rw [chain, List.tail_cons]
      exact ha
/-- The rest of a chain from one of its places on is that place's chain. -/
theorem chain_drop {i : Nat} (V : Val up el i) : ∀ j, j < i → ∀ a, a ∈ chain up j → (chain up j).dropWhile (fun x => x != a) = chain up a := by
  intro j
  induction j using Nat.strongRecOn with
  | _ j ih =>
  intro hj a ha
  by_cases e : a = j
  · subst e
    rw [chain_eq a, List.dropWhile_cons_of_neg (by simp)]
  · by_cases ez : j = 0
    · subst ez
      rw [chain_zero (V.1 (by omega)).1] at ha
      simp at ha
      exact absurd ha e
    · obtain ⟨h0, h1, h2⟩ := V.2 j (by omega) hj
      rw [chain_up h0 h1] at ha ⊢
      rw [List.dropWhile_cons_of_pos (by simpa using fun h => e h.symm)]
      rcases List.mem_cons.1 ha with h | ha
      · exact absurd h e
      · exact ih _ h1 (by omega) a ha
theorem chain_head (j : Nat) : chain up j = j :: (chain up j).tail := by
  rw [chain_eq j, List.tail_cons]
/-- What is left above a place that may stand above the next one. -/
theorem stk_drop {i : Nat} (V : Val up el i) {j a : Nat} (hj : j < i) (ha : a ∈ stk up el j) : (stk up el j).dropWhile (fun x => x != a) = chain up a ∧ el a = true ∧ a ∈ chain up j := by
  unfold stk at ha ⊢
  split at ha
  · rename_i he
    rw [if_pos he]
    refine ⟨chain_drop V j hj a ha, ?_, ha⟩
    rw [chain_head] at ha
    rcases List.mem_cons.1 ha with rfl | ha
    · exact he
    · exact chain_el V j hj a ha
  · rename_i he
    rw [if_neg he]
    have hm : a ∈ chain up j := by rw [chain_head]; exact List.mem_cons_of_mem _ ha
    have hne : a ≠ j := by
      rintro rfl
      exact he (chain_el V a hj a ha)
    have := chain_drop V j hj a hm
    rw [chain_head, List.dropWhile_cons_of_pos (by simpa using fun h => hne h.symm)] at this
    exact ⟨this, chain_el V j hj a ha, hm⟩
theorem stk_mem {i : Nat} {j a : Nat} (ha : a ∈ chain up j) (he : el a = true) : a ∈ stk up el j := by
  unfold stk
  split
  · exact ha
  · rename_i h
    rw [chain_head] at ha
    rcases List.mem_cons.1 ha with rfl | ha
    · exact absurd he h
    · exact ha
theorem drop_none {l : List Nat} {a : Nat} (h : a ∉ l) : l.dropWhile (fun x => x != a) = [] := by
  induction l with
  | nil => rfl
  | cons x l ih =>
    rw [List.dropWhile_cons_of_pos]
    · exact ih (fun h' => h (by simp [h']))
    · simp only [bne_iff_ne, ne_eq]
      rintro rfl
      exact h (by simp)
theorem Val.next {i : Nat} (V : Val up el i) (h0 : i = 0 → up 0 = -1 ∧ el 0 = true) (h1 : 0 < i → 0 ≤ up i ∧ (up i).toNat < i ∧ el (up i).toNat = true) : Val up el (i + 1) := by
  refine ⟨fun _ => ?_, fun j hj hji => ?_⟩
  · by_cases e : i = 0
    · exact h0 e
    · exact V.1 (by omega)
  · by_cases e : j = i
    · subst e
      exact h1 hj
    · exact V.2 j hj (by omega)
end
end DT
end Go.Proofs.YtpmjpbaeecnpiaaDoor.Pure
