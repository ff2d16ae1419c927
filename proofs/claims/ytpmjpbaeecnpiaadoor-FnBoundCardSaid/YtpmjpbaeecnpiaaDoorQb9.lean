/- Words and contracts for the row RowFnBound: what the Go functions answer that it calls; printed by programs of the kit and of this session, and merged. -/
import Derived.Test.YtpmjpbaeecnpiaaDoorQb8
import Derived.Sort.Walk0
import Derived.Lib.SlBy
import Derived.Lib.Hide
import Derived.Outline
import Derived.Lib.SplitLaws
import Derived.Lib.IndexBytes
import Derived.Lib.ValidLaws
import Derived.Lib.DecodeN
import Derived.Lib.MapLaws
import Derived.Lib.TrimUEq
namespace Go.Proofs.YtpmjpbaeecnpiaaDoor.L
open Go.RowKit Go.Proofs.YtpmjpbaeecnpiaaDoorW.PrintWords Go.Proofs.YtpmjpbaeecnpiaaDoorW.PrintLast Go.Proofs.YtpmjpbaeecnpiaaDoorW.PrintMore
attribute [local go_sem] max2_int min2_int max_two min_two max_three min_three max_four min_four
set_option linter.unusedVariables false
set_option linter.unusedSimpArgs false

theorem bne_nilE66 (l : List UInt8) : (l != ([] : List UInt8)) = !l.isEmpty := by cases l <;> rfl
/-! ### laws_FnBound: function 6 -/
mutual
def laws_FnBound.j0 : Nat → List (S39) → Int → ByteArray → ByteArray → Bool → ByteArray → Bool → Bool → Option (Bool)
 | 0, _, _, _, _, _, _, _, _ => none
 | k + 1, x3, x4, x5, x6, x7, x8, x9, x58 => if x58 = true then (if x6.toList = x8.toList then (some (x7 == x9)) else (some false)) else (laws_FnBound.l0 k x3 x4 x5 x6 x7 0)
def laws_FnBound.l0 : Nat → List (S39) → Int → ByteArray → ByteArray → Bool → Int → Option (Bool)
 | 0, _, _, _, _, _, _ => none
 | k + 1, x3, x4, x5, x6, x7, x10 => if 0 ≤ x4 then (if x4 < (x3.length : Int) then (if x10 < (((rd_T39 x3 x4).f3).length : Int) then (if 0 ≤ x10 then (if ((rd_T46 ((rd_T39 x3 x4).f3) x10).f0).toList = ([120, 109, 108, 110, 115] : List UInt8) then (if x5.toList = ([] : List UInt8) then (if x5.toList = ([120, 109, 108] : List UInt8) then (some true) else (if x6.toList = ((rd_T46 ((rd_T39 x3 x4).f3) x10).f1).toList then (if ((rd_T46 ((rd_T39 x3 x4).f3) x10).f1).toList = ([] : List UInt8) then (some (x7 == (x5.toList == ([] : List UInt8)))) else (some (x7 == true))) else (some false))) else (if 6 + x5.size ≤ 9223372036854775807 then (if ((rd_T46 ((rd_T39 x3 x4).f3) x10).f0).toList = ((⟨#[120, 109, 108, 110, 115, 58]⟩ : ByteArray) ++ x5).toList then (if x5.toList = ([120, 109, 108] : List UInt8) then (some true) else (if x6.toList = ((rd_T46 ((rd_T39 x3 x4).f3) x10).f1).toList then (if ((rd_T46 ((rd_T39 x3 x4).f3) x10).f1).toList = ([] : List UInt8) then (some (x7 == (x5.toList == ([] : List UInt8)))) else (some (x7 == true))) else (some false))) else (laws_FnBound.l0 k x3 x4 x5 x6 x7 (wrap64 (x10 + 1)))) else (none))) else (if 6 + x5.size ≤ 9223372036854775807 then (if ((rd_T46 ((rd_T39 x3 x4).f3) x10).f0).toList = ((⟨#[120, 109, 108, 110, 115, 58]⟩ : ByteArray) ++ x5).toList then (if x5.toList = ([120, 109, 108] : List UInt8) then (some true) else (if x6.toList = ((rd_T46 ((rd_T39 x3 x4).f3) x10).f1).toList then (if ((rd_T46 ((rd_T39 x3 x4).f3) x10).f1).toList = ([] : List UInt8) then (some (x7 == (x5.toList == ([] : List UInt8)))) else (some (x7 == true))) else (some false))) else (laws_FnBound.l0 k x3 x4 x5 x6 x7 (wrap64 (x10 + 1)))) else (none))) else (none)) else ((impl_BoundAt.f k x3 ((rd_T39 x3 x4).f0) x5).bind fun bt688 => (if bt688.1.toList = x6.toList then (some (bt688.2 == x7)) else (some false)))) else (none)) else (none)
end
def laws_FnBound.f (k : Nat) (l0 : List Int) : Option (Bool) := (laws_big.f l0).bind fun t672 => (if t672 = true then (some true) else ((spec_DrawBoundAt.f k l0).bind fun bt673 => ((impl_BoundAt.f k bt673.1 bt673.2.1 bt673.2.2).bind fun bt678 => ((spec_BoundAt.f k bt673.1 bt673.2.1 bt673.2.2).bind fun bt680 => (if bt678.1.toList = bt680.1.toList then (if (bt678.2 != bt680.2) = true then (laws_FnBound.j0 k bt673.1 bt673.2.1 bt673.2.2 bt678.1 bt678.2 bt680.1 bt680.2 true) else ((spec_DocOk.f k bt673.1).bind fun t682 => (if t682 = true then (if bt673.2.1 < 1 then (laws_FnBound.j0 k bt673.1 bt673.2.1 bt673.2.2 bt678.1 bt678.2 bt680.1 bt680.2 true) else (laws_FnBound.j0 k bt673.1 bt673.2.1 bt673.2.2 bt678.1 bt678.2 bt680.1 bt680.2 (decide (bt673.2.1 ≥ (bt673.1.length : Int))))) else (laws_FnBound.j0 k bt673.1 bt673.2.1 bt673.2.2 bt678.1 bt678.2 bt680.1 bt680.2 true)))) else (laws_FnBound.j0 k bt673.1 bt673.2.1 bt673.2.2 bt678.1 bt678.2 bt680.1 bt680.2 true))))))
set_option maxHeartbeats 8000000 in
set_option maxRecDepth 100000 in
theorem laws_FnBound.calls (k : Nat) (A0 : Option Addr) (c0 : Nat) (l0 : List Int) (r : Bool) (w : World) (hT : Gl w) (hr0 : Kd.C (Kd.int .u8) w A0 l0.length l0) (hc0 : l0.length ≤ c0) (h : laws_FnBound.f k l0 = some r) :
  Calls Tryd.prog 6 #[.slice A0 l0.length c0] w fun e w' => e = .returned (.bool r) ∧ Below w.heap.size w w' := by
 have hu46 := Tryd.underlying46
 have HR0 := Aside0.mk hr0
 have HC0 := Aside0.mk hc0
 clear hr0 hc0
 have HT := Aside0.mk hT
 clear hT
 have HB := Aside0.mk (Below.refl w.heap.size w)
 have H : ((laws_big.f l0).bind fun t672 => (if t672 = true then (some true) else ((spec_DrawBoundAt.f k l0).bind fun bt673 => ((impl_BoundAt.f k bt673.1 bt673.2.1 bt673.2.2).bind fun bt678 => ((spec_BoundAt.f k bt673.1 bt673.2.1 bt673.2.2).bind fun bt680 => (if bt678.1.toList = bt680.1.toList then (if (bt678.2 != bt680.2) = true then (laws_FnBound.j0 k bt673.1 bt673.2.1 bt673.2.2 bt678.1 bt678.2 bt680.1 bt680.2 true) else ((spec_DocOk.f k bt673.1).bind fun t682 => (if t682 = true then (if bt673.2.1 < 1 then (laws_FnBound.j0 k bt673.1 bt673.2.1 bt673.2.2 bt678.1 bt678.2 bt680.1 bt680.2 true) else (laws_FnBound.j0 k bt673.1 bt673.2.1 bt673.2.2 bt678.1 bt678.2 bt680.1 bt680.2 (decide (bt673.2.1 ≥ (bt673.1.length : Int))))) else (laws_FnBound.j0 k bt673.1 bt673.2.1 bt673.2.2 bt678.1 bt678.2 bt680.1 bt680.2 true)))) else (laws_FnBound.j0 k bt673.1 bt673.2.1 bt673.2.2 bt678.1 bt678.2 bt680.1 bt680.2 true))))))) = some r := h
 clear h
 replace H := Option.bind_eq_some_iff.mp H
 obtain ⟨t672, A20, H⟩ := H
 replace H : (if t672 = true then (some true) else ((spec_DrawBoundAt.f k l0).bind fun bt673 => ((impl_BoundAt.f k bt673.1 bt673.2.1 bt673.2.2).bind fun bt678 => ((spec_BoundAt.f k bt673.1 bt673.2.1 bt673.2.2).bind fun bt680 => (if bt678.1.toList = bt680.1.toList then (if (bt678.2 != bt680.2) = true then (laws_FnBound.j0 k bt673.1 bt673.2.1 bt673.2.2 bt678.1 bt678.2 bt680.1 bt680.2 true) else ((spec_DocOk.f k bt673.1).bind fun t682 => (if t682 = true then (if bt673.2.1 < 1 then (laws_FnBound.j0 k bt673.1 bt673.2.1 bt673.2.2 bt678.1 bt678.2 bt680.1 bt680.2 true) else (laws_FnBound.j0 k bt673.1 bt673.2.1 bt673.2.2 bt678.1 bt678.2 bt680.1 bt680.2 (decide (bt673.2.1 ≥ (bt673.1.length : Int))))) else (laws_FnBound.j0 k bt673.1 bt673.2.1 bt673.2.2 bt678.1 bt678.2 bt680.1 bt680.2 true)))) else (laws_FnBound.j0 k bt673.1 bt673.2.1 bt673.2.2 bt678.1 bt678.2 bt680.1 bt680.2 true)))))) = some r := H
 have A2 := Aside0.mk A20
 clear A20
 by_cases c3 : t672 = true
 ·subst c3
  have H1 : (some true) = some r := by rw [if_pos rfl] at H; exact H
  clear H
  have H := H1
  clear H1
  obtain rfl := Option.some.inj H
  go_enter Tryd.func6, Tryd.ntmps6
  go_wp2_with (first | ((with_reducible refine gate_callee (f := 18) rfl ?_); refine goesL_ (some 15) rfl rfl Tryd.func18 dq24 rfl #[.slice A0 l0.length c0] rfl dq23 ?_; (with_reducible refine (laws_big.calls _ _ l0 true _ ?side1 ?side2 A2.out).mono ?_); (case side1 => exact dq16); (case side2 => exact HC0.out); rintro e w' ⟨rfl, ⟨nd, rfl⟩⟩; refine ⟨_, rfl, ?_⟩))
  go_ret
  exact ⟨dq29, dq27⟩
 replace c3 := Bool.eq_false_iff.mpr c3
 subst c3
 have H1 : ((spec_DrawBoundAt.f k l0).bind fun bt673 => ((impl_BoundAt.f k bt673.1 bt673.2.1 bt673.2.2).bind fun bt678 => ((spec_BoundAt.f k bt673.1 bt673.2.1 bt673.2.2).bind fun bt680 => (if bt678.1.toList = bt680.1.toList then (if (bt678.2 != bt680.2) = true then (laws_FnBound.j0 k bt673.1 bt673.2.1 bt673.2.2 bt678.1 bt678.2 bt680.1 bt680.2 true) else ((spec_DocOk.f k bt673.1).bind fun t682 => (if t682 = true then (if bt673.2.1 < 1 then (laws_FnBound.j0 k bt673.1 bt673.2.1 bt673.2.2 bt678.1 bt678.2 bt680.1 bt680.2 true) else (laws_FnBound.j0 k bt673.1 bt673.2.1 bt673.2.2 bt678.1 bt678.2 bt680.1 bt680.2 (decide (bt673.2.1 ≥ (bt673.1.length : Int))))) else (laws_FnBound.j0 k bt673.1 bt673.2.1 bt673.2.2 bt678.1 bt678.2 bt680.1 bt680.2 true)))) else (laws_FnBound.j0 k bt673.1 bt673.2.1 bt673.2.2 bt678.1 bt678.2 bt680.1 bt680.2 true))))) = some r := by rw [if_neg (show ¬ (false = true) by decide)] at H; exact H
 clear H
 have H := H1
 clear H1
 replace H := Option.bind_eq_some_iff.mp H
 obtain ⟨⟨t673, t674, t675⟩, A40, H⟩ := H
 replace H : ((impl_BoundAt.f k t673 t674 t675).bind fun bt678 => ((spec_BoundAt.f k t673 t674 t675).bind fun bt680 => (if bt678.1.toList = bt680.1.toList then (if (bt678.2 != bt680.2) = true then (laws_FnBound.j0 k t673 t674 t675 bt678.1 bt678.2 bt680.1 bt680.2 true) else ((spec_DocOk.f k t673).bind fun t682 => (if t682 = true then (if t674 < 1 then (laws_FnBound.j0 k t673 t674 t675 bt678.1 bt678.2 bt680.1 bt680.2 true) else (laws_FnBound.j0 k t673 t674 t675 bt678.1 bt678.2 bt680.1 bt680.2 (decide (t674 ≥ (t673.length : Int))))) else (laws_FnBound.j0 k t673 t674 t675 bt678.1 bt678.2 bt680.1 bt680.2 true)))) else (laws_FnBound.j0 k t673 t674 t675 bt678.1 bt678.2 bt680.1 bt680.2 true)))) = some r := H
 have A4 := Aside0.mk A40
 clear A40
 replace H := Option.bind_eq_some_iff.mp H
 obtain ⟨⟨t678, t679⟩, A50, H⟩ := H
 replace H : ((spec_BoundAt.f k t673 t674 t675).bind fun bt680 => (if t678.toList = bt680.1.toList then (if (t679 != bt680.2) = true then (laws_FnBound.j0 k t673 t674 t675 t678 t679 bt680.1 bt680.2 true) else ((spec_DocOk.f k t673).bind fun t682 => (if t682 = true then (if t674 < 1 then (laws_FnBound.j0 k t673 t674 t675 t678 t679 bt680.1 bt680.2 true) else (laws_FnBound.j0 k t673 t674 t675 t678 t679 bt680.1 bt680.2 (decide (t674 ≥ (t673.length : Int))))) else (laws_FnBound.j0 k t673 t674 t675 t678 t679 bt680.1 bt680.2 true)))) else (laws_FnBound.j0 k t673 t674 t675 t678 t679 bt680.1 bt680.2 true))) = some r := H
 have A5 := Aside0.mk A50
 clear A50
 replace H := Option.bind_eq_some_iff.mp H
 obtain ⟨⟨t680, t681⟩, A60, H⟩ := H
 replace H : (if t678.toList = t680.toList then (if (t679 != t681) = true then (laws_FnBound.j0 k t673 t674 t675 t678 t679 t680 t681 true) else ((spec_DocOk.f k t673).bind fun t682 => (if t682 = true then (if t674 < 1 then (laws_FnBound.j0 k t673 t674 t675 t678 t679 t680 t681 true) else (laws_FnBound.j0 k t673 t674 t675 t678 t679 t680 t681 (decide (t674 ≥ (t673.length : Int))))) else (laws_FnBound.j0 k t673 t674 t675 t678 t679 t680 t681 true)))) else (laws_FnBound.j0 k t673 t674 t675 t678 t679 t680 t681 true)) = some r := H
 have A6 := Aside0.mk A60
 clear A60
 have HC7 := Aside0.mk H
 clear H
 go_enter Tryd.func6, Tryd.ntmps6
 go_upto_region 6 with (first | ((with_reducible refine gate_callee (f := 18) rfl ?_); refine goesL_ (some 15) rfl rfl Tryd.func18 dq24 rfl #[.slice A0 l0.length c0] rfl dq23 ?_; (with_reducible refine (laws_big.calls _ _ l0 false _ ?side1 ?side2 A2.out).mono ?_); (case side1 => exact dq16); (case side2 => exact HC0.out); rintro e w' ⟨rfl, ⟨nd, rfl⟩⟩; refine ⟨_, rfl, ?_⟩) | ((with_reducible refine gate_callee (f := 26) rfl ?_); refine goesL_ (some 18) rfl rfl Tryd.func26 dq24 rfl #[.slice A0 l0.length c0] rfl dq23 ?_; (with_reducible refine (spec_DrawBoundAt.calls k _ _ l0 t673 t674 t675 _ ?side1 ?side2 A4.out).mono ?_); (case side1 => exact dq16); (case side2 => exact HC0.out); rintro e w8 ⟨v676, rfl, ho0, hb⟩; refine ⟨_, rfl, ?_⟩; have n0_ := Aside0.mk (Kd.S_lower ho0 (below_size dq27)); have n1_ := Aside0.mk (below_step dq27 hb); clear HB; have HO677 := n0_; have HB := n1_; clear n0_ n1_; (try clear hb); (try clear hb2); (try clear hk); (try clear hi); (try clear ho0); obtain ⟨Ao9, co9, eo9⟩ := Kd.S_slice HO677.out; subst eo9) | ((with_reducible refine gate_callee (f := 27) rfl ?_); refine goesL_ (some 26) rfl rfl Tryd.func27 dq24 rfl #[.slice Ao9 t673.length co9, .int .i64 t674, .string t675] rfl dq23 ?_; (with_reducible refine (impl_BoundAt.calls k _ _ t673 t674 t675 t678 t679 _ ?side3 ?side1 ?side2 A5.out).mono ?_); (case side1 => exact dq17); (case side2 => exact (Kd.S_reads' HO677.out).2.1); (case side3 => exact dq12); rintro e w10 ⟨rfl, hb⟩; refine ⟨_, rfl, ?_⟩; have n0_ := Aside0.mk (Kd.S_below dq120 hb); have n1_ := Aside0.mk (below_step dq27 hb); clear HO677; clear HB; have HO677 := n0_; have HB := n1_; clear n0_ n1_; (try clear hb); (try clear hb2); (try clear hk); (try clear hi)) | ((with_reducible refine gate_callee (f := 28) rfl ?_); refine goesL_ (some 33) rfl rfl Tryd.func28 dq24 rfl #[.slice Ao9 t673.length co9, .int .i64 t674, .string t675] rfl dq23 ?_; (with_reducible refine (spec_BoundAt.calls k _ _ t673 t674 t675 t680 t681 _ ?side1 ?side2 A6.out).mono ?_); (case side1 => exact dq17); (case side2 => exact (Kd.S_reads' HO677.out).2.1); rintro e w11 ⟨rfl, hb⟩; refine ⟨_, rfl, ?_⟩; have n0_ := Aside0.mk (Kd.S_below dq120 hb); have n1_ := Aside0.mk (below_step dq27 hb); clear HO677; clear HB; have HO677 := n0_; have HB := n1_; clear n0_ n1_; (try clear hb); (try clear hb2); (try clear hk); (try clear hi)))
 (try simp only [Act.put, List.setIfInBounds_toArray, List.set_cons_zero, List.set_cons_succ])
 go_cut [58] (fun v58 wc => ∃ (kq : Nat) (x58_6 : Bool), v58 = .bool x58_6 ∧ Aside0 (laws_FnBound.j0 kq t673 t674 t675 t678 t679 t680 t681 x58_6 = some r) ∧ Aside0 (kq ≤ k) ∧ Aside0 (Kd.S k39 39 wc w.heap.size (fun _ => True) (.slice Ao9 t673.length co9) t673) ∧ Aside0 (Below w.heap.size w wc))
 case first =>
  have H := HC7.out
  clear HC7
  by_cases c12 : t678.toList = t680.toList
  rotate_left
  ·rw [if_neg c12] at H
   have c12b0 := beq_eq_false_iff_ne.mpr c12
   have c12b1 := bne_iff_ne.mpr c12
   (first | rw [c12b0] | rw [c12b3] | (simp only [i64_w, i32_w]; rw [c12b0]) | skip)
   have H' := Aside0.mk H
   clear H
   go_wp2
   go_meet
   case rel => exact ⟨_, (true), dq19, H', ⟨dq26⟩, ⟨dq120⟩, ⟨dq27⟩⟩
  rw [if_pos c12] at H
  have c12b0 := beq_iff_eq.mpr c12
  have c12b1 := bne_eq_false_iff_eq.mpr c12
  clear c12
  (first | rw [c12b0] | rw [c12b3] | (simp only [i64_w, i32_w]; rw [c12b0]) | skip)
  by_cases c13 : (t679 != t681) = true
  ·rw [if_pos c13] at H
   have c13b0 : (t679 != t681) = true := c13
   (try (have c13b1 : decide (t679 = t681) = false := by simpa using c13))
   (try (have c13b2 : (t679 == t681) = false := by simpa using c13))
   (try (have c13b3 : ¬ (t679 = t681) := by simpa using c13))
   clear c13
   have H' := Aside0.mk H
   clear H
   go_wp2
   go_meet
   case rel => exact ⟨_, (true), dq19, H', ⟨dq26⟩, ⟨dq120⟩, ⟨dq27⟩⟩
  rw [if_neg c13] at H
  have c13b0 : (t679 != t681) = false := by simpa using c13
  (try (have c13b1 : decide (t679 = t681) = true := by simpa using c13))
  (try (have c13b2 : (t679 == t681) = true := by simpa using c13))
  clear c13
  replace H := Option.bind_eq_some_iff.mp H
  obtain ⟨t682, A140, H⟩ := H
  replace H : (if t682 = true then (if t674 < 1 then (laws_FnBound.j0 k t673 t674 t675 t678 t679 t680 t681 true) else (laws_FnBound.j0 k t673 t674 t675 t678 t679 t680 t681 (decide (t674 ≥ (t673.length : Int))))) else (laws_FnBound.j0 k t673 t674 t675 t678 t679 t680 t681 true)) = some r := H
  have A14 := Aside0.mk A140
  clear A140
  by_cases c15 : t682 = true
  rotate_left
  ·replace c15 := Bool.eq_false_iff.mpr c15
   subst c15
   have H1 : (laws_FnBound.j0 k t673 t674 t675 t678 t679 t680 t681 true) = some r := by rw [if_neg (show ¬ (false = true) by decide)] at H; exact H
   clear H
   have H := H1
   clear H1
   have H' := Aside0.mk H
   clear H
   go_wp2_with (first | (go_at_call 23; (with_reducible refine (spec_DocOk.calls k _ _ t673 false _ ?side1 ?side2 A14.out).mono ?_); (case side1 => exact dq17); (case side2 => exact (Kd.S_reads' HO677.out).2.1); rintro e w19 ⟨rfl, hb⟩; have n0_ := Aside0.mk (Kd.S_below dq120 hb); have n1_ := Aside0.mk (below_step dq27 hb); clear HO677; clear HB; have HO677 := n0_; have HB := n1_; clear n0_ n1_; (try clear hb); (try clear hb2); (try clear hk); (try clear hi)))
   go_meet
   case rel => exact ⟨_, (true), dq19, H', ⟨dq26⟩, ⟨dq120⟩, ⟨dq27⟩⟩
  subst c15
  have H1 : (if t674 < 1 then (laws_FnBound.j0 k t673 t674 t675 t678 t679 t680 t681 true) else (laws_FnBound.j0 k t673 t674 t675 t678 t679 t680 t681 (decide (t674 ≥ (t673.length : Int))))) = some r := by rw [if_pos rfl] at H; exact H
  clear H
  have H := H1
  clear H1
  by_cases c16 : t674 < 1
  ·rw [if_pos c16] at H
   have c16b0 := decide_eq_true c16
   clear c16
   have H' := Aside0.mk H
   clear H
   go_wp2_with (first | (go_at_call 23; (with_reducible refine (spec_DocOk.calls k _ _ t673 true _ ?side1 ?side2 A14.out).mono ?_); (case side1 => exact dq17); (case side2 => exact (Kd.S_reads' HO677.out).2.1); rintro e w17 ⟨rfl, hb⟩; have n0_ := Aside0.mk (Kd.S_below dq120 hb); have n1_ := Aside0.mk (below_step dq27 hb); clear HO677; clear HB; have HO677 := n0_; have HB := n1_; clear n0_ n1_; (try clear hb); (try clear hb2); (try clear hk); (try clear hi)))
   go_meet
   case rel => exact ⟨_, (true), dq19, H', ⟨dq26⟩, ⟨dq120⟩, ⟨dq27⟩⟩
  rw [if_neg c16] at H
  have c16b0 := decide_eq_false c16
  clear c16
  have H' := Aside0.mk H
  clear H
  go_wp2_with (first | (go_at_call 23; (with_reducible refine (spec_DocOk.calls k _ _ t673 true _ ?side1 ?side2 A14.out).mono ?_); (case side1 => exact dq17); (case side2 => exact (Kd.S_reads' HO677.out).2.1); rintro e w18 ⟨rfl, hb⟩; have n0_ := Aside0.mk (Kd.S_below dq120 hb); have n1_ := Aside0.mk (below_step dq27 hb); clear HO677; clear HB; have HO677 := n0_; have HB := n1_; clear n0_ n1_; (try clear hb); (try clear hb2); (try clear hk); (try clear hi)))
  go_meet
  case rel => exact ⟨_, (decide (t674 ≥ (t673.length : Int))), dq19, H', ⟨dq26⟩, ⟨dq120⟩, ⟨dq27⟩⟩
 clear HC7
 obtain ⟨kq, x58_6, rfl, HA, HJ6, HO_3, HB⟩ := hcut
 cases kq with
 | zero => exact absurd HA.out (by simp [laws_FnBound.j0])
 | succ kj6 =>
  have H := HA.out
  clear HA
  simp only [laws_FnBound.j0] at H
  by_cases c20 : x58_6 = true
  ·subst c20
   have H1 : (if t678.toList = t680.toList then (some (t679 == t681)) else (some false)) = some r := by rw [if_pos rfl] at H; exact H
   clear H
   have H := H1
   clear H1
   by_cases c21 : t678.toList = t680.toList
   rotate_left
   ·rw [if_neg c21] at H
    have c21b0 := beq_eq_false_iff_ne.mpr c21
    have c21b1 := bne_iff_ne.mpr c21
    obtain rfl := Option.some.inj H
    go_wp2
    go_ret
    exact ⟨dq29, dq27⟩
   rw [if_pos c21] at H
   have c21b0 := beq_iff_eq.mpr c21
   have c21b1 := bne_eq_false_iff_eq.mpr c21
   clear c21
   obtain rfl := Option.some.inj H
   go_wp2
   go_ret
   exact ⟨dq29, dq27⟩
  replace c20 := Bool.eq_false_iff.mpr c20
  subst c20
  have H1 : (laws_FnBound.l0 kj6 t673 t674 t675 t678 t679 0) = some r := by rw [if_neg (show ¬ (false = true) by decide)] at H; exact H
  clear H
  have H := H1
  clear H1
  have H' := Aside0.mk H
  clear H
  go_wp2
  go_loopg [10] kj6 (fun kq v10 w' => ∃ (x10_2 : Int), v10 = .int .i64 x10_2 ∧ Aside0 (laws_FnBound.l0 kq t673 t674 t675 t678 t679 x10_2 = some r) ∧ Aside0 (kq ≤ kj6) ∧ Aside0 (Kd.S k39 39 w' w.heap.size (fun _ => True) (.slice Ao9 t673.length co9) t673) ∧ Aside0 (Below w.heap.size w w'))
  case atStart => exact ⟨(0), dq19, H', ⟨Nat.le_refl _⟩, ⟨dq66⟩, ⟨dq27⟩⟩
  clear H'
  obtain ⟨x10_2, rfl, HA, HK2, HO_3, HB⟩ := hrel
  cases gk with
  | zero => exact absurd HA.out (by simp [laws_FnBound.l0])
  | succ k2 =>
   have H := HA.out
   clear HA
   simp only [laws_FnBound.l0] at H
   by_cases c22 : 0 ≤ t674
   rotate_left
   ·rw [if_neg c22] at H
    exact absurd H dq22
   rw [if_pos c22] at H
   have c22b0 := decide_eq_true c22
   clear c22
   by_cases c23 : t674 < (t673.length : Int)
   rotate_left
   ·rw [if_neg c23] at H
    exact absurd H dq22
   rw [if_pos c23] at H
   have c23b0 := decide_eq_true c23
   clear c23
   by_cases c24 : x10_2 < (((rd_T39 t673 t674).f3).length : Int)
   rotate_left
   ·rw [if_neg c24] at H
    have c24b0 := decide_eq_false c24
    clear c24
    replace H := Option.bind_eq_some_iff.mp H
    obtain ⟨⟨t688, t689⟩, A690, H⟩ := H
    replace H : (if t688.toList = t678.toList then (some (t689 == t679)) else (some false)) = some r := H
    have A69 := Aside0.mk A690
    clear A690
    by_cases c70 : t688.toList = t678.toList
    rotate_left
    ·rw [if_neg c70] at H
     have c70b0 := beq_eq_false_iff_ne.mpr c70
     have c70b1 := bne_iff_ne.mpr c70
     obtain rfl := Option.some.inj H
     have p683 : 0 ≤ (t674 : Int) := of_decide_eq_true dq20
     have q683 : t674 < (t673.length : Int) := of_decide_eq_true dq20
     obtain ⟨ad683, A683_3, c683_3, e683, hx683_0, hx683_1, hx683_2, hx683_3, hl683_3, hi683_3⟩ := at_T39 (Kd.S_reads' HO_3.out).2.2 t674 p683 q683
     cases e683
     obtain ⟨ce683, hce683, hMe683, hcc683⟩ := Kd.S_get HO_3.out z39 t674 p683 dq121
     obtain ⟨ve683_3, rfl, ge683_3⟩ := k39_openM hMe683
     have hv683_3 := hcc683 3 _ rfl
     rw [add_field _ _ 3 dq25] at hv683_3
     replace hv683_3 := Option.some.inj (hv683_3.symm.trans hx683_3)
     rw [hv683_3] at ge683_3
     have HL683_3 := Aside0.mk (show Kd.R k46 46 _ _ _ _ ((rd_T39 t673 t674).f3) from ge683_3)
     clear hv683_3 ge683_3
     clear hcc683 hce683
     have HR683_3 := Aside0.mk hi683_3
     have HC683_3 := Aside0.mk hl683_3
     clear hi683_3 hl683_3
     replace p683 := eq_true p683
     replace q683 := eq_true q683
     have p687 : 0 ≤ (t674 : Int) := of_decide_eq_true dq20
     have q687 : t674 < (t673.length : Int) := of_decide_eq_true dq20
     obtain ⟨ad687, A687_3, c687_3, e687, hx687_0, hx687_1, hx687_2, hx687_3, hl687_3, hi687_3⟩ := at_T39 (Kd.S_reads' HO_3.out).2.2 t674 p687 q687
     obtain rfl : ad683 = ad687 := (by injection e687)
     obtain ⟨ce687, hce687, hMe687, hcc687⟩ := Kd.S_get HO_3.out z39 t674 p687 dq130
     obtain ⟨ve687_3, rfl, ge687_3⟩ := k39_openM hMe687
     have hv687_3 := hcc687 3 _ rfl
     rw [add_field _ _ 3 dq25] at hv687_3
     replace hv687_3 := Option.some.inj (hv687_3.symm.trans hx687_3)
     rw [hv687_3] at ge687_3
     have HL687_3 := Aside0.mk (show Kd.R k46 46 _ _ _ _ ((rd_T39 t673 t674).f3) from ge687_3)
     clear hv687_3 ge687_3
     clear hcc687 hce687
     have HR687_3 := Aside0.mk hi687_3
     have HC687_3 := Aside0.mk hl687_3
     clear hi687_3 hl687_3
     replace p687 := eq_true p687
     replace q687 := eq_true q687
     have ea_ := Option.some.inj (hx683_3.symm.trans hx687_3)
     injection ea_ with ea_ en_ ec_
     subst ea_
     subst ec_
     clear en_
     go_wp2_with (first | ((with_reducible refine gate_callee (f := 27) rfl ?_); refine goesL_ (some 126) rfl rfl Tryd.func27 dq24 rfl #[.slice (some ad683) t673.length co9, .int .i64 ((rd_T39 t673 t674).f0), .string t675] rfl dq23 ?_; (with_reducible refine (impl_BoundAt.calls k2 _ _ t673 ((rd_T39 t673 t674).f0) t675 t688 t689 _ ?side3 ?side1 ?side2 A69.out).mono ?_); (case side1 => repeat (first | exact (Kd.S_reads' HO_3.out).2.2 | (with_reducible refine Kd.C_alloc ?_ _) | (with_reducible refine Kd.C_drewN ?_ _) | (with_reducible refine Kd.C_drew ?_))); (case side2 => exact (Kd.S_reads' HO_3.out).2.1); (case side3 => exact dq12); rintro e w72 ⟨rfl, hb⟩; refine ⟨_, rfl, ?_⟩; have n0_ := Aside0.mk (Kd.S_below dq66 hb); have n1_ := Aside0.mk (Kd.R_below dq127 hb); have n2_ := Aside0.mk (Kd.R_below (by (with_reducible repeat (first | apply Kd.R_alloc | apply Kd.R_drewN | apply Kd.R_drew)); exact HL687_3.out) hb); have n3_ := Aside0.mk (Kd.C_below dq125 hb); have n4_ := Aside0.mk (Kd.C_below dq131 hb); have n5_ := Aside0.mk (below_step dq27 hb); clear HO_3; clear HL683_3; clear HL687_3; clear HR683_3; clear HR687_3; clear HB; have HO_3 := n0_; have HL683_3 := n1_; have HL687_3 := n2_; have HR683_3 := n3_; have HR687_3 := n4_; have HB := n5_; clear n0_ n1_ n2_ n3_ n4_ n5_; (try clear hb); (try clear hb2); (try clear hk); (try clear hi)))
     go_ret
     exact ⟨dq29, dq27⟩
    rw [if_pos c70] at H
    have c70b0 := beq_iff_eq.mpr c70
    have c70b1 := bne_eq_false_iff_eq.mpr c70
    clear c70
    obtain rfl := Option.some.inj H
    have p683 : 0 ≤ (t674 : Int) := of_decide_eq_true dq20
    have q683 : t674 < (t673.length : Int) := of_decide_eq_true dq20
    obtain ⟨ad683, A683_3, c683_3, e683, hx683_0, hx683_1, hx683_2, hx683_3, hl683_3, hi683_3⟩ := at_T39 (Kd.S_reads' HO_3.out).2.2 t674 p683 q683
    cases e683
    obtain ⟨ce683, hce683, hMe683, hcc683⟩ := Kd.S_get HO_3.out z39 t674 p683 dq121
    obtain ⟨ve683_3, rfl, ge683_3⟩ := k39_openM hMe683
    have hv683_3 := hcc683 3 _ rfl
    rw [add_field _ _ 3 dq25] at hv683_3
    replace hv683_3 := Option.some.inj (hv683_3.symm.trans hx683_3)
    rw [hv683_3] at ge683_3
    have HL683_3 := Aside0.mk (show Kd.R k46 46 _ _ _ _ ((rd_T39 t673 t674).f3) from ge683_3)
    clear hv683_3 ge683_3
    clear hcc683 hce683
    have HR683_3 := Aside0.mk hi683_3
    have HC683_3 := Aside0.mk hl683_3
    clear hi683_3 hl683_3
    replace p683 := eq_true p683
    replace q683 := eq_true q683
    have p687 : 0 ≤ (t674 : Int) := of_decide_eq_true dq20
    have q687 : t674 < (t673.length : Int) := of_decide_eq_true dq20
    obtain ⟨ad687, A687_3, c687_3, e687, hx687_0, hx687_1, hx687_2, hx687_3, hl687_3, hi687_3⟩ := at_T39 (Kd.S_reads' HO_3.out).2.2 t674 p687 q687
    obtain rfl : ad683 = ad687 := (by injection e687)
    obtain ⟨ce687, hce687, hMe687, hcc687⟩ := Kd.S_get HO_3.out z39 t674 p687 dq130
    obtain ⟨ve687_3, rfl, ge687_3⟩ := k39_openM hMe687
    have hv687_3 := hcc687 3 _ rfl
    rw [add_field _ _ 3 dq25] at hv687_3
    replace hv687_3 := Option.some.inj (hv687_3.symm.trans hx687_3)
    rw [hv687_3] at ge687_3
    have HL687_3 := Aside0.mk (show Kd.R k46 46 _ _ _ _ ((rd_T39 t673 t674).f3) from ge687_3)
    clear hv687_3 ge687_3
    clear hcc687 hce687
    have HR687_3 := Aside0.mk hi687_3
    have HC687_3 := Aside0.mk hl687_3
    clear hi687_3 hl687_3
    replace p687 := eq_true p687
    replace q687 := eq_true q687
    have ea_ := Option.some.inj (hx683_3.symm.trans hx687_3)
    injection ea_ with ea_ en_ ec_
    subst ea_
    subst ec_
    clear en_
    go_wp2_with (first | ((with_reducible refine gate_callee (f := 27) rfl ?_); refine goesL_ (some 126) rfl rfl Tryd.func27 dq24 rfl #[.slice (some ad683) t673.length co9, .int .i64 ((rd_T39 t673 t674).f0), .string t675] rfl dq23 ?_; (with_reducible refine (impl_BoundAt.calls k2 _ _ t673 ((rd_T39 t673 t674).f0) t675 t688 t689 _ ?side3 ?side1 ?side2 A69.out).mono ?_); (case side1 => repeat (first | exact (Kd.S_reads' HO_3.out).2.2 | (with_reducible refine Kd.C_alloc ?_ _) | (with_reducible refine Kd.C_drewN ?_ _) | (with_reducible refine Kd.C_drew ?_))); (case side2 => exact (Kd.S_reads' HO_3.out).2.1); (case side3 => exact dq12); rintro e w71 ⟨rfl, hb⟩; refine ⟨_, rfl, ?_⟩; have n0_ := Aside0.mk (Kd.S_below dq66 hb); have n1_ := Aside0.mk (Kd.R_below dq127 hb); have n2_ := Aside0.mk (Kd.R_below (by (with_reducible repeat (first | apply Kd.R_alloc | apply Kd.R_drewN | apply Kd.R_drew)); exact HL687_3.out) hb); have n3_ := Aside0.mk (Kd.C_below dq125 hb); have n4_ := Aside0.mk (Kd.C_below dq131 hb); have n5_ := Aside0.mk (below_step dq27 hb); clear HO_3; clear HL683_3; clear HL687_3; clear HR683_3; clear HR687_3; clear HB; have HO_3 := n0_; have HL683_3 := n1_; have HL687_3 := n2_; have HR683_3 := n3_; have HR687_3 := n4_; have HB := n5_; clear n0_ n1_ n2_ n3_ n4_ n5_; (try clear hb); (try clear hb2); (try clear hk); (try clear hi)))
    go_ret
    exact ⟨dq29, dq27⟩
   rw [if_pos c24] at H
   have c24b0 := decide_eq_true c24
   clear c24
   by_cases c25 : 0 ≤ x10_2
   rotate_left
   ·rw [if_neg c25] at H
    exact absurd H dq22
   rw [if_pos c25] at H
   have c25b0 := decide_eq_true c25
   clear c25
   by_cases c26 : ((rd_T46 ((rd_T39 t673 t674).f3) x10_2).f0).toList = ([120, 109, 108, 110, 115] : List UInt8)
   rotate_left
   ·rw [if_neg c26] at H
    have c26b0 := beq_eq_false_iff_ne.mpr c26
    have c26b1 := bne_iff_ne.mpr c26
    by_cases c54 : 6 + t675.size ≤ 9223372036854775807
    rotate_left
    ·rw [if_neg c54] at H
     exact absurd H dq22
    rw [if_pos c54] at H
    have c54b0 := eq_true c54
    have c54b1 := decide_eq_true c54
    try have c54b2 : (9223372036854775807 < 6 + t675.size) = False := eq_false (Nat.not_lt.2 c54)
    by_cases c55 : ((rd_T46 ((rd_T39 t673 t674).f3) x10_2).f0).toList = ((⟨#[120, 109, 108, 110, 115, 58]⟩ : ByteArray) ++ t675).toList
    rotate_left
    ·rw [if_neg c55] at H
     have c55b0 := beq_eq_false_iff_ne.mpr c55
     have c55b1 := bne_iff_ne.mpr c55
     have H' := Aside0.mk H
     clear H
     have p683 : 0 ≤ (t674 : Int) := of_decide_eq_true dq20
     have q683 : t674 < (t673.length : Int) := of_decide_eq_true dq20
     obtain ⟨ad683, A683_3, c683_3, e683, hx683_0, hx683_1, hx683_2, hx683_3, hl683_3, hi683_3⟩ := at_T39 (Kd.S_reads' HO_3.out).2.2 t674 p683 q683
     cases e683
     obtain ⟨ce683, hce683, hMe683, hcc683⟩ := Kd.S_get HO_3.out z39 t674 p683 dq121
     obtain ⟨ve683_3, rfl, ge683_3⟩ := k39_openM hMe683
     have hv683_3 := hcc683 3 _ rfl
     rw [add_field _ _ 3 dq25] at hv683_3
     replace hv683_3 := Option.some.inj (hv683_3.symm.trans hx683_3)
     rw [hv683_3] at ge683_3
     have HL683_3 := Aside0.mk (show Kd.R k46 46 _ _ _ _ ((rd_T39 t673 t674).f3) from ge683_3)
     clear hv683_3 ge683_3
     clear hcc683 hce683
     have HR683_3 := Aside0.mk hi683_3
     have HC683_3 := Aside0.mk hl683_3
     clear hi683_3 hl683_3
     replace p683 := eq_true p683
     replace q683 := eq_true q683
     have p684 : 0 ≤ (t674 : Int) := of_decide_eq_true dq20
     have q684 : t674 < (t673.length : Int) := of_decide_eq_true dq20
     obtain ⟨ad684, A684_3, c684_3, e684, hx684_0, hx684_1, hx684_2, hx684_3, hl684_3, hi684_3⟩ := at_T39 (Kd.S_reads' HO_3.out).2.2 t674 p684 q684
     obtain rfl : ad683 = ad684 := dq122
     obtain ⟨ce684, hce684, hMe684, hcc684⟩ := Kd.S_get HO_3.out z39 t674 p684 dq123
     obtain ⟨ve684_3, rfl, ge684_3⟩ := k39_openM hMe684
     have hv684_3 := hcc684 3 _ rfl
     rw [add_field _ _ 3 dq25] at hv684_3
     replace hv684_3 := Option.some.inj (hv684_3.symm.trans hx684_3)
     rw [hv684_3] at ge684_3
     have HL684_3 := Aside0.mk (show Kd.R k46 46 _ _ _ _ ((rd_T39 t673 t674).f3) from ge684_3)
     clear hv684_3 ge684_3
     clear hcc684 hce684
     have HR684_3 := Aside0.mk hi684_3
     have HC684_3 := Aside0.mk hl684_3
     clear hi684_3 hl684_3
     replace p684 := eq_true p684
     replace q684 := eq_true q684
     have ea_ := Option.some.inj (hx683_3.symm.trans hx684_3)
     injection ea_ with ea_ en_ ec_
     subst ea_
     subst ec_
     clear en_
     have p685 : 0 ≤ (x10_2 : Int) := of_decide_eq_true dq20
     have q685 : x10_2 < (((rd_T39 t673 t674).f3).length : Int) := of_decide_eq_true dq20
     obtain ⟨ad685, e685, hx685_0, hx685_1⟩ := at_T46 dq124 x10_2 p685 q685
     cases e685
     replace p685 := eq_true p685
     replace q685 := eq_true q685
     go_wp2_with (first | ((with_reducible refine gate_dst (N := 11) rfl ?_); (try (refine gate_guard (by rfl) ?_; dsimp only)); refine box_event ?hg (N := 11) ?hd (cs := #[.string (⟨#[]⟩ : ByteArray), .string (⟨#[]⟩ : ByteArray)]) (t := 46) ?hr ?_; (case hd => rfl); (case hg => rfl); (case hr => exact dq0); intro gb686 hg w67 hbox hb; have n0_ := Aside0.mk (Kd.S_below (Kd.S_elderB dq66 gb686 (Nat.le_of_eq hg.symm)) hb); have n1_ := Aside0.mk (Kd.R_below (Kd.R_elderB dq127 gb686 (Nat.le_of_eq hg.symm)) hb); have n2_ := Aside0.mk (Kd.R_below (Kd.R_elderB dq126 gb686 (Nat.le_of_eq hg.symm)) hb); have n3_ := Aside0.mk (Kd.C_below dq125 hb); have n4_ := Aside0.mk (Kd.C_below dq124 hb); have n5_ := Aside0.mk (below_step dq27 hb); have n6_ := Aside0.mk (hbox); have n7_ := Aside0.mk ((dq33 : w.heap.size ≤ gb686)); have n8_ := Aside0.mk ((dq33 : w.heap.size ≤ gb686)); clear HO_3; clear HL683_3; clear HL684_3; clear HR683_3; clear HR684_3; clear HB; have HO_3 := n0_; have HL683_3 := n1_; have HL684_3 := n2_; have HR683_3 := n3_; have HR684_3 := n4_; have HB := n5_; have BK686 := n6_; have GW686 := n7_; have GE686 := n8_; clear n0_ n1_ n2_ n3_ n4_ n5_ n6_ n7_ n8_; clear hb hbox hg; obtain ⟨⟨hcz68_0, hcz68_1⟩, hfz68_0, hfz68_1⟩ := blkC2 BK686.out))
     go_roundg k2
     case measure => have := HJ6.out; have := HK2.out; omega
     case rel => exact ⟨(wrap64 (x10_2 + 1)), dq19, H', ⟨by have := HJ6.out; have := HK2.out; omega⟩, ⟨dq129⟩, ⟨dq128⟩⟩
    rw [if_pos c55] at H
    have c55b0 := beq_iff_eq.mpr c55
    have c55b1 := bne_eq_false_iff_eq.mpr c55
    clear c55
    by_cases c56 : t675.toList = ([120, 109, 108] : List UInt8)
    ·rw [if_pos c56] at H
     have c56b0 := beq_iff_eq.mpr c56
     have c56b1 := bne_eq_false_iff_eq.mpr c56
     clear c56
     obtain rfl := Option.some.inj H
     have p683 : 0 ≤ (t674 : Int) := of_decide_eq_true dq20
     have q683 : t674 < (t673.length : Int) := of_decide_eq_true dq20
     obtain ⟨ad683, A683_3, c683_3, e683, hx683_0, hx683_1, hx683_2, hx683_3, hl683_3, hi683_3⟩ := at_T39 (Kd.S_reads' HO_3.out).2.2 t674 p683 q683
     cases e683
     obtain ⟨ce683, hce683, hMe683, hcc683⟩ := Kd.S_get HO_3.out z39 t674 p683 dq121
     obtain ⟨ve683_3, rfl, ge683_3⟩ := k39_openM hMe683
     have hv683_3 := hcc683 3 _ rfl
     rw [add_field _ _ 3 dq25] at hv683_3
     replace hv683_3 := Option.some.inj (hv683_3.symm.trans hx683_3)
     rw [hv683_3] at ge683_3
     have HL683_3 := Aside0.mk (show Kd.R k46 46 _ _ _ _ ((rd_T39 t673 t674).f3) from ge683_3)
     clear hv683_3 ge683_3
     clear hcc683 hce683
     have HR683_3 := Aside0.mk hi683_3
     have HC683_3 := Aside0.mk hl683_3
     clear hi683_3 hl683_3
     replace p683 := eq_true p683
     replace q683 := eq_true q683
     have p684 : 0 ≤ (t674 : Int) := of_decide_eq_true dq20
     have q684 : t674 < (t673.length : Int) := of_decide_eq_true dq20
     obtain ⟨ad684, A684_3, c684_3, e684, hx684_0, hx684_1, hx684_2, hx684_3, hl684_3, hi684_3⟩ := at_T39 (Kd.S_reads' HO_3.out).2.2 t674 p684 q684
     obtain rfl : ad683 = ad684 := dq122
     obtain ⟨ce684, hce684, hMe684, hcc684⟩ := Kd.S_get HO_3.out z39 t674 p684 dq123
     obtain ⟨ve684_3, rfl, ge684_3⟩ := k39_openM hMe684
     have hv684_3 := hcc684 3 _ rfl
     rw [add_field _ _ 3 dq25] at hv684_3
     replace hv684_3 := Option.some.inj (hv684_3.symm.trans hx684_3)
     rw [hv684_3] at ge684_3
     have HL684_3 := Aside0.mk (show Kd.R k46 46 _ _ _ _ ((rd_T39 t673 t674).f3) from ge684_3)
     clear hv684_3 ge684_3
     clear hcc684 hce684
     have HR684_3 := Aside0.mk hi684_3
     have HC684_3 := Aside0.mk hl684_3
     clear hi684_3 hl684_3
     replace p684 := eq_true p684
     replace q684 := eq_true q684
     have ea_ := Option.some.inj (hx683_3.symm.trans hx684_3)
     injection ea_ with ea_ en_ ec_
     subst ea_
     subst ec_
     clear en_
     have p685 : 0 ≤ (x10_2 : Int) := of_decide_eq_true dq20
     have q685 : x10_2 < (((rd_T39 t673 t674).f3).length : Int) := of_decide_eq_true dq20
     obtain ⟨ad685, e685, hx685_0, hx685_1⟩ := at_T46 dq124 x10_2 p685 q685
     cases e685
     replace p685 := eq_true p685
     replace q685 := eq_true q685
     go_wp2_with (first | ((with_reducible refine gate_dst (N := 11) rfl ?_); (try (refine gate_guard (by rfl) ?_; dsimp only)); refine box_event ?hg (N := 11) ?hd (cs := #[.string (⟨#[]⟩ : ByteArray), .string (⟨#[]⟩ : ByteArray)]) (t := 46) ?hr ?_; (case hd => rfl); (case hg => rfl); (case hr => exact dq0); intro gb686 hg w57 hbox hb; have n0_ := Aside0.mk (Kd.S_below (Kd.S_elderB dq66 gb686 (Nat.le_of_eq hg.symm)) hb); have n1_ := Aside0.mk (Kd.R_below (Kd.R_elderB dq127 gb686 (Nat.le_of_eq hg.symm)) hb); have n2_ := Aside0.mk (Kd.R_below (Kd.R_elderB dq126 gb686 (Nat.le_of_eq hg.symm)) hb); have n3_ := Aside0.mk (Kd.C_below dq125 hb); have n4_ := Aside0.mk (Kd.C_below dq124 hb); have n5_ := Aside0.mk (below_step dq27 hb); have n6_ := Aside0.mk (hbox); have n7_ := Aside0.mk ((dq33 : w.heap.size ≤ gb686)); have n8_ := Aside0.mk ((dq33 : w.heap.size ≤ gb686)); clear HO_3; clear HL683_3; clear HL684_3; clear HR683_3; clear HR684_3; clear HB; have HO_3 := n0_; have HL683_3 := n1_; have HL684_3 := n2_; have HR683_3 := n3_; have HR684_3 := n4_; have HB := n5_; have BK686 := n6_; have GW686 := n7_; have GE686 := n8_; clear n0_ n1_ n2_ n3_ n4_ n5_ n6_ n7_ n8_; clear hb hbox hg; obtain ⟨⟨hcz58_0, hcz58_1⟩, hfz58_0, hfz58_1⟩ := blkC2 BK686.out))
     go_ret
     exact ⟨dq29, dq128⟩
    rw [if_neg c56] at H
    have c56b0 := beq_eq_false_iff_ne.mpr c56
    have c56b1 := bne_iff_ne.mpr c56
    by_cases c59 : t678.toList = ((rd_T46 ((rd_T39 t673 t674).f3) x10_2).f1).toList
    rotate_left
    ·rw [if_neg c59] at H
     have c59b0 := beq_eq_false_iff_ne.mpr c59
     have c59b1 := bne_iff_ne.mpr c59
     obtain rfl := Option.some.inj H
     have p683 : 0 ≤ (t674 : Int) := of_decide_eq_true dq20
     have q683 : t674 < (t673.length : Int) := of_decide_eq_true dq20
     obtain ⟨ad683, A683_3, c683_3, e683, hx683_0, hx683_1, hx683_2, hx683_3, hl683_3, hi683_3⟩ := at_T39 (Kd.S_reads' HO_3.out).2.2 t674 p683 q683
     cases e683
     obtain ⟨ce683, hce683, hMe683, hcc683⟩ := Kd.S_get HO_3.out z39 t674 p683 dq121
     obtain ⟨ve683_3, rfl, ge683_3⟩ := k39_openM hMe683
     have hv683_3 := hcc683 3 _ rfl
     rw [add_field _ _ 3 dq25] at hv683_3
     replace hv683_3 := Option.some.inj (hv683_3.symm.trans hx683_3)
     rw [hv683_3] at ge683_3
     have HL683_3 := Aside0.mk (show Kd.R k46 46 _ _ _ _ ((rd_T39 t673 t674).f3) from ge683_3)
     clear hv683_3 ge683_3
     clear hcc683 hce683
     have HR683_3 := Aside0.mk hi683_3
     have HC683_3 := Aside0.mk hl683_3
     clear hi683_3 hl683_3
     replace p683 := eq_true p683
     replace q683 := eq_true q683
     have p684 : 0 ≤ (t674 : Int) := of_decide_eq_true dq20
     have q684 : t674 < (t673.length : Int) := of_decide_eq_true dq20
     obtain ⟨ad684, A684_3, c684_3, e684, hx684_0, hx684_1, hx684_2, hx684_3, hl684_3, hi684_3⟩ := at_T39 (Kd.S_reads' HO_3.out).2.2 t674 p684 q684
     obtain rfl : ad683 = ad684 := dq122
     obtain ⟨ce684, hce684, hMe684, hcc684⟩ := Kd.S_get HO_3.out z39 t674 p684 dq123
     obtain ⟨ve684_3, rfl, ge684_3⟩ := k39_openM hMe684
     have hv684_3 := hcc684 3 _ rfl
     rw [add_field _ _ 3 dq25] at hv684_3
     replace hv684_3 := Option.some.inj (hv684_3.symm.trans hx684_3)
     rw [hv684_3] at ge684_3
     have HL684_3 := Aside0.mk (show Kd.R k46 46 _ _ _ _ ((rd_T39 t673 t674).f3) from ge684_3)
     clear hv684_3 ge684_3
     clear hcc684 hce684
     have HR684_3 := Aside0.mk hi684_3
     have HC684_3 := Aside0.mk hl684_3
     clear hi684_3 hl684_3
     replace p684 := eq_true p684
     replace q684 := eq_true q684
     have ea_ := Option.some.inj (hx683_3.symm.trans hx684_3)
     injection ea_ with ea_ en_ ec_
     subst ea_
     subst ec_
     clear en_
     have p685 : 0 ≤ (x10_2 : Int) := of_decide_eq_true dq20
     have q685 : x10_2 < (((rd_T39 t673 t674).f3).length : Int) := of_decide_eq_true dq20
     obtain ⟨ad685, e685, hx685_0, hx685_1⟩ := at_T46 dq124 x10_2 p685 q685
     cases e685
     replace p685 := eq_true p685
     replace q685 := eq_true q685
     go_wp2_with (first | ((with_reducible refine gate_dst (N := 11) rfl ?_); (try (refine gate_guard (by rfl) ?_; dsimp only)); refine box_event ?hg (N := 11) ?hd (cs := #[.string (⟨#[]⟩ : ByteArray), .string (⟨#[]⟩ : ByteArray)]) (t := 46) ?hr ?_; (case hd => rfl); (case hg => rfl); (case hr => exact dq0); intro gb686 hg w65 hbox hb; have n0_ := Aside0.mk (Kd.S_below (Kd.S_elderB dq66 gb686 (Nat.le_of_eq hg.symm)) hb); have n1_ := Aside0.mk (Kd.R_below (Kd.R_elderB dq127 gb686 (Nat.le_of_eq hg.symm)) hb); have n2_ := Aside0.mk (Kd.R_below (Kd.R_elderB dq126 gb686 (Nat.le_of_eq hg.symm)) hb); have n3_ := Aside0.mk (Kd.C_below dq125 hb); have n4_ := Aside0.mk (Kd.C_below dq124 hb); have n5_ := Aside0.mk (below_step dq27 hb); have n6_ := Aside0.mk (hbox); have n7_ := Aside0.mk ((dq33 : w.heap.size ≤ gb686)); have n8_ := Aside0.mk ((dq33 : w.heap.size ≤ gb686)); clear HO_3; clear HL683_3; clear HL684_3; clear HR683_3; clear HR684_3; clear HB; have HO_3 := n0_; have HL683_3 := n1_; have HL684_3 := n2_; have HR683_3 := n3_; have HR684_3 := n4_; have HB := n5_; have BK686 := n6_; have GW686 := n7_; have GE686 := n8_; clear n0_ n1_ n2_ n3_ n4_ n5_ n6_ n7_ n8_; clear hb hbox hg; obtain ⟨⟨hcz66_0, hcz66_1⟩, hfz66_0, hfz66_1⟩ := blkC2 BK686.out))
     go_ret
     exact ⟨dq29, dq128⟩
    rw [if_pos c59] at H
    have c59b0 := beq_iff_eq.mpr c59
    have c59b1 := bne_eq_false_iff_eq.mpr c59
    clear c59
    by_cases c60 : ((rd_T46 ((rd_T39 t673 t674).f3) x10_2).f1).toList = ([] : List UInt8)
    rotate_left
    ·rw [if_neg c60] at H
     have c60b0 := beq_eq_false_iff_ne.mpr c60
     have c60b1 := bne_iff_ne.mpr c60
     obtain rfl := Option.some.inj H
     have p683 : 0 ≤ (t674 : Int) := of_decide_eq_true dq20
     have q683 : t674 < (t673.length : Int) := of_decide_eq_true dq20
     obtain ⟨ad683, A683_3, c683_3, e683, hx683_0, hx683_1, hx683_2, hx683_3, hl683_3, hi683_3⟩ := at_T39 (Kd.S_reads' HO_3.out).2.2 t674 p683 q683
     cases e683
     obtain ⟨ce683, hce683, hMe683, hcc683⟩ := Kd.S_get HO_3.out z39 t674 p683 dq121
     obtain ⟨ve683_3, rfl, ge683_3⟩ := k39_openM hMe683
     have hv683_3 := hcc683 3 _ rfl
     rw [add_field _ _ 3 dq25] at hv683_3
     replace hv683_3 := Option.some.inj (hv683_3.symm.trans hx683_3)
     rw [hv683_3] at ge683_3
     have HL683_3 := Aside0.mk (show Kd.R k46 46 _ _ _ _ ((rd_T39 t673 t674).f3) from ge683_3)
     clear hv683_3 ge683_3
     clear hcc683 hce683
     have HR683_3 := Aside0.mk hi683_3
     have HC683_3 := Aside0.mk hl683_3
     clear hi683_3 hl683_3
     replace p683 := eq_true p683
     replace q683 := eq_true q683
     have p684 : 0 ≤ (t674 : Int) := of_decide_eq_true dq20
     have q684 : t674 < (t673.length : Int) := of_decide_eq_true dq20
     obtain ⟨ad684, A684_3, c684_3, e684, hx684_0, hx684_1, hx684_2, hx684_3, hl684_3, hi684_3⟩ := at_T39 (Kd.S_reads' HO_3.out).2.2 t674 p684 q684
     obtain rfl : ad683 = ad684 := dq122
     obtain ⟨ce684, hce684, hMe684, hcc684⟩ := Kd.S_get HO_3.out z39 t674 p684 dq123
     obtain ⟨ve684_3, rfl, ge684_3⟩ := k39_openM hMe684
     have hv684_3 := hcc684 3 _ rfl
     rw [add_field _ _ 3 dq25] at hv684_3
     replace hv684_3 := Option.some.inj (hv684_3.symm.trans hx684_3)
     rw [hv684_3] at ge684_3
     have HL684_3 := Aside0.mk (show Kd.R k46 46 _ _ _ _ ((rd_T39 t673 t674).f3) from ge684_3)
     clear hv684_3 ge684_3
     clear hcc684 hce684
     have HR684_3 := Aside0.mk hi684_3
     have HC684_3 := Aside0.mk hl684_3
     clear hi684_3 hl684_3
     replace p684 := eq_true p684
     replace q684 := eq_true q684
     have ea_ := Option.some.inj (hx683_3.symm.trans hx684_3)
     injection ea_ with ea_ en_ ec_
     subst ea_
     subst ec_
     clear en_
     have p685 : 0 ≤ (x10_2 : Int) := of_decide_eq_true dq20
     have q685 : x10_2 < (((rd_T39 t673 t674).f3).length : Int) := of_decide_eq_true dq20
     obtain ⟨ad685, e685, hx685_0, hx685_1⟩ := at_T46 dq124 x10_2 p685 q685
     cases e685
     replace p685 := eq_true p685
     replace q685 := eq_true q685
     go_wp2_with (first | ((with_reducible refine gate_dst (N := 11) rfl ?_); (try (refine gate_guard (by rfl) ?_; dsimp only)); refine box_event ?hg (N := 11) ?hd (cs := #[.string (⟨#[]⟩ : ByteArray), .string (⟨#[]⟩ : ByteArray)]) (t := 46) ?hr ?_; (case hd => rfl); (case hg => rfl); (case hr => exact dq0); intro gb686 hg w63 hbox hb; have n0_ := Aside0.mk (Kd.S_below (Kd.S_elderB dq66 gb686 (Nat.le_of_eq hg.symm)) hb); have n1_ := Aside0.mk (Kd.R_below (Kd.R_elderB dq127 gb686 (Nat.le_of_eq hg.symm)) hb); have n2_ := Aside0.mk (Kd.R_below (Kd.R_elderB dq126 gb686 (Nat.le_of_eq hg.symm)) hb); have n3_ := Aside0.mk (Kd.C_below dq125 hb); have n4_ := Aside0.mk (Kd.C_below dq124 hb); have n5_ := Aside0.mk (below_step dq27 hb); have n6_ := Aside0.mk (hbox); have n7_ := Aside0.mk ((dq33 : w.heap.size ≤ gb686)); have n8_ := Aside0.mk ((dq33 : w.heap.size ≤ gb686)); clear HO_3; clear HL683_3; clear HL684_3; clear HR683_3; clear HR684_3; clear HB; have HO_3 := n0_; have HL683_3 := n1_; have HL684_3 := n2_; have HR683_3 := n3_; have HR684_3 := n4_; have HB := n5_; have BK686 := n6_; have GW686 := n7_; have GE686 := n8_; clear n0_ n1_ n2_ n3_ n4_ n5_ n6_ n7_ n8_; clear hb hbox hg; obtain ⟨⟨hcz64_0, hcz64_1⟩, hfz64_0, hfz64_1⟩ := blkC2 BK686.out))
     go_ret
     exact ⟨dq29, dq128⟩
    rw [if_pos c60] at H
    have c60b0 := beq_iff_eq.mpr c60
    have c60b1 := bne_eq_false_iff_eq.mpr c60
    clear c60
    obtain rfl := Option.some.inj H
    have p683 : 0 ≤ (t674 : Int) := of_decide_eq_true dq20
    have q683 : t674 < (t673.length : Int) := of_decide_eq_true dq20
    obtain ⟨ad683, A683_3, c683_3, e683, hx683_0, hx683_1, hx683_2, hx683_3, hl683_3, hi683_3⟩ := at_T39 (Kd.S_reads' HO_3.out).2.2 t674 p683 q683
    cases e683
    obtain ⟨ce683, hce683, hMe683, hcc683⟩ := Kd.S_get HO_3.out z39 t674 p683 dq121
    obtain ⟨ve683_3, rfl, ge683_3⟩ := k39_openM hMe683
    have hv683_3 := hcc683 3 _ rfl
    rw [add_field _ _ 3 dq25] at hv683_3
    replace hv683_3 := Option.some.inj (hv683_3.symm.trans hx683_3)
    rw [hv683_3] at ge683_3
    have HL683_3 := Aside0.mk (show Kd.R k46 46 _ _ _ _ ((rd_T39 t673 t674).f3) from ge683_3)
    clear hv683_3 ge683_3
    clear hcc683 hce683
    have HR683_3 := Aside0.mk hi683_3
    have HC683_3 := Aside0.mk hl683_3
    clear hi683_3 hl683_3
    replace p683 := eq_true p683
    replace q683 := eq_true q683
    have p684 : 0 ≤ (t674 : Int) := of_decide_eq_true dq20
    have q684 : t674 < (t673.length : Int) := of_decide_eq_true dq20
    obtain ⟨ad684, A684_3, c684_3, e684, hx684_0, hx684_1, hx684_2, hx684_3, hl684_3, hi684_3⟩ := at_T39 (Kd.S_reads' HO_3.out).2.2 t674 p684 q684
    obtain rfl : ad683 = ad684 := dq122
    obtain ⟨ce684, hce684, hMe684, hcc684⟩ := Kd.S_get HO_3.out z39 t674 p684 dq123
    obtain ⟨ve684_3, rfl, ge684_3⟩ := k39_openM hMe684
    have hv684_3 := hcc684 3 _ rfl
    rw [add_field _ _ 3 dq25] at hv684_3
    replace hv684_3 := Option.some.inj (hv684_3.symm.trans hx684_3)
    rw [hv684_3] at ge684_3
    have HL684_3 := Aside0.mk (show Kd.R k46 46 _ _ _ _ ((rd_T39 t673 t674).f3) from ge684_3)
    clear hv684_3 ge684_3
    clear hcc684 hce684
    have HR684_3 := Aside0.mk hi684_3
    have HC684_3 := Aside0.mk hl684_3
    clear hi684_3 hl684_3
    replace p684 := eq_true p684
    replace q684 := eq_true q684
    have ea_ := Option.some.inj (hx683_3.symm.trans hx684_3)
    injection ea_ with ea_ en_ ec_
    subst ea_
    subst ec_
    clear en_
    have p685 : 0 ≤ (x10_2 : Int) := of_decide_eq_true dq20
    have q685 : x10_2 < (((rd_T39 t673 t674).f3).length : Int) := of_decide_eq_true dq20
    obtain ⟨ad685, e685, hx685_0, hx685_1⟩ := at_T46 dq124 x10_2 p685 q685
    cases e685
    replace p685 := eq_true p685
    replace q685 := eq_true q685
    go_wp2_with (first | ((with_reducible refine gate_dst (N := 11) rfl ?_); (try (refine gate_guard (by rfl) ?_; dsimp only)); refine box_event ?hg (N := 11) ?hd (cs := #[.string (⟨#[]⟩ : ByteArray), .string (⟨#[]⟩ : ByteArray)]) (t := 46) ?hr ?_; (case hd => rfl); (case hg => rfl); (case hr => exact dq0); intro gb686 hg w61 hbox hb; have n0_ := Aside0.mk (Kd.S_below (Kd.S_elderB dq66 gb686 (Nat.le_of_eq hg.symm)) hb); have n1_ := Aside0.mk (Kd.R_below (Kd.R_elderB dq127 gb686 (Nat.le_of_eq hg.symm)) hb); have n2_ := Aside0.mk (Kd.R_below (Kd.R_elderB dq126 gb686 (Nat.le_of_eq hg.symm)) hb); have n3_ := Aside0.mk (Kd.C_below dq125 hb); have n4_ := Aside0.mk (Kd.C_below dq124 hb); have n5_ := Aside0.mk (below_step dq27 hb); have n6_ := Aside0.mk (hbox); have n7_ := Aside0.mk ((dq33 : w.heap.size ≤ gb686)); have n8_ := Aside0.mk ((dq33 : w.heap.size ≤ gb686)); clear HO_3; clear HL683_3; clear HL684_3; clear HR683_3; clear HR684_3; clear HB; have HO_3 := n0_; have HL683_3 := n1_; have HL684_3 := n2_; have HR683_3 := n3_; have HR684_3 := n4_; have HB := n5_; have BK686 := n6_; have GW686 := n7_; have GE686 := n8_; clear n0_ n1_ n2_ n3_ n4_ n5_ n6_ n7_ n8_; clear hb hbox hg; obtain ⟨⟨hcz62_0, hcz62_1⟩, hfz62_0, hfz62_1⟩ := blkC2 BK686.out))
    go_ret
    exact ⟨dq29, dq128⟩
   rw [if_pos c26] at H
   have c26b0 := beq_iff_eq.mpr c26
   have c26b1 := bne_eq_false_iff_eq.mpr c26
   clear c26
   by_cases c27 : t675.toList = ([] : List UInt8)
   ·rw [if_pos c27] at H
    have c27b0 := beq_iff_eq.mpr c27
    have c27b1 := bne_eq_false_iff_eq.mpr c27
    have c27b3 : (!t675.toList.isEmpty) = false := (bne_nilE66 t675.toList).symm.trans c27b1
    clear c27
    by_cases c28 : t675.toList = ([120, 109, 108] : List UInt8)
    ·rw [if_pos c28] at H
     have c28b0 := beq_iff_eq.mpr c28
     have c28b1 := bne_eq_false_iff_eq.mpr c28
     clear c28
     obtain rfl := Option.some.inj H
     have p683 : 0 ≤ (t674 : Int) := of_decide_eq_true dq20
     have q683 : t674 < (t673.length : Int) := of_decide_eq_true dq20
     obtain ⟨ad683, A683_3, c683_3, e683, hx683_0, hx683_1, hx683_2, hx683_3, hl683_3, hi683_3⟩ := at_T39 (Kd.S_reads' HO_3.out).2.2 t674 p683 q683
     cases e683
     obtain ⟨ce683, hce683, hMe683, hcc683⟩ := Kd.S_get HO_3.out z39 t674 p683 dq121
     obtain ⟨ve683_3, rfl, ge683_3⟩ := k39_openM hMe683
     have hv683_3 := hcc683 3 _ rfl
     rw [add_field _ _ 3 dq25] at hv683_3
     replace hv683_3 := Option.some.inj (hv683_3.symm.trans hx683_3)
     rw [hv683_3] at ge683_3
     have HL683_3 := Aside0.mk (show Kd.R k46 46 _ _ _ _ ((rd_T39 t673 t674).f3) from ge683_3)
     clear hv683_3 ge683_3
     clear hcc683 hce683
     have HR683_3 := Aside0.mk hi683_3
     have HC683_3 := Aside0.mk hl683_3
     clear hi683_3 hl683_3
     replace p683 := eq_true p683
     replace q683 := eq_true q683
     have p684 : 0 ≤ (t674 : Int) := of_decide_eq_true dq20
     have q684 : t674 < (t673.length : Int) := of_decide_eq_true dq20
     obtain ⟨ad684, A684_3, c684_3, e684, hx684_0, hx684_1, hx684_2, hx684_3, hl684_3, hi684_3⟩ := at_T39 (Kd.S_reads' HO_3.out).2.2 t674 p684 q684
     obtain rfl : ad683 = ad684 := dq122
     obtain ⟨ce684, hce684, hMe684, hcc684⟩ := Kd.S_get HO_3.out z39 t674 p684 dq123
     obtain ⟨ve684_3, rfl, ge684_3⟩ := k39_openM hMe684
     have hv684_3 := hcc684 3 _ rfl
     rw [add_field _ _ 3 dq25] at hv684_3
     replace hv684_3 := Option.some.inj (hv684_3.symm.trans hx684_3)
     rw [hv684_3] at ge684_3
     have HL684_3 := Aside0.mk (show Kd.R k46 46 _ _ _ _ ((rd_T39 t673 t674).f3) from ge684_3)
     clear hv684_3 ge684_3
     clear hcc684 hce684
     have HR684_3 := Aside0.mk hi684_3
     have HC684_3 := Aside0.mk hl684_3
     clear hi684_3 hl684_3
     replace p684 := eq_true p684
     replace q684 := eq_true q684
     have ea_ := Option.some.inj (hx683_3.symm.trans hx684_3)
     injection ea_ with ea_ en_ ec_
     subst ea_
     subst ec_
     clear en_
     have p685 : 0 ≤ (x10_2 : Int) := of_decide_eq_true dq20
     have q685 : x10_2 < (((rd_T39 t673 t674).f3).length : Int) := of_decide_eq_true dq20
     obtain ⟨ad685, e685, hx685_0, hx685_1⟩ := at_T46 dq124 x10_2 p685 q685
     cases e685
     replace p685 := eq_true p685
     replace q685 := eq_true q685
     go_wp2_with (first | ((with_reducible refine gate_dst (N := 11) rfl ?_); (try (refine gate_guard (by rfl) ?_; dsimp only)); refine box_event ?hg (N := 11) ?hd (cs := #[.string (⟨#[]⟩ : ByteArray), .string (⟨#[]⟩ : ByteArray)]) (t := 46) ?hr ?_; (case hd => rfl); (case hg => rfl); (case hr => exact dq0); intro gb686 hg w29 hbox hb; have n0_ := Aside0.mk (Kd.S_below (Kd.S_elderB dq66 gb686 (Nat.le_of_eq hg.symm)) hb); have n1_ := Aside0.mk (Kd.R_below (Kd.R_elderB dq127 gb686 (Nat.le_of_eq hg.symm)) hb); have n2_ := Aside0.mk (Kd.R_below (Kd.R_elderB dq126 gb686 (Nat.le_of_eq hg.symm)) hb); have n3_ := Aside0.mk (Kd.C_below dq125 hb); have n4_ := Aside0.mk (Kd.C_below dq124 hb); have n5_ := Aside0.mk (below_step dq27 hb); have n6_ := Aside0.mk (hbox); have n7_ := Aside0.mk ((dq33 : w.heap.size ≤ gb686)); have n8_ := Aside0.mk ((dq33 : w.heap.size ≤ gb686)); clear HO_3; clear HL683_3; clear HL684_3; clear HR683_3; clear HR684_3; clear HB; have HO_3 := n0_; have HL683_3 := n1_; have HL684_3 := n2_; have HR683_3 := n3_; have HR684_3 := n4_; have HB := n5_; have BK686 := n6_; have GW686 := n7_; have GE686 := n8_; clear n0_ n1_ n2_ n3_ n4_ n5_ n6_ n7_ n8_; clear hb hbox hg; obtain ⟨⟨hcz30_0, hcz30_1⟩, hfz30_0, hfz30_1⟩ := blkC2 BK686.out))
     go_ret
     exact ⟨dq29, dq128⟩
    rw [if_neg c28] at H
    have c28b0 := beq_eq_false_iff_ne.mpr c28
    have c28b1 := bne_iff_ne.mpr c28
    by_cases c31 : t678.toList = ((rd_T46 ((rd_T39 t673 t674).f3) x10_2).f1).toList
    rotate_left
    ·rw [if_neg c31] at H
     have c31b0 := beq_eq_false_iff_ne.mpr c31
     have c31b1 := bne_iff_ne.mpr c31
     obtain rfl := Option.some.inj H
     have p683 : 0 ≤ (t674 : Int) := of_decide_eq_true dq20
     have q683 : t674 < (t673.length : Int) := of_decide_eq_true dq20
     obtain ⟨ad683, A683_3, c683_3, e683, hx683_0, hx683_1, hx683_2, hx683_3, hl683_3, hi683_3⟩ := at_T39 (Kd.S_reads' HO_3.out).2.2 t674 p683 q683
     cases e683
     obtain ⟨ce683, hce683, hMe683, hcc683⟩ := Kd.S_get HO_3.out z39 t674 p683 dq121
     obtain ⟨ve683_3, rfl, ge683_3⟩ := k39_openM hMe683
     have hv683_3 := hcc683 3 _ rfl
     rw [add_field _ _ 3 dq25] at hv683_3
     replace hv683_3 := Option.some.inj (hv683_3.symm.trans hx683_3)
     rw [hv683_3] at ge683_3
     have HL683_3 := Aside0.mk (show Kd.R k46 46 _ _ _ _ ((rd_T39 t673 t674).f3) from ge683_3)
     clear hv683_3 ge683_3
     clear hcc683 hce683
     have HR683_3 := Aside0.mk hi683_3
     have HC683_3 := Aside0.mk hl683_3
     clear hi683_3 hl683_3
     replace p683 := eq_true p683
     replace q683 := eq_true q683
     have p684 : 0 ≤ (t674 : Int) := of_decide_eq_true dq20
     have q684 : t674 < (t673.length : Int) := of_decide_eq_true dq20
     obtain ⟨ad684, A684_3, c684_3, e684, hx684_0, hx684_1, hx684_2, hx684_3, hl684_3, hi684_3⟩ := at_T39 (Kd.S_reads' HO_3.out).2.2 t674 p684 q684
     obtain rfl : ad683 = ad684 := dq122
     obtain ⟨ce684, hce684, hMe684, hcc684⟩ := Kd.S_get HO_3.out z39 t674 p684 dq123
     obtain ⟨ve684_3, rfl, ge684_3⟩ := k39_openM hMe684
     have hv684_3 := hcc684 3 _ rfl
     rw [add_field _ _ 3 dq25] at hv684_3
     replace hv684_3 := Option.some.inj (hv684_3.symm.trans hx684_3)
     rw [hv684_3] at ge684_3
     have HL684_3 := Aside0.mk (show Kd.R k46 46 _ _ _ _ ((rd_T39 t673 t674).f3) from ge684_3)
     clear hv684_3 ge684_3
     clear hcc684 hce684
     have HR684_3 := Aside0.mk hi684_3
     have HC684_3 := Aside0.mk hl684_3
     clear hi684_3 hl684_3
     replace p684 := eq_true p684
     replace q684 := eq_true q684
     have ea_ := Option.some.inj (hx683_3.symm.trans hx684_3)
     injection ea_ with ea_ en_ ec_
     subst ea_
     subst ec_
     clear en_
     have p685 : 0 ≤ (x10_2 : Int) := of_decide_eq_true dq20
     have q685 : x10_2 < (((rd_T39 t673 t674).f3).length : Int) := of_decide_eq_true dq20
     obtain ⟨ad685, e685, hx685_0, hx685_1⟩ := at_T46 dq124 x10_2 p685 q685
     cases e685
     replace p685 := eq_true p685
     replace q685 := eq_true q685
     go_wp2_with (first | ((with_reducible refine gate_dst (N := 11) rfl ?_); (try (refine gate_guard (by rfl) ?_; dsimp only)); refine box_event ?hg (N := 11) ?hd (cs := #[.string (⟨#[]⟩ : ByteArray), .string (⟨#[]⟩ : ByteArray)]) (t := 46) ?hr ?_; (case hd => rfl); (case hg => rfl); (case hr => exact dq0); intro gb686 hg w37 hbox hb; have n0_ := Aside0.mk (Kd.S_below (Kd.S_elderB dq66 gb686 (Nat.le_of_eq hg.symm)) hb); have n1_ := Aside0.mk (Kd.R_below (Kd.R_elderB dq127 gb686 (Nat.le_of_eq hg.symm)) hb); have n2_ := Aside0.mk (Kd.R_below (Kd.R_elderB dq126 gb686 (Nat.le_of_eq hg.symm)) hb); have n3_ := Aside0.mk (Kd.C_below dq125 hb); have n4_ := Aside0.mk (Kd.C_below dq124 hb); have n5_ := Aside0.mk (below_step dq27 hb); have n6_ := Aside0.mk (hbox); have n7_ := Aside0.mk ((dq33 : w.heap.size ≤ gb686)); have n8_ := Aside0.mk ((dq33 : w.heap.size ≤ gb686)); clear HO_3; clear HL683_3; clear HL684_3; clear HR683_3; clear HR684_3; clear HB; have HO_3 := n0_; have HL683_3 := n1_; have HL684_3 := n2_; have HR683_3 := n3_; have HR684_3 := n4_; have HB := n5_; have BK686 := n6_; have GW686 := n7_; have GE686 := n8_; clear n0_ n1_ n2_ n3_ n4_ n5_ n6_ n7_ n8_; clear hb hbox hg; obtain ⟨⟨hcz38_0, hcz38_1⟩, hfz38_0, hfz38_1⟩ := blkC2 BK686.out))
     go_ret
     exact ⟨dq29, dq128⟩
    rw [if_pos c31] at H
    have c31b0 := beq_iff_eq.mpr c31
    have c31b1 := bne_eq_false_iff_eq.mpr c31
    clear c31
    by_cases c32 : ((rd_T46 ((rd_T39 t673 t674).f3) x10_2).f1).toList = ([] : List UInt8)
    rotate_left
    ·rw [if_neg c32] at H
     have c32b0 := beq_eq_false_iff_ne.mpr c32
     have c32b1 := bne_iff_ne.mpr c32
     obtain rfl := Option.some.inj H
     have p683 : 0 ≤ (t674 : Int) := of_decide_eq_true dq20
     have q683 : t674 < (t673.length : Int) := of_decide_eq_true dq20
     obtain ⟨ad683, A683_3, c683_3, e683, hx683_0, hx683_1, hx683_2, hx683_3, hl683_3, hi683_3⟩ := at_T39 (Kd.S_reads' HO_3.out).2.2 t674 p683 q683
     cases e683
     obtain ⟨ce683, hce683, hMe683, hcc683⟩ := Kd.S_get HO_3.out z39 t674 p683 dq121
     obtain ⟨ve683_3, rfl, ge683_3⟩ := k39_openM hMe683
     have hv683_3 := hcc683 3 _ rfl
     rw [add_field _ _ 3 dq25] at hv683_3
     replace hv683_3 := Option.some.inj (hv683_3.symm.trans hx683_3)
     rw [hv683_3] at ge683_3
     have HL683_3 := Aside0.mk (show Kd.R k46 46 _ _ _ _ ((rd_T39 t673 t674).f3) from ge683_3)
     clear hv683_3 ge683_3
     clear hcc683 hce683
     have HR683_3 := Aside0.mk hi683_3
     have HC683_3 := Aside0.mk hl683_3
     clear hi683_3 hl683_3
     replace p683 := eq_true p683
     replace q683 := eq_true q683
     have p684 : 0 ≤ (t674 : Int) := of_decide_eq_true dq20
     have q684 : t674 < (t673.length : Int) := of_decide_eq_true dq20
     obtain ⟨ad684, A684_3, c684_3, e684, hx684_0, hx684_1, hx684_2, hx684_3, hl684_3, hi684_3⟩ := at_T39 (Kd.S_reads' HO_3.out).2.2 t674 p684 q684
     obtain rfl : ad683 = ad684 := dq122
     obtain ⟨ce684, hce684, hMe684, hcc684⟩ := Kd.S_get HO_3.out z39 t674 p684 dq123
     obtain ⟨ve684_3, rfl, ge684_3⟩ := k39_openM hMe684
     have hv684_3 := hcc684 3 _ rfl
     rw [add_field _ _ 3 dq25] at hv684_3
     replace hv684_3 := Option.some.inj (hv684_3.symm.trans hx684_3)
     rw [hv684_3] at ge684_3
     have HL684_3 := Aside0.mk (show Kd.R k46 46 _ _ _ _ ((rd_T39 t673 t674).f3) from ge684_3)
     clear hv684_3 ge684_3
     clear hcc684 hce684
     have HR684_3 := Aside0.mk hi684_3
     have HC684_3 := Aside0.mk hl684_3
     clear hi684_3 hl684_3
     replace p684 := eq_true p684
     replace q684 := eq_true q684
     have ea_ := Option.some.inj (hx683_3.symm.trans hx684_3)
     injection ea_ with ea_ en_ ec_
     subst ea_
     subst ec_
     clear en_
     have p685 : 0 ≤ (x10_2 : Int) := of_decide_eq_true dq20
     have q685 : x10_2 < (((rd_T39 t673 t674).f3).length : Int) := of_decide_eq_true dq20
     obtain ⟨ad685, e685, hx685_0, hx685_1⟩ := at_T46 dq124 x10_2 p685 q685
     cases e685
     replace p685 := eq_true p685
     replace q685 := eq_true q685
     go_wp2_with (first | ((with_reducible refine gate_dst (N := 11) rfl ?_); (try (refine gate_guard (by rfl) ?_; dsimp only)); refine box_event ?hg (N := 11) ?hd (cs := #[.string (⟨#[]⟩ : ByteArray), .string (⟨#[]⟩ : ByteArray)]) (t := 46) ?hr ?_; (case hd => rfl); (case hg => rfl); (case hr => exact dq0); intro gb686 hg w35 hbox hb; have n0_ := Aside0.mk (Kd.S_below (Kd.S_elderB dq66 gb686 (Nat.le_of_eq hg.symm)) hb); have n1_ := Aside0.mk (Kd.R_below (Kd.R_elderB dq127 gb686 (Nat.le_of_eq hg.symm)) hb); have n2_ := Aside0.mk (Kd.R_below (Kd.R_elderB dq126 gb686 (Nat.le_of_eq hg.symm)) hb); have n3_ := Aside0.mk (Kd.C_below dq125 hb); have n4_ := Aside0.mk (Kd.C_below dq124 hb); have n5_ := Aside0.mk (below_step dq27 hb); have n6_ := Aside0.mk (hbox); have n7_ := Aside0.mk ((dq33 : w.heap.size ≤ gb686)); have n8_ := Aside0.mk ((dq33 : w.heap.size ≤ gb686)); clear HO_3; clear HL683_3; clear HL684_3; clear HR683_3; clear HR684_3; clear HB; have HO_3 := n0_; have HL683_3 := n1_; have HL684_3 := n2_; have HR683_3 := n3_; have HR684_3 := n4_; have HB := n5_; have BK686 := n6_; have GW686 := n7_; have GE686 := n8_; clear n0_ n1_ n2_ n3_ n4_ n5_ n6_ n7_ n8_; clear hb hbox hg; obtain ⟨⟨hcz36_0, hcz36_1⟩, hfz36_0, hfz36_1⟩ := blkC2 BK686.out))
     go_ret
     exact ⟨dq29, dq128⟩
    rw [if_pos c32] at H
    have c32b0 := beq_iff_eq.mpr c32
    have c32b1 := bne_eq_false_iff_eq.mpr c32
    clear c32
    obtain rfl := Option.some.inj H
    have p683 : 0 ≤ (t674 : Int) := of_decide_eq_true dq20
    have q683 : t674 < (t673.length : Int) := of_decide_eq_true dq20
    obtain ⟨ad683, A683_3, c683_3, e683, hx683_0, hx683_1, hx683_2, hx683_3, hl683_3, hi683_3⟩ := at_T39 (Kd.S_reads' HO_3.out).2.2 t674 p683 q683
    cases e683
    obtain ⟨ce683, hce683, hMe683, hcc683⟩ := Kd.S_get HO_3.out z39 t674 p683 dq121
    obtain ⟨ve683_3, rfl, ge683_3⟩ := k39_openM hMe683
    have hv683_3 := hcc683 3 _ rfl
    rw [add_field _ _ 3 dq25] at hv683_3
    replace hv683_3 := Option.some.inj (hv683_3.symm.trans hx683_3)
    rw [hv683_3] at ge683_3
    have HL683_3 := Aside0.mk (show Kd.R k46 46 _ _ _ _ ((rd_T39 t673 t674).f3) from ge683_3)
    clear hv683_3 ge683_3
    clear hcc683 hce683
    have HR683_3 := Aside0.mk hi683_3
    have HC683_3 := Aside0.mk hl683_3
    clear hi683_3 hl683_3
    replace p683 := eq_true p683
    replace q683 := eq_true q683
    have p684 : 0 ≤ (t674 : Int) := of_decide_eq_true dq20
    have q684 : t674 < (t673.length : Int) := of_decide_eq_true dq20
    obtain ⟨ad684, A684_3, c684_3, e684, hx684_0, hx684_1, hx684_2, hx684_3, hl684_3, hi684_3⟩ := at_T39 (Kd.S_reads' HO_3.out).2.2 t674 p684 q684
    obtain rfl : ad683 = ad684 := dq122
    obtain ⟨ce684, hce684, hMe684, hcc684⟩ := Kd.S_get HO_3.out z39 t674 p684 dq123
    obtain ⟨ve684_3, rfl, ge684_3⟩ := k39_openM hMe684
    have hv684_3 := hcc684 3 _ rfl
    rw [add_field _ _ 3 dq25] at hv684_3
    replace hv684_3 := Option.some.inj (hv684_3.symm.trans hx684_3)
    rw [hv684_3] at ge684_3
    have HL684_3 := Aside0.mk (show Kd.R k46 46 _ _ _ _ ((rd_T39 t673 t674).f3) from ge684_3)
    clear hv684_3 ge684_3
    clear hcc684 hce684
    have HR684_3 := Aside0.mk hi684_3
    have HC684_3 := Aside0.mk hl684_3
    clear hi684_3 hl684_3
    replace p684 := eq_true p684
    replace q684 := eq_true q684
    have ea_ := Option.some.inj (hx683_3.symm.trans hx684_3)
    injection ea_ with ea_ en_ ec_
    subst ea_
    subst ec_
    clear en_
    have p685 : 0 ≤ (x10_2 : Int) := of_decide_eq_true dq20
    have q685 : x10_2 < (((rd_T39 t673 t674).f3).length : Int) := of_decide_eq_true dq20
    obtain ⟨ad685, e685, hx685_0, hx685_1⟩ := at_T46 dq124 x10_2 p685 q685
    cases e685
    replace p685 := eq_true p685
    replace q685 := eq_true q685
    go_wp2_with (first | ((with_reducible refine gate_dst (N := 11) rfl ?_); (try (refine gate_guard (by rfl) ?_; dsimp only)); refine box_event ?hg (N := 11) ?hd (cs := #[.string (⟨#[]⟩ : ByteArray), .string (⟨#[]⟩ : ByteArray)]) (t := 46) ?hr ?_; (case hd => rfl); (case hg => rfl); (case hr => exact dq0); intro gb686 hg w33 hbox hb; have n0_ := Aside0.mk (Kd.S_below (Kd.S_elderB dq66 gb686 (Nat.le_of_eq hg.symm)) hb); have n1_ := Aside0.mk (Kd.R_below (Kd.R_elderB dq127 gb686 (Nat.le_of_eq hg.symm)) hb); have n2_ := Aside0.mk (Kd.R_below (Kd.R_elderB dq126 gb686 (Nat.le_of_eq hg.symm)) hb); have n3_ := Aside0.mk (Kd.C_below dq125 hb); have n4_ := Aside0.mk (Kd.C_below dq124 hb); have n5_ := Aside0.mk (below_step dq27 hb); have n6_ := Aside0.mk (hbox); have n7_ := Aside0.mk ((dq33 : w.heap.size ≤ gb686)); have n8_ := Aside0.mk ((dq33 : w.heap.size ≤ gb686)); clear HO_3; clear HL683_3; clear HL684_3; clear HR683_3; clear HR684_3; clear HB; have HO_3 := n0_; have HL683_3 := n1_; have HL684_3 := n2_; have HR683_3 := n3_; have HR684_3 := n4_; have HB := n5_; have BK686 := n6_; have GW686 := n7_; have GE686 := n8_; clear n0_ n1_ n2_ n3_ n4_ n5_ n6_ n7_ n8_; clear hb hbox hg; obtain ⟨⟨hcz34_0, hcz34_1⟩, hfz34_0, hfz34_1⟩ := blkC2 BK686.out))
    go_ret
    exact ⟨dq29, dq128⟩
   rw [if_neg c27] at H
   have c27b0 := beq_eq_false_iff_ne.mpr c27
   have c27b1 := bne_iff_ne.mpr c27
   have c27b3 : (!t675.toList.isEmpty) = true := (bne_nilE66 t675.toList).symm.trans c27b1
   by_cases c39 : 6 + t675.size ≤ 9223372036854775807
   rotate_left
   ·rw [if_neg c39] at H
    exact absurd H dq22
   rw [if_pos c39] at H
   have c39b0 := eq_true c39
   have c39b1 := decide_eq_true c39
   try have c39b2 : (9223372036854775807 < 6 + t675.size) = False := eq_false (Nat.not_lt.2 c39)
   by_cases c40 : ((rd_T46 ((rd_T39 t673 t674).f3) x10_2).f0).toList = ((⟨#[120, 109, 108, 110, 115, 58]⟩ : ByteArray) ++ t675).toList
   rotate_left
   ·rw [if_neg c40] at H
    have c40b0 := beq_eq_false_iff_ne.mpr c40
    have c40b1 := bne_iff_ne.mpr c40
    have H' := Aside0.mk H
    clear H
    have p683 : 0 ≤ (t674 : Int) := of_decide_eq_true dq20
    have q683 : t674 < (t673.length : Int) := of_decide_eq_true dq20
    obtain ⟨ad683, A683_3, c683_3, e683, hx683_0, hx683_1, hx683_2, hx683_3, hl683_3, hi683_3⟩ := at_T39 (Kd.S_reads' HO_3.out).2.2 t674 p683 q683
    cases e683
    obtain ⟨ce683, hce683, hMe683, hcc683⟩ := Kd.S_get HO_3.out z39 t674 p683 dq121
    obtain ⟨ve683_3, rfl, ge683_3⟩ := k39_openM hMe683
    have hv683_3 := hcc683 3 _ rfl
    rw [add_field _ _ 3 dq25] at hv683_3
    replace hv683_3 := Option.some.inj (hv683_3.symm.trans hx683_3)
    rw [hv683_3] at ge683_3
    have HL683_3 := Aside0.mk (show Kd.R k46 46 _ _ _ _ ((rd_T39 t673 t674).f3) from ge683_3)
    clear hv683_3 ge683_3
    clear hcc683 hce683
    have HR683_3 := Aside0.mk hi683_3
    have HC683_3 := Aside0.mk hl683_3
    clear hi683_3 hl683_3
    replace p683 := eq_true p683
    replace q683 := eq_true q683
    have p684 : 0 ≤ (t674 : Int) := of_decide_eq_true dq20
    have q684 : t674 < (t673.length : Int) := of_decide_eq_true dq20
    obtain ⟨ad684, A684_3, c684_3, e684, hx684_0, hx684_1, hx684_2, hx684_3, hl684_3, hi684_3⟩ := at_T39 (Kd.S_reads' HO_3.out).2.2 t674 p684 q684
    obtain rfl : ad683 = ad684 := dq122
    obtain ⟨ce684, hce684, hMe684, hcc684⟩ := Kd.S_get HO_3.out z39 t674 p684 dq123
    obtain ⟨ve684_3, rfl, ge684_3⟩ := k39_openM hMe684
    have hv684_3 := hcc684 3 _ rfl
    rw [add_field _ _ 3 dq25] at hv684_3
    replace hv684_3 := Option.some.inj (hv684_3.symm.trans hx684_3)
    rw [hv684_3] at ge684_3
    have HL684_3 := Aside0.mk (show Kd.R k46 46 _ _ _ _ ((rd_T39 t673 t674).f3) from ge684_3)
    clear hv684_3 ge684_3
    clear hcc684 hce684
    have HR684_3 := Aside0.mk hi684_3
    have HC684_3 := Aside0.mk hl684_3
    clear hi684_3 hl684_3
    replace p684 := eq_true p684
    replace q684 := eq_true q684
    have ea_ := Option.some.inj (hx683_3.symm.trans hx684_3)
    injection ea_ with ea_ en_ ec_
    subst ea_
    subst ec_
    clear en_
    have p685 : 0 ≤ (x10_2 : Int) := of_decide_eq_true dq20
    have q685 : x10_2 < (((rd_T39 t673 t674).f3).length : Int) := of_decide_eq_true dq20
    obtain ⟨ad685, e685, hx685_0, hx685_1⟩ := at_T46 dq124 x10_2 p685 q685
    cases e685
    replace p685 := eq_true p685
    replace q685 := eq_true q685
    go_wp2_with (first | ((with_reducible refine gate_dst (N := 11) rfl ?_); (try (refine gate_guard (by rfl) ?_; dsimp only)); refine box_event ?hg (N := 11) ?hd (cs := #[.string (⟨#[]⟩ : ByteArray), .string (⟨#[]⟩ : ByteArray)]) (t := 46) ?hr ?_; (case hd => rfl); (case hg => rfl); (case hr => exact dq0); intro gb686 hg w52 hbox hb; have n0_ := Aside0.mk (Kd.S_below (Kd.S_elderB dq66 gb686 (Nat.le_of_eq hg.symm)) hb); have n1_ := Aside0.mk (Kd.R_below (Kd.R_elderB dq127 gb686 (Nat.le_of_eq hg.symm)) hb); have n2_ := Aside0.mk (Kd.R_below (Kd.R_elderB dq126 gb686 (Nat.le_of_eq hg.symm)) hb); have n3_ := Aside0.mk (Kd.C_below dq125 hb); have n4_ := Aside0.mk (Kd.C_below dq124 hb); have n5_ := Aside0.mk (below_step dq27 hb); have n6_ := Aside0.mk (hbox); have n7_ := Aside0.mk ((dq33 : w.heap.size ≤ gb686)); have n8_ := Aside0.mk ((dq33 : w.heap.size ≤ gb686)); clear HO_3; clear HL683_3; clear HL684_3; clear HR683_3; clear HR684_3; clear HB; have HO_3 := n0_; have HL683_3 := n1_; have HL684_3 := n2_; have HR683_3 := n3_; have HR684_3 := n4_; have HB := n5_; have BK686 := n6_; have GW686 := n7_; have GE686 := n8_; clear n0_ n1_ n2_ n3_ n4_ n5_ n6_ n7_ n8_; clear hb hbox hg; obtain ⟨⟨hcz53_0, hcz53_1⟩, hfz53_0, hfz53_1⟩ := blkC2 BK686.out))
    go_roundg k2
    case measure => have := HJ6.out; have := HK2.out; omega
    case rel => exact ⟨(wrap64 (x10_2 + 1)), dq19, H', ⟨by have := HJ6.out; have := HK2.out; omega⟩, ⟨dq129⟩, ⟨dq128⟩⟩
   rw [if_pos c40] at H
   have c40b0 := beq_iff_eq.mpr c40
   have c40b1 := bne_eq_false_iff_eq.mpr c40
   clear c40
   by_cases c41 : t675.toList = ([120, 109, 108] : List UInt8)
   ·rw [if_pos c41] at H
    have c41b0 := beq_iff_eq.mpr c41
    have c41b1 := bne_eq_false_iff_eq.mpr c41
    clear c41
    obtain rfl := Option.some.inj H
    have p683 : 0 ≤ (t674 : Int) := of_decide_eq_true dq20
    have q683 : t674 < (t673.length : Int) := of_decide_eq_true dq20
    obtain ⟨ad683, A683_3, c683_3, e683, hx683_0, hx683_1, hx683_2, hx683_3, hl683_3, hi683_3⟩ := at_T39 (Kd.S_reads' HO_3.out).2.2 t674 p683 q683
    cases e683
    obtain ⟨ce683, hce683, hMe683, hcc683⟩ := Kd.S_get HO_3.out z39 t674 p683 dq121
    obtain ⟨ve683_3, rfl, ge683_3⟩ := k39_openM hMe683
    have hv683_3 := hcc683 3 _ rfl
    rw [add_field _ _ 3 dq25] at hv683_3
    replace hv683_3 := Option.some.inj (hv683_3.symm.trans hx683_3)
    rw [hv683_3] at ge683_3
    have HL683_3 := Aside0.mk (show Kd.R k46 46 _ _ _ _ ((rd_T39 t673 t674).f3) from ge683_3)
    clear hv683_3 ge683_3
    clear hcc683 hce683
    have HR683_3 := Aside0.mk hi683_3
    have HC683_3 := Aside0.mk hl683_3
    clear hi683_3 hl683_3
    replace p683 := eq_true p683
    replace q683 := eq_true q683
    have p684 : 0 ≤ (t674 : Int) := of_decide_eq_true dq20
    have q684 : t674 < (t673.length : Int) := of_decide_eq_true dq20
    obtain ⟨ad684, A684_3, c684_3, e684, hx684_0, hx684_1, hx684_2, hx684_3, hl684_3, hi684_3⟩ := at_T39 (Kd.S_reads' HO_3.out).2.2 t674 p684 q684
    obtain rfl : ad683 = ad684 := dq122
    obtain ⟨ce684, hce684, hMe684, hcc684⟩ := Kd.S_get HO_3.out z39 t674 p684 dq123
    obtain ⟨ve684_3, rfl, ge684_3⟩ := k39_openM hMe684
    have hv684_3 := hcc684 3 _ rfl
    rw [add_field _ _ 3 dq25] at hv684_3
    replace hv684_3 := Option.some.inj (hv684_3.symm.trans hx684_3)
    rw [hv684_3] at ge684_3
    have HL684_3 := Aside0.mk (show Kd.R k46 46 _ _ _ _ ((rd_T39 t673 t674).f3) from ge684_3)
    clear hv684_3 ge684_3
    clear hcc684 hce684
    have HR684_3 := Aside0.mk hi684_3
    have HC684_3 := Aside0.mk hl684_3
    clear hi684_3 hl684_3
    replace p684 := eq_true p684
    replace q684 := eq_true q684
    have ea_ := Option.some.inj (hx683_3.symm.trans hx684_3)
    injection ea_ with ea_ en_ ec_
    subst ea_
    subst ec_
    clear en_
    have p685 : 0 ≤ (x10_2 : Int) := of_decide_eq_true dq20
    have q685 : x10_2 < (((rd_T39 t673 t674).f3).length : Int) := of_decide_eq_true dq20
    obtain ⟨ad685, e685, hx685_0, hx685_1⟩ := at_T46 dq124 x10_2 p685 q685
    cases e685
    replace p685 := eq_true p685
    replace q685 := eq_true q685
    go_wp2_with (first | ((with_reducible refine gate_dst (N := 11) rfl ?_); (try (refine gate_guard (by rfl) ?_; dsimp only)); refine box_event ?hg (N := 11) ?hd (cs := #[.string (⟨#[]⟩ : ByteArray), .string (⟨#[]⟩ : ByteArray)]) (t := 46) ?hr ?_; (case hd => rfl); (case hg => rfl); (case hr => exact dq0); intro gb686 hg w42 hbox hb; have n0_ := Aside0.mk (Kd.S_below (Kd.S_elderB dq66 gb686 (Nat.le_of_eq hg.symm)) hb); have n1_ := Aside0.mk (Kd.R_below (Kd.R_elderB dq127 gb686 (Nat.le_of_eq hg.symm)) hb); have n2_ := Aside0.mk (Kd.R_below (Kd.R_elderB dq126 gb686 (Nat.le_of_eq hg.symm)) hb); have n3_ := Aside0.mk (Kd.C_below dq125 hb); have n4_ := Aside0.mk (Kd.C_below dq124 hb); have n5_ := Aside0.mk (below_step dq27 hb); have n6_ := Aside0.mk (hbox); have n7_ := Aside0.mk ((dq33 : w.heap.size ≤ gb686)); have n8_ := Aside0.mk ((dq33 : w.heap.size ≤ gb686)); clear HO_3; clear HL683_3; clear HL684_3; clear HR683_3; clear HR684_3; clear HB; have HO_3 := n0_; have HL683_3 := n1_; have HL684_3 := n2_; have HR683_3 := n3_; have HR684_3 := n4_; have HB := n5_; have BK686 := n6_; have GW686 := n7_; have GE686 := n8_; clear n0_ n1_ n2_ n3_ n4_ n5_ n6_ n7_ n8_; clear hb hbox hg; obtain ⟨⟨hcz43_0, hcz43_1⟩, hfz43_0, hfz43_1⟩ := blkC2 BK686.out))
    go_ret
    exact ⟨dq29, dq128⟩
   rw [if_neg c41] at H
   have c41b0 := beq_eq_false_iff_ne.mpr c41
   have c41b1 := bne_iff_ne.mpr c41
   by_cases c44 : t678.toList = ((rd_T46 ((rd_T39 t673 t674).f3) x10_2).f1).toList
   rotate_left
   ·rw [if_neg c44] at H
    have c44b0 := beq_eq_false_iff_ne.mpr c44
    have c44b1 := bne_iff_ne.mpr c44
    obtain rfl := Option.some.inj H
    have p683 : 0 ≤ (t674 : Int) := of_decide_eq_true dq20
    have q683 : t674 < (t673.length : Int) := of_decide_eq_true dq20
    obtain ⟨ad683, A683_3, c683_3, e683, hx683_0, hx683_1, hx683_2, hx683_3, hl683_3, hi683_3⟩ := at_T39 (Kd.S_reads' HO_3.out).2.2 t674 p683 q683
    cases e683
    obtain ⟨ce683, hce683, hMe683, hcc683⟩ := Kd.S_get HO_3.out z39 t674 p683 dq121
    obtain ⟨ve683_3, rfl, ge683_3⟩ := k39_openM hMe683
    have hv683_3 := hcc683 3 _ rfl
    rw [add_field _ _ 3 dq25] at hv683_3
    replace hv683_3 := Option.some.inj (hv683_3.symm.trans hx683_3)
    rw [hv683_3] at ge683_3
    have HL683_3 := Aside0.mk (show Kd.R k46 46 _ _ _ _ ((rd_T39 t673 t674).f3) from ge683_3)
    clear hv683_3 ge683_3
    clear hcc683 hce683
    have HR683_3 := Aside0.mk hi683_3
    have HC683_3 := Aside0.mk hl683_3
    clear hi683_3 hl683_3
    replace p683 := eq_true p683
    replace q683 := eq_true q683
    have p684 : 0 ≤ (t674 : Int) := of_decide_eq_true dq20
    have q684 : t674 < (t673.length : Int) := of_decide_eq_true dq20
    obtain ⟨ad684, A684_3, c684_3, e684, hx684_0, hx684_1, hx684_2, hx684_3, hl684_3, hi684_3⟩ := at_T39 (Kd.S_reads' HO_3.out).2.2 t674 p684 q684
    obtain rfl : ad683 = ad684 := dq122
    obtain ⟨ce684, hce684, hMe684, hcc684⟩ := Kd.S_get HO_3.out z39 t674 p684 dq123
    obtain ⟨ve684_3, rfl, ge684_3⟩ := k39_openM hMe684
    have hv684_3 := hcc684 3 _ rfl
    rw [add_field _ _ 3 dq25] at hv684_3
    replace hv684_3 := Option.some.inj (hv684_3.symm.trans hx684_3)
    rw [hv684_3] at ge684_3
    have HL684_3 := Aside0.mk (show Kd.R k46 46 _ _ _ _ ((rd_T39 t673 t674).f3) from ge684_3)
    clear hv684_3 ge684_3
    clear hcc684 hce684
    have HR684_3 := Aside0.mk hi684_3
    have HC684_3 := Aside0.mk hl684_3
    clear hi684_3 hl684_3
    replace p684 := eq_true p684
    replace q684 := eq_true q684
    have ea_ := Option.some.inj (hx683_3.symm.trans hx684_3)
    injection ea_ with ea_ en_ ec_
    subst ea_
    subst ec_
    clear en_
    have p685 : 0 ≤ (x10_2 : Int) := of_decide_eq_true dq20
    have q685 : x10_2 < (((rd_T39 t673 t674).f3).length : Int) := of_decide_eq_true dq20
    obtain ⟨ad685, e685, hx685_0, hx685_1⟩ := at_T46 dq124 x10_2 p685 q685
    cases e685
    replace p685 := eq_true p685
    replace q685 := eq_true q685
    go_wp2_with (first | ((with_reducible refine gate_dst (N := 11) rfl ?_); (try (refine gate_guard (by rfl) ?_; dsimp only)); refine box_event ?hg (N := 11) ?hd (cs := #[.string (⟨#[]⟩ : ByteArray), .string (⟨#[]⟩ : ByteArray)]) (t := 46) ?hr ?_; (case hd => rfl); (case hg => rfl); (case hr => exact dq0); intro gb686 hg w50 hbox hb; have n0_ := Aside0.mk (Kd.S_below (Kd.S_elderB dq66 gb686 (Nat.le_of_eq hg.symm)) hb); have n1_ := Aside0.mk (Kd.R_below (Kd.R_elderB dq127 gb686 (Nat.le_of_eq hg.symm)) hb); have n2_ := Aside0.mk (Kd.R_below (Kd.R_elderB dq126 gb686 (Nat.le_of_eq hg.symm)) hb); have n3_ := Aside0.mk (Kd.C_below dq125 hb); have n4_ := Aside0.mk (Kd.C_below dq124 hb); have n5_ := Aside0.mk (below_step dq27 hb); have n6_ := Aside0.mk (hbox); have n7_ := Aside0.mk ((dq33 : w.heap.size ≤ gb686)); have n8_ := Aside0.mk ((dq33 : w.heap.size ≤ gb686)); clear HO_3; clear HL683_3; clear HL684_3; clear HR683_3; clear HR684_3; clear HB; have HO_3 := n0_; have HL683_3 := n1_; have HL684_3 := n2_; have HR683_3 := n3_; have HR684_3 := n4_; have HB := n5_; have BK686 := n6_; have GW686 := n7_; have GE686 := n8_; clear n0_ n1_ n2_ n3_ n4_ n5_ n6_ n7_ n8_; clear hb hbox hg; obtain ⟨⟨hcz51_0, hcz51_1⟩, hfz51_0, hfz51_1⟩ := blkC2 BK686.out))
    go_ret
    exact ⟨dq29, dq128⟩
   rw [if_pos c44] at H
   have c44b0 := beq_iff_eq.mpr c44
   have c44b1 := bne_eq_false_iff_eq.mpr c44
   clear c44
   by_cases c45 : ((rd_T46 ((rd_T39 t673 t674).f3) x10_2).f1).toList = ([] : List UInt8)
   rotate_left
   ·rw [if_neg c45] at H
    have c45b0 := beq_eq_false_iff_ne.mpr c45
    have c45b1 := bne_iff_ne.mpr c45
    obtain rfl := Option.some.inj H
    have p683 : 0 ≤ (t674 : Int) := of_decide_eq_true dq20
    have q683 : t674 < (t673.length : Int) := of_decide_eq_true dq20
    obtain ⟨ad683, A683_3, c683_3, e683, hx683_0, hx683_1, hx683_2, hx683_3, hl683_3, hi683_3⟩ := at_T39 (Kd.S_reads' HO_3.out).2.2 t674 p683 q683
    cases e683
    obtain ⟨ce683, hce683, hMe683, hcc683⟩ := Kd.S_get HO_3.out z39 t674 p683 dq121
    obtain ⟨ve683_3, rfl, ge683_3⟩ := k39_openM hMe683
    have hv683_3 := hcc683 3 _ rfl
    rw [add_field _ _ 3 dq25] at hv683_3
    replace hv683_3 := Option.some.inj (hv683_3.symm.trans hx683_3)
    rw [hv683_3] at ge683_3
    have HL683_3 := Aside0.mk (show Kd.R k46 46 _ _ _ _ ((rd_T39 t673 t674).f3) from ge683_3)
    clear hv683_3 ge683_3
    clear hcc683 hce683
    have HR683_3 := Aside0.mk hi683_3
    have HC683_3 := Aside0.mk hl683_3
    clear hi683_3 hl683_3
    replace p683 := eq_true p683
    replace q683 := eq_true q683
    have p684 : 0 ≤ (t674 : Int) := of_decide_eq_true dq20
    have q684 : t674 < (t673.length : Int) := of_decide_eq_true dq20
    obtain ⟨ad684, A684_3, c684_3, e684, hx684_0, hx684_1, hx684_2, hx684_3, hl684_3, hi684_3⟩ := at_T39 (Kd.S_reads' HO_3.out).2.2 t674 p684 q684
    obtain rfl : ad683 = ad684 := dq122
    obtain ⟨ce684, hce684, hMe684, hcc684⟩ := Kd.S_get HO_3.out z39 t674 p684 dq123
    obtain ⟨ve684_3, rfl, ge684_3⟩ := k39_openM hMe684
    have hv684_3 := hcc684 3 _ rfl
    rw [add_field _ _ 3 dq25] at hv684_3
    replace hv684_3 := Option.some.inj (hv684_3.symm.trans hx684_3)
    rw [hv684_3] at ge684_3
    have HL684_3 := Aside0.mk (show Kd.R k46 46 _ _ _ _ ((rd_T39 t673 t674).f3) from ge684_3)
    clear hv684_3 ge684_3
    clear hcc684 hce684
    have HR684_3 := Aside0.mk hi684_3
    have HC684_3 := Aside0.mk hl684_3
    clear hi684_3 hl684_3
    replace p684 := eq_true p684
    replace q684 := eq_true q684
    have ea_ := Option.some.inj (hx683_3.symm.trans hx684_3)
    injection ea_ with ea_ en_ ec_
    subst ea_
    subst ec_
    clear en_
    have p685 : 0 ≤ (x10_2 : Int) := of_decide_eq_true dq20
    have q685 : x10_2 < (((rd_T39 t673 t674).f3).length : Int) := of_decide_eq_true dq20
    obtain ⟨ad685, e685, hx685_0, hx685_1⟩ := at_T46 dq124 x10_2 p685 q685
    cases e685
    replace p685 := eq_true p685
    replace q685 := eq_true q685
    go_wp2_with (first | ((with_reducible refine gate_dst (N := 11) rfl ?_); (try (refine gate_guard (by rfl) ?_; dsimp only)); refine box_event ?hg (N := 11) ?hd (cs := #[.string (⟨#[]⟩ : ByteArray), .string (⟨#[]⟩ : ByteArray)]) (t := 46) ?hr ?_; (case hd => rfl); (case hg => rfl); (case hr => exact dq0); intro gb686 hg w48 hbox hb; have n0_ := Aside0.mk (Kd.S_below (Kd.S_elderB dq66 gb686 (Nat.le_of_eq hg.symm)) hb); have n1_ := Aside0.mk (Kd.R_below (Kd.R_elderB dq127 gb686 (Nat.le_of_eq hg.symm)) hb); have n2_ := Aside0.mk (Kd.R_below (Kd.R_elderB dq126 gb686 (Nat.le_of_eq hg.symm)) hb); have n3_ := Aside0.mk (Kd.C_below dq125 hb); have n4_ := Aside0.mk (Kd.C_below dq124 hb); have n5_ := Aside0.mk (below_step dq27 hb); have n6_ := Aside0.mk (hbox); have n7_ := Aside0.mk ((dq33 : w.heap.size ≤ gb686)); have n8_ := Aside0.mk ((dq33 : w.heap.size ≤ gb686)); clear HO_3; clear HL683_3; clear HL684_3; clear HR683_3; clear HR684_3; clear HB; have HO_3 := n0_; have HL683_3 := n1_; have HL684_3 := n2_; have HR683_3 := n3_; have HR684_3 := n4_; have HB := n5_; have BK686 := n6_; have GW686 := n7_; have GE686 := n8_; clear n0_ n1_ n2_ n3_ n4_ n5_ n6_ n7_ n8_; clear hb hbox hg; obtain ⟨⟨hcz49_0, hcz49_1⟩, hfz49_0, hfz49_1⟩ := blkC2 BK686.out))
    go_ret
    exact ⟨dq29, dq128⟩
   rw [if_pos c45] at H
   have c45b0 := beq_iff_eq.mpr c45
   have c45b1 := bne_eq_false_iff_eq.mpr c45
   clear c45
   obtain rfl := Option.some.inj H
   have p683 : 0 ≤ (t674 : Int) := of_decide_eq_true dq20
   have q683 : t674 < (t673.length : Int) := of_decide_eq_true dq20
   obtain ⟨ad683, A683_3, c683_3, e683, hx683_0, hx683_1, hx683_2, hx683_3, hl683_3, hi683_3⟩ := at_T39 (Kd.S_reads' HO_3.out).2.2 t674 p683 q683
   cases e683
   obtain ⟨ce683, hce683, hMe683, hcc683⟩ := Kd.S_get HO_3.out z39 t674 p683 dq121
   obtain ⟨ve683_3, rfl, ge683_3⟩ := k39_openM hMe683
   have hv683_3 := hcc683 3 _ rfl
   rw [add_field _ _ 3 dq25] at hv683_3
   replace hv683_3 := Option.some.inj (hv683_3.symm.trans hx683_3)
   rw [hv683_3] at ge683_3
   have HL683_3 := Aside0.mk (show Kd.R k46 46 _ _ _ _ ((rd_T39 t673 t674).f3) from ge683_3)
   clear hv683_3 ge683_3
   clear hcc683 hce683
   have HR683_3 := Aside0.mk hi683_3
   have HC683_3 := Aside0.mk hl683_3
   clear hi683_3 hl683_3
   replace p683 := eq_true p683
   replace q683 := eq_true q683
   have p684 : 0 ≤ (t674 : Int) := of_decide_eq_true dq20
   have q684 : t674 < (t673.length : Int) := of_decide_eq_true dq20
   obtain ⟨ad684, A684_3, c684_3, e684, hx684_0, hx684_1, hx684_2, hx684_3, hl684_3, hi684_3⟩ := at_T39 (Kd.S_reads' HO_3.out).2.2 t674 p684 q684
   obtain rfl : ad683 = ad684 := dq122
   obtain ⟨ce684, hce684, hMe684, hcc684⟩ := Kd.S_get HO_3.out z39 t674 p684 dq123
   obtain ⟨ve684_3, rfl, ge684_3⟩ := k39_openM hMe684
   have hv684_3 := hcc684 3 _ rfl
   rw [add_field _ _ 3 dq25] at hv684_3
   replace hv684_3 := Option.some.inj (hv684_3.symm.trans hx684_3)
   rw [hv684_3] at ge684_3
   have HL684_3 := Aside0.mk (show Kd.R k46 46 _ _ _ _ ((rd_T39 t673 t674).f3) from ge684_3)
   clear hv684_3 ge684_3
   clear hcc684 hce684
   have HR684_3 := Aside0.mk hi684_3
   have HC684_3 := Aside0.mk hl684_3
   clear hi684_3 hl684_3
   replace p684 := eq_true p684
   replace q684 := eq_true q684
   have ea_ := Option.some.inj (hx683_3.symm.trans hx684_3)
   injection ea_ with ea_ en_ ec_
   subst ea_
   subst ec_
   clear en_
   have p685 : 0 ≤ (x10_2 : Int) := of_decide_eq_true dq20
   have q685 : x10_2 < (((rd_T39 t673 t674).f3).length : Int) := of_decide_eq_true dq20
   obtain ⟨ad685, e685, hx685_0, hx685_1⟩ := at_T46 dq124 x10_2 p685 q685
   cases e685
   replace p685 := eq_true p685
   replace q685 := eq_true q685
   go_wp2_with (first | ((with_reducible refine gate_dst (N := 11) rfl ?_); (try (refine gate_guard (by rfl) ?_; dsimp only)); refine box_event ?hg (N := 11) ?hd (cs := #[.string (⟨#[]⟩ : ByteArray), .string (⟨#[]⟩ : ByteArray)]) (t := 46) ?hr ?_; (case hd => rfl); (case hg => rfl); (case hr => exact dq0); intro gb686 hg w46 hbox hb; have n0_ := Aside0.mk (Kd.S_below (Kd.S_elderB dq66 gb686 (Nat.le_of_eq hg.symm)) hb); have n1_ := Aside0.mk (Kd.R_below (Kd.R_elderB dq127 gb686 (Nat.le_of_eq hg.symm)) hb); have n2_ := Aside0.mk (Kd.R_below (Kd.R_elderB dq126 gb686 (Nat.le_of_eq hg.symm)) hb); have n3_ := Aside0.mk (Kd.C_below dq125 hb); have n4_ := Aside0.mk (Kd.C_below dq124 hb); have n5_ := Aside0.mk (below_step dq27 hb); have n6_ := Aside0.mk (hbox); have n7_ := Aside0.mk ((dq33 : w.heap.size ≤ gb686)); have n8_ := Aside0.mk ((dq33 : w.heap.size ≤ gb686)); clear HO_3; clear HL683_3; clear HL684_3; clear HR683_3; clear HR684_3; clear HB; have HO_3 := n0_; have HL683_3 := n1_; have HL684_3 := n2_; have HR683_3 := n3_; have HR684_3 := n4_; have HB := n5_; have BK686 := n6_; have GW686 := n7_; have GE686 := n8_; clear n0_ n1_ n2_ n3_ n4_ n5_ n6_ n7_ n8_; clear hb hbox hg; obtain ⟨⟨hcz47_0, hcz47_1⟩, hfz47_0, hfz47_1⟩ := blkC2 BK686.out))
   go_ret
   exact ⟨dq29, dq128⟩

/-- THE ONE PURE STATEMENT of laws_FnBound: yours. -/
def laws_FnBound.Pure : Prop := ∀ (l0 : List Int), l0.length ≤ maxLen → l0.length * 1 ≤ 140737488351232 → (∀ x ∈ l0, (Lit.int .u8 x).wf = true) → ∃ k, laws_FnBound.f k l0 = some true
theorem laws_FnBound.walk (P : laws_FnBound.Pure) (a0 : Option Addr) (len0 cap0 : Nat) (z0 : List Int) (w : World) (hT : Gl w) (w0 : (a0 = none ∧ len0 = 0 ∧ cap0 = 0 ∧ z0 = []) ∨ ∃ x, a0 = some x ∧ len0 ≤ cap0 ∧ cap0 ≤ maxLen ∧ z0.length = cap0 ∧ (∀ i, i < z0.length → w.cell? (x.add i) = some (.int .u8 (z0.getD i 0))) ∧ ∀ n ∈ z0, (Lit.int .u8 n).wf = true) (y0 : len0 * 1 ≤ 140737488351232) :
  Calls Tryd.prog 6 #[.slice a0 len0 cap0] w fun e w' => e = .returned (.bool true) ∧ Below w.heap.size w w' := by
 obtain ⟨l0, rfl, hr0, hm0, hw0, hc0⟩ := ReadsInt.ofRowC w0
 obtain ⟨k, h⟩ := P l0 hm0 y0 hw0
 refine (laws_FnBound.calls k _ _ l0 true w hT (Kd.C_of_reads (d := (0 : Int)) (h1 := fun _ => rfl) hr0) hc0 h).mono ?_
 rintro e w' ⟨rfl, hd⟩
 exact ⟨rfl, hd⟩

end Go.Proofs.YtpmjpbaeecnpiaaDoor.L

namespace Go.Proofs.YtpmjpbaeecnpiaaDoor.Pure
open Go.RowKit Go.Proofs.YtpmjpbaeecnpiaaDoor.L Go.Proofs.YtpmjpbaeecnpiaaDoorW.PrintWords Go.Proofs.YtpmjpbaeecnpiaaDoorW.PrintLast Go.Proofs.YtpmjpbaeecnpiaaDoorW.PrintMore
set_option linter.unusedVariables false
set_option linter.unusedSimpArgs false

theorem ba_ext {a b : ByteArray} (h : a.data.toList = b.data.toList) : a = b := by
  cases a; cases b; simp only [ByteArray.mk.injEq]; exact Array.toList_inj.mp h
theorem ba_app (a b : ByteArray) : (a ++ b).data.toList = a.data.toList ++ b.data.toList := by
  rw [ByteArray.data_append, Array.toList_append]
theorem sz (a : ByteArray) : a.size = a.data.toList.length := (data_length a).symm
theorem w64 {n : Int} (h : -9223372036854775808 ≤ n) (h' : n ≤ 9223372036854775807) : wrap64 n = n := by unfold wrap64; omega
theorem bt_nat (s : ByteArray) (i : Nat) (h : i < s.data.toList.length) : bt s (i : Int) = ((s.data.toList[i]).toNat : Int) := by
  have h' : i < s.size := by rw [sz]; exact h
  unfold bt
  rw [dif_pos (by simpa using h')]
  simp only [Int.toNat_natCast]
  rfl
theorem first_bt (s : ByteArray) (b : UInt8) (l : List UInt8) (h : s.data.toList = b :: l) : bt s 0 = (b.toNat : Int) := by
  have := bt_nat s 0 (by rw [h]; simp)
  simp only [h, Int.ofNat_zero, List.getElem_cons_zero] at this
  simpa using this
theorem byte_is (b : UInt8) (n : Nat) (hn : n < 256) : ((b.toNat : Int) = (n : Int)) ↔ b = UInt8.ofNat n := by
  constructor
  · intro h
    apply UInt8.toNat.inj
    rw [UInt8.toNat_ofNat']
    omega
  · intro h; subst h; rw [UInt8.toNat_ofNat']; omega
/-- A row of bytes that is a name. -/
def fstB (b : UInt8) : Bool := decide (97 ≤ b.toNat ∧ b.toNat ≤ 122) || decide (65 ≤ b.toNat ∧ b.toNat ≤ 90) || decide (b.toNat = 95)
def moreB (b : UInt8) : Bool := fstB b || decide (48 ≤ b.toNat ∧ b.toNat ≤ 57) || decide (b.toNat = 46) || decide (b.toNat = 45)
def nameB : List UInt8 → Bool
  | [] => false
  | b :: t => fstB b && t.all moreB && decide (t.length + 1 ≤ 40)
theorem u8_all {p : UInt8 → Prop} (h : ∀ n : Fin 256, p (UInt8.ofNat n.val)) (b : UInt8) : p b := by
  have := h ⟨b.toNat, b.toNat_lt⟩
  simpa using this
theorem first_f (b : UInt8) : spec_l1First.f (b.toNat : Int) = some (fstB b) := by
  revert b
  refine u8_all ?_
  decide +kernel
theorem more_f (b : UInt8) : spec_l1More.f (b.toNat : Int) = some (moreB b) := by
  revert b
  refine u8_all ?_
  decide +kernel
theorem spec_name_l0 (s : ByteArray) (hs : s.data.toList.length ≤ 9223372036854775806) : ∀ (n i : Nat), i + n = s.data.toList.length →
    Ev (fun k => spec_NameOk.l0 k s (i : Int)) ((s.data.toList.drop i).all moreB) := by
  intro n
  induction n with
  | zero =>
    intro i hi
    refine Ev.step (f := fun _ => some true) (fun k => ?_) ?_
    · unfold spec_NameOk.l0
      rw [if_neg (by rw [sz]; omega)]
    · rw [List.drop_of_length_le (by omega)]; exact Ev.now _
  | succ n ih =>
    intro i hi
    have hlt : i < s.data.toList.length := by omega
    have e : spec_l1More.f (bt s (i : Int)) = some (moreB (s.data.toList[i])) := by rw [bt_nat s i hlt]; exact more_f _
    have hd : s.data.toList.drop i = s.data.toList[i] :: s.data.toList.drop (i + 1) := List.drop_eq_getElem_cons hlt
    have w : wrap64 ((i : Int) + 1) = ((i + 1 : Nat) : Int) := by rw [w64] <;> omega
    by_cases c : moreB (s.data.toList[i]) = true
    · refine Ev.step (f := fun k => spec_NameOk.l0 k s ((i + 1 : Nat) : Int)) (fun k => ?_) ?_
      · conv => lhs; unfold spec_NameOk.l0
        rw [if_pos (by rw [sz]; omega), if_pos (by omega), e]
        simp only [Option.bind_some, if_pos c, w]
      · rw [hd, List.all_cons, c, Bool.true_and]; exact ih (i + 1) (by omega)
    · refine Ev.step (f := fun _ => some false) (fun k => ?_) ?_
      · conv => lhs; unfold spec_NameOk.l0
        rw [if_pos (by rw [sz]; omega), if_pos (by omega), e]
        simp only [Option.bind_some, if_neg c]
      · rw [hd, List.all_cons]
        rw [Bool.not_eq_true] at c
        rw [c, Bool.false_and]; exact Ev.now _
theorem spec_name (s : ByteArray) : Ev (fun k => spec_NameOk.f k s) (nameB s.data.toList) := by
  cases hl : s.data.toList with
  | nil =>
    refine Ev.congr (f := fun k => spec_NameOk.j0 k s true) (fun k => ?_) ?_
    · unfold spec_NameOk.f
      rw [if_pos (by rw [sz, hl]; decide)]
    · refine Ev.step (f := fun _ => some false) (fun k => ?_) (Ev.now _)
      rfl
  | cons b t =>
    have hz : (s.size : Int) = (t.length : Int) + 1 := by rw [sz, hl]; simp
    by_cases c : t.length + 1 ≤ 40
    · refine Ev.congr (f := fun k => spec_NameOk.j0 k s (!fstB b)) (fun k => ?_) ?_
      · unfold spec_NameOk.f
        rw [if_neg (by omega), if_neg (by omega), if_pos (by omega), first_bt s b t hl, first_f]
        rfl
      · by_cases d : fstB b = true
        · refine Ev.step (f := fun k => spec_NameOk.l0 k s ((1 : Nat) : Int)) (fun k => ?_) ?_
          · rw [d]; rfl
          · have := spec_name_l0 s (by rw [hl]; simp; omega) t.length 1 (by rw [hl]; simp; omega)
            rw [hl] at this
            have e : nameB (b :: t) = ((b :: t).drop 1).all moreB := by simp [nameB, d, c]
            rw [e]; exact this
        · rw [Bool.not_eq_true] at d
          have e : nameB (b :: t) = false := by simp [nameB, d]
          rw [e]
          refine Ev.step (f := fun _ => some false) (fun k => ?_) (Ev.now _)
          rw [d]; rfl
    · have e : nameB (b :: t) = false := by simp [nameB, c]
      rw [e]
      refine Ev.congr (f := fun k => spec_NameOk.j0 k s true) (fun k => ?_) ?_
      · unfold spec_NameOk.f
        rw [if_neg (by omega), if_pos (by omega)]
      · refine Ev.step (f := fun _ => some false) (fun k => ?_) (Ev.now _)
        rfl

def lenB (n : Nat) : Bool := decide (1 ≤ n) && decide (n ≤ 40)
theorem in_len (n : Nat) : impl_in.f (n : Int) 1 40 = some (lenB n) := by
  unfold impl_in.f lenB
  by_cases h : 1 ≤ n
  · rw [if_pos (by omega)]; simp [h]; omega
  · rw [if_neg (by omega)]; simp [h]
theorem fst_iff (b : UInt8) : fstB b = true ↔ ((97 ≤ (b.toNat : Int) ∧ (b.toNat : Int) ≤ 122) ∨ (65 ≤ (b.toNat : Int) ∧ (b.toNat : Int) ≤ 90) ∨ (b.toNat : Int) = 95) := by
  unfold fstB
  simp only [Bool.or_eq_true, decide_eq_true_eq]
  omega
theorem more_iff (b : UInt8) : moreB b = true ↔ (((97 ≤ (b.toNat : Int) ∧ (b.toNat : Int) ≤ 122) ∨ (65 ≤ (b.toNat : Int) ∧ (b.toNat : Int) ≤ 90) ∨ (b.toNat : Int) = 95) ∨ (48 ≤ (b.toNat : Int) ∧ (b.toNat : Int) ≤ 57) ∨ (b.toNat : Int) = 46 ∨ (b.toNat : Int) = 45) := by
  unfold moreB
  simp only [Bool.or_eq_true, decide_eq_true_eq, fst_iff]
  omega
theorem impl_name_l0 (s : ByteArray) (hs : s.data.toList.length ≤ 9223372036854775806) : ∀ (n i : Nat), 1 ≤ i → i + n = s.data.toList.length →
    Ev (fun k => impl_NameOk.l0 k s (s.size : Int) (i : Int)) ((s.data.toList.drop i).all moreB && lenB s.data.toList.length) := by
  intro n
  induction n with
  | zero =>
    intro i h1 hi
    refine Ev.step (f := fun _ => some (lenB s.data.toList.length)) (fun k => ?_) ?_
    · unfold impl_NameOk.l0
      rw [if_neg (by rw [sz]; omega), sz, in_len]
      rfl
    · rw [List.drop_of_length_le (by omega)]; exact Ev.now _
  | succ n ih =>
    intro i h1 hi
    have hlt : i < s.data.toList.length := by omega
    have hd : s.data.toList.drop i = s.data.toList[i] :: s.data.toList.drop (i + 1) := List.drop_eq_getElem_cons hlt
    have w : wrap64 ((i : Int) + 1) = ((i + 1 : Nat) : Int) := by rw [w64] <;> omega
    have hm := more_iff (s.data.toList[i])
    by_cases c : moreB (s.data.toList[i]) = true
    · have hv := hm.1 c
      refine Ev.step (f := fun k => impl_NameOk.l0 k s (s.size : Int) ((i + 1 : Nat) : Int)) (fun k => ?_) ?_
      · conv => lhs; unfold impl_NameOk.l0
        rw [if_pos (by rw [sz]; omega), if_pos (by omega), if_pos (by rw [sz]; omega), bt_nat s i hlt, w]
        generalize impl_NameOk.l0 k s (s.size : Int) ((i + 1 : Nat) : Int) = X
        generalize ((s.data.toList[i]).toNat : Int) = v at hv
        clear hm ih c hd w hs hi hlt
        have hi0 : ¬ (i : Int) = 0 := by omega
        simp only [if_neg hi0]
        clear hi0 h1
        repeat' split
        all_goals first | rfl | (exfalso; omega)
      · rw [hd, List.all_cons, c, Bool.true_and]; exact ih (i + 1) (by omega) (by omega)
    · have hv := mt hm.2 c
      refine Ev.step (f := fun _ => some false) (fun k => ?_) ?_
      · conv => lhs; unfold impl_NameOk.l0
        rw [if_pos (by rw [sz]; omega), if_pos (by omega), if_pos (by rw [sz]; omega), bt_nat s i hlt, w]
        generalize impl_NameOk.l0 k s (s.size : Int) ((i + 1 : Nat) : Int) = X
        generalize ((s.data.toList[i]).toNat : Int) = v at hv
        clear hm ih c hd w hs hi hlt
        have hi0 : ¬ (i : Int) = 0 := by omega
        simp only [if_neg hi0]
        clear hi0 h1
        repeat' split
        all_goals first | rfl | (exfalso; omega)
      · rw [hd, List.all_cons]
        rw [Bool.not_eq_true] at c
        rw [c, Bool.false_and, Bool.false_and]; exact Ev.now _
theorem impl_name (s : ByteArray) (hs : s.data.toList.length ≤ 9223372036854775806) : Ev (fun k => impl_NameOk.f k s) (nameB s.data.toList) := by
  cases hl : s.data.toList with
  | nil =>
    unfold impl_NameOk.f
    refine Ev.step (f := fun _ => some false) (fun k => ?_) (Ev.now _)
    unfold impl_NameOk.l0
    have hz : s.size = 0 := by rw [sz, hl]; rfl
    rw [if_neg (by omega), hz]
    rfl
  | cons b t =>
    have hlt : 0 < s.data.toList.length := by rw [hl]; simp
    have hlen : s.data.toList.length = t.length + 1 := by rw [hl]; simp
    have w : wrap64 ((0 : Int) + 1) = ((1 : Nat) : Int) := by rw [w64 (by omega) (by omega)]; rfl
    have hm := fst_iff b
    have eb : bt s 0 = (b.toNat : Int) := first_bt s b t hl
    unfold impl_NameOk.f
    by_cases c : fstB b = true
    · have hv := hm.1 c
      refine Ev.step (f := fun k => impl_NameOk.l0 k s (s.size : Int) ((1 : Nat) : Int)) (fun k => ?_) ?_
      · conv => lhs; unfold impl_NameOk.l0
        rw [if_pos (by rw [sz]; omega), if_pos (by omega), if_pos (by rw [sz]; omega), eb, w]
        generalize impl_NameOk.l0 k s (s.size : Int) ((1 : Nat) : Int) = X
        generalize (b.toNat : Int) = v at hv
        clear hm c eb w hs hlt hlen hl
        simp only [if_true]
        repeat' split
        all_goals first | rfl | (exfalso; omega)
      · have := impl_name_l0 s hs t.length 1 (by omega) (by omega)
        rw [hl] at this
        have e : nameB (b :: t) = (((b :: t).drop 1).all moreB && lenB (b :: t).length) := by
          simp [nameB, lenB, c]
        rw [e]; exact this
    · have hv := mt hm.2 c
      refine Ev.step (f := fun _ => some false) (fun k => ?_) ?_
      · conv => lhs; unfold impl_NameOk.l0
        rw [if_pos (by rw [sz]; omega), if_pos (by omega), if_pos (by rw [sz]; omega), eb, w]
        generalize impl_NameOk.l0 k s (s.size : Int) ((1 : Nat) : Int) = X
        generalize (b.toNat : Int) = v at hv
        clear hm c eb w hs hlt hlen hl
        simp only [if_true]
        repeat' split
        all_goals first | rfl | (exfalso; omega)
      · rw [Bool.not_eq_true] at c
        have e : nameB (b :: t) = false := by simp [nameB, c]
        rw [e]; exact Ev.now _
def B (s : ByteArray) (i : Nat) : Nat := (s.get! i).toNat
theorem B_lt (s : ByteArray) (i : Nat) : B s i < 256 := (s.get! i).toNat_lt
theorem bt_B (s : ByteArray) (i : Nat) (h : i < s.size) : bt s (i : Int) = (B s i : Int) := by
  have hl : i < s.data.toList.length := by rw [← sz]; exact h
  rw [bt_nat s i hl]
  have h2 : i < s.data.size := by simpa using hl
  have e : s.get! i = s.data[i] := by unfold ByteArray.get!; exact getElem!_pos s.data i h2
  unfold B
  rw [e]
  simp
theorem tm (b m : Nat) : Int.tmod (b : Int) (m : Int) = ((b % m : Nat) : Int) := (Int.ofNat_tmod b m).symm
def charB (x : Nat) : Bool := decide (x ≤ 55295) || (decide (57344 ≤ x) && decide (x ≤ 1114111))
theorem char_f (x : Nat) : spec_l1Char.f (x : Int) = some (charB x) := by
  unfold spec_l1Char.f spec_l1In.f charB
  by_cases h1 : x ≤ 55295
  · rw [if_pos (by omega)]
    have : decide ((x : Int) ≤ 55295) = true := decide_eq_true (by omega)
    rw [this]
    simp [h1]
  · rw [if_pos (by omega)]
    have : decide ((x : Int) ≤ 55295) = false := decide_eq_false (by omega)
    rw [this]
    simp only [Option.bind_some, Bool.false_eq_true, if_false]
    by_cases h2 : 57344 ≤ x
    · rw [if_pos (by omega)]
      have e : decide ((x : Int) ≤ 1114111) = decide (x ≤ 1114111) := by simp only [decide_eq_decide]; omega
      simp [h1, h2, e]
    · rw [if_neg (by omega)]
      simp [h1, h2]
def finV (x n low : Nat) : Int × Int := if x < low then (0, 0) else if charB x = true then ((x : Int), (n : Int)) else (0, 0)
theorem l0_end (s : ByteArray) (x n low : Nat) : Ev (fun k => spec_l1Rune.l0 k s (x : Int) (n : Int) (low : Int) (n : Int)) (finV x n low) := by
  refine Ev.step (f := fun _ => some (finV x n low)) (fun k => ?_) (Ev.now _)
  conv => lhs; unfold spec_l1Rune.l0
  rw [if_neg (by omega), char_f]
  unfold finV
  by_cases h : x < low
  · rw [if_pos (by omega), if_pos h]
  · rw [if_neg (by omega), if_neg h]
    simp only [Option.bind_some]
    cases charB x <;> rfl
theorem l0_go (s : ByteArray) (x n low i : Nat) (hi : i < n) (hs : i < s.size) (hn : n ≤ 4) (hx : x < 4194304) (hc : B s i / 64 = 2) (r : Int × Int)
    (h : Ev (fun k => spec_l1Rune.l0 k s ((64 * x + B s i % 64 : Nat) : Int) (n : Int) (low : Int) ((i + 1 : Nat) : Int)) r) : Ev (fun k => spec_l1Rune.l0 k s (x : Int) (n : Int) (low : Int) (i : Int)) r := by
  have hb := B_lt s i
  refine Ev.step (fun k => ?_) h
  conv => lhs; unfold spec_l1Rune.l0
  have e1 : wrap64 (64 * (x : Int)) = ((64 * x : Nat) : Int) := by rw [w64] <;> omega
  have e2 : wrap64 (Int.tmod (B s i : Int) 64) = ((B s i % 64 : Nat) : Int) := by
    have := tm (B s i) 64
    rw [show ((64 : Nat) : Int) = 64 from rfl] at this
    rw [this, w64] <;> omega
  have e3 : wrap64 (((64 * x : Nat) : Int) + ((B s i % 64 : Nat) : Int)) = ((64 * x + B s i % 64 : Nat) : Int) := by rw [w64] <;> omega
  have e4 : wrap64 ((i : Int) + 1) = ((i + 1 : Nat) : Int) := by rw [w64] <;> omega
  rw [if_pos (by omega), if_pos (by omega), if_pos (by omega), bt_B s i hs, if_neg (by omega), if_neg (by omega), e1, e2, e3, e4]
theorem l0_no (s : ByteArray) (x n low i : Nat) (hi : i < n) (hs : i < s.size) (hc : ¬ B s i / 64 = 2) : Ev (fun k => spec_l1Rune.l0 k s (x : Int) (n : Int) (low : Int) (i : Int)) (0, 0) := by
  have hb := B_lt s i
  refine Ev.step (f := fun _ => some (0, 0)) (fun k => ?_) (Ev.now _)
  conv => lhs; unfold spec_l1Rune.l0
  rw [if_pos (by omega), if_pos (by omega), if_pos (by omega), bt_B s i hs]
  by_cases h : B s i < 128
  · rw [if_pos (by omega)]
  · rw [if_neg (by omega), if_pos (by omega)]
/-- What the reference says of the first character: the model's decoding, 0 bytes where that fails. -/
def runeV (s : ByteArray) : Int × Int := if (Utf8.decode s 0).1 = 65533 ∧ (Utf8.decode s 0).2 = 1 then (0, 0) else (((Utf8.decode s 0).1 : Int), ((Utf8.decode s 0).2 : Int))
def runeN (n b0 b1 b2 b3 : Nat) : Int × Int := if (Lib.decodeN n b0 b1 b2 b3).1 = 65533 ∧ (Lib.decodeN n b0 b1 b2 b3).2 = 1 then (0, 0) else (((Lib.decodeN n b0 b1 b2 b3).1 : Int), ((Lib.decodeN n b0 b1 b2 b3).2 : Int))
theorem runeV_N (s : ByteArray) : runeV s = runeN s.size (B s 0) (B s 1) (B s 2) (B s 3) := by
  unfold runeV runeN B
  rw [Lib.decode_at s 0]
  simp only [Nat.sub_zero, Nat.zero_add]
theorem j2_few (s : ByteArray) (x n low : Nat) (h : s.size < n) : Ev (fun k => spec_l1Rune.j2 k s (x : Int) (n : Int) (low : Int)) (0, 0) := by
  refine Ev.step (f := fun _ => some (0, 0)) (fun k => ?_) (Ev.now _)
  have e : spec_l1Rune.j2 (k + 1) s (x : Int) (n : Int) (low : Int) = (if (s.size : Int) < (n : Int) then some (0, 0) else spec_l1Rune.l0 k s (x : Int) (n : Int) (low : Int) 1) := rfl
  rw [e, if_pos (by omega)]
theorem j2_go (s : ByteArray) (x n low : Nat) (h : n ≤ s.size) (r : Int × Int) (hr : Ev (fun k => spec_l1Rune.l0 k s (x : Int) (n : Int) (low : Int) ((1 : Nat) : Int)) r) : Ev (fun k => spec_l1Rune.j2 k s (x : Int) (n : Int) (low : Int)) r := by
  refine Ev.step (f := fun k => spec_l1Rune.l0 k s (x : Int) (n : Int) (low : Int) ((1 : Nat) : Int)) (fun k => ?_) hr
  have e : spec_l1Rune.j2 (k + 1) s (x : Int) (n : Int) (low : Int) = (if (s.size : Int) < (n : Int) then some (0, 0) else spec_l1Rune.l0 k s (x : Int) (n : Int) (low : Int) 1) := rfl
  rw [e, if_neg (by omega)]
  rfl
theorem bad_N {n b0 b1 b2 b3 : Nat} (h : Lib.decodeN n b0 b1 b2 b3 = (65533, 1)) : runeN n b0 b1 b2 b3 = (0, 0) := by
  unfold runeN; rw [h]; rfl
theorem two_rune (s : ByteArray) (h0 : B s 0 / 32 = 6) : Ev (fun k => spec_l1Rune.j2 k s ((B s 0 % 32 : Nat) : Int) ((2 : Nat) : Int) ((128 : Nat) : Int)) (runeN s.size (B s 0) (B s 1) (B s 2) (B s 3)) := by
  have hb := B_lt s 0
  by_cases hz : s.size < 2
  · rw [bad_N]
    · exact j2_few s _ 2 128 hz
    · unfold Lib.decodeN
      rw [if_neg (by omega), if_neg (by omega), if_neg (by omega), if_neg (by omega)]
  · refine j2_go s _ 2 128 (by omega) _ ?_
    by_cases c1 : B s 1 / 64 = 2
    · refine l0_go s _ 2 128 1 (by omega) (by omega) (by omega) (by omega) c1 _ ?_
      have e : runeN s.size (B s 0) (B s 1) (B s 2) (B s 3) = finV (64 * (B s 0 % 32) + B s 1 % 64) 2 128 := by
        unfold runeN Lib.decodeN finV charB
        rw [if_neg (show ¬ B s 0 < 128 by omega), if_pos (show B s 0 / 32 = 6 ∧ (1 < s.size ∧ B s 1 / 64 = 2) from ⟨h0, by omega, c1⟩)]
        by_cases c : B s 0 % 32 * 64 + B s 1 % 64 ≥ 128
        · rw [if_pos c, if_neg (show ¬ (64 * (B s 0 % 32) + B s 1 % 64) < 128 by omega)]
          rw [decide_eq_true (show 64 * (B s 0 % 32) + B s 1 % 64 ≤ 55295 by omega)]
          simp only [Bool.true_or, if_true]
          rw [if_neg (show ¬ (B s 0 % 32 * 64 + B s 1 % 64 = 65533 ∧ (2 : Nat) = 1) by omega)]
          congr 1
          omega
        · rw [if_neg c, if_pos (show (64 * (B s 0 % 32) + B s 1 % 64) < 128 by omega)]
          rfl
      rw [e]
      exact l0_end s _ 2 128
    · rw [bad_N]
      · exact l0_no s _ 2 128 1 (by omega) (by omega) c1
      · unfold Lib.decodeN
        rw [if_neg (by omega), if_neg (by omega), if_neg (by omega), if_neg (by omega)]
theorem three_rune (s : ByteArray) (h0 : B s 0 / 16 = 14) : Ev (fun k => spec_l1Rune.j2 k s ((B s 0 % 16 : Nat) : Int) ((3 : Nat) : Int) ((2048 : Nat) : Int)) (runeN s.size (B s 0) (B s 1) (B s 2) (B s 3)) := by
  have hb := B_lt s 0
  by_cases hz : s.size < 3
  · rw [bad_N]
    · exact j2_few s _ 3 2048 hz
    · unfold Lib.decodeN
      rw [if_neg (by omega), if_neg (by omega), if_neg (by omega), if_neg (by omega)]
  · refine j2_go s _ 3 2048 (by omega) _ ?_
    by_cases c1 : B s 1 / 64 = 2
    · refine l0_go s _ 3 2048 1 (by omega) (by omega) (by omega) (by omega) c1 _ ?_
      by_cases c2 : B s 2 / 64 = 2
      · refine l0_go s _ 3 2048 2 (by omega) (by omega) (by omega) (by omega) c2 _ ?_
        have e : runeN s.size (B s 0) (B s 1) (B s 2) (B s 3) = finV (64 * (64 * (B s 0 % 16) + B s 1 % 64) + B s 2 % 64) 3 2048 := by
          obtain ⟨y, hy⟩ : ∃ y, 64 * (64 * (B s 0 % 16) + B s 1 % 64) + B s 2 % 64 = y := ⟨_, rfl⟩
          have hy2 : B s 0 % 16 * 4096 + B s 1 % 64 * 64 + B s 2 % 64 = y := by omega
          unfold runeN Lib.decodeN
          rw [hy, hy2, if_neg (show ¬ B s 0 < 128 by omega), if_neg (show ¬ (B s 0 / 32 = 6 ∧ (1 < s.size ∧ B s 1 / 64 = 2)) by omega), if_pos (show B s 0 / 16 = 14 ∧ (1 < s.size ∧ B s 1 / 64 = 2) ∧ (2 < s.size ∧ B s 2 / 64 = 2) from ⟨h0, ⟨by omega, c1⟩, by omega, c2⟩)]
          clear hy hy2
          unfold finV charB
          by_cases d : y < 2048
          · rw [if_neg (show ¬ (y ≥ 2048 ∧ (y < 55296 ∨ (57344 ≤ y ∧ y ≤ 1114111))) by omega), if_pos d]; rfl
          · by_cases d2 : y < 55296 ∨ (57344 ≤ y ∧ y ≤ 1114111)
            · rw [if_pos (show y ≥ 2048 ∧ (y < 55296 ∨ (57344 ≤ y ∧ y ≤ 1114111)) from ⟨by omega, d2⟩), if_neg (show ¬ (((y, 3) : Nat × Nat).1 = 65533 ∧ ((y, 3) : Nat × Nat).2 = 1) from fun h => by cases h.2), if_neg d, if_pos (show (decide (y ≤ 55295) || (decide (57344 ≤ y) && decide (y ≤ 1114111))) = true by simp only [Bool.or_eq_true, Bool.and_eq_true, decide_eq_true_eq]; omega)]
            · rw [if_neg (show ¬ (y ≥ 2048 ∧ (y < 55296 ∨ (57344 ≤ y ∧ y ≤ 1114111))) by omega), if_neg d, if_neg (show ¬ ((decide (y ≤ 55295) || (decide (57344 ≤ y) && decide (y ≤ 1114111))) = true) by simp only [Bool.or_eq_true, Bool.and_eq_true, decide_eq_true_eq]; omega)]; rfl
        rw [e]
        exact l0_end s _ 3 2048
      · rw [bad_N]
        · exact l0_no s _ 3 2048 2 (by omega) (by omega) c2
        · unfold Lib.decodeN
          rw [if_neg (by omega), if_neg (by omega), if_neg (by omega), if_neg (by omega)]
    · rw [bad_N]
      · exact l0_no s _ 3 2048 1 (by omega) (by omega) c1
      · unfold Lib.decodeN
        rw [if_neg (by omega), if_neg (by omega), if_neg (by omega), if_neg (by omega)]
theorem four_rune (s : ByteArray) (h0 : B s 0 / 8 = 30) : Ev (fun k => spec_l1Rune.j2 k s ((B s 0 % 8 : Nat) : Int) ((4 : Nat) : Int) ((65536 : Nat) : Int)) (runeN s.size (B s 0) (B s 1) (B s 2) (B s 3)) := by
  have hb := B_lt s 0
  by_cases hz : s.size < 4
  · rw [bad_N]
    · exact j2_few s _ 4 65536 hz
    · unfold Lib.decodeN
      rw [if_neg (by omega), if_neg (by omega), if_neg (by omega), if_neg (by omega)]
  · refine j2_go s _ 4 65536 (by omega) _ ?_
    by_cases c1 : B s 1 / 64 = 2
    · refine l0_go s _ 4 65536 1 (by omega) (by omega) (by omega) (by omega) c1 _ ?_
      by_cases c2 : B s 2 / 64 = 2
      · refine l0_go s _ 4 65536 2 (by omega) (by omega) (by omega) (by omega) c2 _ ?_
        by_cases c3 : B s 3 / 64 = 2
        · refine l0_go s _ 4 65536 3 (by omega) (by omega) (by omega) (by omega) c3 _ ?_
          have e : runeN s.size (B s 0) (B s 1) (B s 2) (B s 3) = finV (64 * (64 * (64 * (B s 0 % 8) + B s 1 % 64) + B s 2 % 64) + B s 3 % 64) 4 65536 := by
            obtain ⟨y, hy⟩ : ∃ y, 64 * (64 * (64 * (B s 0 % 8) + B s 1 % 64) + B s 2 % 64) + B s 3 % 64 = y := ⟨_, rfl⟩
            have hy2 : B s 0 % 8 * 262144 + B s 1 % 64 * 4096 + B s 2 % 64 * 64 + B s 3 % 64 = y := by omega
            unfold runeN Lib.decodeN
            rw [hy, hy2, if_neg (show ¬ B s 0 < 128 by omega), if_neg (show ¬ (B s 0 / 32 = 6 ∧ (1 < s.size ∧ B s 1 / 64 = 2)) by omega), if_neg (show ¬ (B s 0 / 16 = 14 ∧ (1 < s.size ∧ B s 1 / 64 = 2) ∧ (2 < s.size ∧ B s 2 / 64 = 2)) by omega), if_pos (show B s 0 / 8 = 30 ∧ (1 < s.size ∧ B s 1 / 64 = 2) ∧ (2 < s.size ∧ B s 2 / 64 = 2) ∧ (3 < s.size ∧ B s 3 / 64 = 2) from ⟨h0, ⟨by omega, c1⟩, ⟨by omega, c2⟩, by omega, c3⟩)]
            clear hy hy2
            unfold finV charB
            by_cases d : y < 65536
            · rw [if_neg (show ¬ (y ≥ 65536 ∧ (y < 55296 ∨ (57344 ≤ y ∧ y ≤ 1114111))) by omega), if_pos d]; rfl
            · by_cases d2 : y < 55296 ∨ (57344 ≤ y ∧ y ≤ 1114111)
              · rw [if_pos (show y ≥ 65536 ∧ (y < 55296 ∨ (57344 ≤ y ∧ y ≤ 1114111)) from ⟨by omega, d2⟩), if_neg (show ¬ (((y, 4) : Nat × Nat).1 = 65533 ∧ ((y, 4) : Nat × Nat).2 = 1) from fun h => by cases h.2), if_neg d, if_pos (show (decide (y ≤ 55295) || (decide (57344 ≤ y) && decide (y ≤ 1114111))) = true by simp only [Bool.or_eq_true, Bool.and_eq_true, decide_eq_true_eq]; omega)]
              · rw [if_neg (show ¬ (y ≥ 65536 ∧ (y < 55296 ∨ (57344 ≤ y ∧ y ≤ 1114111))) by omega), if_neg d, if_neg (show ¬ ((decide (y ≤ 55295) || (decide (57344 ≤ y) && decide (y ≤ 1114111))) = true) by simp only [Bool.or_eq_true, Bool.and_eq_true, decide_eq_true_eq]; omega)]; rfl
          rw [e]
          exact l0_end s _ 4 65536
        · rw [bad_N]
          · exact l0_no s _ 4 65536 3 (by omega) (by omega) c3
          · unfold Lib.decodeN
            rw [if_neg (by omega), if_neg (by omega), if_neg (by omega), if_neg (by omega)]
      · rw [bad_N]
        · exact l0_no s _ 4 65536 2 (by omega) (by omega) c2
        · unfold Lib.decodeN
          rw [if_neg (by omega), if_neg (by omega), if_neg (by omega), if_neg (by omega)]
    · rw [bad_N]
      · exact l0_no s _ 4 65536 1 (by omega) (by omega) c1
      · unfold Lib.decodeN
        rw [if_neg (by omega), if_neg (by omega), if_neg (by omega), if_neg (by omega)]
theorem tmod_of (b m : Nat) : Int.tmod (b : Int) (m : Int) = ((b % m : Nat) : Int) := tm b m
theorem j0_true (k : Nat) (s : ByteArray) (x : Int) : spec_l1Rune.j0 (k + 1) s x true = spec_l1Rune.j2 k s (Int.tmod x 32) 2 128 := rfl
theorem j0_false (k : Nat) (s : ByteArray) (x : Int) : spec_l1Rune.j0 (k + 1) s x false = (if x ≥ 224 then (spec_l1Rune.j1 k s x (decide (x < 240))) else (spec_l1Rune.j1 k s x false)) := rfl
theorem j1_true (k : Nat) (s : ByteArray) (x : Int) : spec_l1Rune.j1 (k + 1) s x true = spec_l1Rune.j2 k s (Int.tmod x 16) 3 2048 := rfl
theorem j1_false (k : Nat) (s : ByteArray) (x : Int) : spec_l1Rune.j1 (k + 1) s x false = (if x ≥ 240 then (if x < 248 then (spec_l1Rune.j2 k s (Int.tmod x 8) 4 65536) else (some (0, 0))) else (some (0, 0))) := rfl
theorem rune_f (s : ByteArray) (hne : 0 < s.size) : Ev (fun k => spec_l1Rune.f k s) (runeV s) := by
  rw [runeV_N]
  have hb := B_lt s 0
  have hnil : ¬ s.toList = ([] : List UInt8) := by
    rw [Lib.toList_data]
    intro e
    rw [sz, e] at hne
    simp at hne
  have hw : wrap64 (bt s 0) = (B s 0 : Int) := by
    have := bt_B s 0 hne
    rw [show ((0 : Nat) : Int) = 0 from rfl] at this
    rw [this, w64] <;> omega
  by_cases a : B s 0 < 128
  · refine Ev.congr (f := fun _ => some ((B s 0 : Int), 1)) (fun k => ?_) ?_
    · unfold spec_l1Rune.f
      rw [if_neg hnil, if_pos (by omega), hw, if_pos (by omega)]
    · have : runeN s.size (B s 0) (B s 1) (B s 2) (B s 3) = ((B s 0 : Int), 1) := by
        unfold runeN Lib.decodeN
        rw [if_pos a, if_neg (show ¬ (B s 0 = 65533 ∧ (1 : Nat) = 1) by omega)]
        rfl
      rw [this]
      exact Ev.now _
  · have hf : ∀ k, spec_l1Rune.f k s = if (B s 0 : Int) ≥ 192 then (spec_l1Rune.j0 k s (B s 0 : Int) (decide ((B s 0 : Int) < 224))) else (spec_l1Rune.j0 k s (B s 0 : Int) false) := by
      intro k
      unfold spec_l1Rune.f
      rw [if_neg hnil, if_pos (by omega), hw, if_neg (by omega)]
    by_cases c2 : B s 0 / 32 = 6
    · refine Ev.congr (f := fun k => spec_l1Rune.j0 k s (B s 0 : Int) true) (fun k => ?_) ?_
      · rw [hf, if_pos (by omega), decide_eq_true (by omega)]
      · refine Ev.step (f := fun k => spec_l1Rune.j2 k s ((B s 0 % 32 : Nat) : Int) ((2 : Nat) : Int) ((128 : Nat) : Int)) (fun k => ?_) (two_rune s c2)
        rw [j0_true, ← tmod_of]
        rfl
    · have hj1 : ∀ r, Ev (fun k => if (B s 0 : Int) ≥ 224 then (spec_l1Rune.j1 k s (B s 0 : Int) (decide ((B s 0 : Int) < 240))) else (spec_l1Rune.j1 k s (B s 0 : Int) false)) r → Ev (fun k => spec_l1Rune.f k s) r := by
        intro r hr
        refine Ev.congr (f := fun k => spec_l1Rune.j0 k s (B s 0 : Int) false) (fun k => ?_) ?_
        · rw [hf]
          by_cases d : (B s 0 : Int) ≥ 192
          · rw [if_pos d, decide_eq_false (by omega)]
          · rw [if_neg d]
        · exact Ev.step (fun k => j0_false k s _) hr
      by_cases c3 : B s 0 / 16 = 14
      · refine hj1 _ ?_
        refine Ev.congr (f := fun k => spec_l1Rune.j1 k s (B s 0 : Int) true) (fun k => ?_) ?_
        · rw [if_pos (by omega), decide_eq_true (by omega)]
        · refine Ev.step (f := fun k => spec_l1Rune.j2 k s ((B s 0 % 16 : Nat) : Int) ((3 : Nat) : Int) ((2048 : Nat) : Int)) (fun k => ?_) (three_rune s c3)
          rw [j1_true, ← tmod_of]
          rfl
      · have hj1f : ∀ r, Ev (fun k => if (B s 0 : Int) ≥ 240 then (if (B s 0 : Int) < 248 then (spec_l1Rune.j2 k s (Int.tmod (B s 0 : Int) 8) 4 65536) else (some (0, 0))) else (some (0, 0))) r → Ev (fun k => spec_l1Rune.f k s) r := by
          intro r hr
          refine hj1 _ ?_
          refine Ev.congr (f := fun k => spec_l1Rune.j1 k s (B s 0 : Int) false) (fun k => ?_) ?_
          · by_cases d : (B s 0 : Int) ≥ 224
            · rw [if_pos d, decide_eq_false (by omega)]
            · rw [if_neg d]
          · exact Ev.step (fun k => j1_false k s _) hr
        refine hj1f _ ?_
        by_cases c4 : B s 0 / 8 = 30
        · refine Ev.congr (f := fun k => spec_l1Rune.j2 k s ((B s 0 % 8 : Nat) : Int) ((4 : Nat) : Int) ((65536 : Nat) : Int)) (fun k => ?_) (four_rune s c4)
          rw [if_pos (by omega), if_pos (by omega), ← tmod_of]
          rfl
        · rw [bad_N]
          · refine Ev.congr (f := fun _ => some (0, 0)) (fun k => ?_) (Ev.now _)
            by_cases d : (B s 0 : Int) ≥ 240
            · rw [if_pos d, if_neg (by omega)]
            · rw [if_neg d]
          · unfold Lib.decodeN
            rw [if_neg (by omega), if_neg (by omega), if_neg (by omega), if_neg (by omega)]
def runesV (s : ByteArray) : List Int × Bool := if 20000 < s.size then ([], false) else if Lib.validD s.data.toList = true then (runesOf s, true) else ([], false)
theorem impl_runes (s : ByteArray) (hs : s.size ≤ 9223372036854775807) : impl_Runes.f s = some (runesV s) := by
  unfold impl_Runes.f runesV
  rw [if_pos hs]
  split
  · rfl
  · split <;> rfl
theorem spec_runes_l0 (s : ByteArray) (hs : s.size ≤ 20000) : ∀ (fuel pos : Nat) (acc : List Int), s.size ≤ pos + fuel → pos ≤ s.size → acc.length ≤ pos →
    Ev (fun k => spec_Runes.l0 k (s.extract pos s.size) acc) (if Lib.validD (s.data.toList.drop pos) = true then (acc ++ runesFrom s fuel pos, true) else ([], false)) := by
  intro fuel
  have hend : ∀ (fuel pos : Nat) (acc : List Int), pos = s.size → Ev (fun k => spec_Runes.l0 k (s.extract pos s.size) acc) (if Lib.validD (s.data.toList.drop pos) = true then (acc ++ runesFrom s fuel pos, true) else ([], false)) := by
    intro fuel pos acc e
    have hd : s.data.toList.drop pos = [] := List.drop_of_length_le (by rw [← sz]; omega)
    rw [runesFrom_end s fuel pos (by omega), hd, Lib.validD_nil, if_pos rfl, List.append_nil]
    refine Ev.step (f := fun _ => some (acc, true)) (fun k => ?_) (Ev.now _)
    conv => lhs; unfold spec_Runes.l0
    rw [if_pos (by rw [Lib.toList_data, Lib.extract_to_end, hd])]
  induction fuel with
  | zero =>
    intro pos acc h1 h2 h3
    exact hend 0 pos acc (by omega)
  | succ f ih =>
    intro pos acc h1 h2 h3
    by_cases he : pos = s.size
    · exact hend (f + 1) pos acc he
    · obtain ⟨t, ht⟩ : ∃ t, s.extract pos s.size = t := ⟨_, rfl⟩
      have htl : t.data.toList = s.data.toList.drop pos := by rw [← ht]; exact Lib.extract_to_end s pos
      have htz : t.size = s.size - pos := by rw [sz t, htl, List.length_drop, ← sz]
      have hne : s.data.toList.drop pos ≠ [] := by
        intro e
        have := congrArg List.length e
        rw [List.length_drop, ← sz] at this
        simp at this
        omega
      have hdec : Utf8.decode t 0 = Utf8.decode s pos := by
        have e1 := Lib.decodeL_drop t 0
        have e2 := Lib.decodeL_drop s pos
        rw [List.drop_zero, htl] at e1
        rw [← e1, e2]
      have hdl := Lib.decodeL_drop s pos
      have hstep := Lib.validD_step (s.data.toList.drop pos) hne
      have hle := Lib.decodeL_le (s.data.toList.drop pos) hne
      rw [hdl] at hstep hle
      rw [List.length_drop, ← sz] at hle
      have hw := rune_width s pos (by omega)
      have hr := rune_f t (by omega)
      have hV : runeV t = if (Utf8.decode s pos).1 = 65533 ∧ (Utf8.decode s pos).2 = 1 then (0, 0) else (((Utf8.decode s pos).1 : Int), ((Utf8.decode s pos).2 : Int)) := by
        unfold runeV
        rw [hdec]
      have hnil : ¬ t.toList = ([] : List UInt8) := by rw [Lib.toList_data, htl]; exact hne
      rw [ht]
      have hf : ∀ k, spec_Runes.l0 (k + 1) t acc = (spec_l1Rune.f k t).bind fun bt111 => (if bt111.2 = 0 then (some (([] : List Int), false)) else (if acc.length < 17592186044416 then (if 0 ≤ bt111.2 then (if bt111.2 ≤ (t.size : Int) then (spec_Runes.l0 k (t.extract (bt111.2 : Int).toNat t.size) (acc ++ [bt111.1])) else (none)) else (none)) else (none))) := by
        intro k
        conv => lhs; unfold spec_Runes.l0
        rw [if_neg hnil]
      refine Ev.step hf (Ev.bind hr ?_)
      rw [hV, hstep]
      by_cases hb : (Utf8.decode s pos).1 = 65533 ∧ (Utf8.decode s pos).2 = 1
      · rw [if_pos hb, if_pos hb, if_neg (by decide)]
        simp only [if_true]
        exact Ev.now _
      · rw [if_neg hb, if_neg hb]
        have hx : t.extract (Utf8.decode s pos).2 t.size = s.extract (pos + (Utf8.decode s pos).2) s.size := by
          apply ba_ext
          rw [Lib.extract_to_end, htl, Lib.extract_to_end, List.drop_drop]
        have hih := ih (pos + (Utf8.decode s pos).2) (acc ++ [((Utf8.decode s pos).1 : Int)]) (by omega) (by omega) (by simp; omega)
        rw [List.drop_drop]
        have hrf : runesFrom s (f + 1) pos = ((Utf8.decode s pos).1 : Int) :: runesFrom s f (pos + (Utf8.decode s pos).2) := by
          simp [runesFrom, show pos < s.size by omega]
        rw [hrf, ← hx] at *
        simp only [if_neg (show ¬ ((Utf8.decode s pos).2 : Int) = 0 by omega), if_pos (show acc.length < 17592186044416 by omega), if_pos (show (0 : Int) ≤ ((Utf8.decode s pos).2 : Int) by omega), if_pos (show ((Utf8.decode s pos).2 : Int) ≤ (t.size : Int) by omega), Int.toNat_natCast]
        simpa using hih
theorem spec_runes (s : ByteArray) : Ev (fun k => spec_Runes.f k s) (runesV s) := by
  unfold runesV
  by_cases c : 20000 < s.size
  · rw [if_pos c]
    refine Ev.congr (f := fun _ => some (([] : List Int), false)) (fun k => ?_) (Ev.now _)
    unfold spec_Runes.f
    rw [if_pos (by omega)]
  · rw [if_neg c]
    have h := spec_runes_l0 s (by omega) s.size 0 [] (by omega) (by omega) (by simp)
    have e : s.extract 0 s.size = s := by apply ba_ext; rw [Lib.extract_to_end, List.drop_zero]
    rw [e, List.drop_zero, List.nil_append] at h
    refine Ev.congr (f := fun k => spec_Runes.l0 k s []) (fun k => ?_) h
    unfold spec_Runes.f
    rw [if_neg (by omega)]
theorem Ev.step2' {α : Type} {g f : Nat → Option α} {r : α} (h : ∀ k, g (k + 1 + 1) = f k) (k : Ev f r) : Ev g r := Ev.step (f := fun k => g (k + 1)) (fun _ => rfl) (Ev.step h k)
theorem w1n {i m : Nat} (h : i < m) (hm : m ≤ 9223372036854775807) : wrap64 ((i : Int) + 1) = ((i + 1 : Nat) : Int) := by rw [w64] <;> omega
theorem idx_is {l : List UInt8} {c : UInt8} {i : Nat} (h1 : l[i]? = some c) (h2 : ∀ k : Nat, k < i → l[k]? ≠ some c) : Lib.indexByte l c = (i : Int) := by
  have hge := Lib.indexByte_ge l c
  by_cases e : Lib.indexByte l c = -1
  · exact absurd h1 (Lib.indexByte_none e i)
  · obtain ⟨o, ho⟩ := Int.eq_ofNat_of_zero_le (show 0 ≤ Lib.indexByte l c by omega)
    obtain ⟨h3, h4⟩ := Lib.indexByte_some ho
    rw [ho]
    rcases Nat.lt_trichotomy o i with h | h | h
    · exact absurd h3 (h2 o h)
    · rw [h]
    · exact absurd h1 (h4 i h)
theorem idx_no {l : List UInt8} {c : UInt8} (h : ∀ k : Nat, l[k]? ≠ some c) : Lib.indexByte l c = -1 := by
  have hge := Lib.indexByte_ge l c
  by_cases e : Lib.indexByte l c = -1
  · exact e
  · obtain ⟨o, ho⟩ := Int.eq_ofNat_of_zero_le (show 0 ≤ Lib.indexByte l c by omega)
    exact absurd (Lib.indexByte_some ho).1 (h o)
def noB : ByteArray := ⟨#[]⟩
/-- A name: its prefix, and what stands behind it. -/
def splitV (s : ByteArray) : ByteArray × ByteArray × Bool :=
  if 0 ≤ Lib.indexByte s.data.toList 58 then (if nameB (s.data.toList.take (Lib.indexByte s.data.toList 58).toNat) = true then (if nameB (s.data.toList.drop ((Lib.indexByte s.data.toList 58).toNat + 1)) = true then (s.extract 0 (Lib.indexByte s.data.toList 58).toNat, s.extract ((Lib.indexByte s.data.toList 58).toNat + 1) s.size, true) else (noB, noB, false)) else (noB, noB, false))
  else if nameB s.data.toList = true then (noB, s, true) else (noB, noB, false)
theorem ex_to (s : ByteArray) (n : Nat) : (s.extract 0 n).data.toList = s.data.toList.take n := by
  simp [ByteArray.data_extract]
theorem ex_from (s : ByteArray) (n : Nat) : (s.extract n s.size).data.toList = s.data.toList.drop n := Lib.extract_to_end s n
theorem impl_split (s : ByteArray) (hs : s.data.toList.length ≤ 9223372036854775806) : Ev (fun k => impl_Split.f k s) (splitV s) := by
  have hc : strings_Cut.f s ⟨#[58]⟩ = some (if 0 ≤ Lib.indexByte s.data.toList 58 then (s.extract 0 (Lib.indexByte s.data.toList 58).toNat, s.extract ((Lib.indexByte s.data.toList 58).toNat + 1) s.size, true) else (s, ⟨#[]⟩, false)) := by
    unfold strings_Cut.f
    simp only
    rw [if_pos (by rw [sz]; omega)]
    split <;> rfl
  unfold splitV
  by_cases h : 0 ≤ Lib.indexByte s.data.toList 58
  · rw [if_pos h] at hc ⊢
    have n1 := impl_name (s.extract 0 (Lib.indexByte s.data.toList 58).toNat) (by rw [ex_to, List.length_take]; omega)
    have n2 := impl_name (s.extract ((Lib.indexByte s.data.toList 58).toNat + 1) s.size) (by rw [ex_from, List.length_drop]; omega)
    rw [ex_to] at n1
    rw [ex_from] at n2
    generalize Lib.indexByte s.data.toList 58 = i at *
    refine Ev.congr (f := fun k => impl_Split.j0 k s (s.extract 0 i.toNat) (s.extract (i.toNat + 1) s.size) true false) (fun k => ?_) ?_
    · unfold impl_Split.f
      rw [hc, Option.bind_some]
      simp only [if_true]
    · refine Ev.step (f := fun k => (impl_NameOk.f k (s.extract 0 i.toNat)).bind fun t320 => (if t320 = true then ((impl_NameOk.f k (s.extract (i.toNat + 1) s.size)).bind fun t321 => (if t321 = true then (some (s.extract 0 i.toNat, s.extract (i.toNat + 1) s.size, true)) else (some (noB, noB, false)))) else (some (noB, noB, false)))) (fun k => ?_) (Ev.bind n1 ?_)
      · conv => lhs; unfold impl_Split.j0
        simp only [Bool.false_eq_true, if_false, if_true]
        rfl
      · cases nameB (s.data.toList.take i.toNat) with
        | false => exact Ev.now _
        | true =>
          simp only [if_true]
          refine Ev.bind n2 ?_
          cases nameB (s.data.toList.drop (i.toNat + 1)) <;> exact Ev.now _
  · rw [if_neg h] at hc ⊢
    have n1 := impl_name s hs
    refine Ev.congr (f := fun k => (impl_NameOk.f k s).bind fun t319 => impl_Split.j0 k s s ⟨#[]⟩ false t319) (fun k => ?_) (Ev.bind n1 ?_)
    · unfold impl_Split.f
      rw [hc, Option.bind_some]
      simp only [Bool.false_eq_true, if_false]
    · cases nameB s.data.toList with
      | false =>
        refine Ev.step (f := fun _ => some (noB, noB, false)) (fun k => ?_) (Ev.now _)
        conv => lhs; unfold impl_Split.j0
        simp only [Bool.false_eq_true, if_false]
        rfl
      | true =>
        refine Ev.step (f := fun _ => some (noB, s, true)) (fun k => ?_) (Ev.now _)
        conv => lhs; unfold impl_Split.j0
        simp only [if_true]
        rfl
theorem spec_split_l0 (s : ByteArray) (hs : s.data.toList.length ≤ 9223372036854775806) : ∀ (n i : Nat), i + n = s.data.toList.length → (∀ k : Nat, k < i → s.data.toList[k]? ≠ some 58) →
    Ev (fun k => spec_Split.l0 k s (-1) (i : Int)) (splitV s) := by
  intro n
  induction n with
  | zero =>
    intro i hi hno
    have hidx : Lib.indexByte s.data.toList 58 = -1 := idx_no (fun k => by
      by_cases hk : k < i
      · exact hno k hk
      · rw [List.getElem?_eq_none (by omega)]; simp)
    unfold splitV
    rw [if_neg (by rw [hidx]; decide)]
    refine Ev.step2' (f := fun k => (spec_NameOk.f k s).bind fun t134 => (if t134 = true then (some (noB, s, true)) else (some (noB, noB, false)))) (fun k => ?_) (Ev.bind (spec_name s) ?_)
    · conv => lhs; unfold spec_Split.l0
      rw [if_neg (by rw [sz]; omega)]
      conv => lhs; unfold spec_Split.j1
      rw [if_neg (by decide), if_pos (by decide)]
      rfl
    · cases nameB s.data.toList <;> exact Ev.now _
  | succ n ih =>
    intro i hi hno
    have hlt : i < s.data.toList.length := by omega
    have hw : wrap64 ((i : Int) + 1) = ((i + 1 : Nat) : Int) := w1n hlt (by omega)
    by_cases c : s.data.toList[i] = 58
    · have h58 : s.data.toList[i]? = some 58 := by rw [List.getElem?_eq_getElem hlt, c]
      have hidx := idx_is h58 hno
      have hb : bt s (i : Int) = 58 := by rw [bt_nat s i hlt, c]; rfl
      unfold splitV
      rw [hidx, if_pos (by omega), Int.toNat_natCast]
      have n1 := spec_name (s.extract 0 i)
      have n2 := spec_name (s.extract (i + 1) s.size)
      rw [ex_to] at n1
      rw [ex_from] at n2
      have hw2 : 0 ≤ ((i + 1 : Nat) : Int) := by omega
      have goal : Ev (fun k => spec_Split.j1 k s (i : Int) ((i + 1 : Nat) : Int) false) (if nameB (s.data.toList.take i) = true then (if nameB (s.data.toList.drop (i + 1)) = true then (s.extract 0 i, s.extract (i + 1) s.size, true) else (noB, noB, false)) else (noB, noB, false)) := by
        refine Ev.step (f := fun k => (spec_NameOk.f k (s.extract 0 i)).bind fun t135 => (if t135 = true then ((spec_NameOk.f k (s.extract (i + 1) s.size)).bind fun t136 => (if t136 = true then (some (s.extract 0 i, s.extract (i + 1) s.size, true)) else (some (noB, noB, false)))) else (some (noB, noB, false)))) (fun k => ?_) (Ev.bind n1 ?_)
        · conv => lhs; unfold spec_Split.j1
          rw [if_neg (by decide), if_neg (by omega), if_pos (by omega), if_pos (by rw [sz]; omega), hw]
          simp only [Int.toNat_natCast, if_pos hw2, if_pos (show ((i + 1 : Nat) : Int) ≤ (s.size : Int) by rw [sz]; omega)]
          rfl
        · cases nameB (s.data.toList.take i) with
          | false => exact Ev.now _
          | true =>
            simp only [if_true]
            refine Ev.bind n2 ?_
            cases nameB (s.data.toList.drop (i + 1)) <;> exact Ev.now _
      have step2 : Ev (fun k => spec_Split.l0 k s (i : Int) ((i + 1 : Nat) : Int)) (if nameB (s.data.toList.take i) = true then (if nameB (s.data.toList.drop (i + 1)) = true then (s.extract 0 i, s.extract (i + 1) s.size, true) else (noB, noB, false)) else (noB, noB, false)) := by
        refine Ev.step (fun k => ?_) goal
        conv => lhs; unfold spec_Split.l0
        split
        · rw [decide_eq_false (by omega)]
        · rfl
      refine Ev.step2' (fun k => ?_) step2
      conv => lhs; unfold spec_Split.l0
      rw [if_pos (by rw [sz]; omega), decide_eq_true (by omega)]
      conv => lhs; unfold spec_Split.j1
      rw [if_pos rfl, if_pos (by omega), if_pos (by rw [sz]; omega), if_pos hb, hw]
    · have hb : ¬ bt s (i : Int) = 58 := by
        rw [bt_nat s i hlt]
        exact fun h => c ((byte_is s.data.toList[i] 58 (by decide)).1 h)
      refine Ev.step2' (fun k => ?_) (ih (i + 1) (by omega) (fun k hk => ?_))
      · conv => lhs; unfold spec_Split.l0
        rw [if_pos (by rw [sz]; omega), decide_eq_true (by omega)]
        conv => lhs; unfold spec_Split.j1
        rw [if_pos rfl, if_pos (by omega), if_pos (by rw [sz]; omega), if_neg hb, hw]
      · by_cases e : k = i
        · subst e
          rw [List.getElem?_eq_getElem hlt]
          simpa using c
        · exact hno k (by omega)
theorem spec_split (s : ByteArray) (hs : s.data.toList.length ≤ 9223372036854775806) : Ev (fun k => spec_Split.f k s) (splitV s) := by
  refine Ev.congr (fun k => ?_) (spec_split_l0 s hs s.data.toList.length 0 (by omega) (fun k hk => by omega))
  rfl
def qualV (s : ByteArray) : Bool := (splitV s).2.2
theorem impl_qual (s : ByteArray) (hs : s.data.toList.length ≤ 9223372036854775806) : Ev (fun k => impl_isQualified.f k s) (qualV s) := by
  refine Ev.congr (f := fun k => (impl_Split.f k s).bind fun bt322 => (some bt322.2.2)) (fun k => rfl) (Ev.bind (impl_split s hs) (Ev.now _))
theorem spec_qual (s : ByteArray) (hs : s.data.toList.length ≤ 9223372036854775806) : Ev (fun k => spec_l1Qual.f k s) (qualV s) := by
  refine Ev.congr (f := fun k => (spec_Split.f k s).bind fun bt322 => (some bt322.2.2)) (fun k => rfl) (Ev.bind (spec_split s hs) (Ev.now _))
/-! plain texts -/
def inZ (n a b : Int) : Bool := decide (a ≤ n) && decide (n ≤ b)
def charZ (n : Int) : Bool := decide (n = 9) || decide (n = 10) || decide (n = 13) || inZ n 32 55295 || inZ n 57344 65533 || inZ n 65536 1114111
theorem impl_in' (n a b : Int) : impl_in.f n a b = some (inZ n a b) := by
  unfold impl_in.f inZ
  split
  · rename_i h; have h' : a ≤ n := by omega
    simp [h']
  · rename_i h; have h' : ¬ a ≤ n := by omega
    simp [h']
theorem spec_in' (n a b : Int) : spec_l1In.f n a b = some (inZ n a b) := by
  unfold spec_l1In.f inZ
  split
  · rename_i h; have h' : a ≤ n := by omega
    simp [h']
  · rename_i h; have h' : ¬ a ≤ n := by omega
    simp [h']
theorem impl_char (n : Int) : impl_CharOk.f n = some (charZ n) := by
  unfold impl_CharOk.f charZ
  simp only [impl_in', Option.bind_some]
  by_cases h1 : n = 9
  · simp [h1]
  by_cases h2 : n = 10
  · simp [h2]
  by_cases h3 : n = 13
  · simp [h3]
  rw [if_neg h1, if_neg h2, if_neg h3, decide_eq_false h1, decide_eq_false h2, decide_eq_false h3]
  cases inZ n 32 55295 <;> cases inZ n 57344 65533 <;> rfl
theorem spec_char (n : Int) : spec_CharOk.f n = some (charZ n) := by
  unfold spec_CharOk.f charZ
  simp only [spec_in', Option.bind_some]
  by_cases h1 : n = 9
  · simp [h1]
  by_cases h2 : n = 10
  · simp [h2]
  by_cases h3 : n = 13
  · simp [h3]
  rw [if_neg h1, if_neg h2, if_neg h3, decide_eq_false h1, decide_eq_false h2, decide_eq_false h3]
  cases inZ n 32 55295 <;> cases inZ n 57344 65533 <;> rfl
def plainV (s : ByteArray) : Bool := (runesV s).2 && (runesV s).1.all charZ
theorem rdZ (l : List Int) (i : Nat) (h : i < l.length) : rd l (i : Int) = l[i] := by
  unfold rd
  simp [h]
theorem impl_plain_l0 (l : List Int) (hl : l.length ≤ 9223372036854775807) : ∀ (n i : Nat) (b : Bool), i + n = l.length → Ev (fun k => impl_isPlain.l0 k b l (l.length : Int) (i : Int)) (b && (l.drop i).all charZ) := by
  intro n
  induction n with
  | zero =>
    intro i b hi
    rw [List.drop_of_length_le (by omega), List.all_nil, Bool.and_true]
    refine Ev.step (f := fun _ => some b) (fun k => ?_) (Ev.now _)
    conv => lhs; unfold impl_isPlain.l0
    rw [if_neg (by omega)]
  | succ n ih =>
    intro i b hi
    have hlt : i < l.length := by omega
    rw [List.drop_eq_getElem_cons hlt, List.all_cons]
    have hw := w1n hlt hl
    cases b with
    | false =>
      refine Ev.step (fun k => ?_) (ih (i + 1) false (by omega))
      conv => lhs; unfold impl_isPlain.l0
      rw [if_pos (by omega), if_pos (by omega), if_pos (by omega), if_neg (by decide), hw]
    | true =>
      rw [Bool.true_and]
      refine Ev.step (fun k => ?_) (ih (i + 1) (charZ l[i]) (by omega))
      conv => lhs; unfold impl_isPlain.l0
      rw [if_pos (by omega), if_pos (by omega), if_pos (by omega), if_pos rfl, rdZ l i hlt, impl_char, Option.bind_some, hw]
theorem runes_len (s : ByteArray) : (runesV s).1.length ≤ s.size := by
  have h : ∀ (f p : Nat), (runesFrom s f p).length ≤ f := by
    intro f
    induction f with
    | zero => intro p; exact Nat.le_refl _
    | succ f ih =>
      intro p
      unfold runesFrom
      split
      · rw [List.length_cons]; have := ih (p + (Utf8.decode s p).2); omega
      · simp
  unfold runesV runesOf
  split
  · simp
  · split
    · exact h _ _
    · simp
theorem impl_plain (s : ByteArray) (hs : s.size ≤ 9223372036854775807) : Ev (fun k => impl_isPlain.f k s) (plainV s) := by
  refine Ev.congr (fun k => ?_) (impl_plain_l0 (runesV s).1 (by have := runes_len s; omega) (runesV s).1.length 0 (runesV s).2 (by omega))
  unfold impl_isPlain.f
  rw [impl_runes s hs]
  rfl
theorem spec_text_l0 (l : List Int) (hl : l.length ≤ 9223372036854775807) : ∀ (n i : Nat), i + n = l.length → Ev (fun k => spec_l1Text.l0 k l (i : Int)) ((l.drop i).all charZ) := by
  intro n
  induction n with
  | zero =>
    intro i hi
    rw [List.drop_of_length_le (by omega), List.all_nil]
    refine Ev.step (f := fun _ => some true) (fun k => ?_) (Ev.now _)
    conv => lhs; unfold spec_l1Text.l0
    rw [if_neg (by omega)]
  | succ n ih =>
    intro i hi
    have hlt : i < l.length := by omega
    rw [List.drop_eq_getElem_cons hlt, List.all_cons]
    have hw := w1n hlt hl
    cases hc : charZ l[i] with
    | false =>
      refine Ev.step (f := fun _ => some false) (fun k => ?_) (Ev.now _)
      conv => lhs; unfold spec_l1Text.l0
      rw [if_pos (by omega), if_pos (by omega), rdZ l i hlt, spec_char, Option.bind_some, hc, if_neg (by decide)]
    | true =>
      rw [Bool.true_and]
      refine Ev.step (fun k => ?_) (ih (i + 1) (by omega))
      conv => lhs; unfold spec_l1Text.l0
      rw [if_pos (by omega), if_pos (by omega), rdZ l i hlt, spec_char, Option.bind_some, hc, if_pos rfl, hw]
theorem spec_text (s : ByteArray) (hs : s.size ≤ 9223372036854775807) : Ev (fun k => spec_l1Text.f k s) (plainV s) := by
  refine Ev.congr (f := fun k => (spec_Runes.f k s).bind fun bt124 => (if bt124.2 = true then (spec_l1Text.l0 k bt124.1 0) else (some false))) (fun k => rfl) (Ev.bind (spec_runes s) ?_)
  unfold plainV
  have hl := runes_len s
  generalize runesV s = p at *
  obtain ⟨l, ok⟩ := p
  cases ok with
  | false => exact Ev.now _
  | true =>
    simp only [if_true, Bool.true_and]
    exact spec_text_l0 l (by simp only at hl; omega) l.length 0 (by omega)
end Go.Proofs.YtpmjpbaeecnpiaaDoor.Pure
