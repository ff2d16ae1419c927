/- Words and contracts for the row RowFnExactSelect: what the Go functions answer that it calls; printed by programs of the kit and of this session, and merged. -/
import Derived.Test.YtpmjpbaeecnpiaaDoorQs2
import Derived.Shelf.Unicode.DecodeSlow
import Derived.Shelf.Unicode.ValidAny
import Derived.Test.YtpmjpbaeecnpiaaDoorProg
import Derived.Lib.OthersKept
import Derived.Lib.Hide
import Derived.Outline
import Derived.Shelf.Strings.SplitShaped
import Derived.Shelf.LaysM
import Derived.WalkSpells
import Derived.Deep.QuietTactic
import Derived.BigQuiet
import Derived.Lib.IndexLaws
namespace Go.Proofs.YtpmjpbaeecnpiaaDoor.L
open Go.RowKit Go.Proofs.YtpmjpbaeecnpiaaDoorW.PrintWords Go.Proofs.YtpmjpbaeecnpiaaDoorW.PrintLast Go.Proofs.YtpmjpbaeecnpiaaDoorW.PrintMore
attribute [local go_sem] max2_int min2_int max_two min_two max_three min_three max_four min_four
set_option linter.unusedVariables false
set_option linter.unusedSimpArgs false

/-! ### spec_Select: function 10 -/
def spec_Select.f (k : Nat) (l0 : List (S39)) (a1 : Int) (a2 : ByteArray) : Option (List Int) := (spec_DocOk.f k l0).bind fun t257 => (if t257 = true then ((spec_l1In.f a1 0 (wrap64 ((l0.length : Int) - 1))).bind fun t258 => (if t258 = true then (if 0 ≤ a1 then (if a1 < (l0.length : Int) then (if ((rd_T39 l0 a1).f1).toList = ([] : List UInt8) then (some (([] : List Int))) else ((spec_PathOk.f k a2).bind fun t263 => (if t263 = true then ((spec_l11Select.f k l0 a1 a2).bind fun t264 => (some t264)) else (some (([] : List Int)))))) else (none)) else (none)) else (some (([] : List Int))))) else (some (([] : List Int))))
set_option maxHeartbeats 8000000 in
set_option maxRecDepth 100000 in
theorem spec_Select.calls (k : Nat) (A0 : Option Addr) (c0 : Nat) (l0 : List (S39)) (a1 : Int) (a2 : ByteArray) (r : List Int) (w : World) (hr0 : Kd.C k39 w A0 l0.length l0) (hc0 : l0.length ≤ c0) (h : spec_Select.f k l0 a1 a2 = some r) :
  Calls Tryd.prog 10 #[.slice A0 l0.length c0, .int .i64 a1, .string a2] w fun e w' => ∃ v0_ : Value, e = .returned (v0_) ∧ Kd.R (Kd.int .i64) 2 w' w.heap.size (fun _ => True) v0_ r ∧ Below w.heap.size w w' := by
 have HR0 := Aside0.mk hr0
 have HC0 := Aside0.mk hc0
 clear hr0 hc0
 have HB := Aside0.mk (Below.refl w.heap.size w)
 have H : ((spec_DocOk.f k l0).bind fun t257 => (if t257 = true then ((spec_l1In.f a1 0 (wrap64 ((l0.length : Int) - 1))).bind fun t258 => (if t258 = true then (if 0 ≤ a1 then (if a1 < (l0.length : Int) then (if ((rd_T39 l0 a1).f1).toList = ([] : List UInt8) then (some (([] : List Int))) else ((spec_PathOk.f k a2).bind fun t263 => (if t263 = true then ((spec_l11Select.f k l0 a1 a2).bind fun t264 => (some t264)) else (some (([] : List Int)))))) else (none)) else (none)) else (some (([] : List Int))))) else (some (([] : List Int))))) = some r := h
 clear h
 replace H := Option.bind_eq_some_iff.mp H
 obtain ⟨t257, A40, H⟩ := H
 replace H : (if t257 = true then ((spec_l1In.f a1 0 (wrap64 ((l0.length : Int) - 1))).bind fun t258 => (if t258 = true then (if 0 ≤ a1 then (if a1 < (l0.length : Int) then (if ((rd_T39 l0 a1).f1).toList = ([] : List UInt8) then (some (([] : List Int))) else ((spec_PathOk.f k a2).bind fun t263 => (if t263 = true then ((spec_l11Select.f k l0 a1 a2).bind fun t264 => (some t264)) else (some (([] : List Int)))))) else (none)) else (none)) else (some (([] : List Int))))) else (some (([] : List Int)))) = some r := H
 have A4 := Aside0.mk A40
 clear A40
 by_cases c5 : t257 = true
 ·subst c5
  have H1 : ((spec_l1In.f a1 0 (wrap64 ((l0.length : Int) - 1))).bind fun t258 => (if t258 = true then (if 0 ≤ a1 then (if a1 < (l0.length : Int) then (if ((rd_T39 l0 a1).f1).toList = ([] : List UInt8) then (some (([] : List Int))) else ((spec_PathOk.f k a2).bind fun t263 => (if t263 = true then ((spec_l11Select.f k l0 a1 a2).bind fun t264 => (some t264)) else (some (([] : List Int)))))) else (none)) else (none)) else (some (([] : List Int))))) = some r := by rw [if_pos rfl] at H; exact H
  clear H
  have H := H1
  clear H1
  replace H := Option.bind_eq_some_iff.mp H
  obtain ⟨t258, A60, H⟩ := H
  replace H : (if t258 = true then (if 0 ≤ a1 then (if a1 < (l0.length : Int) then (if ((rd_T39 l0 a1).f1).toList = ([] : List UInt8) then (some (([] : List Int))) else ((spec_PathOk.f k a2).bind fun t263 => (if t263 = true then ((spec_l11Select.f k l0 a1 a2).bind fun t264 => (some t264)) else (some (([] : List Int)))))) else (none)) else (none)) else (some (([] : List Int)))) = some r := H
  have A6 := Aside0.mk A60
  clear A60
  by_cases c7 : t258 = true
  ·subst c7
   have H1 : (if 0 ≤ a1 then (if a1 < (l0.length : Int) then (if ((rd_T39 l0 a1).f1).toList = ([] : List UInt8) then (some (([] : List Int))) else ((spec_PathOk.f k a2).bind fun t263 => (if t263 = true then ((spec_l11Select.f k l0 a1 a2).bind fun t264 => (some t264)) else (some (([] : List Int)))))) else (none)) else (none)) = some r := by rw [if_pos rfl] at H; exact H
   clear H
   have H := H1
   clear H1
   by_cases c8 : 0 ≤ a1
   ·rw [if_pos c8] at H
    have c8b0 := decide_eq_true c8
    clear c8
    by_cases c9 : a1 < (l0.length : Int)
    ·rw [if_pos c9] at H
     have c9b0 := decide_eq_true c9
     clear c9
     by_cases c10 : ((rd_T39 l0 a1).f1).toList = ([] : List UInt8)
     ·rw [if_pos c10] at H
      have c10b0 := beq_iff_eq.mpr c10
      have c10b1 := bne_eq_false_iff_eq.mpr c10
      clear c10
      obtain ⟨y260, hy260⟩ : ∃ y_ : List Int, y_ = (([] : List Int)) := ⟨_, rfl⟩
      replace H : (some y260) = some r := by first | (rw [hy260]; with_reducible exact H) | (have H2_ := (Option.bind_some _ _).symm.trans H; rw [hy260]; with_reducible exact H2_) | (have H2_ := (Option.bind_some _ _).symm.trans H; with_reducible exact H2_) | with_reducible exact H | (rw [hy260]; exact H) | exact H
      have Ny260 := Aside0.mk hy260
      clear hy260
      obtain rfl := Option.some.inj H
      go_enter Tryd.func10, Tryd.ntmps10
      go_wp2_with (first | ((with_reducible refine gate_callee (f := 23) rfl ?_); refine goesL_ (some 8) rfl rfl Tryd.func23 dq29 rfl #[.slice A0 l0.length c0] rfl dq28 ?_; (with_reducible refine (spec_DocOk.calls k _ _ l0 true _ ?side1 ?side2 A4.out).mono ?_); (case side1 => exact dq7); (case side2 => exact dq4); rintro e w11 ⟨rfl, hb⟩; refine ⟨_, rfl, ?_⟩; have n0_ := Aside0.mk (below_step dq23 hb); clear HB; have HB := n0_; clear n0_; (try clear hb); (try clear hb2); (try clear hk); (try clear hi)) | (go_at_call 41; (with_reducible refine (spec_l1In.calls a1 0 (wrap64 ((l0.length : Int) - 1)) true _ A6.out).mono ?_); rintro e w' ⟨rfl, ⟨nd, rfl⟩⟩; have p259 : 0 ≤ (a1 : Int) := of_decide_eq_true dq27; have q259 : a1 < (l0.length : Int) := of_decide_eq_true dq27; obtain ⟨ad259, A259_3, c259_3, e259, hx259_0, hx259_1, hx259_2, hx259_3, hl259_3, hi259_3⟩ := at_T39 HR0.out a1 p259 q259; cases e259; replace hx259_0 := (HB.out.cell (World.block_lt_of_cell? w _ hx259_0)).trans hx259_0; replace hx259_1 := (HB.out.cell (World.block_lt_of_cell? w _ hx259_1)).trans hx259_1; replace hx259_2 := (HB.out.cell (World.block_lt_of_cell? w _ hx259_2)).trans hx259_2; replace hx259_3 := (HB.out.cell (World.block_lt_of_cell? w _ hx259_3)).trans hx259_3; have HR259_3 := Aside0.mk hi259_3; have HC259_3 := Aside0.mk hl259_3; clear hi259_3 hl259_3; replace p259 := eq_true p259; replace q259 := eq_true q259) | ((with_reducible refine gate_dst (N := 31) rfl ?_); (try (refine gate_guard (by rfl) ?_; dsimp only)); refine Kd.R_lit (Kd.int .i64) _ 2 ?hg (N := 31) ?hd (xs := ([] : List Int)) (inner := []) (ok := fun _ => True) (okp := fun _ => True) ?hr ?hp (fun _ hk => hk) trivial (Below.refl _ _) (Nat.le_refl _) dq31 ?_; (case hd => rfl); (case hg => rfl); (case hr => exact dq0); (case hp => exact dq2); intro v261 w12 ho13 hb hg_ hnew_; clear hg_ hnew_; (first | rw [← Ny260.out] at ho13 | (simp only [Int.reduceToNat] at ho13; rw [← Ny260.out] at ho13)); have n0_ := Aside0.mk (Kd.R_lower ho13 (below_size dq23)); have n1_ := Aside0.mk (below_step dq23 hb); clear HB; have HO262 := n0_; have HB := n1_; clear n0_ n1_; clear hb ho13))
      go_ret
      exact ⟨_, dq25, by (with_reducible repeat (first | apply Kd.R_alloc | apply Kd.R_drewN | apply Kd.R_drew)); exact HO262.out, dq23⟩
     ·rw [if_neg c10] at H
      have c10b0 := beq_eq_false_iff_ne.mpr c10
      have c10b1 := bne_iff_ne.mpr c10
      replace H := Option.bind_eq_some_iff.mp H
      obtain ⟨t263, A140, H⟩ := H
      replace H : (if t263 = true then ((spec_l11Select.f k l0 a1 a2).bind fun t264 => (some t264)) else (some (([] : List Int)))) = some r := H
      have A14 := Aside0.mk A140
      clear A140
      by_cases c15 : t263 = true
      ·subst c15
       have H1 : ((spec_l11Select.f k l0 a1 a2).bind fun t264 => (some t264)) = some r := by rw [if_pos rfl] at H; exact H
       clear H
       have H := H1
       clear H1
       replace H := Option.bind_eq_some_iff.mp H
       obtain ⟨t264, A160, H⟩ := H
       replace H : (some t264) = some r := H
       have A16 := Aside0.mk A160
       clear A160
       obtain rfl := Option.some.inj H
       go_enter Tryd.func10, Tryd.ntmps10
       go_wp2_with (first | ((with_reducible refine gate_callee (f := 23) rfl ?_); refine goesL_ (some 8) rfl rfl Tryd.func23 dq29 rfl #[.slice A0 l0.length c0] rfl dq28 ?_; (with_reducible refine (spec_DocOk.calls k _ _ l0 true _ ?side1 ?side2 A4.out).mono ?_); (case side1 => exact dq7); (case side2 => exact dq4); rintro e w17 ⟨rfl, hb⟩; refine ⟨_, rfl, ?_⟩; have n0_ := Aside0.mk (below_step dq23 hb); clear HB; have HB := n0_; clear n0_; (try clear hb); (try clear hb2); (try clear hk); (try clear hi)) | (go_at_call 41; (with_reducible refine (spec_l1In.calls a1 0 (wrap64 ((l0.length : Int) - 1)) true _ A6.out).mono ?_); rintro e w' ⟨rfl, ⟨nd, rfl⟩⟩; have p259 : 0 ≤ (a1 : Int) := of_decide_eq_true dq27; have q259 : a1 < (l0.length : Int) := of_decide_eq_true dq27; obtain ⟨ad259, A259_3, c259_3, e259, hx259_0, hx259_1, hx259_2, hx259_3, hl259_3, hi259_3⟩ := at_T39 HR0.out a1 p259 q259; cases e259; replace hx259_0 := (HB.out.cell (World.block_lt_of_cell? w _ hx259_0)).trans hx259_0; replace hx259_1 := (HB.out.cell (World.block_lt_of_cell? w _ hx259_1)).trans hx259_1; replace hx259_2 := (HB.out.cell (World.block_lt_of_cell? w _ hx259_2)).trans hx259_2; replace hx259_3 := (HB.out.cell (World.block_lt_of_cell? w _ hx259_3)).trans hx259_3; have HR259_3 := Aside0.mk hi259_3; have HC259_3 := Aside0.mk hl259_3; clear hi259_3 hl259_3; replace p259 := eq_true p259; replace q259 := eq_true q259) | (go_at_call 24; (with_reducible refine (spec_PathOk.calls k a2 true _ A14.out).mono ?_); rintro e w18 ⟨rfl, hb⟩; have n0_ := Aside0.mk (below_step dq23 hb); clear HB; have HB := n0_; clear n0_; (try clear hb); (try clear hb2); (try clear hk); (try clear hi)) | ((with_reducible refine gate_callee (f := 42) rfl ?_); refine goesL_ (some 35) rfl rfl Tryd.func42 dq29 rfl #[.slice (some ad259) l0.length c0, .int .i64 a1, .string a2] rfl dq28 ?_; (with_reducible refine (spec_l11Select.calls k (fun k_ => k_ < w.heap.size) _ _ l0 a1 a2 t264 _ ?side1 A16.out).mono ?_); (case side1 => exact Kd.V_mk HC0.out (Kd.F_below (Kd.C_F k39_heap HR0.out) dq23)); rintro e w19 ⟨v265, rfl, ho0, hb⟩; refine ⟨_, rfl, ?_⟩; have n0_ := Aside0.mk (Kd.R_lower (Kd.R_mono (ok' := fun k_ => True) ho0 (fun _ hk_ => trivial)) (below_size dq23)); have n1_ := Aside0.mk (below_step dq23 hb); clear HB; have HO266 := n0_; have HB := n1_; clear n0_ n1_; (try clear hb); (try clear hb2); (try clear hk); (try clear hi); (try clear ho0)))
       go_ret
       exact ⟨_, dq25, by (with_reducible repeat (first | apply Kd.R_alloc | apply Kd.R_drewN | apply Kd.R_drew)); exact HO266.out, dq23⟩
      ·replace c15 := Bool.eq_false_iff.mpr c15
       subst c15
       have H1 : (some (([] : List Int))) = some r := by rw [if_neg (show ¬ (false = true) by decide)] at H; exact H
       clear H
       have H := H1
       clear H1
       obtain ⟨y267, hy267⟩ : ∃ y_ : List Int, y_ = (([] : List Int)) := ⟨_, rfl⟩
       replace H : (some y267) = some r := by first | (rw [hy267]; with_reducible exact H) | (have H2_ := (Option.bind_some _ _).symm.trans H; rw [hy267]; with_reducible exact H2_) | (have H2_ := (Option.bind_some _ _).symm.trans H; with_reducible exact H2_) | with_reducible exact H | (rw [hy267]; exact H) | exact H
       have Ny267 := Aside0.mk hy267
       clear hy267
       obtain rfl := Option.some.inj H
       go_enter Tryd.func10, Tryd.ntmps10
       go_wp2_with (first | ((with_reducible refine gate_callee (f := 23) rfl ?_); refine goesL_ (some 8) rfl rfl Tryd.func23 dq29 rfl #[.slice A0 l0.length c0] rfl dq28 ?_; (with_reducible refine (spec_DocOk.calls k _ _ l0 true _ ?side1 ?side2 A4.out).mono ?_); (case side1 => exact dq7); (case side2 => exact dq4); rintro e w20 ⟨rfl, hb⟩; refine ⟨_, rfl, ?_⟩; have n0_ := Aside0.mk (below_step dq23 hb); clear HB; have HB := n0_; clear n0_; (try clear hb); (try clear hb2); (try clear hk); (try clear hi)) | (go_at_call 41; (with_reducible refine (spec_l1In.calls a1 0 (wrap64 ((l0.length : Int) - 1)) true _ A6.out).mono ?_); rintro e w' ⟨rfl, ⟨nd, rfl⟩⟩; have p259 : 0 ≤ (a1 : Int) := of_decide_eq_true dq27; have q259 : a1 < (l0.length : Int) := of_decide_eq_true dq27; obtain ⟨ad259, A259_3, c259_3, e259, hx259_0, hx259_1, hx259_2, hx259_3, hl259_3, hi259_3⟩ := at_T39 HR0.out a1 p259 q259; cases e259; replace hx259_0 := (HB.out.cell (World.block_lt_of_cell? w _ hx259_0)).trans hx259_0; replace hx259_1 := (HB.out.cell (World.block_lt_of_cell? w _ hx259_1)).trans hx259_1; replace hx259_2 := (HB.out.cell (World.block_lt_of_cell? w _ hx259_2)).trans hx259_2; replace hx259_3 := (HB.out.cell (World.block_lt_of_cell? w _ hx259_3)).trans hx259_3; have HR259_3 := Aside0.mk hi259_3; have HC259_3 := Aside0.mk hl259_3; clear hi259_3 hl259_3; replace p259 := eq_true p259; replace q259 := eq_true q259) | (go_at_call 24; (with_reducible refine (spec_PathOk.calls k a2 false _ A14.out).mono ?_); rintro e w21 ⟨rfl, hb⟩; have n0_ := Aside0.mk (below_step dq23 hb); clear HB; have HB := n0_; clear n0_; (try clear hb); (try clear hb2); (try clear hk); (try clear hi)) | ((with_reducible refine gate_dst (N := 31) rfl ?_); (try (refine gate_guard (by rfl) ?_; dsimp only)); refine Kd.R_lit (Kd.int .i64) _ 2 ?hg (N := 31) ?hd (xs := ([] : List Int)) (inner := []) (ok := fun _ => True) (okp := fun _ => True) ?hr ?hp (fun _ hk => hk) trivial (Below.refl _ _) (Nat.le_refl _) dq31 ?_; (case hd => rfl); (case hg => rfl); (case hr => exact dq0); (case hp => exact dq2); intro v268 w22 ho23 hb hg_ hnew_; clear hg_ hnew_; (first | rw [← Ny267.out] at ho23 | (simp only [Int.reduceToNat] at ho23; rw [← Ny267.out] at ho23)); have n0_ := Aside0.mk (Kd.R_lower ho23 (below_size dq23)); have n1_ := Aside0.mk (below_step dq23 hb); clear HB; have HO269 := n0_; have HB := n1_; clear n0_ n1_; clear hb ho23))
       go_ret
       exact ⟨_, dq25, by (with_reducible repeat (first | apply Kd.R_alloc | apply Kd.R_drewN | apply Kd.R_drew)); exact HO269.out, dq23⟩
    ·rw [if_neg c9] at H
     exact absurd H dq31
   ·rw [if_neg c8] at H
    exact absurd H dq31
  ·replace c7 := Bool.eq_false_iff.mpr c7
   subst c7
   have H1 : (some (([] : List Int))) = some r := by rw [if_neg (show ¬ (false = true) by decide)] at H; exact H
   clear H
   have H := H1
   clear H1
   obtain ⟨y270, hy270⟩ : ∃ y_ : List Int, y_ = (([] : List Int)) := ⟨_, rfl⟩
   replace H : (some y270) = some r := by first | (rw [hy270]; with_reducible exact H) | (have H2_ := (Option.bind_some _ _).symm.trans H; rw [hy270]; with_reducible exact H2_) | (have H2_ := (Option.bind_some _ _).symm.trans H; with_reducible exact H2_) | with_reducible exact H | (rw [hy270]; exact H) | exact H
   have Ny270 := Aside0.mk hy270
   clear hy270
   obtain rfl := Option.some.inj H
   go_enter Tryd.func10, Tryd.ntmps10
   go_wp2_with (first | ((with_reducible refine gate_callee (f := 23) rfl ?_); refine goesL_ (some 8) rfl rfl Tryd.func23 dq29 rfl #[.slice A0 l0.length c0] rfl dq28 ?_; (with_reducible refine (spec_DocOk.calls k _ _ l0 true _ ?side1 ?side2 A4.out).mono ?_); (case side1 => exact dq7); (case side2 => exact dq4); rintro e w24 ⟨rfl, hb⟩; refine ⟨_, rfl, ?_⟩; have n0_ := Aside0.mk (below_step dq23 hb); clear HB; have HB := n0_; clear n0_; (try clear hb); (try clear hb2); (try clear hk); (try clear hi)) | (go_at_call 41; (with_reducible refine (spec_l1In.calls a1 0 (wrap64 ((l0.length : Int) - 1)) false _ A6.out).mono ?_); rintro e w' ⟨rfl, ⟨nd, rfl⟩⟩) | ((with_reducible refine gate_dst (N := 31) rfl ?_); (try (refine gate_guard (by rfl) ?_; dsimp only)); refine Kd.R_lit (Kd.int .i64) _ 2 ?hg (N := 31) ?hd (xs := ([] : List Int)) (inner := []) (ok := fun _ => True) (okp := fun _ => True) ?hr ?hp (fun _ hk => hk) trivial (Below.refl _ _) (Nat.le_refl _) dq31 ?_; (case hd => rfl); (case hg => rfl); (case hr => exact dq0); (case hp => exact dq2); intro v271 w25 ho26 hb hg_ hnew_; clear hg_ hnew_; (first | rw [← Ny270.out] at ho26 | (simp only [Int.reduceToNat] at ho26; rw [← Ny270.out] at ho26)); have n0_ := Aside0.mk (Kd.R_lower ho26 (below_size dq23)); have n1_ := Aside0.mk (below_step dq23 hb); clear HB; have HO272 := n0_; have HB := n1_; clear n0_ n1_; clear hb ho26))
   go_ret
   exact ⟨_, dq25, by (with_reducible repeat (first | apply Kd.R_alloc | apply Kd.R_drewN | apply Kd.R_drew)); exact HO272.out, dq23⟩
 ·replace c5 := Bool.eq_false_iff.mpr c5
  subst c5
  have H1 : (some (([] : List Int))) = some r := by rw [if_neg (show ¬ (false = true) by decide)] at H; exact H
  clear H
  have H := H1
  clear H1
  obtain ⟨y273, hy273⟩ : ∃ y_ : List Int, y_ = (([] : List Int)) := ⟨_, rfl⟩
  replace H : (some y273) = some r := by first | (rw [hy273]; with_reducible exact H) | (have H2_ := (Option.bind_some _ _).symm.trans H; rw [hy273]; with_reducible exact H2_) | (have H2_ := (Option.bind_some _ _).symm.trans H; with_reducible exact H2_) | with_reducible exact H | (rw [hy273]; exact H) | exact H
  have Ny273 := Aside0.mk hy273
  clear hy273
  obtain rfl := Option.some.inj H
  go_enter Tryd.func10, Tryd.ntmps10
  go_wp2_with (first | ((with_reducible refine gate_callee (f := 23) rfl ?_); refine goesL_ (some 8) rfl rfl Tryd.func23 dq29 rfl #[.slice A0 l0.length c0] rfl dq28 ?_; (with_reducible refine (spec_DocOk.calls k _ _ l0 false _ ?side1 ?side2 A4.out).mono ?_); (case side1 => exact dq7); (case side2 => exact dq4); rintro e w27 ⟨rfl, hb⟩; refine ⟨_, rfl, ?_⟩; have n0_ := Aside0.mk (below_step dq23 hb); clear HB; have HB := n0_; clear n0_; (try clear hb); (try clear hb2); (try clear hk); (try clear hi)) | ((with_reducible refine gate_dst (N := 31) rfl ?_); (try (refine gate_guard (by rfl) ?_; dsimp only)); refine Kd.R_lit (Kd.int .i64) _ 2 ?hg (N := 31) ?hd (xs := ([] : List Int)) (inner := []) (ok := fun _ => True) (okp := fun _ => True) ?hr ?hp (fun _ hk => hk) trivial (Below.refl _ _) (Nat.le_refl _) dq31 ?_; (case hd => rfl); (case hg => rfl); (case hr => exact dq0); (case hp => exact dq2); intro v274 w28 ho29 hb hg_ hnew_; clear hg_ hnew_; (first | rw [← Ny273.out] at ho29 | (simp only [Int.reduceToNat] at ho29; rw [← Ny273.out] at ho29)); have n0_ := Aside0.mk (Kd.R_lower ho29 (below_size dq23)); have n1_ := Aside0.mk (below_step dq23 hb); clear HB; have HO275 := n0_; have HB := n1_; clear n0_ n1_; clear hb ho29))
  go_ret
  exact ⟨_, dq25, by (with_reducible repeat (first | apply Kd.R_alloc | apply Kd.R_drewN | apply Kd.R_drew)); exact HO275.out, dq23⟩

/-! ### laws_toAttr: function 102 -/
def laws_toAttr.f (a0_0 : ByteArray) (a0_1 : ByteArray) : Option (ByteArray × ByteArray) := some (a0_0, a0_1)
set_option maxHeartbeats 8000000 in
set_option maxRecDepth 100000 in
theorem laws_toAttr.calls (a0_0 : ByteArray) (a0_1 : ByteArray) (r1 : ByteArray) (r2 : ByteArray) (w : World) (h : laws_toAttr.f a0_0 a0_1 = some (r1, r2)) :
  Calls Tryd.prog 102 #[.agg #[.string a0_0, .string a0_1]] w fun e w' => e = .returned (.agg #[.string r1, .string r2]) ∧ Below w.heap.size w w' := by
 have hu113 := Tryd.underlying113
 have hu46 := Tryd.underlying46
 have HB := Aside0.mk (Below.refl w.heap.size w)
 have H : (some (a0_0, a0_1)) = some (r1, r2) := h
 clear h
 simp only [Option.some.injEq, Prod.mk.injEq] at H
 obtain ⟨rfl, rfl⟩ := H
 go_enter Tryd.func102, Tryd.ntmps102
 go_wp2_with (first | ((with_reducible refine gate_dst (N := 1) rfl ?_); refine box_event ?hg (N := 1) ?hd (cs := #[.string a0_0, .string a0_1]) (t := 113) ?hr ?_; (case hd => rfl); (case hg => rfl); (case hr => exact dq0); intro gb276 hg w2 hbox hb; have n0_ := Aside0.mk (below_step dq23 hb); have n1_ := Aside0.mk (hbox); have n2_ := Aside0.mk ((dq22 : w.heap.size ≤ gb276)); have n3_ := Aside0.mk ((dq22 : w.heap.size ≤ gb276)); clear HB; have HB := n0_; have BK276 := n1_; have GW276 := n2_; have GE276 := n3_; clear n0_ n1_ n2_ n3_; clear hb hbox hg) | ((with_reducible refine gate_dst (N := 2) rfl ?_); refine box_event ?hg (N := 2) ?hd (cs := #[.string (⟨#[]⟩ : ByteArray), .string (⟨#[]⟩ : ByteArray)]) (t := 46) ?hr ?_; (case hd => rfl); (case hg => rfl); (case hr => exact dq0); intro gb277 hg w3 hbox hb; have n0_ := Aside0.mk (blk_below (g := gb276) (o := .cells #[.string a0_0, .string a0_1] 113 (0, 0)) dq81 hb); have n1_ := Aside0.mk (below_step dq83 hb); have n2_ := Aside0.mk (hbox); have n3_ := Aside0.mk ((dq82 : w.heap.size ≤ gb277)); have n4_ := Aside0.mk ((dq82 : w.heap.size ≤ gb277)); have n5_ := Aside0.mk ((dq78 : gb276 ≠ gb277)); have n6_ := Aside0.mk ((dq77 : gb277 ≠ gb276)); clear BK276; clear HB; have BK276 := n0_; have HB := n1_; have BK277 := n2_; have GW277 := n3_; have GE277 := n4_; have NB276_277 := n5_; have NB277_276 := n6_; clear n0_ n1_ n2_ n3_ n4_ n5_ n6_; clear hb hbox hg) | ((with_reducible refine gate_dst (N := 3) rfl ?_); refine box_event ?hg (N := 3) ?hd (cs := #[.string (⟨#[]⟩ : ByteArray), .string (⟨#[]⟩ : ByteArray)]) (t := 46) ?hr ?_; (case hd => rfl); (case hg => rfl); (case hr => exact dq0); intro gb278 hg w4 hbox hb; have n0_ := Aside0.mk (blk_below (g := gb276) (o := .cells #[.string a0_0, .string a0_1] 113 (0, 0)) dq81 hb); have n1_ := Aside0.mk (blk_below (g := gb277) (o := .cells #[.string (⟨#[]⟩ : ByteArray), .string (⟨#[]⟩ : ByteArray)] 46 (0, 0)) (by refine blk_up ?_; exact BK277.out) hb); have n2_ := Aside0.mk (below_step dq80 hb); have n3_ := Aside0.mk (hbox); have n4_ := Aside0.mk ((dq79 : w.heap.size ≤ gb278)); have n5_ := Aside0.mk ((dq79 : w.heap.size ≤ gb278)); have n6_ := Aside0.mk ((dq78 : gb276 ≠ gb278)); have n7_ := Aside0.mk ((dq77 : gb278 ≠ gb276)); have n8_ := Aside0.mk ((by rw [hg]; exact Nat.ne_of_lt (blk_lt (g := gb277) (o := .cells #[.string (⟨#[]⟩ : ByteArray), .string (⟨#[]⟩ : ByteArray)] 46 (0, 0)) (by refine blk_up ?_; exact BK277.out)) : gb277 ≠ gb278)); have n9_ := Aside0.mk ((by rw [hg]; exact Nat.ne_of_gt (blk_lt (g := gb277) (o := .cells #[.string (⟨#[]⟩ : ByteArray), .string (⟨#[]⟩ : ByteArray)] 46 (0, 0)) (by refine blk_up ?_; exact BK277.out)) : gb278 ≠ gb277)); clear BK276; clear BK277; clear HB; have BK276 := n0_; have BK277 := n1_; have HB := n2_; have BK278 := n3_; have GW278 := n4_; have GE278 := n5_; have NB276_278 := n6_; have NB278_276 := n7_; have NB277_278 := n8_; have NB278_277 := n9_; clear n0_ n1_ n2_ n3_ n4_ n5_ n6_ n7_ n8_ n9_; clear hb hbox hg; have hnb5 := NB276_277.out; have hnc5 := NB277_276.out; have hnb6 := NB276_278.out; have hnc6 := NB278_276.out; obtain ⟨⟨hcz7_0, hcz7_1⟩, hfz7_0, hfz7_1⟩ := blkC2 BK276.out; have hnb8 := NB278_277.out; have hnc8 := NB277_278.out; obtain ⟨⟨hcz9_0, hcz9_1⟩, hfz9_0, hfz9_1⟩ := blkC2 BK278.out; obtain ⟨⟨hcz10_0, hcz10_1⟩, hfz10_0, hfz10_1⟩ := blkC2 BK277.out))
 refine bodyPost_ret (results_cell_row rfl _ _ gb277 46 #[.string a0_0, .string a0_1] (0, 0) _ rfl (by refine blk_up ?_; refine blk_put (cs := #[.string a0_0, .string (⟨#[]⟩ : ByteArray)]) ?_ 1 _ rfl; refine blk_up ?_; refine blk_put (cs := #[.string (⟨#[]⟩ : ByteArray), .string (⟨#[]⟩ : ByteArray)]) ?_ 0 _ rfl; refine blk_up ?_; refine blk_far ?_ NB277_278.out _; refine blk_up ?_; refine blk_far ?_ NB277_278.out _; refine blk_up ?_; exact BK277.out) Tryd.underlying46 rfl dq29) rfl ?_
 exact ⟨dq25, by repeat (first | (with_reducible first | exact HB.out | apply below_alloc | apply pw_below_drewN | apply below_drew1 | refine below_set ?_ GE276.out | refine below_set ?_ GE277.out | refine below_set ?_ GE278.out) | exact HB.out)⟩

/-! ### laws_toAttrS: function 79 -/
def laws_toAttrS.l0 : Nat → List (S113) → List (S46) → Int → Option ((List (S46)))
 | 0, _, _, _ => none
 | k + 1, x0, x3, x4 => if x4 < (x0.length : Int) then (if 0 ≤ x4 then ((laws_toAttr.f ((rd_T113 x0 x4).f0) ((rd_T113 x0 x4).f1)).bind fun bt283 => (if x4 < (x3.length : Int) then (laws_toAttrS.l0 k x0 (x3.set (x4 : Int).toNat (⟨bt283.1, bt283.2⟩ : S46)) (wrap64 (x4 + 1))) else (none))) else (none)) else (some x3)
def laws_toAttrS.f (k : Nat) (l0 : List (S113)) : Option ((List (S46))) := if 0 ≤ (l0.length : Int) then (if ((l0.length : Int) : Int).toNat ≤ 8796093022208 then (laws_toAttrS.l0 k l0 (List.replicate ((l0.length : Int) : Int).toNat z46) 0) else (none)) else (none)
set_option maxHeartbeats 8000000 in
set_option maxRecDepth 100000 in
theorem laws_toAttrS.calls (k : Nat) (A0 : Option Addr) (c0 : Nat) (l0 : List (S113)) (r : List (S46)) (w : World) (hr0 : Kd.C k113 w A0 l0.length l0) (hc0 : l0.length ≤ c0) (h : laws_toAttrS.f k l0 = some r) :
  Calls Tryd.prog 79 #[.slice A0 l0.length c0] w fun e w' => ∃ v0_ : Value, e = .returned (v0_) ∧ Kd.R k46 46 w' w.heap.size (fun _ => True) v0_ r ∧ Below w.heap.size w w' := by
 have hu113 := Tryd.underlying113
 have hu46 := Tryd.underlying46
 have HR0 := Aside0.mk hr0
 have HC0 := Aside0.mk hc0
 clear hr0 hc0
 have HB := Aside0.mk (Below.refl w.heap.size w)
 have H : (if 0 ≤ (l0.length : Int) then (if ((l0.length : Int) : Int).toNat ≤ 8796093022208 then (laws_toAttrS.l0 k l0 (List.replicate ((l0.length : Int) : Int).toNat z46) 0) else (none)) else (none)) = some r := h
 clear h
 by_cases c2 : 0 ≤ (l0.length : Int)
 ·rw [if_pos c2] at H
  have c2b0 := eq_true c2
  have c2b1 := decide_eq_true c2
  clear c2
  by_cases c3 : ((l0.length : Int) : Int).toNat ≤ 8796093022208
  ·rw [if_pos c3] at H
   have c3b0 := eq_true c3
   have c3b1 := decide_eq_true c3
   clear c3
   obtain ⟨y279, hy279⟩ : ∃ y_ : List (S46), y_ = (List.replicate ((l0.length : Int) : Int).toNat z46) := ⟨_, rfl⟩
   replace H : (laws_toAttrS.l0 k l0 y279 0) = some r := by first | (rw [hy279]; with_reducible exact H) | (have H2_ := (Option.bind_some _ _).symm.trans H; rw [hy279]; with_reducible exact H2_) | (have H2_ := (Option.bind_some _ _).symm.trans H; with_reducible exact H2_) | with_reducible exact H | (rw [hy279]; exact H) | exact H
   have Ny279 := Aside0.mk hy279
   clear hy279
   have H' := Aside0.mk H
   clear H
   go_enter Tryd.func79, Tryd.ntmps79
   go_wp2_with (first | ((with_reducible refine gate_dst (N := 7) rfl ?_); refine Kd.R_make k46 _ 46 rfl (N := 7) rfl 37 _ _ rfl (l0.length : Int) rfl rfl Tryd.underlying37 (.agg #[(.string ⟨#[]⟩), (.string ⟨#[]⟩)]) 32 info46 rfl dq38 dq34 z46 (ok := fun _ => True) (okp := fun _ => True) (k46_mkM _ _ _ z46 ) (fun _ hk => hk) trivial (of_decide_eq_true dq27) (Nat.le_trans (Nat.mul_le_mul_right _ (of_decide_eq_true dq27 : (l0.length : Int).toNat ≤ 8796093022208)) dq34) (Below.refl _ _) (Nat.le_refl _) ?_; intro v280 w4 ho5 hb hg_ hnew_; clear hg_ hnew_; (first | rw [← Ny279.out] at ho5 | (simp only [Int.reduceToNat] at ho5; rw [← Ny279.out] at ho5)); have n0_ := Aside0.mk (Kd.R_lower ho5 (below_size dq23)); have n1_ := Aside0.mk (below_step dq23 hb); clear HB; have HO281 := n0_; have HB := n1_; clear n0_ n1_; clear hb ho5))
   go_loopg [4] k (fun kq v4 w' => ∃ (x3_1 : List (S46)) (x4_1 : Int), v4 = .int .i64 x4_1 ∧ Aside0 (laws_toAttrS.l0 kq l0 x3_1 x4_1 = some r) ∧ Aside0 (kq ≤ k) ∧ Aside0 (Kd.R k46 46 w' w.heap.size (fun _ => True) v280 x3_1) ∧ Aside0 (Below w.heap.size w w'))
   case atStart => exact ⟨(y279), (0), dq26, H', ⟨Nat.le_refl _⟩, ⟨by (with_reducible repeat (first | apply Kd.R_alloc | apply Kd.R_drewN | apply Kd.R_drew)); exact HO281.out⟩, ⟨dq23⟩⟩
   case round =>
    clear H'
    try clear c2
    try clear c2b0
    try clear c2b1
    try clear p2
    try clear c3
    try clear c3b0
    try clear c3b1
    obtain ⟨x3_1, x4_1, rfl, HA, HK1, HO_3, HB⟩ := hrel
    cases gk with
    | zero => exact absurd HA.out (by simp [laws_toAttrS.l0])
    | succ k1 =>
     have H := HA.out
     clear HA
     simp only [laws_toAttrS.l0] at H
     by_cases c6 : x4_1 < (l0.length : Int)
     ·rw [if_pos c6] at H
      have c6b0 := decide_eq_true c6
      clear c6
      by_cases c7 : 0 ≤ x4_1
      ·rw [if_pos c7] at H
       have c7b0 := decide_eq_true c7
       clear c7
       replace H := Option.bind_eq_some_iff.mp H
       obtain ⟨⟨t283, t284⟩, A80, H⟩ := H
       replace H : (if x4_1 < (x3_1.length : Int) then (laws_toAttrS.l0 k1 l0 (x3_1.set (x4_1 : Int).toNat (⟨t283, t284⟩ : S46)) (wrap64 (x4_1 + 1))) else (none)) = some r := H
       have A8 := Aside0.mk A80
       clear A80
       by_cases c9 : x4_1 < (x3_1.length : Int)
       ·rw [if_pos c9] at H
        have c9b0 := decide_eq_true c9
        clear c9
        obtain ⟨y285, hy285⟩ : ∃ y_ : List (S46), y_ = (x3_1.set (x4_1 : Int).toNat (⟨t283, t284⟩ : S46)) := ⟨_, rfl⟩
        replace H : (laws_toAttrS.l0 k1 l0 y285 (wrap64 (x4_1 + 1))) = some r := by first | (rw [hy285]; with_reducible exact H) | (have H2_ := (Option.bind_some _ _).symm.trans H; rw [hy285]; with_reducible exact H2_) | (have H2_ := (Option.bind_some _ _).symm.trans H; with_reducible exact H2_) | with_reducible exact H | (rw [hy285]; exact H) | exact H
        have Ny285 := Aside0.mk hy285
        clear hy285
        have H' := Aside0.mk H
        clear H
        have p282 : 0 ≤ (x4_1 : Int) := of_decide_eq_true dq27
        have q282 : x4_1 < (l0.length : Int) := of_decide_eq_true dq27
        obtain ⟨ad282, e282, hx282_0, hx282_1⟩ := at_T113 HR0.out x4_1 p282 q282
        cases e282
        replace hx282_0 := (HB.out.cell (World.block_lt_of_cell? w _ hx282_0)).trans hx282_0
        replace hx282_1 := (HB.out.cell (World.block_lt_of_cell? w _ hx282_1)).trans hx282_1
        replace p282 := eq_true p282
        replace q282 := eq_true q282
        go_wp2_with (first | ((with_reducible refine gate_callee (f := 102) rfl ?_); refine goesL_ (some 20) rfl rfl Tryd.func102 dq29 rfl #[.agg #[.string ((rd_T113 l0 x4_1).f0), .string ((rd_T113 l0 x4_1).f1)]] rfl dq28 ?_; (with_reducible refine (laws_toAttr.calls ((rd_T113 l0 x4_1).f0) ((rd_T113 l0 x4_1).f1) t283 t284 _ A8.out).mono ?_); rintro e w11 ⟨rfl, hb⟩; refine ⟨_, rfl, ?_⟩; have n0_ := Aside0.mk (Kd.R_below dq39 hb); have n1_ := Aside0.mk (below_step dq23 hb); clear HO_3; clear HB; have HO_3 := n0_; have HB := n1_; clear n0_ n1_; (try clear hb); (try clear hb2); (try clear hk); (try clear hi); have p10 : 0 ≤ (x4_1 : Int) := of_decide_eq_true dq27; have q10 : (x4_1 : Int) < ((x3_1.length : Int) : Int) := of_decide_eq_true dq27; obtain ⟨go10, co10, eo10, gb10, gl10, cl10, HG10⟩ := Kd.R_form HO_3.out dq34; (first | cases eo10 | (injection eo10 with ea_ en_ ec_; (first | subst ea_ | (injection ea_ with ea_; subst ea_)); subst ec_; clear en_)); have GB10 := Aside0.mk gb10; have GG10 := Aside0.mk HG10; clear gb10 gl10 HG10; obtain ⟨ce10, hcl10, hM10, hcc10, hfr10⟩ := Kd.R_elem HO_3.out z46 (x4_1 : Int) p10 q10; obtain rfl := k46_openM hM10; have hx10_0 : w11.cell? ⟨go10, (x4_1 : Int).toNat * 2, none⟩ = some (.string ((rd_T46 x3_1 x4_1).f0)) := hcc10 0 _ rfl; have hx10_1 : w11.cell? ⟨go10, (x4_1 : Int).toNat * 2 + 1, none⟩ = some (.string ((rd_T46 x3_1 x4_1).f1)) := hcc10 1 _ rfl; have hf10_0 : w11.frozen? ⟨go10, (x4_1 : Int).toNat * 2, none⟩ = false := hfr10 0; have hf10_1 : w11.frozen? ⟨go10, (x4_1 : Int).toNat * 2 + 1, none⟩ = false := hfr10 1; clear hcl10 hcc10 hfr10 hM10; replace p10 := eq_true p10; replace q10 := eq_true q10; have HX12 := Aside0.mk (show Kd.R k46 46 w11 w.heap.size (fun _ => True) (.slice (some ⟨go10, 0, none⟩) x3_1.length co10) x3_1 from dq39); obtain ⟨ce12, hcl12, hM12, hcc12, hfr12⟩ := Kd.R_elem HX12.out z46 (x4_1 : Int) (of_decide_eq_true dq27) (by have h_ : (x4_1 : Int) < ((x3_1.length : Int) : Int) := of_decide_eq_true dq27; first | exact h_ | (have e_ := (Kd.R_reads' HO_3.out).1; omega) | simpa using h_); obtain rfl := k46_openM hM12; have HP12 := Kd.R_seg HX12.out (x4_1 : Int) (of_decide_eq_true dq27) (by have h_ : (x4_1 : Int) < ((x3_1.length : Int) : Int) := of_decide_eq_true dq27; first | exact h_ | (have e_ := (Kd.R_reads' HO_3.out).1; omega) | simpa using h_) (seg := [.string t283, .string t284]) (j := 0) hcl12 hcc12 (show 2 ≤ 2 from by decide) (x' := (⟨t283, t284⟩ : S46)) (k46_mkM _ _ _ (⟨t283, t284⟩ : S46) ) (fun _ hk => hk); have hx12_0 := hcc12 0 _ rfl; (try simp only [show (k46).sz = 2 from rfl, Nat.mul_one, Nat.add_zero] at hx12_0); have hf12_0 := hfr12 0; (try simp only [show (k46).sz = 2 from rfl, Nat.mul_one, Nat.add_zero] at hf12_0); have hx12_1 := hcc12 1 _ rfl; (try simp only [show (k46).sz = 2 from rfl, Nat.mul_one, Nat.add_zero] at hx12_1); have hf12_1 := hfr12 1; (try simp only [show (k46).sz = 2 from rfl, Nat.mul_one, Nat.add_zero] at hf12_1); clear hcl12 hcc12 hfr12 hM12) | ((with_reducible refine gate_store (t := 46) (p := 21) rfl ?_); refine store_event (t := 46) (p := 21) (v := ?vo_w13) (w1 := ((w11.setCell ⟨go10, (x4_1 : Int).toNat * 2, none⟩ (.string t283)).setCell ⟨go10, (x4_1 : Int).toNat * 2 + 1, none⟩ (.string t284))) ?hg ?ho ?hn ?hr ?_; (case ho => rfl); (case hg => rfl); (case hn => rfl); (case hr => exact dq0); intro w13 hw; have hg : w11.grownBy w13 (some go10) := (by rw [hw]; exact HP12.2); have hp_ : Kd.R k46 46 w13 w.heap.size (fun _ => True) (.slice (some ⟨go10, 0, none⟩) x3_1.length co10) y285 := (by rw [hw, Ny285.out]; exact HP12.1); clear HP12; have n0_ := Aside0.mk (hp_); have n1_ := Aside0.mk ((by rw [hw]; exact below_set (below_set (HB.out) GB10.out) GB10.out : Below w.heap.size w w13)); clear HO_3; clear HB; have HO_3 := n0_; have HB := n1_; clear n0_ n1_; clear hg hw hp_))
        go_roundg k1
        case measure => have := HK1.out; omega
        case rel => exact ⟨(y285), (wrap64 (x4_1 + 1)), dq26, H', ⟨dq30⟩, ⟨dq39⟩, ⟨dq23⟩⟩
       ·rw [if_neg c9] at H
        exact absurd H dq31
      ·rw [if_neg c7] at H
       exact absurd H dq31
     ·rw [if_neg c6] at H
      have c6b0 := decide_eq_false c6
      clear c6
      obtain rfl := Option.some.inj H
      go_wp2
      go_ret
      exact ⟨_, dq25, dq39, dq23⟩
  ·rw [if_neg c3] at H
   exact absurd H dq31
 ·rw [if_neg c2] at H
  exact absurd H dq31

/-! ### laws_toItem: function 43 -/
def laws_toItem.f (k : Nat) (a0_0 : Int) (a0_1 : ByteArray) (a0_2 : ByteArray) (l0_3 : List (S113)) : Option (Int × ByteArray × ByteArray × (List (S46))) := (laws_toAttrS.f k l0_3).bind fun t289 => (some (a0_0, a0_1, a0_2, t289))
set_option maxHeartbeats 8000000 in
set_option maxRecDepth 100000 in
theorem laws_toItem.calls (k : Nat) (a0_0 : Int) (a0_1 : ByteArray) (a0_2 : ByteArray) (A0_3 : Option Addr) (c0_3 : Nat) (l0_3 : List (S113)) (r1 : Int) (r2 : ByteArray) (r3 : ByteArray) (r4 : List (S46)) (w : World) (hr0_3 : Kd.C k113 w A0_3 l0_3.length l0_3) (hc0_3 : l0_3.length ≤ c0_3) (h : laws_toItem.f k a0_0 a0_1 a0_2 l0_3 = some (r1, r2, r3, r4)) :
  Calls Tryd.prog 43 #[.agg #[.int .i64 a0_0, .string a0_1, .string a0_2, .slice A0_3 l0_3.length c0_3]] w fun e w' => ∃ v3_ : Value, e = .returned (.agg #[.int .i64 r1, .string r2, .string r3, v3_]) ∧ Kd.R k46 46 w' w.heap.size (fun _ => True) v3_ r4 ∧ Below w.heap.size w w' := by
 have hu63 := Tryd.underlying63
 have hu39 := Tryd.underlying39
 have HR0_3 := Aside0.mk hr0_3
 have HC0_3 := Aside0.mk hc0_3
 clear hr0_3 hc0_3
 have HB := Aside0.mk (Below.refl w.heap.size w)
 have H : ((laws_toAttrS.f k l0_3).bind fun t289 => (some (a0_0, a0_1, a0_2, t289))) = some (r1, r2, r3, r4) := h
 clear h
 replace H := Option.bind_eq_some_iff.mp H
 obtain ⟨t289, A20, H⟩ := H
 replace H : (some (a0_0, a0_1, a0_2, t289)) = some (r1, r2, r3, r4) := H
 have A2 := Aside0.mk A20
 clear A20
 simp only [Option.some.injEq, Prod.mk.injEq] at H
 obtain ⟨rfl, rfl, rfl, rfl⟩ := H
 go_enter Tryd.func43, Tryd.ntmps43
 go_wp2_with (first | ((with_reducible refine gate_dst (N := 1) rfl ?_); refine box_event ?hg (N := 1) ?hd (cs := #[.int .i64 a0_0, .string a0_1, .string a0_2, .slice A0_3 l0_3.length c0_3]) (t := 63) ?hr ?_; (case hd => rfl); (case hg => rfl); (case hr => exact dq0); intro gb286 hg w3 hbox hb; have n0_ := Aside0.mk (below_step dq23 hb); have n1_ := Aside0.mk (hbox); have n2_ := Aside0.mk ((dq22 : w.heap.size ≤ gb286)); have n3_ := Aside0.mk ((dq22 : w.heap.size ≤ gb286)); clear HB; have HB := n0_; have BK286 := n1_; have GW286 := n2_; have GE286 := n3_; clear n0_ n1_ n2_ n3_; clear hb hbox hg) | ((with_reducible refine gate_dst (N := 2) rfl ?_); refine box_event ?hg (N := 2) ?hd (cs := #[.int .i64 0, .string (⟨#[]⟩ : ByteArray), .string (⟨#[]⟩ : ByteArray), .slice none 0 0]) (t := 39) ?hr ?_; (case hd => rfl); (case hg => rfl); (case hr => exact dq0); intro gb287 hg w4 hbox hb; have n0_ := Aside0.mk (blk_below (g := gb286) (o := .cells #[.int .i64 a0_0, .string a0_1, .string a0_2, .slice A0_3 l0_3.length c0_3] 63 (0, 0)) dq89 hb); have n1_ := Aside0.mk (below_step dq91 hb); have n2_ := Aside0.mk (hbox); have n3_ := Aside0.mk ((dq90 : w.heap.size ≤ gb287)); have n4_ := Aside0.mk ((dq90 : w.heap.size ≤ gb287)); have n5_ := Aside0.mk ((dq86 : gb286 ≠ gb287)); have n6_ := Aside0.mk ((dq85 : gb287 ≠ gb286)); clear BK286; clear HB; have BK286 := n0_; have HB := n1_; have BK287 := n2_; have GW287 := n3_; have GE287 := n4_; have NB286_287 := n5_; have NB287_286 := n6_; clear n0_ n1_ n2_ n3_ n4_ n5_ n6_; clear hb hbox hg) | ((with_reducible refine gate_dst (N := 3) rfl ?_); refine box_event ?hg (N := 3) ?hd (cs := #[.int .i64 0, .string (⟨#[]⟩ : ByteArray), .string (⟨#[]⟩ : ByteArray), .slice none 0 0]) (t := 39) ?hr ?_; (case hd => rfl); (case hg => rfl); (case hr => exact dq0); intro gb288 hg w5 hbox hb; have n0_ := Aside0.mk (blk_below (g := gb286) (o := .cells #[.int .i64 a0_0, .string a0_1, .string a0_2, .slice A0_3 l0_3.length c0_3] 63 (0, 0)) dq89 hb); have n1_ := Aside0.mk (blk_below (g := gb287) (o := .cells #[.int .i64 0, .string (⟨#[]⟩ : ByteArray), .string (⟨#[]⟩ : ByteArray), .slice none 0 0] 39 (0, 0)) (by refine blk_up ?_; exact BK287.out) hb); have n2_ := Aside0.mk (below_step dq88 hb); have n3_ := Aside0.mk (hbox); have n4_ := Aside0.mk ((dq87 : w.heap.size ≤ gb288)); have n5_ := Aside0.mk ((dq87 : w.heap.size ≤ gb288)); have n6_ := Aside0.mk ((dq86 : gb286 ≠ gb288)); have n7_ := Aside0.mk ((dq85 : gb288 ≠ gb286)); have n8_ := Aside0.mk ((by rw [hg]; exact Nat.ne_of_lt (blk_lt (g := gb287) (o := .cells #[.int .i64 0, .string (⟨#[]⟩ : ByteArray), .string (⟨#[]⟩ : ByteArray), .slice none 0 0] 39 (0, 0)) (by refine blk_up ?_; exact BK287.out)) : gb287 ≠ gb288)); have n9_ := Aside0.mk ((by rw [hg]; exact Nat.ne_of_gt (blk_lt (g := gb287) (o := .cells #[.int .i64 0, .string (⟨#[]⟩ : ByteArray), .string (⟨#[]⟩ : ByteArray), .slice none 0 0] 39 (0, 0)) (by refine blk_up ?_; exact BK287.out)) : gb288 ≠ gb287)); clear BK286; clear BK287; clear HB; have BK286 := n0_; have BK287 := n1_; have HB := n2_; have BK288 := n3_; have GW288 := n4_; have GE288 := n5_; have NB286_288 := n6_; have NB288_286 := n7_; have NB287_288 := n8_; have NB288_287 := n9_; clear n0_ n1_ n2_ n3_ n4_ n5_ n6_ n7_ n8_ n9_; clear hb hbox hg; have hnb6 := NB286_287.out; have hnc6 := NB287_286.out; have hnb7 := NB286_288.out; have hnc7 := NB288_286.out; obtain ⟨⟨hcz8_0, hcz8_1, hcz8_2, hcz8_3⟩, hfz8_0, hfz8_1, hfz8_2, hfz8_3⟩ := blkC4 BK286.out; have hnb9 := NB288_287.out; have hnc9 := NB287_288.out; obtain ⟨⟨hcz10_0, hcz10_1, hcz10_2, hcz10_3⟩, hfz10_0, hfz10_1, hfz10_2, hfz10_3⟩ := blkC4 BK288.out) | ((with_reducible refine gate_callee (f := 79) rfl ?_); refine goesL_ (some 15) rfl rfl Tryd.func79 dq29 rfl #[.slice A0_3 l0_3.length c0_3] rfl dq28 ?_; (with_reducible refine (laws_toAttrS.calls k _ _ l0_3 t289 _ ?side1 ?side2 A2.out).mono ?_); (case side1 => exact Kd.C_below HR0_3.out dq84); (case side2 => exact HC0_3.out); rintro e w11 ⟨v290, rfl, ho0, hb⟩; refine ⟨_, rfl, ?_⟩; have n0_ := Aside0.mk (Kd.R_lower ho0 (below_size dq84)); have n1_ := Aside0.mk (blk_below (g := gb286) (o := .cells #[.int .i64 a0_0, .string a0_1, .string a0_2, .slice A0_3 l0_3.length c0_3] 63 (0, 0)) (by refine blk_up ?_; refine blk_far ?_ NB286_288.out _; refine blk_up ?_; refine blk_far ?_ NB286_288.out _; refine blk_up ?_; refine blk_far ?_ NB286_288.out _; refine blk_up ?_; exact BK286.out) hb); have n2_ := Aside0.mk (blk_below (g := gb287) (o := .cells #[.int .i64 0, .string (⟨#[]⟩ : ByteArray), .string (⟨#[]⟩ : ByteArray), .slice none 0 0] 39 (0, 0)) (by refine blk_up ?_; refine blk_far ?_ NB287_288.out _; refine blk_up ?_; refine blk_far ?_ NB287_288.out _; refine blk_up ?_; refine blk_far ?_ NB287_288.out _; refine blk_up ?_; exact BK287.out) hb); have n3_ := Aside0.mk (blk_below (g := gb288) (o := .cells #[.int .i64 a0_0, .string a0_1, .string a0_2, .slice none 0 0] 39 (0, 0)) (by refine blk_up ?_; refine blk_put (cs := #[.int .i64 a0_0, .string a0_1, .string (⟨#[]⟩ : ByteArray), .slice none 0 0]) ?_ 2 _ rfl; refine blk_up ?_; refine blk_put (cs := #[.int .i64 a0_0, .string (⟨#[]⟩ : ByteArray), .string (⟨#[]⟩ : ByteArray), .slice none 0 0]) ?_ 1 _ rfl; refine blk_up ?_; refine blk_put (cs := #[.int .i64 0, .string (⟨#[]⟩ : ByteArray), .string (⟨#[]⟩ : ByteArray), .slice none 0 0]) ?_ 0 _ rfl; refine blk_up ?_; exact BK288.out) hb); have n4_ := Aside0.mk (below_step dq84 hb); clear BK286; clear BK287; clear BK288; clear HB; have HO291 := n0_; have BK286 := n1_; have BK287 := n2_; have BK288 := n3_; have HB := n4_; clear n0_ n1_ n2_ n3_ n4_; (try clear hb); (try clear hb2); (try clear hk); (try clear hi); (try clear ho0); obtain ⟨Ao12, co12, eo12⟩ := Kd.R_slice HO291.out; subst eo12; obtain ⟨⟨hcz13_0, hcz13_1, hcz13_2, hcz13_3⟩, hfz13_0, hfz13_1, hfz13_2, hfz13_3⟩ := blkC4 BK288.out; obtain ⟨⟨hcz14_0, hcz14_1, hcz14_2, hcz14_3⟩, hfz14_0, hfz14_1, hfz14_2, hfz14_3⟩ := blkC4 BK287.out))
 refine bodyPost_ret (results_cell_row rfl _ _ gb287 39 #[.int .i64 a0_0, .string a0_1, .string a0_2, .slice Ao12 t289.length co12] (0, 0) _ rfl (by refine blk_up ?_; refine blk_put (cs := #[.int .i64 a0_0, .string a0_1, .string a0_2, .slice none 0 0]) ?_ 3 _ rfl; refine blk_up ?_; refine blk_put (cs := #[.int .i64 a0_0, .string a0_1, .string (⟨#[]⟩ : ByteArray), .slice none 0 0]) ?_ 2 _ rfl; refine blk_up ?_; refine blk_put (cs := #[.int .i64 a0_0, .string (⟨#[]⟩ : ByteArray), .string (⟨#[]⟩ : ByteArray), .slice none 0 0]) ?_ 1 _ rfl; refine blk_up ?_; refine blk_put (cs := #[.int .i64 0, .string (⟨#[]⟩ : ByteArray), .string (⟨#[]⟩ : ByteArray), .slice none 0 0]) ?_ 0 _ rfl; refine blk_up ?_; refine blk_far ?_ NB287_288.out _; refine blk_up ?_; exact BK287.out) Tryd.underlying39 rfl dq29) rfl ?_
 exact ⟨_, dq25, by (with_reducible repeat (first | apply Kd.R_alloc | apply Kd.R_drewN | apply Kd.R_drew)); exact Kd.R_mono (Kd.R_far (p := ⟨gb287, 3, none⟩) (Kd.R_far (p := ⟨gb287, 2, none⟩) (Kd.R_far (p := ⟨gb287, 1, none⟩) (Kd.R_far (p := ⟨gb287, 0, none⟩) (Kd.R_far (p := ⟨gb288, 3, none⟩) (Kd.R_types (Kd.R_types HO291.out BK288.out dq38) BK287.out dq38) (fun _ hk => hk.1.2) (.slice Ao12 t289.length co12)) (fun _ hk => hk.2) (.int .i64 a0_0)) (fun _ hk => hk.2) (.string a0_1)) (fun _ hk => hk.2) (.string a0_2)) (fun _ hk => hk.2) (.slice Ao12 t289.length co12)) (fun _ hk => trivial), dq84⟩

/-! ### laws_toItemS: function 11 -/
def laws_toItemS.l0 : Nat → List (S63) → List (S39) → Int → Option ((List (S39)))
 | 0, _, _, _ => none
 | k + 1, x0, x3, x4 => if x4 < (x0.length : Int) then (if 0 ≤ x4 then ((laws_toItem.f k ((rd_T63 x0 x4).f0) ((rd_T63 x0 x4).f1) ((rd_T63 x0 x4).f2) ((rd_T63 x0 x4).f3)).bind fun bt296 => (if x4 < (x3.length : Int) then (laws_toItemS.l0 k x0 (x3.set (x4 : Int).toNat (⟨bt296.1, bt296.2.1, bt296.2.2.1, bt296.2.2.2⟩ : S39)) (wrap64 (x4 + 1))) else (none))) else (none)) else (some x3)
def laws_toItemS.f (k : Nat) (l0 : List (S63)) : Option ((List (S39))) := if 0 ≤ (l0.length : Int) then (if ((l0.length : Int) : Int).toNat ≤ 4398046511104 then (laws_toItemS.l0 k l0 (List.replicate ((l0.length : Int) : Int).toNat z39) 0) else (none)) else (none)
set_option maxHeartbeats 8000000 in
set_option maxRecDepth 100000 in
theorem laws_toItemS.calls (k : Nat) (A0 : Option Addr) (c0 : Nat) (l0 : List (S63)) (r : List (S39)) (w : World) (hr0 : Kd.C k63 w A0 l0.length l0) (hc0 : l0.length ≤ c0) (h : laws_toItemS.f k l0 = some r) :
  Calls Tryd.prog 11 #[.slice A0 l0.length c0] w fun e w' => ∃ v0_ : Value, e = .returned (v0_) ∧ Kd.S k39 39 w' w.heap.size (fun _ => True) v0_ r ∧ Below w.heap.size w w' := by
 have hu63 := Tryd.underlying63
 have hu39 := Tryd.underlying39
 have HR0 := Aside0.mk hr0
 have HC0 := Aside0.mk hc0
 clear hr0 hc0
 have HB := Aside0.mk (Below.refl w.heap.size w)
 have H : (if 0 ≤ (l0.length : Int) then (if ((l0.length : Int) : Int).toNat ≤ 4398046511104 then (laws_toItemS.l0 k l0 (List.replicate ((l0.length : Int) : Int).toNat z39) 0) else (none)) else (none)) = some r := h
 clear h
 by_cases c2 : 0 ≤ (l0.length : Int)
 ·rw [if_pos c2] at H
  have c2b0 := eq_true c2
  have c2b1 := decide_eq_true c2
  clear c2
  by_cases c3 : ((l0.length : Int) : Int).toNat ≤ 4398046511104
  ·rw [if_pos c3] at H
   have c3b0 := eq_true c3
   have c3b1 := decide_eq_true c3
   clear c3
   obtain ⟨y292, hy292⟩ : ∃ y_ : List (S39), y_ = (List.replicate ((l0.length : Int) : Int).toNat z39) := ⟨_, rfl⟩
   replace H : (laws_toItemS.l0 k l0 y292 0) = some r := by first | (rw [hy292]; with_reducible exact H) | (have H2_ := (Option.bind_some _ _).symm.trans H; rw [hy292]; with_reducible exact H2_) | (have H2_ := (Option.bind_some _ _).symm.trans H; with_reducible exact H2_) | with_reducible exact H | (rw [hy292]; exact H) | exact H
   have Ny292 := Aside0.mk hy292
   clear hy292
   have H' := Aside0.mk H
   clear H
   go_enter Tryd.func11, Tryd.ntmps11
   go_wp2_with (first | ((with_reducible refine gate_dst (N := 7) rfl ?_); refine Kd.S_make k39 _ 39 rfl (N := 7) rfl 26 _ _ rfl (l0.length : Int) rfl rfl Tryd.underlying26 (.agg #[(.int .i64 0), (.string ⟨#[]⟩), (.string ⟨#[]⟩), (.slice none 0 0)]) 64 info39 rfl dq38 dq34 z39 (ok := fun _ => True) (okp := fun _ => True) (k39_mkM _ _ _ z39 (Kd.R_nil _ _ _ _ _)) (fun _ hk => hk) trivial (of_decide_eq_true dq27) (Nat.le_trans (Nat.mul_le_mul_right _ (of_decide_eq_true dq27 : (l0.length : Int).toNat ≤ 4398046511104)) dq34) (Below.refl _ _) (Nat.le_refl _) ?_; intro v293 w4 ho5 hb hg_ hnew_; clear hg_ hnew_; (first | rw [← Ny292.out] at ho5 | (simp only [Int.reduceToNat] at ho5; rw [← Ny292.out] at ho5)); have n0_ := Aside0.mk (Kd.S_lower ho5 (below_size dq23)); have n1_ := Aside0.mk (below_step dq23 hb); clear HB; have HO294 := n0_; have HB := n1_; clear n0_ n1_; clear hb ho5))
   go_loopg [4] k (fun kq v4 w' => ∃ (x3_1 : List (S39)) (x4_1 : Int), v4 = .int .i64 x4_1 ∧ Aside0 (laws_toItemS.l0 kq l0 x3_1 x4_1 = some r) ∧ Aside0 (kq ≤ k) ∧ Aside0 (Kd.S k39 39 w' w.heap.size (fun _ => True) v293 x3_1) ∧ Aside0 (Below w.heap.size w w'))
   case atStart => exact ⟨(y292), (0), dq26, H', ⟨Nat.le_refl _⟩, ⟨by (with_reducible repeat (first | apply Kd.S_alloc | apply Kd.S_drewN | apply Kd.S_drew)); exact HO294.out⟩, ⟨dq23⟩⟩
   case round =>
    clear H'
    try clear c1
    try clear c2
    try clear c2b0
    try clear c2b1
    try clear p2
    try clear c3
    try clear c3b0
    try clear c3b1
    obtain ⟨x3_1, x4_1, rfl, HA, HK1, HO_3, HB⟩ := hrel
    cases gk with
    | zero => exact absurd HA.out (by simp [laws_toItemS.l0])
    | succ k1 =>
     have H := HA.out
     clear HA
     simp only [laws_toItemS.l0] at H
     by_cases c6 : x4_1 < (l0.length : Int)
     ·rw [if_pos c6] at H
      have c6b0 := decide_eq_true c6
      clear c6
      by_cases c7 : 0 ≤ x4_1
      ·rw [if_pos c7] at H
       have c7b0 := decide_eq_true c7
       clear c7
       replace H := Option.bind_eq_some_iff.mp H
       obtain ⟨⟨t296, t297, t298, t299⟩, A80, H⟩ := H
       replace H : (if x4_1 < (x3_1.length : Int) then (laws_toItemS.l0 k1 l0 (x3_1.set (x4_1 : Int).toNat (⟨t296, t297, t298, t299⟩ : S39)) (wrap64 (x4_1 + 1))) else (none)) = some r := H
       have A8 := Aside0.mk A80
       clear A80
       by_cases c9 : x4_1 < (x3_1.length : Int)
       ·rw [if_pos c9] at H
        have c9b0 := decide_eq_true c9
        clear c9
        obtain ⟨y302, hy302⟩ : ∃ y_ : List (S39), y_ = (x3_1.set (x4_1 : Int).toNat (⟨t296, t297, t298, t299⟩ : S39)) := ⟨_, rfl⟩
        replace H : (laws_toItemS.l0 k1 l0 y302 (wrap64 (x4_1 + 1))) = some r := by first | (rw [hy302]; with_reducible exact H) | (have H2_ := (Option.bind_some _ _).symm.trans H; rw [hy302]; with_reducible exact H2_) | (have H2_ := (Option.bind_some _ _).symm.trans H; with_reducible exact H2_) | with_reducible exact H | (rw [hy302]; exact H) | exact H
        have Ny302 := Aside0.mk hy302
        clear hy302
        have H' := Aside0.mk H
        clear H
        have p295 : 0 ≤ (x4_1 : Int) := of_decide_eq_true dq27
        have q295 : x4_1 < (l0.length : Int) := of_decide_eq_true dq27
        obtain ⟨ad295, A295_3, c295_3, e295, hx295_0, hx295_1, hx295_2, hx295_3, hl295_3, hi295_3⟩ := at_T63 HR0.out x4_1 p295 q295
        cases e295
        replace hx295_0 := (HB.out.cell (World.block_lt_of_cell? w _ hx295_0)).trans hx295_0
        replace hx295_1 := (HB.out.cell (World.block_lt_of_cell? w _ hx295_1)).trans hx295_1
        replace hx295_2 := (HB.out.cell (World.block_lt_of_cell? w _ hx295_2)).trans hx295_2
        replace hx295_3 := (HB.out.cell (World.block_lt_of_cell? w _ hx295_3)).trans hx295_3
        have HR295_3 := Aside0.mk hi295_3
        have HC295_3 := Aside0.mk hl295_3
        clear hi295_3 hl295_3
        replace p295 := eq_true p295
        replace q295 := eq_true q295
        go_wp2_with (first | ((with_reducible refine gate_callee (f := 43) rfl ?_); refine goesL_ (some 20) rfl rfl Tryd.func43 dq29 rfl #[.agg #[.int .i64 ((rd_T63 l0 x4_1).f0), .string ((rd_T63 l0 x4_1).f1), .string ((rd_T63 l0 x4_1).f2), .slice A295_3 ((rd_T63 l0 x4_1).f3).length c295_3]] rfl dq28 ?_; (with_reducible refine (laws_toItem.calls k1 ((rd_T63 l0 x4_1).f0) ((rd_T63 l0 x4_1).f1) ((rd_T63 l0 x4_1).f2) _ _ ((rd_T63 l0 x4_1).f3) t296 t297 t298 t299 _ ?side1 ?side2 A8.out).mono ?_); (case side1 => repeat (first | exact (Kd.C_below HR295_3.out HB.out) | (with_reducible refine Kd.C_alloc ?_ _) | (with_reducible refine Kd.C_drewN ?_ _) | (with_reducible refine Kd.C_drew ?_))); (case side2 => exact HC295_3.out); rintro e w11 ⟨v300, rfl, ho0, hb⟩; refine ⟨_, rfl, ?_⟩; have n0_ := Aside0.mk (Kd.S_elder' dq92 (Kd.R_base ho0) hb); have n1_ := Aside0.mk (Kd.R_lower ho0 (below_size dq23)); have n2_ := Aside0.mk (below_step dq23 hb); clear HO_3; clear HB; have HO_3 := n0_; have HO301 := n1_; have HB := n2_; clear n0_ n1_ n2_; (try clear hb); (try clear hb2); (try clear hk); (try clear hi); (try clear ho0); have p10 : 0 ≤ (x4_1 : Int) := of_decide_eq_true dq27; have q10 : (x4_1 : Int) < ((x3_1.length : Int) : Int) := of_decide_eq_true dq27; obtain ⟨go10, co10, eo10, gb10, gl10, cl10, HG10⟩ := Kd.S_form HO_3.out dq34; (first | cases eo10 | (injection eo10 with ea_ en_ ec_; (first | subst ea_ | (injection ea_ with ea_; subst ea_)); subst ec_; clear en_)); have GB10 := Aside0.mk gb10; have GG10 := Aside0.mk HG10; clear gb10 gl10 HG10; obtain ⟨_, ce10, hcl10, hM10, hcc10, hfr10, _, _⟩ := Kd.S_elem HO_3.out z39 (x4_1 : Int) p10 q10; obtain ⟨ve10_3, rfl, ge10_3⟩ := k39_openM hM10; have hx10_0 : w11.cell? ⟨go10, (x4_1 : Int).toNat * 4, none⟩ = some (.int .i64 ((rd_T39 x3_1 x4_1).f0)) := hcc10 0 _ rfl; have hx10_1 : w11.cell? ⟨go10, (x4_1 : Int).toNat * 4 + 1, none⟩ = some (.string ((rd_T39 x3_1 x4_1).f1)) := hcc10 1 _ rfl; have hx10_2 : w11.cell? ⟨go10, (x4_1 : Int).toNat * 4 + 2, none⟩ = some (.string ((rd_T39 x3_1 x4_1).f2)) := hcc10 2 _ rfl; have hx10_3 : w11.cell? ⟨go10, (x4_1 : Int).toNat * 4 + 3, none⟩ = some (ve10_3) := hcc10 3 _ rfl; have hf10_0 : w11.frozen? ⟨go10, (x4_1 : Int).toNat * 4, none⟩ = false := hfr10 0; have hf10_1 : w11.frozen? ⟨go10, (x4_1 : Int).toNat * 4 + 1, none⟩ = false := hfr10 1; have hf10_2 : w11.frozen? ⟨go10, (x4_1 : Int).toNat * 4 + 2, none⟩ = false := hfr10 2; have hf10_3 : w11.frozen? ⟨go10, (x4_1 : Int).toNat * 4 + 3, none⟩ = false := hfr10 3; clear hcl10 hcc10 hfr10 hM10; replace p10 := eq_true p10; replace q10 := eq_true q10; obtain ⟨Ao12, co12, eo12⟩ := Kd.R_slice HO301.out; subst eo12; have n_ := Aside0.mk (Kd.S_mono (ok' := (fun k_ => some k_ ≠ (.slice Ao12 t299.length co12 : Value).ownBlock)) HO_3.out (fun k_ hk => hk.2)); clear HO_3; have HO_3 := n_; clear n_; have HX13 := Aside0.mk (show Kd.S k39 39 w11 w.heap.size (fun k_ => ((fun _ => True)) k_ ∧ ¬ ((fun k_ => some k_ = (.slice Ao12 t299.length co12 : Value).ownBlock)) k_) (.slice (some ⟨go10, 0, none⟩) x3_1.length co10) x3_1 from (by (with_reducible repeat (first | apply Kd.S_alloc | apply Kd.S_drewN | apply Kd.S_drew)); exact Kd.S_mono HO_3.out (fun k_ hk => ⟨trivial, fun e_ => hk e_⟩))); obtain ⟨oki13, ce13, hcl13, hM13, hcc13, hfr13, hoki13, hH13⟩ := Kd.S_elem HX13.out z39 (x4_1 : Int) (of_decide_eq_true dq27) (by have h_ : (x4_1 : Int) < ((x3_1.length : Int) : Int) := of_decide_eq_true dq27; first | exact h_ | (have e_ := (Kd.S_reads' HO_3.out).1; omega) | simpa using h_); obtain ⟨ve13_3, rfl, ge13_3⟩ := k39_openM hM13; have HP13 := Kd.S_seg hH13 (of_decide_eq_true dq27) (by have h_ : (x4_1 : Int) < ((x3_1.length : Int) : Int) := of_decide_eq_true dq27; first | exact h_ | (have e_ := (Kd.S_reads' HO_3.out).1; omega) | simpa using h_) (seg := [.int .i64 t296, .string t297, .string t298, .slice Ao12 t299.length co12]) (j := 0) (show 4 ≤ 4 from by decide) (x' := (⟨t296, t297, t298, t299⟩ : S39)) (k39_mkM _ _ _ (⟨t296, t297, t298, t299⟩ : S39) (Kd.R_mono (Kd.R_tight rfl (Kd.R_mono (ok' := fun k_ => ((fun _ => True)) k_ ∧ k_ ≠ go10) (Kd.R_apart' (HO301.out) (Kd.S_typed HO_3.out) dq38) (fun k_ hk => ⟨trivial, fun e_ => (hk.2) (by rw [e_]; rfl)⟩))) (fun _ h_ => Or.inr (h_)))) (fun _ hk => hk) (fun k_ hk_ => ((Kd.R_mono (ok' := fun k_ => ((fun _ => True)) k_ ∧ k_ ≠ go10) (Kd.R_apart' (HO301.out) (Kd.S_typed HO_3.out) dq38) (fun k_ hk => ⟨trivial, fun e_ => (hk.2) (by rw [e_]; rfl)⟩))).1 k_ hk_.symm); have hx13_0 := hcc13 0 _ rfl; (try simp only [show (k39).sz = 4 from rfl, Nat.mul_one, Nat.add_zero] at hx13_0); have hf13_0 := hfr13 0; (try simp only [show (k39).sz = 4 from rfl, Nat.mul_one, Nat.add_zero] at hf13_0); have hx13_1 := hcc13 1 _ rfl; (try simp only [show (k39).sz = 4 from rfl, Nat.mul_one, Nat.add_zero] at hx13_1); have hf13_1 := hfr13 1; (try simp only [show (k39).sz = 4 from rfl, Nat.mul_one, Nat.add_zero] at hf13_1); have hx13_2 := hcc13 2 _ rfl; (try simp only [show (k39).sz = 4 from rfl, Nat.mul_one, Nat.add_zero] at hx13_2); have hf13_2 := hfr13 2; (try simp only [show (k39).sz = 4 from rfl, Nat.mul_one, Nat.add_zero] at hf13_2); have hx13_3 := hcc13 3 _ rfl; (try simp only [show (k39).sz = 4 from rfl, Nat.mul_one, Nat.add_zero] at hx13_3); have hf13_3 := hfr13 3; (try simp only [show (k39).sz = 4 from rfl, Nat.mul_one, Nat.add_zero] at hf13_3); clear hcl13 hcc13 hfr13 hM13 hoki13 hH13) | ((with_reducible refine gate_store (t := 39) (p := 21) rfl ?_); refine store_event (t := 39) (p := 21) (v := ?vo_w14) (w1 := ((((w11.setCell ⟨go10, (x4_1 : Int).toNat * 4, none⟩ (.int .i64 t296)).setCell ⟨go10, (x4_1 : Int).toNat * 4 + 1, none⟩ (.string t297)).setCell ⟨go10, (x4_1 : Int).toNat * 4 + 2, none⟩ (.string t298)).setCell ⟨go10, (x4_1 : Int).toNat * 4 + 3, none⟩ (.slice Ao12 t299.length co12))) ?hg ?ho ?hn ?hr ?_; (case ho => rfl); (case hg => rfl); (case hn => rfl); (case hr => exact dq0); intro w14 hw; have hg : w11.grownBy w14 (some go10) := (by rw [hw]; exact HP13.2); have hp_ : Kd.S k39 39 w14 w.heap.size (fun _ => True) (.slice (some ⟨go10, 0, none⟩) x3_1.length co10) y302 := (by rw [hw, Ny302.out]; exact HP13.1); clear HP13; have n0_ := Aside0.mk (hp_); have n1_ := Aside0.mk ((by rw [hw]; exact below_set (below_set (below_set (below_set (HB.out) GB10.out) GB10.out) GB10.out) GB10.out : Below w.heap.size w w14)); clear HO_3; clear HB; clear HO301; have HO_3 := n0_; have HB := n1_; clear n0_ n1_; clear hg hw hp_))
        go_roundg k1
        case measure => have := HK1.out; omega
        case rel => exact ⟨(y302), (wrap64 (x4_1 + 1)), dq26, H', ⟨dq30⟩, ⟨dq92⟩, ⟨dq23⟩⟩
       ·rw [if_neg c9] at H
        exact absurd H dq31
      ·rw [if_neg c7] at H
       exact absurd H dq31
     ·rw [if_neg c6] at H
      have c6b0 := decide_eq_false c6
      clear c6
      obtain rfl := Option.some.inj H
      go_wp2
      go_ret
      exact ⟨_, dq25, dq92, dq23⟩
  ·rw [if_neg c3] at H
   exact absurd H dq31
 ·rw [if_neg c2] at H
  exact absurd H dq31

/-! ### impl_in: function 56 -/
def impl_in.f (a0 : Int) (a1 : Int) (a2 : Int) : Option (Bool) := if a1 ≤ a0 then (some (decide (a0 ≤ a2))) else (some false)
set_option maxHeartbeats 8000000 in
set_option maxRecDepth 100000 in
theorem impl_in.calls (a0 : Int) (a1 : Int) (a2 : Int) (r : Bool) (w : World) (h : impl_in.f a0 a1 a2 = some r) :
  Calls Tryd.prog 56 #[.int .i64 a0, .int .i64 a1, .int .i64 a2] w fun e w' => e = .returned (.bool r) ∧ Drawn0 w w' := by
 have H : (if a1 ≤ a0 then (some (decide (a0 ≤ a2))) else (some false)) = some r := h
 clear h
 by_cases c4 : a1 ≤ a0
 ·rw [if_pos c4] at H
  have c4b0 := decide_eq_true c4
  clear c4
  obtain rfl := Option.some.inj H
  go_enter Tryd.func56, Tryd.ntmps56
  go_wp2
  go_ret
  exact ⟨dq26, dq33⟩
 ·rw [if_neg c4] at H
  have c4b0 := decide_eq_false c4
  clear c4
  obtain rfl := Option.some.inj H
  go_enter Tryd.func56, Tryd.ntmps56
  go_wp2
  go_ret
  exact ⟨dq26, dq33⟩

/-! ### impl_CharOk: function 113 -/
def impl_CharOk.f (a0 : Int) : Option (Bool) := if a0 = 9 then (some true) else (if a0 = 10 then (some true) else (if a0 = 13 then (some true) else ((impl_in.f a0 32 55295).bind fun t307 => (if t307 = true then (some true) else ((impl_in.f a0 57344 65533).bind fun t308 => (if t308 = true then (some true) else ((impl_in.f a0 65536 1114111).bind fun t309 => (some t309))))))))
set_option maxHeartbeats 8000000 in
set_option maxRecDepth 100000 in
theorem impl_CharOk.calls (a0 : Int) (r : Bool) (w : World) (h : impl_CharOk.f a0 = some r) :
  Calls Tryd.prog 113 #[.int .i64 a0] w fun e w' => e = .returned (.bool r) ∧ Drawn0 w w' := by
 have H : (if a0 = 9 then (some true) else (if a0 = 10 then (some true) else (if a0 = 13 then (some true) else ((impl_in.f a0 32 55295).bind fun t307 => (if t307 = true then (some true) else ((impl_in.f a0 57344 65533).bind fun t308 => (if t308 = true then (some true) else ((impl_in.f a0 65536 1114111).bind fun t309 => (some t309))))))))) = some r := h
 clear h
 by_cases c2 : a0 = 9
 ·rw [if_pos c2] at H
  have c2b0 := beq_iff_eq.mpr c2
  have c2b1 := bne_eq_false_iff_eq.mpr c2
  clear c2
  obtain rfl := Option.some.inj H
  go_enter Tryd.func113, Tryd.ntmps113
  go_wp2
  go_ret
  exact ⟨dq26, dq33⟩
 ·rw [if_neg c2] at H
  have c2b0 := beq_eq_false_iff_ne.mpr c2
  have c2b1 := bne_iff_ne.mpr c2
  by_cases c3 : a0 = 10
  ·rw [if_pos c3] at H
   have c3b0 := beq_iff_eq.mpr c3
   have c3b1 := bne_eq_false_iff_eq.mpr c3
   clear c3
   obtain rfl := Option.some.inj H
   go_enter Tryd.func113, Tryd.ntmps113
   go_wp2
   go_ret
   exact ⟨dq26, dq33⟩
  ·rw [if_neg c3] at H
   have c3b0 := beq_eq_false_iff_ne.mpr c3
   have c3b1 := bne_iff_ne.mpr c3
   by_cases c4 : a0 = 13
   ·rw [if_pos c4] at H
    have c4b0 := beq_iff_eq.mpr c4
    have c4b1 := bne_eq_false_iff_eq.mpr c4
    clear c4
    obtain rfl := Option.some.inj H
    go_enter Tryd.func113, Tryd.ntmps113
    go_wp2
    go_ret
    exact ⟨dq26, dq33⟩
   ·rw [if_neg c4] at H
    have c4b0 := beq_eq_false_iff_ne.mpr c4
    have c4b1 := bne_iff_ne.mpr c4
    replace H := Option.bind_eq_some_iff.mp H
    obtain ⟨t307, A50, H⟩ := H
    replace H : (if t307 = true then (some true) else ((impl_in.f a0 57344 65533).bind fun t308 => (if t308 = true then (some true) else ((impl_in.f a0 65536 1114111).bind fun t309 => (some t309))))) = some r := H
    have A5 := Aside0.mk A50
    clear A50
    by_cases c6 : t307 = true
    ·subst c6
     have H1 : (some true) = some r := by rw [if_pos rfl] at H; exact H
     clear H
     have H := H1
     clear H1
     obtain rfl := Option.some.inj H
     go_enter Tryd.func113, Tryd.ntmps113
     go_wp2_with (first | (go_at_call 56; (with_reducible refine (impl_in.calls a0 32 55295 true _ A5.out).mono ?_); rintro e w' ⟨rfl, ⟨nd, rfl⟩⟩))
     go_ret
     exact ⟨dq26, dq33⟩
    ·replace c6 := Bool.eq_false_iff.mpr c6
     subst c6
     have H1 : ((impl_in.f a0 57344 65533).bind fun t308 => (if t308 = true then (some true) else ((impl_in.f a0 65536 1114111).bind fun t309 => (some t309)))) = some r := by rw [if_neg (show ¬ (false = true) by decide)] at H; exact H
     clear H
     have H := H1
     clear H1
     replace H := Option.bind_eq_some_iff.mp H
     obtain ⟨t308, A70, H⟩ := H
     replace H : (if t308 = true then (some true) else ((impl_in.f a0 65536 1114111).bind fun t309 => (some t309))) = some r := H
     have A7 := Aside0.mk A70
     clear A70
     by_cases c8 : t308 = true
     ·subst c8
      have H1 : (some true) = some r := by rw [if_pos rfl] at H; exact H
      clear H
      have H := H1
      clear H1
      obtain rfl := Option.some.inj H
      go_enter Tryd.func113, Tryd.ntmps113
      go_wp2_with (first | (go_at_call 56; (with_reducible refine (impl_in.calls a0 32 55295 false _ A5.out).mono ?_); rintro e w' ⟨rfl, ⟨nd, rfl⟩⟩) | (go_at_call 56; (with_reducible refine (impl_in.calls a0 57344 65533 true _ A7.out).mono ?_); rintro e w' ⟨rfl, ⟨nd, rfl⟩⟩))
      go_ret
      exact ⟨dq26, dq33⟩
     ·replace c8 := Bool.eq_false_iff.mpr c8
      subst c8
      have H1 : ((impl_in.f a0 65536 1114111).bind fun t309 => (some t309)) = some r := by rw [if_neg (show ¬ (false = true) by decide)] at H; exact H
      clear H
      have H := H1
      clear H1
      replace H := Option.bind_eq_some_iff.mp H
      obtain ⟨t309, A90, H⟩ := H
      replace H : (some t309) = some r := H
      have A9 := Aside0.mk A90
      clear A90
      obtain rfl := Option.some.inj H
      go_enter Tryd.func113, Tryd.ntmps113
      go_wp2_with (first | (go_at_call 56; (with_reducible refine (impl_in.calls a0 32 55295 false _ A5.out).mono ?_); rintro e w' ⟨rfl, ⟨nd, rfl⟩⟩) | (go_at_call 56; (with_reducible refine (impl_in.calls a0 57344 65533 false _ A7.out).mono ?_); rintro e w' ⟨rfl, ⟨nd, rfl⟩⟩) | (go_at_call 56; (with_reducible refine (impl_in.calls a0 65536 1114111 t309 _ A9.out).mono ?_); rintro e w' ⟨rfl, ⟨nd, rfl⟩⟩))
      go_ret
      exact ⟨dq26, dq33⟩

end Go.Proofs.YtpmjpbaeecnpiaaDoor.L

namespace Go.Proofs.YtpmjpbaeecnpiaaDoor.L
open Go.RowKit Go.Proofs.YtpmjpbaeecnpiaaDoorW.PrintWords Go.Proofs.YtpmjpbaeecnpiaaDoorW.PrintLast Go.Proofs.YtpmjpbaeecnpiaaDoorW.PrintMore
set_option linter.unusedVariables false

structure Gl (w : World) : Prop where
  tabs : Lib.Utf8Tabs 1 2 w
  most : ∃ m : Int, w.cell? ⟨0, 0, none⟩ = some (.int .i64 m)
theorem cell_lt' {w : World} {p : Addr} {v : Value} (h : w.cell? p = some v) : p.block < w.heap.size := by
  rcases Nat.lt_or_ge p.block w.heap.size with h' | h'
  · exact h'
  · simp [World.cell?, Array.getElem?_eq_none h'] at h
theorem Gl_below {w w' : World} (h : Gl w) (hb : Below w.heap.size w w') : Gl w' := by
  obtain ⟨h1, m, h2⟩ := h
  exact ⟨Go.Proofs.Utf8Tabs_below h1 hb, m, (hb.cell (p := ⟨0, 0, none⟩) (cell_lt' h2)).trans h2⟩
end Go.Proofs.YtpmjpbaeecnpiaaDoor.L

namespace Go.Proofs
open Go.Shelf
def Tryd.lays196_ren : Go.Shelf.Ren := ⟨fun | 196 => 123 | 259 => 131 | n => n, fun | 9 => 9 | 4 => 4 | 3 => 3 | 5 => 5 | 12 => 12 | 119 => 136 | 0 => 0 | 46 => 120 | 139 => 139 | 138 => 138 | 53 => 118 | n => n, fun | 3 => 1 | 4 => 2 | n => n⟩
theorem Tryd.lays196 : Go.Proofs.Lays.n196 Tryd.prog Tryd.lays196_ren := {
  mixed := by kernel_rfl
  f196 := Tryd.func123.trans (congrArg some (by kernel_rfl))
  f259 := Tryd.func131.trans (congrArg some (by kernel_rfl))
  t0 := Tryd.underlying0
  a0 := Tryd.isAgg0
  z0 := Tryd.sizeOf0
  v0 := Tryd.zeroValue0
  t3 := Tryd.underlying3
  a3 := Tryd.isAgg3
  z3 := Tryd.sizeOf3
  v3 := Tryd.zeroValue3
  t4 := Tryd.underlying4
  a4 := Tryd.isAgg4
  z4 := Tryd.sizeOf4
  v4 := Tryd.zeroValue4
  t5 := Tryd.underlying5
  a5 := Tryd.isAgg5
  z5 := Tryd.sizeOf5
  v5 := Tryd.zeroValue5
  t9 := Tryd.underlying9
  a9 := Tryd.isAgg9
  z9 := Tryd.sizeOf9
  v9 := Tryd.zeroValue9
  t12 := Tryd.underlying12
  a12 := Tryd.isAgg12
  z12 := Tryd.sizeOf12
  v12 := Tryd.zeroValue12
  t46 := Tryd.underlying120
  a46 := Tryd.isAgg120
  z46 := Tryd.sizeOf120
  v46 := Tryd.zeroValue120
  t53 := Tryd.underlying118
  a53 := Tryd.isAgg118
  z53 := Tryd.sizeOf118
  v53 := Tryd.zeroValue118
  t119 := Tryd.underlying136
  a119 := Tryd.isAgg136
  z119 := Tryd.sizeOf136
  t138 := Tryd.underlying138
  a138 := Tryd.isAgg138
  z138 := Tryd.sizeOf138
  v138 := Tryd.zeroValue138
  t139 := Tryd.underlying139
  a139 := Tryd.isAgg139
  z139 := Tryd.sizeOf139
  v139 := Tryd.zeroValue139
  g3 := by kernel_rfl
  g4 := by kernel_rfl }
end Go.Proofs

namespace Go.Proofs.YtpmjpbaeecnpiaaDoor.L
open Go.RowKit Go.Proofs.YtpmjpbaeecnpiaaDoorW.PrintWords Go.Proofs.YtpmjpbaeecnpiaaDoorW.PrintLast Go.Proofs.YtpmjpbaeecnpiaaDoorW.PrintMore
set_option linter.unusedVariables false
set_option linter.unusedSimpArgs false

/-- The characters from place pos on, at most fuel of them. -/
def runesFrom (s : ByteArray) : Nat → Nat → List Int
  | 0, _ => []
  | fuel + 1, pos => if pos < s.size then ((Utf8.decode s pos).1 : Int) :: runesFrom s fuel (pos + (Utf8.decode s pos).2) else []
def runesOf (s : ByteArray) : List Int := runesFrom s s.size 0
theorem runesFrom_end (s : ByteArray) (fuel pos : Nat) (h : ¬ pos < s.size) : runesFrom s fuel pos = [] := by
  cases fuel with
  | zero => rfl
  | succ f => simp [runesFrom, h]
theorem rune_width (s : ByteArray) (pos : Nat) (h : pos < s.size) : 1 ≤ (Utf8.decode s pos).2 := by
  by_cases ha : (s[pos]'h).toNat < 128
  · rw [decode_ascii s pos h ha]
    exact Nat.le_refl _
  · exact (decode_high s pos h (by omega)).2
def impl_Runes.f (a0 : ByteArray) : Option (List Int × Bool) :=
  if a0.size ≤ 9223372036854775807 then (if 20000 < a0.size then some ([], false) else if Lib.validD a0.data.toList = true then some (runesOf a0, true) else some ([], false)) else none
set_option maxHeartbeats 4000000 in
set_option maxRecDepth 100000 in
theorem impl_Runes.calls (a0 : ByteArray) (r1 : List Int) (r2 : Bool) (w : World) (hT : Gl w) (h : impl_Runes.f a0 = some (r1, r2)) :
    Calls Tryd.prog 112 #[.string a0] w fun e w' => ∃ v0_ : Value, e = .returned (.tuple #[v0_, .bool r2]) ∧ Kd.R (Kd.int .i64) 2 w' w.heap.size (fun _ => True) v0_ r1 ∧ Below w.heap.size w w' := by
  unfold impl_Runes.f at h
  by_cases hs : a0.size ≤ 9223372036854775807
  · rw [if_pos hs] at h
    by_cases c1 : 20000 < a0.size
    · rw [if_pos c1] at h
      simp only [Option.some.injEq, Prod.mk.injEq] at h
      obtain ⟨rfl, rfl⟩ := h
      have d1 : decide ((20000 : Int) < (a0.size : Int)) = true := decide_eq_true (by omega)
      go_enter Tryd.func112, Tryd.ntmps112
      go_wp2
      go_ret2
      exact ⟨_, rfl, Kd.R_nil _ _ _ _ _, Below.refl _ _⟩
    · rw [if_neg c1] at h
      have d1 : decide ((20000 : Int) < (a0.size : Int)) = false := decide_eq_false (by omega)
      have HV := fun q => Any.utf8_ValidString Tryd.lays196 a0 (w.drewN q) hs (Go.Proofs.Utf8Tabs_below hT.tabs (pw_below_drewN (Below.refl _ _) q))
      have HV0 := Any.utf8_ValidString Tryd.lays196 a0 w hs hT.tabs
      clear hT
      cases c2 : Lib.validD a0.data.toList with
      | false =>
        rw [c2] at h HV HV0
        simp only [Bool.false_eq_true, if_false, Option.some.injEq, Prod.mk.injEq] at h
        obtain ⟨rfl, rfl⟩ := h
        clear c2
        go_enter Tryd.func112, Tryd.ntmps112
        go_wp2_with (go_at_call 123; (first | refine HV0.mono ?_ | refine (HV _).mono ?_); rintro e w' ⟨rfl, hb⟩)
        go_ret2
        exact ⟨_, rfl, Kd.R_nil _ _ _ _ _, hb⟩
      | true =>
        rw [c2] at h HV HV0
        simp only [if_true, Option.some.injEq, Prod.mk.injEq] at h
        obtain ⟨rfl, rfl⟩ := h
        clear c2
        have HB := Aside0.mk (Below.refl w.heap.size w)
        go_enter Tryd.func112, Tryd.ntmps112
        go_wp2_with (first | (go_at_call 123; (first | refine HV0.mono ?_ | refine (HV _).mono ?_); rintro e w' ⟨rfl, hb⟩; have n1_ := Aside0.mk hb; clear HB; have HB := n1_; clear n1_ hb) | ((with_reducible refine gate_dst (N := 15) rfl ?_); refine Kd.R_lit (Kd.int .i64) _ 2 ?hg (N := 15) ?hd (xs := ([] : List Int)) (inner := []) (ok := fun _ => True) (okp := fun _ => True) ?hr ?hp (fun _ hk => hk) trivial (Below.refl _ _) (Nat.le_refl _) (by simp) ?_; (case hd => rfl); (case hg => rfl); (case hr => first | (go_simp; done) | (go_simp; rfl)); (case hp => exact (Reps.none _ _)); intro v109 w3 ho4 hb hg_ hnew_; clear hg_ hnew_; have n0_ := Aside0.mk (Kd.R_lower ho4 (below_size (by repeat (first | (with_reducible first | exact HB.out | apply below_alloc | apply pw_below_drewN | apply below_drew1) | exact HB.out)))); have n1_ := Aside0.mk (below_step (by repeat (first | (with_reducible first | exact HB.out | apply below_alloc | apply pw_below_drewN | apply below_drew1) | exact HB.out)) hb); clear HB; have HO110 := n0_; have HB := n1_; clear n0_ n1_; clear hb ho4))
        clear HV HV0
        have HBs := Aside0.mk HB.out.size
        go_loopw [4] (fun s4 wr => ∃ (pos fuel : Nat) (acc : List Int), Aside0 (Kd.R (Kd.int .i64) 2 wr w.heap.size (fun k => k ≠ w3.heap.size) s4 acc) ∧ wr.heap[w3.heap.size]? = some (.stringIter a0 pos) ∧ Aside0 (Below w.heap.size w wr) ∧ Aside0 (acc ++ runesFrom a0 fuel pos = runesOf a0) ∧ Aside0 (a0.size ≤ pos + fuel) ∧ Aside0 (acc.length ≤ pos)) (fun _ wr => a0.size - wr.iterPos w3.heap.size)
        case atStart =>
          refine ⟨0, a0.size, [], ⟨?_⟩, World.iter_heap w3 a0 0, ⟨?_⟩, ⟨rfl⟩, ⟨by omega⟩, ⟨Nat.le_refl _⟩⟩
          · exact Kd.R_mono (Kd.R_below (Kd.R_bound HO110.out) (below_alloc (Below.refl _ _) _)) (fun k hk => by have := hk.2.2.1; omega)
          · exact HB.out.trans (Below.mono (below_alloc (Below.refl _ _) _) HBs.out)
        case round =>
          obtain ⟨pos, fuel, acc, HO, hit, HB, HA, HF, HL⟩ := hrel
          by_cases hp : pos < a0.size
          · have hnx : ∀ ty, (Instr.next (.pointer (some ⟨w3.heap.size, 0, none⟩)) true ty).run Tryd.prog wr = _ := fun ty => Lib.run_next_any_at wr w3.heap.size a0 pos ty hit hp
            have hwd := Aside0.mk (rune_width a0 pos hp)
            have hd1 := Aside0.mk (decode_le a0 pos)
            have HO2 := Aside0.mk (Kd.R_move HO.out (fun k hk => Lib.iterAt_other wr w3.heap.size k a0 (pos + (Utf8.decode a0 pos).2) hk))
            have hit2 := Aside0.mk (Lib.iterAt_heap wr w3.heap.size a0 pos (pos + (Utf8.decode a0 pos).2) hit)
            have HB2 := Aside0.mk (Lib.below_iterAt HB.out HBs.out a0 (pos + (Utf8.decode a0 pos).2))
            have hpp := Aside0.mk hp
            have hsz := Aside0.mk hs
            clear HO HB
            have hsmall := Aside0.mk (show a0.size ≤ 20000 by omega)
            have hwr : wrap64 ((Utf8.decode a0 pos).1 : Int) = ((Utf8.decode a0 pos).1 : Int) := by have := hd1.out; unfold wrap64; omega
            go_wp2_with (first | ((with_reducible refine gate_builtin (b := .append) (xs := #[.tmp 21, .tmp 24]) rfl ?_); at_builtin; refine Kd.R_append (Kd.int .i64) (w0 := w) w.heap.size rfl (.tmp 21) (.tmp 24) 24 2 (.int .i64 0) 8 rfl Tryd.underlying24 info2 rfl (by decide) (by omega) u4 acc ((Utf8.decode a0 pos).1 : Int) [.int .i64 ((Utf8.decode a0 pos).1 : Int)] (fun k => k ≠ w3.heap.size) (fun _ => False) rfl rfl ?aP (fun _ hk => hk.elim) ?aF ?aO ?aB ?aS ?aL ?_; (case aP => exact rfl); (case aB => exact HB2.out); (case aF => exact (fun k hk => by have h1 := (Array.getElem?_eq_some_iff.1 hit2.out).1; omega)); (case aO => exact HO2.out); (case aS => exact HB2.out.size); (case aL => have := HL.out; have := hpp.out; have := hsmall.out; omega); intro v114 w11 ho hb hg hat; have n0_ := Aside0.mk hb; have n1_ := Aside0.mk ho; have n2_ := Aside0.mk ((hg.block w3.heap.size (Array.getElem?_eq_some_iff.1 hit2.out).1 (fun e => HO2.out.1 w3.heap.size e.symm rfl)).trans hit2.out); have HB := n0_; have HO := n1_; have HI := n2_; clear n0_ n1_ n2_; clear ho hb hg hat))
            go_roundw
            case rel =>
              obtain ⟨f, hf⟩ : ∃ f, fuel = f + 1 := ⟨fuel - 1, by have := HF.out; have := hpp.out; omega⟩
              refine ⟨pos + (Utf8.decode a0 pos).2, f, acc ++ [((Utf8.decode a0 pos).1 : Int)], HO, HI.out, HB, ⟨?_⟩, ⟨?_⟩, ⟨?_⟩⟩
              · have e := HA.out
                rw [hf] at e
                rw [← e]
                simp [runesFrom, hpp.out]
              · have := HF.out; have := hwd.out; omega
              · have := HL.out; have := hwd.out; simp; omega
            case measure =>
              have := hwd.out; have := hpp.out
              simp only [World.iterPos, HI.out, hit]
              omega
          · have hnx : ∀ ty, (Instr.next (.pointer (some ⟨w3.heap.size, 0, none⟩)) true ty).run Tryd.prog wr = _ := fun ty => Lib.run_next_end_at wr w3.heap.size a0 pos ty hit hp
            go_wp2
            go_ret2
            have e := HA.out
            rw [runesFrom_end a0 fuel pos hp, List.append_nil] at e
            rw [e] at HO
            exact ⟨_, rfl, Kd.R_mono HO.out (fun _ _ => trivial), HB.out⟩
  · rw [if_neg hs] at h
    cases h
end Go.Proofs.YtpmjpbaeecnpiaaDoor.L

namespace Go.Proofs.YtpmjpbaeecnpiaaDoor.L
open Go.RowKit Go.Proofs.YtpmjpbaeecnpiaaDoorW.PrintWords Go.Proofs.YtpmjpbaeecnpiaaDoorW.PrintLast Go.Proofs.YtpmjpbaeecnpiaaDoorW.PrintMore
attribute [local go_sem] max2_int min2_int max_two min_two max_three min_three max_four min_four
set_option linter.unusedVariables false
set_option linter.unusedSimpArgs false

/-! ### impl_isPlain: function 96 -/
def impl_isPlain.l0 : Nat → Bool → List Int → Int → Int → Option (Bool)
 | 0, _, _, _, _ => none
 | k + 1, x4, x12, x13, x14 => if x14 < x13 then (if 0 ≤ x14 then (if x14 < (x12.length : Int) then (if x4 = true then ((impl_CharOk.f (rd x12 x14)).bind fun t315 => (impl_isPlain.l0 k t315 x12 x13 (wrap64 (x14 + 1)))) else (impl_isPlain.l0 k false x12 x13 (wrap64 (x14 + 1)))) else (none)) else (none)) else (some x4)
def impl_isPlain.f (k : Nat) (a0 : ByteArray) : Option (Bool) := (impl_Runes.f a0).bind fun bt310 => (impl_isPlain.l0 k bt310.2 bt310.1 (bt310.1.length : Int) 0)
set_option maxHeartbeats 8000000 in
set_option maxRecDepth 100000 in
theorem impl_isPlain.calls (k : Nat) (a0 : ByteArray) (r : Bool) (w : World) (hT : Gl w) (h : impl_isPlain.f k a0 = some r) :
  Calls Tryd.prog 96 #[.string a0] w fun e w' => e = .returned (.bool r) ∧ Below w.heap.size w w' := by
 have HT := Aside0.mk hT
 clear hT
 have HB := Aside0.mk (Below.refl w.heap.size w)
 have H : ((impl_Runes.f a0).bind fun bt310 => (impl_isPlain.l0 k bt310.2 bt310.1 (bt310.1.length : Int) 0)) = some r := h
 clear h
 replace H := Option.bind_eq_some_iff.mp H
 obtain ⟨⟨t310, t311⟩, A20, H⟩ := H
 replace H : (impl_isPlain.l0 k t311 t310 (t310.length : Int) 0) = some r := H
 have A2 := Aside0.mk A20
 clear A20
 have H' := Aside0.mk H
 clear H
 go_enter Tryd.func96, Tryd.ntmps96
 go_wp2_with (first | ((with_reducible refine gate_callee (f := 112) rfl ?_); refine goesL_ (some 9) rfl rfl Tryd.func112 dq29 rfl #[.string a0] rfl dq28 ?_; (with_reducible refine (impl_Runes.calls a0 t310 t311 _ ?side1 A2.out).mono ?_); (case side1 => exact dq8); rintro e w3 ⟨v312, rfl, ho0, hb⟩; refine ⟨_, rfl, ?_⟩; have n0_ := Aside0.mk (Kd.R_lower ho0 (below_size dq23)); have n1_ := Aside0.mk (below_step dq23 hb); clear HB; have HO313 := n0_; have HB := n1_; clear n0_ n1_; (try clear hb); (try clear hb2); (try clear hk); (try clear hi); (try clear ho0); obtain ⟨Ao4, co4, eo4⟩ := Kd.R_slice HO313.out; subst eo4))
 go_loopg [4, 14] k (fun kq v4 v14 w' => ∃ (x4_1 : Bool) (x14_1 : Int), v4 = .bool x4_1 ∧ v14 = .int .i64 x14_1 ∧ Aside0 (impl_isPlain.l0 kq x4_1 t310 (t310.length : Int) x14_1 = some r) ∧ Aside0 (kq ≤ k) ∧ Aside0 (Kd.R (Kd.int .i64) 2 w' w.heap.size (fun _ => True) (.slice Ao4 t310.length co4) t310) ∧ Aside0 (Below w.heap.size w w'))
 case atStart => exact ⟨(t311), (0), dq26, dq26, H', ⟨Nat.le_refl _⟩, ⟨by (with_reducible repeat (first | apply Kd.R_alloc | apply Kd.R_drewN | apply Kd.R_drew)); exact HO313.out⟩, ⟨dq23⟩⟩
 case round =>
  clear H'
  try clear c1
  try clear p2
  obtain ⟨x4_1, x14_1, rfl, rfl, HA, HK1, HO_12, HB⟩ := hrel
  cases gk with
  | zero => exact absurd HA.out (by simp [impl_isPlain.l0])
  | succ k1 =>
   have H := HA.out
   clear HA
   simp only [impl_isPlain.l0] at H
   by_cases c5 : x14_1 < (t310.length : Int)
   ·rw [if_pos c5] at H
    have c5b0 := decide_eq_true c5
    clear c5
    by_cases c6 : 0 ≤ x14_1
    ·rw [if_pos c6] at H
     have c6b0 := decide_eq_true c6
     clear c6
     by_cases c7 : x14_1 < (t310.length : Int)
     ·rw [if_pos c7] at H
      have c7b0 := decide_eq_true c7
      clear c7
      by_cases c8 : x4_1 = true
      ·subst c8
       have H1 : ((impl_CharOk.f (rd t310 x14_1)).bind fun t315 => (impl_isPlain.l0 k1 t315 t310 (t310.length : Int) (wrap64 (x14_1 + 1)))) = some r := by rw [if_pos rfl] at H; exact H
       clear H
       have H := H1
       clear H1
       replace H := Option.bind_eq_some_iff.mp H
       obtain ⟨t315, A90, H⟩ := H
       replace H : (impl_isPlain.l0 k1 t315 t310 (t310.length : Int) (wrap64 (x14_1 + 1))) = some r := H
       have A9 := Aside0.mk A90
       clear A90
       have H' := Aside0.mk H
       clear H
       have p314 : 0 ≤ (x14_1 : Int) := of_decide_eq_true dq27
       have q314 : x14_1 < (t310.length : Int) := of_decide_eq_true dq27
       obtain ⟨ad314, e314, hx314_0⟩ := Kd.at_int (Kd.R_reads' HO_12.out).2.2 x14_1 p314 q314
       cases e314
       replace p314 := eq_true p314
       replace q314 := eq_true q314
       go_wp2_with (first | (go_at_call 113; (with_reducible refine (impl_CharOk.calls (rd t310 x14_1) t315 _ A9.out).mono ?_); rintro e w' ⟨rfl, ⟨nd, rfl⟩⟩))
       go_roundg k1
       case measure => have := HK1.out; omega
       case rel => exact ⟨(t315), (wrap64 (x14_1 + 1)), dq26, dq26, H', ⟨dq30⟩, ⟨by (with_reducible repeat (first | apply Kd.R_alloc | apply Kd.R_drewN | apply Kd.R_drew)); exact HO_12.out⟩, ⟨dq23⟩⟩
      ·replace c8 := Bool.eq_false_iff.mpr c8
       subst c8
       have H1 : (impl_isPlain.l0 k1 false t310 (t310.length : Int) (wrap64 (x14_1 + 1))) = some r := by rw [if_neg (show ¬ (false = true) by decide)] at H; exact H
       clear H
       have H := H1
       clear H1
       have H' := Aside0.mk H
       clear H
       have p314 : 0 ≤ (x14_1 : Int) := of_decide_eq_true dq27
       have q314 : x14_1 < (t310.length : Int) := of_decide_eq_true dq27
       obtain ⟨ad314, e314, hx314_0⟩ := Kd.at_int (Kd.R_reads' HO_12.out).2.2 x14_1 p314 q314
       cases e314
       replace p314 := eq_true p314
       replace q314 := eq_true q314
       go_wp2
       go_roundg k1
       case measure => have := HK1.out; omega
       case rel => exact ⟨(false), (wrap64 (x14_1 + 1)), dq26, dq26, H', ⟨dq30⟩, ⟨by (with_reducible repeat (first | apply Kd.R_alloc | apply Kd.R_drewN | apply Kd.R_drew)); exact HO_12.out⟩, ⟨dq23⟩⟩
     ·rw [if_neg c7] at H
      exact absurd H dq31
    ·rw [if_neg c6] at H
     exact absurd H dq31
   ·rw [if_neg c5] at H
    have c5b0 := decide_eq_false c5
    clear c5
    obtain rfl := Option.some.inj H
    go_wp2
    go_ret
    exact ⟨dq25, dq23⟩

/-! ### impl_NameOk: function 21 -/
def impl_NameOk.l0 : Nat → ByteArray → Int → Int → Option (Bool)
 | 0, _, _, _ => none
 | k + 1, x0, x7, x8 => if x8 < x7 then (if 0 ≤ x8 then (if x8 < (x0.size : Int) then (if (bt x0 x8) ≥ 97 then (if (bt x0 x8) ≤ 122 then (impl_NameOk.l0 k x0 x7 (wrap64 (x8 + 1))) else (if (bt x0 x8) ≥ 65 then (if (bt x0 x8) ≤ 90 then (impl_NameOk.l0 k x0 x7 (wrap64 (x8 + 1))) else (if ((bt x0 x8) = 95) then (impl_NameOk.l0 k x0 x7 (wrap64 (x8 + 1))) else (if x8 = 0 then (some false) else (if (bt x0 x8) ≥ 48 then (if ((bt x0 x8) ≤ 57) then (impl_NameOk.l0 k x0 x7 (wrap64 (x8 + 1))) else (if (bt x0 x8) = 46 then (impl_NameOk.l0 k x0 x7 (wrap64 (x8 + 1))) else (if (bt x0 x8) = 45 then (impl_NameOk.l0 k x0 x7 (wrap64 (x8 + 1))) else (some false)))) else (if (bt x0 x8) = 46 then (impl_NameOk.l0 k x0 x7 (wrap64 (x8 + 1))) else (if (bt x0 x8) = 45 then (impl_NameOk.l0 k x0 x7 (wrap64 (x8 + 1))) else (some false))))))) else (if ((bt x0 x8) = 95) then (impl_NameOk.l0 k x0 x7 (wrap64 (x8 + 1))) else (if x8 = 0 then (some false) else (if (bt x0 x8) ≥ 48 then (if ((bt x0 x8) ≤ 57) then (impl_NameOk.l0 k x0 x7 (wrap64 (x8 + 1))) else (if (bt x0 x8) = 46 then (impl_NameOk.l0 k x0 x7 (wrap64 (x8 + 1))) else (if (bt x0 x8) = 45 then (impl_NameOk.l0 k x0 x7 (wrap64 (x8 + 1))) else (some false)))) else (if (bt x0 x8) = 46 then (impl_NameOk.l0 k x0 x7 (wrap64 (x8 + 1))) else (if (bt x0 x8) = 45 then (impl_NameOk.l0 k x0 x7 (wrap64 (x8 + 1))) else (some false)))))))) else (if (bt x0 x8) ≥ 65 then (if (bt x0 x8) ≤ 90 then (impl_NameOk.l0 k x0 x7 (wrap64 (x8 + 1))) else (if ((bt x0 x8) = 95) then (impl_NameOk.l0 k x0 x7 (wrap64 (x8 + 1))) else (if x8 = 0 then (some false) else (if (bt x0 x8) ≥ 48 then (if ((bt x0 x8) ≤ 57) then (impl_NameOk.l0 k x0 x7 (wrap64 (x8 + 1))) else (if (bt x0 x8) = 46 then (impl_NameOk.l0 k x0 x7 (wrap64 (x8 + 1))) else (if (bt x0 x8) = 45 then (impl_NameOk.l0 k x0 x7 (wrap64 (x8 + 1))) else (some false)))) else (if (bt x0 x8) = 46 then (impl_NameOk.l0 k x0 x7 (wrap64 (x8 + 1))) else (if (bt x0 x8) = 45 then (impl_NameOk.l0 k x0 x7 (wrap64 (x8 + 1))) else (some false))))))) else (if ((bt x0 x8) = 95) then (impl_NameOk.l0 k x0 x7 (wrap64 (x8 + 1))) else (if x8 = 0 then (some false) else (if (bt x0 x8) ≥ 48 then (if ((bt x0 x8) ≤ 57) then (impl_NameOk.l0 k x0 x7 (wrap64 (x8 + 1))) else (if (bt x0 x8) = 46 then (impl_NameOk.l0 k x0 x7 (wrap64 (x8 + 1))) else (if (bt x0 x8) = 45 then (impl_NameOk.l0 k x0 x7 (wrap64 (x8 + 1))) else (some false)))) else (if (bt x0 x8) = 46 then (impl_NameOk.l0 k x0 x7 (wrap64 (x8 + 1))) else (if (bt x0 x8) = 45 then (impl_NameOk.l0 k x0 x7 (wrap64 (x8 + 1))) else (some false)))))))) else (none)) else (none)) else ((impl_in.f (x0.size : Int) 1 40).bind fun t303 => (some t303))
def impl_NameOk.f (k : Nat) (a0 : ByteArray) : Option (Bool) := impl_NameOk.l0 k a0 (a0.size : Int) 0
set_option maxHeartbeats 8000000 in
set_option maxRecDepth 100000 in
theorem impl_NameOk.calls (k : Nat) (a0 : ByteArray) (r : Bool) (w : World) (h : impl_NameOk.f k a0 = some r) :
  Calls Tryd.prog 21 #[.string a0] w fun e w' => e = .returned (.bool r) ∧ Drawn0 w w' := by
 have H : (impl_NameOk.l0 k a0 (a0.size : Int) 0) = some r := h
 clear h
 have H' := Aside0.mk H
 clear H
 go_enter Tryd.func21, Tryd.ntmps21
 go_wp2
 go_loopg [8] k (fun kq v8 w' => ∃ (x8_1 : Int), v8 = .int .i64 x8_1 ∧ Aside0 (impl_NameOk.l0 kq a0 (a0.size : Int) x8_1 = some r) ∧ Aside0 (kq ≤ k) ∧ Drawn0 w w')
 case atStart => exact ⟨(0), dq26, H', ⟨Nat.le_refl _⟩, dq33⟩
 case round =>
  clear H'
  obtain ⟨x8_1, rfl, HA, HK1, ⟨m1, rfl⟩⟩ := hrel
  cases gk with
  | zero => exact absurd HA.out (by simp [impl_NameOk.l0])
  | succ k1 =>
   have H := HA.out
   clear HA
   simp only [impl_NameOk.l0] at H
   by_cases c2 : x8_1 < (a0.size : Int)
   ·rw [if_pos c2] at H
    have c2b0 := decide_eq_true c2
    clear c2
    by_cases c3 : 0 ≤ x8_1
    ·rw [if_pos c3] at H
     have c3b0 := decide_eq_true c3
     clear c3
     by_cases c4 : x8_1 < (a0.size : Int)
     ·rw [if_pos c4] at H
      have c4b0 := decide_eq_true c4
      clear c4
      by_cases c6 : (bt a0 x8_1) ≥ 97
      ·rw [if_pos c6] at H
       have c6b0 : decide (97 ≤ (bt a0 x8_1)) = true := decide_eq_true c6
       clear c6
       by_cases c7 : (bt a0 x8_1) ≤ 122
       ·rw [if_pos c7] at H
        have c7b0 := decide_eq_true c7
        clear c7
        have H' := Aside0.mk H
        clear H
        have p5 : 0 ≤ (x8_1 : Int) := of_decide_eq_true dq27
        have q5 : x8_1 < (a0.size : Int) := of_decide_eq_true dq27
        have hx5 := bt_at a0 x8_1
        replace p5 := eq_true p5
        replace q5 := eq_true q5
        go_wp2
        go_roundg k1
        case measure => have := HK1.out; omega
        case rel => exact ⟨(wrap64 (x8_1 + 1)), dq26, H', ⟨dq30⟩, dq33⟩
       ·rw [if_neg c7] at H
        have c7b0 := decide_eq_false c7
        clear c7
        by_cases c8 : (bt a0 x8_1) ≥ 65
        ·rw [if_pos c8] at H
         have c8b0 : decide (65 ≤ (bt a0 x8_1)) = true := decide_eq_true c8
         clear c8
         by_cases c9 : (bt a0 x8_1) ≤ 90
         ·rw [if_pos c9] at H
          have c9b0 := decide_eq_true c9
          clear c9
          have H' := Aside0.mk H
          clear H
          have p5 : 0 ≤ (x8_1 : Int) := of_decide_eq_true dq27
          have q5 : x8_1 < (a0.size : Int) := of_decide_eq_true dq27
          have hx5 := bt_at a0 x8_1
          replace p5 := eq_true p5
          replace q5 := eq_true q5
          go_wp2
          go_roundg k1
          case measure => have := HK1.out; omega
          case rel => exact ⟨(wrap64 (x8_1 + 1)), dq26, H', ⟨dq30⟩, dq33⟩
         ·rw [if_neg c9] at H
          have c9b0 := decide_eq_false c9
          clear c9
          by_cases c10 : ((bt a0 x8_1) = 95)
          ·rw [if_pos c10] at H
           have c10b0 : ((bt a0 x8_1) == 95) = true := beq_iff_eq.mpr c10
           have c10b1 : ((bt a0 x8_1) != 95) = false := bne_eq_false_iff_eq.mpr c10
           clear c10
           have H' := Aside0.mk H
           clear H
           have p5 : 0 ≤ (x8_1 : Int) := of_decide_eq_true dq27
           have q5 : x8_1 < (a0.size : Int) := of_decide_eq_true dq27
           have hx5 := bt_at a0 x8_1
           replace p5 := eq_true p5
           replace q5 := eq_true q5
           go_wp2
           go_roundg k1
           case measure => have := HK1.out; omega
           case rel => exact ⟨(wrap64 (x8_1 + 1)), dq26, H', ⟨dq30⟩, dq33⟩
          ·rw [if_neg c10] at H
           have c10b0 : ((bt a0 x8_1) == 95) = false := beq_eq_false_iff_ne.mpr c10
           have c10b1 : ((bt a0 x8_1) != 95) = true := bne_iff_ne.mpr c10
           by_cases c11 : x8_1 = 0
           ·rw [if_pos c11] at H
            have c11b0 := beq_iff_eq.mpr c11
            have c11b1 := bne_eq_false_iff_eq.mpr c11
            clear c11
            obtain rfl := Option.some.inj H
            have p5 : 0 ≤ (x8_1 : Int) := of_decide_eq_true dq27
            have q5 : x8_1 < (a0.size : Int) := of_decide_eq_true dq27
            have hx5 := bt_at a0 x8_1
            replace p5 := eq_true p5
            replace q5 := eq_true q5
            go_wp2
            go_ret
            exact ⟨dq26, dq33⟩
           ·rw [if_neg c11] at H
            have c11b0 := beq_eq_false_iff_ne.mpr c11
            have c11b1 := bne_iff_ne.mpr c11
            by_cases c12 : (bt a0 x8_1) ≥ 48
            ·rw [if_pos c12] at H
             have c12b0 : decide (48 ≤ (bt a0 x8_1)) = true := decide_eq_true c12
             clear c12
             by_cases c13 : ((bt a0 x8_1) ≤ 57)
             ·rw [if_pos c13] at H
              have c13b0 : decide ((bt a0 x8_1) ≤ 57) = true := decide_eq_true c13
              clear c13
              have H' := Aside0.mk H
              clear H
              have p5 : 0 ≤ (x8_1 : Int) := of_decide_eq_true dq27
              have q5 : x8_1 < (a0.size : Int) := of_decide_eq_true dq27
              have hx5 := bt_at a0 x8_1
              replace p5 := eq_true p5
              replace q5 := eq_true q5
              go_wp2
              go_roundg k1
              case measure => have := HK1.out; omega
              case rel => exact ⟨(wrap64 (x8_1 + 1)), dq26, H', ⟨dq30⟩, dq33⟩
             ·rw [if_neg c13] at H
              have c13b0 : decide ((bt a0 x8_1) ≤ 57) = false := decide_eq_false c13
              clear c13
              by_cases c14 : (bt a0 x8_1) = 46
              ·rw [if_pos c14] at H
               have c14b0 := beq_iff_eq.mpr c14
               have c14b1 := bne_eq_false_iff_eq.mpr c14
               clear c14
               have H' := Aside0.mk H
               clear H
               have p5 : 0 ≤ (x8_1 : Int) := of_decide_eq_true dq27
               have q5 : x8_1 < (a0.size : Int) := of_decide_eq_true dq27
               have hx5 := bt_at a0 x8_1
               replace p5 := eq_true p5
               replace q5 := eq_true q5
               go_wp2
               go_roundg k1
               case measure => have := HK1.out; omega
               case rel => exact ⟨(wrap64 (x8_1 + 1)), dq26, H', ⟨dq30⟩, dq33⟩
              ·rw [if_neg c14] at H
               have c14b0 := beq_eq_false_iff_ne.mpr c14
               have c14b1 := bne_iff_ne.mpr c14
               by_cases c15 : (bt a0 x8_1) = 45
               ·rw [if_pos c15] at H
                have c15b0 := beq_iff_eq.mpr c15
                have c15b1 := bne_eq_false_iff_eq.mpr c15
                clear c15
                have H' := Aside0.mk H
                clear H
                have p5 : 0 ≤ (x8_1 : Int) := of_decide_eq_true dq27
                have q5 : x8_1 < (a0.size : Int) := of_decide_eq_true dq27
                have hx5 := bt_at a0 x8_1
                replace p5 := eq_true p5
                replace q5 := eq_true q5
                go_wp2
                go_roundg k1
                case measure => have := HK1.out; omega
                case rel => exact ⟨(wrap64 (x8_1 + 1)), dq26, H', ⟨dq30⟩, dq33⟩
               ·rw [if_neg c15] at H
                have c15b0 := beq_eq_false_iff_ne.mpr c15
                have c15b1 := bne_iff_ne.mpr c15
                obtain rfl := Option.some.inj H
                have p5 : 0 ≤ (x8_1 : Int) := of_decide_eq_true dq27
                have q5 : x8_1 < (a0.size : Int) := of_decide_eq_true dq27
                have hx5 := bt_at a0 x8_1
                replace p5 := eq_true p5
                replace q5 := eq_true q5
                go_wp2
                go_ret
                exact ⟨dq26, dq33⟩
            ·rw [if_neg c12] at H
             have c12b0 : decide (48 ≤ (bt a0 x8_1)) = false := decide_eq_false c12
             clear c12
             by_cases c16 : (bt a0 x8_1) = 46
             ·rw [if_pos c16] at H
              have c16b0 := beq_iff_eq.mpr c16
              have c16b1 := bne_eq_false_iff_eq.mpr c16
              clear c16
              have H' := Aside0.mk H
              clear H
              have p5 : 0 ≤ (x8_1 : Int) := of_decide_eq_true dq27
              have q5 : x8_1 < (a0.size : Int) := of_decide_eq_true dq27
              have hx5 := bt_at a0 x8_1
              replace p5 := eq_true p5
              replace q5 := eq_true q5
              go_wp2
              go_roundg k1
              case measure => have := HK1.out; omega
              case rel => exact ⟨(wrap64 (x8_1 + 1)), dq26, H', ⟨dq30⟩, dq33⟩
             ·rw [if_neg c16] at H
              have c16b0 := beq_eq_false_iff_ne.mpr c16
              have c16b1 := bne_iff_ne.mpr c16
              by_cases c17 : (bt a0 x8_1) = 45
              ·rw [if_pos c17] at H
               have c17b0 := beq_iff_eq.mpr c17
               have c17b1 := bne_eq_false_iff_eq.mpr c17
               clear c17
               have H' := Aside0.mk H
               clear H
               have p5 : 0 ≤ (x8_1 : Int) := of_decide_eq_true dq27
               have q5 : x8_1 < (a0.size : Int) := of_decide_eq_true dq27
               have hx5 := bt_at a0 x8_1
               replace p5 := eq_true p5
               replace q5 := eq_true q5
               go_wp2
               go_roundg k1
               case measure => have := HK1.out; omega
               case rel => exact ⟨(wrap64 (x8_1 + 1)), dq26, H', ⟨dq30⟩, dq33⟩
              ·rw [if_neg c17] at H
               have c17b0 := beq_eq_false_iff_ne.mpr c17
               have c17b1 := bne_iff_ne.mpr c17
               obtain rfl := Option.some.inj H
               have p5 : 0 ≤ (x8_1 : Int) := of_decide_eq_true dq27
               have q5 : x8_1 < (a0.size : Int) := of_decide_eq_true dq27
               have hx5 := bt_at a0 x8_1
               replace p5 := eq_true p5
               replace q5 := eq_true q5
               go_wp2
               go_ret
               exact ⟨dq26, dq33⟩
        ·rw [if_neg c8] at H
         have c8b0 : decide (65 ≤ (bt a0 x8_1)) = false := decide_eq_false c8
         clear c8
         by_cases c18 : ((bt a0 x8_1) = 95)
         ·rw [if_pos c18] at H
          have c18b0 : ((bt a0 x8_1) == 95) = true := beq_iff_eq.mpr c18
          have c18b1 : ((bt a0 x8_1) != 95) = false := bne_eq_false_iff_eq.mpr c18
          clear c18
          have H' := Aside0.mk H
          clear H
          have p5 : 0 ≤ (x8_1 : Int) := of_decide_eq_true dq27
          have q5 : x8_1 < (a0.size : Int) := of_decide_eq_true dq27
          have hx5 := bt_at a0 x8_1
          replace p5 := eq_true p5
          replace q5 := eq_true q5
          go_wp2
          go_roundg k1
          case measure => have := HK1.out; omega
          case rel => exact ⟨(wrap64 (x8_1 + 1)), dq26, H', ⟨dq30⟩, dq33⟩
         ·rw [if_neg c18] at H
          have c18b0 : ((bt a0 x8_1) == 95) = false := beq_eq_false_iff_ne.mpr c18
          have c18b1 : ((bt a0 x8_1) != 95) = true := bne_iff_ne.mpr c18
          by_cases c19 : x8_1 = 0
          ·rw [if_pos c19] at H
           have c19b0 := beq_iff_eq.mpr c19
           have c19b1 := bne_eq_false_iff_eq.mpr c19
           clear c19
           obtain rfl := Option.some.inj H
           have p5 : 0 ≤ (x8_1 : Int) := of_decide_eq_true dq27
           have q5 : x8_1 < (a0.size : Int) := of_decide_eq_true dq27
           have hx5 := bt_at a0 x8_1
           replace p5 := eq_true p5
           replace q5 := eq_true q5
           go_wp2
           go_ret
           exact ⟨dq26, dq33⟩
          ·rw [if_neg c19] at H
           have c19b0 := beq_eq_false_iff_ne.mpr c19
           have c19b1 := bne_iff_ne.mpr c19
           by_cases c20 : (bt a0 x8_1) ≥ 48
           ·rw [if_pos c20] at H
            have c20b0 : decide (48 ≤ (bt a0 x8_1)) = true := decide_eq_true c20
            clear c20
            by_cases c21 : ((bt a0 x8_1) ≤ 57)
            ·rw [if_pos c21] at H
             have c21b0 : decide ((bt a0 x8_1) ≤ 57) = true := decide_eq_true c21
             clear c21
             have H' := Aside0.mk H
             clear H
             have p5 : 0 ≤ (x8_1 : Int) := of_decide_eq_true dq27
             have q5 : x8_1 < (a0.size : Int) := of_decide_eq_true dq27
             have hx5 := bt_at a0 x8_1
             replace p5 := eq_true p5
             replace q5 := eq_true q5
             go_wp2
             go_roundg k1
             case measure => have := HK1.out; omega
             case rel => exact ⟨(wrap64 (x8_1 + 1)), dq26, H', ⟨dq30⟩, dq33⟩
            ·rw [if_neg c21] at H
             have c21b0 : decide ((bt a0 x8_1) ≤ 57) = false := decide_eq_false c21
             clear c21
             by_cases c22 : (bt a0 x8_1) = 46
             ·rw [if_pos c22] at H
              have c22b0 := beq_iff_eq.mpr c22
              have c22b1 := bne_eq_false_iff_eq.mpr c22
              clear c22
              have H' := Aside0.mk H
              clear H
              have p5 : 0 ≤ (x8_1 : Int) := of_decide_eq_true dq27
              have q5 : x8_1 < (a0.size : Int) := of_decide_eq_true dq27
              have hx5 := bt_at a0 x8_1
              replace p5 := eq_true p5
              replace q5 := eq_true q5
              go_wp2
              go_roundg k1
              case measure => have := HK1.out; omega
              case rel => exact ⟨(wrap64 (x8_1 + 1)), dq26, H', ⟨dq30⟩, dq33⟩
             ·rw [if_neg c22] at H
              have c22b0 := beq_eq_false_iff_ne.mpr c22
              have c22b1 := bne_iff_ne.mpr c22
              by_cases c23 : (bt a0 x8_1) = 45
              ·rw [if_pos c23] at H
               have c23b0 := beq_iff_eq.mpr c23
               have c23b1 := bne_eq_false_iff_eq.mpr c23
               clear c23
               have H' := Aside0.mk H
               clear H
               have p5 : 0 ≤ (x8_1 : Int) := of_decide_eq_true dq27
               have q5 : x8_1 < (a0.size : Int) := of_decide_eq_true dq27
               have hx5 := bt_at a0 x8_1
               replace p5 := eq_true p5
               replace q5 := eq_true q5
               go_wp2
               go_roundg k1
               case measure => have := HK1.out; omega
               case rel => exact ⟨(wrap64 (x8_1 + 1)), dq26, H', ⟨dq30⟩, dq33⟩
              ·rw [if_neg c23] at H
               have c23b0 := beq_eq_false_iff_ne.mpr c23
               have c23b1 := bne_iff_ne.mpr c23
               obtain rfl := Option.some.inj H
               have p5 : 0 ≤ (x8_1 : Int) := of_decide_eq_true dq27
               have q5 : x8_1 < (a0.size : Int) := of_decide_eq_true dq27
               have hx5 := bt_at a0 x8_1
               replace p5 := eq_true p5
               replace q5 := eq_true q5
               go_wp2
               go_ret
               exact ⟨dq26, dq33⟩
           ·rw [if_neg c20] at H
            have c20b0 : decide (48 ≤ (bt a0 x8_1)) = false := decide_eq_false c20
            clear c20
            by_cases c24 : (bt a0 x8_1) = 46
            ·rw [if_pos c24] at H
             have c24b0 := beq_iff_eq.mpr c24
             have c24b1 := bne_eq_false_iff_eq.mpr c24
             clear c24
             have H' := Aside0.mk H
             clear H
             have p5 : 0 ≤ (x8_1 : Int) := of_decide_eq_true dq27
             have q5 : x8_1 < (a0.size : Int) := of_decide_eq_true dq27
             have hx5 := bt_at a0 x8_1
             replace p5 := eq_true p5
             replace q5 := eq_true q5
             go_wp2
             go_roundg k1
             case measure => have := HK1.out; omega
             case rel => exact ⟨(wrap64 (x8_1 + 1)), dq26, H', ⟨dq30⟩, dq33⟩
            ·rw [if_neg c24] at H
             have c24b0 := beq_eq_false_iff_ne.mpr c24
             have c24b1 := bne_iff_ne.mpr c24
             by_cases c25 : (bt a0 x8_1) = 45
             ·rw [if_pos c25] at H
              have c25b0 := beq_iff_eq.mpr c25
              have c25b1 := bne_eq_false_iff_eq.mpr c25
              clear c25
              have H' := Aside0.mk H
              clear H
              have p5 : 0 ≤ (x8_1 : Int) := of_decide_eq_true dq27
              have q5 : x8_1 < (a0.size : Int) := of_decide_eq_true dq27
              have hx5 := bt_at a0 x8_1
              replace p5 := eq_true p5
              replace q5 := eq_true q5
              go_wp2
              go_roundg k1
              case measure => have := HK1.out; omega
              case rel => exact ⟨(wrap64 (x8_1 + 1)), dq26, H', ⟨dq30⟩, dq33⟩
             ·rw [if_neg c25] at H
              have c25b0 := beq_eq_false_iff_ne.mpr c25
              have c25b1 := bne_iff_ne.mpr c25
              obtain rfl := Option.some.inj H
              have p5 : 0 ≤ (x8_1 : Int) := of_decide_eq_true dq27
              have q5 : x8_1 < (a0.size : Int) := of_decide_eq_true dq27
              have hx5 := bt_at a0 x8_1
              replace p5 := eq_true p5
              replace q5 := eq_true q5
              go_wp2
              go_ret
              exact ⟨dq26, dq33⟩
      ·rw [if_neg c6] at H
       have c6b0 : decide (97 ≤ (bt a0 x8_1)) = false := decide_eq_false c6
       clear c6
       by_cases c26 : (bt a0 x8_1) ≥ 65
       ·rw [if_pos c26] at H
        have c26b0 : decide (65 ≤ (bt a0 x8_1)) = true := decide_eq_true c26
        clear c26
        by_cases c27 : (bt a0 x8_1) ≤ 90
        ·rw [if_pos c27] at H
         have c27b0 := decide_eq_true c27
         clear c27
         have H' := Aside0.mk H
         clear H
         have p5 : 0 ≤ (x8_1 : Int) := of_decide_eq_true dq27
         have q5 : x8_1 < (a0.size : Int) := of_decide_eq_true dq27
         have hx5 := bt_at a0 x8_1
         replace p5 := eq_true p5
         replace q5 := eq_true q5
         go_wp2
         go_roundg k1
         case measure => have := HK1.out; omega
         case rel => exact ⟨(wrap64 (x8_1 + 1)), dq26, H', ⟨dq30⟩, dq33⟩
        ·rw [if_neg c27] at H
         have c27b0 := decide_eq_false c27
         clear c27
         by_cases c28 : ((bt a0 x8_1) = 95)
         ·rw [if_pos c28] at H
          have c28b0 : ((bt a0 x8_1) == 95) = true := beq_iff_eq.mpr c28
          have c28b1 : ((bt a0 x8_1) != 95) = false := bne_eq_false_iff_eq.mpr c28
          clear c28
          have H' := Aside0.mk H
          clear H
          have p5 : 0 ≤ (x8_1 : Int) := of_decide_eq_true dq27
          have q5 : x8_1 < (a0.size : Int) := of_decide_eq_true dq27
          have hx5 := bt_at a0 x8_1
          replace p5 := eq_true p5
          replace q5 := eq_true q5
          go_wp2
          go_roundg k1
          case measure => have := HK1.out; omega
          case rel => exact ⟨(wrap64 (x8_1 + 1)), dq26, H', ⟨dq30⟩, dq33⟩
         ·rw [if_neg c28] at H
          have c28b0 : ((bt a0 x8_1) == 95) = false := beq_eq_false_iff_ne.mpr c28
          have c28b1 : ((bt a0 x8_1) != 95) = true := bne_iff_ne.mpr c28
          by_cases c29 : x8_1 = 0
          ·rw [if_pos c29] at H
           have c29b0 := beq_iff_eq.mpr c29
           have c29b1 := bne_eq_false_iff_eq.mpr c29
           clear c29
           obtain rfl := Option.some.inj H
           have p5 : 0 ≤ (x8_1 : Int) := of_decide_eq_true dq27
           have q5 : x8_1 < (a0.size : Int) := of_decide_eq_true dq27
           have hx5 := bt_at a0 x8_1
           replace p5 := eq_true p5
           replace q5 := eq_true q5
           go_wp2
           go_ret
           exact ⟨dq26, dq33⟩
          ·rw [if_neg c29] at H
           have c29b0 := beq_eq_false_iff_ne.mpr c29
           have c29b1 := bne_iff_ne.mpr c29
           by_cases c30 : (bt a0 x8_1) ≥ 48
           ·rw [if_pos c30] at H
            have c30b0 : decide (48 ≤ (bt a0 x8_1)) = true := decide_eq_true c30
            clear c30
            by_cases c31 : ((bt a0 x8_1) ≤ 57)
            ·rw [if_pos c31] at H
             have c31b0 : decide ((bt a0 x8_1) ≤ 57) = true := decide_eq_true c31
             clear c31
             have H' := Aside0.mk H
             clear H
             have p5 : 0 ≤ (x8_1 : Int) := of_decide_eq_true dq27
             have q5 : x8_1 < (a0.size : Int) := of_decide_eq_true dq27
             have hx5 := bt_at a0 x8_1
             replace p5 := eq_true p5
             replace q5 := eq_true q5
             go_wp2
             go_roundg k1
             case measure => have := HK1.out; omega
             case rel => exact ⟨(wrap64 (x8_1 + 1)), dq26, H', ⟨dq30⟩, dq33⟩
            ·rw [if_neg c31] at H
             have c31b0 : decide ((bt a0 x8_1) ≤ 57) = false := decide_eq_false c31
             clear c31
             by_cases c32 : (bt a0 x8_1) = 46
             ·rw [if_pos c32] at H
              have c32b0 := beq_iff_eq.mpr c32
              have c32b1 := bne_eq_false_iff_eq.mpr c32
              clear c32
              have H' := Aside0.mk H
              clear H
              have p5 : 0 ≤ (x8_1 : Int) := of_decide_eq_true dq27
              have q5 : x8_1 < (a0.size : Int) := of_decide_eq_true dq27
              have hx5 := bt_at a0 x8_1
              replace p5 := eq_true p5
              replace q5 := eq_true q5
              go_wp2
              go_roundg k1
              case measure => have := HK1.out; omega
              case rel => exact ⟨(wrap64 (x8_1 + 1)), dq26, H', ⟨dq30⟩, dq33⟩
             ·rw [if_neg c32] at H
              have c32b0 := beq_eq_false_iff_ne.mpr c32
              have c32b1 := bne_iff_ne.mpr c32
              by_cases c33 : (bt a0 x8_1) = 45
              ·rw [if_pos c33] at H
               have c33b0 := beq_iff_eq.mpr c33
               have c33b1 := bne_eq_false_iff_eq.mpr c33
               clear c33
               have H' := Aside0.mk H
               clear H
               have p5 : 0 ≤ (x8_1 : Int) := of_decide_eq_true dq27
               have q5 : x8_1 < (a0.size : Int) := of_decide_eq_true dq27
               have hx5 := bt_at a0 x8_1
               replace p5 := eq_true p5
               replace q5 := eq_true q5
               go_wp2
               go_roundg k1
               case measure => have := HK1.out; omega
               case rel => exact ⟨(wrap64 (x8_1 + 1)), dq26, H', ⟨dq30⟩, dq33⟩
              ·rw [if_neg c33] at H
               have c33b0 := beq_eq_false_iff_ne.mpr c33
               have c33b1 := bne_iff_ne.mpr c33
               obtain rfl := Option.some.inj H
               have p5 : 0 ≤ (x8_1 : Int) := of_decide_eq_true dq27
               have q5 : x8_1 < (a0.size : Int) := of_decide_eq_true dq27
               have hx5 := bt_at a0 x8_1
               replace p5 := eq_true p5
               replace q5 := eq_true q5
               go_wp2
               go_ret
               exact ⟨dq26, dq33⟩
           ·rw [if_neg c30] at H
            have c30b0 : decide (48 ≤ (bt a0 x8_1)) = false := decide_eq_false c30
            clear c30
            by_cases c34 : (bt a0 x8_1) = 46
            ·rw [if_pos c34] at H
             have c34b0 := beq_iff_eq.mpr c34
             have c34b1 := bne_eq_false_iff_eq.mpr c34
             clear c34
             have H' := Aside0.mk H
             clear H
             have p5 : 0 ≤ (x8_1 : Int) := of_decide_eq_true dq27
             have q5 : x8_1 < (a0.size : Int) := of_decide_eq_true dq27
             have hx5 := bt_at a0 x8_1
             replace p5 := eq_true p5
             replace q5 := eq_true q5
             go_wp2
             go_roundg k1
             case measure => have := HK1.out; omega
             case rel => exact ⟨(wrap64 (x8_1 + 1)), dq26, H', ⟨dq30⟩, dq33⟩
            ·rw [if_neg c34] at H
             have c34b0 := beq_eq_false_iff_ne.mpr c34
             have c34b1 := bne_iff_ne.mpr c34
             by_cases c35 : (bt a0 x8_1) = 45
             ·rw [if_pos c35] at H
              have c35b0 := beq_iff_eq.mpr c35
              have c35b1 := bne_eq_false_iff_eq.mpr c35
              clear c35
              have H' := Aside0.mk H
              clear H
              have p5 : 0 ≤ (x8_1 : Int) := of_decide_eq_true dq27
              have q5 : x8_1 < (a0.size : Int) := of_decide_eq_true dq27
              have hx5 := bt_at a0 x8_1
              replace p5 := eq_true p5
              replace q5 := eq_true q5
              go_wp2
              go_roundg k1
              case measure => have := HK1.out; omega
              case rel => exact ⟨(wrap64 (x8_1 + 1)), dq26, H', ⟨dq30⟩, dq33⟩
             ·rw [if_neg c35] at H
              have c35b0 := beq_eq_false_iff_ne.mpr c35
              have c35b1 := bne_iff_ne.mpr c35
              obtain rfl := Option.some.inj H
              have p5 : 0 ≤ (x8_1 : Int) := of_decide_eq_true dq27
              have q5 : x8_1 < (a0.size : Int) := of_decide_eq_true dq27
              have hx5 := bt_at a0 x8_1
              replace p5 := eq_true p5
              replace q5 := eq_true q5
              go_wp2
              go_ret
              exact ⟨dq26, dq33⟩
       ·rw [if_neg c26] at H
        have c26b0 : decide (65 ≤ (bt a0 x8_1)) = false := decide_eq_false c26
        clear c26
        by_cases c36 : ((bt a0 x8_1) = 95)
        ·rw [if_pos c36] at H
         have c36b0 : ((bt a0 x8_1) == 95) = true := beq_iff_eq.mpr c36
         have c36b1 : ((bt a0 x8_1) != 95) = false := bne_eq_false_iff_eq.mpr c36
         clear c36
         have H' := Aside0.mk H
         clear H
         have p5 : 0 ≤ (x8_1 : Int) := of_decide_eq_true dq27
         have q5 : x8_1 < (a0.size : Int) := of_decide_eq_true dq27
         have hx5 := bt_at a0 x8_1
         replace p5 := eq_true p5
         replace q5 := eq_true q5
         go_wp2
         go_roundg k1
         case measure => have := HK1.out; omega
         case rel => exact ⟨(wrap64 (x8_1 + 1)), dq26, H', ⟨dq30⟩, dq33⟩
        ·rw [if_neg c36] at H
         have c36b0 : ((bt a0 x8_1) == 95) = false := beq_eq_false_iff_ne.mpr c36
         have c36b1 : ((bt a0 x8_1) != 95) = true := bne_iff_ne.mpr c36
         by_cases c37 : x8_1 = 0
         ·rw [if_pos c37] at H
          have c37b0 := beq_iff_eq.mpr c37
          have c37b1 := bne_eq_false_iff_eq.mpr c37
          clear c37
          obtain rfl := Option.some.inj H
          have p5 : 0 ≤ (x8_1 : Int) := of_decide_eq_true dq27
          have q5 : x8_1 < (a0.size : Int) := of_decide_eq_true dq27
          have hx5 := bt_at a0 x8_1
          replace p5 := eq_true p5
          replace q5 := eq_true q5
          go_wp2
          go_ret
          exact ⟨dq26, dq33⟩
         ·rw [if_neg c37] at H
          have c37b0 := beq_eq_false_iff_ne.mpr c37
          have c37b1 := bne_iff_ne.mpr c37
          by_cases c38 : (bt a0 x8_1) ≥ 48
          ·rw [if_pos c38] at H
           have c38b0 : decide (48 ≤ (bt a0 x8_1)) = true := decide_eq_true c38
           clear c38
           by_cases c39 : ((bt a0 x8_1) ≤ 57)
           ·rw [if_pos c39] at H
            have c39b0 : decide ((bt a0 x8_1) ≤ 57) = true := decide_eq_true c39
            clear c39
            have H' := Aside0.mk H
            clear H
            have p5 : 0 ≤ (x8_1 : Int) := of_decide_eq_true dq27
            have q5 : x8_1 < (a0.size : Int) := of_decide_eq_true dq27
            have hx5 := bt_at a0 x8_1
            replace p5 := eq_true p5
            replace q5 := eq_true q5
            go_wp2
            go_roundg k1
            case measure => have := HK1.out; omega
            case rel => exact ⟨(wrap64 (x8_1 + 1)), dq26, H', ⟨dq30⟩, dq33⟩
           ·rw [if_neg c39] at H
            have c39b0 : decide ((bt a0 x8_1) ≤ 57) = false := decide_eq_false c39
            clear c39
            by_cases c40 : (bt a0 x8_1) = 46
            ·rw [if_pos c40] at H
             have c40b0 := beq_iff_eq.mpr c40
             have c40b1 := bne_eq_false_iff_eq.mpr c40
             clear c40
             have H' := Aside0.mk H
             clear H
             have p5 : 0 ≤ (x8_1 : Int) := of_decide_eq_true dq27
             have q5 : x8_1 < (a0.size : Int) := of_decide_eq_true dq27
             have hx5 := bt_at a0 x8_1
             replace p5 := eq_true p5
             replace q5 := eq_true q5
             go_wp2
             go_roundg k1
             case measure => have := HK1.out; omega
             case rel => exact ⟨(wrap64 (x8_1 + 1)), dq26, H', ⟨dq30⟩, dq33⟩
            ·rw [if_neg c40] at H
             have c40b0 := beq_eq_false_iff_ne.mpr c40
             have c40b1 := bne_iff_ne.mpr c40
             by_cases c41 : (bt a0 x8_1) = 45
             ·rw [if_pos c41] at H
              have c41b0 := beq_iff_eq.mpr c41
              have c41b1 := bne_eq_false_iff_eq.mpr c41
              clear c41
              have H' := Aside0.mk H
              clear H
              have p5 : 0 ≤ (x8_1 : Int) := of_decide_eq_true dq27
              have q5 : x8_1 < (a0.size : Int) := of_decide_eq_true dq27
              have hx5 := bt_at a0 x8_1
              replace p5 := eq_true p5
              replace q5 := eq_true q5
              go_wp2
              go_roundg k1
              case measure => have := HK1.out; omega
              case rel => exact ⟨(wrap64 (x8_1 + 1)), dq26, H', ⟨dq30⟩, dq33⟩
             ·rw [if_neg c41] at H
              have c41b0 := beq_eq_false_iff_ne.mpr c41
              have c41b1 := bne_iff_ne.mpr c41
              obtain rfl := Option.some.inj H
              have p5 : 0 ≤ (x8_1 : Int) := of_decide_eq_true dq27
              have q5 : x8_1 < (a0.size : Int) := of_decide_eq_true dq27
              have hx5 := bt_at a0 x8_1
              replace p5 := eq_true p5
              replace q5 := eq_true q5
              go_wp2
              go_ret
              exact ⟨dq26, dq33⟩
          ·rw [if_neg c38] at H
           have c38b0 : decide (48 ≤ (bt a0 x8_1)) = false := decide_eq_false c38
           clear c38
           by_cases c42 : (bt a0 x8_1) = 46
           ·rw [if_pos c42] at H
            have c42b0 := beq_iff_eq.mpr c42
            have c42b1 := bne_eq_false_iff_eq.mpr c42
            clear c42
            have H' := Aside0.mk H
            clear H
            have p5 : 0 ≤ (x8_1 : Int) := of_decide_eq_true dq27
            have q5 : x8_1 < (a0.size : Int) := of_decide_eq_true dq27
            have hx5 := bt_at a0 x8_1
            replace p5 := eq_true p5
            replace q5 := eq_true q5
            go_wp2
            go_roundg k1
            case measure => have := HK1.out; omega
            case rel => exact ⟨(wrap64 (x8_1 + 1)), dq26, H', ⟨dq30⟩, dq33⟩
           ·rw [if_neg c42] at H
            have c42b0 := beq_eq_false_iff_ne.mpr c42
            have c42b1 := bne_iff_ne.mpr c42
            by_cases c43 : (bt a0 x8_1) = 45
            ·rw [if_pos c43] at H
             have c43b0 := beq_iff_eq.mpr c43
             have c43b1 := bne_eq_false_iff_eq.mpr c43
             clear c43
             have H' := Aside0.mk H
             clear H
             have p5 : 0 ≤ (x8_1 : Int) := of_decide_eq_true dq27
             have q5 : x8_1 < (a0.size : Int) := of_decide_eq_true dq27
             have hx5 := bt_at a0 x8_1
             replace p5 := eq_true p5
             replace q5 := eq_true q5
             go_wp2
             go_roundg k1
             case measure => have := HK1.out; omega
             case rel => exact ⟨(wrap64 (x8_1 + 1)), dq26, H', ⟨dq30⟩, dq33⟩
            ·rw [if_neg c43] at H
             have c43b0 := beq_eq_false_iff_ne.mpr c43
             have c43b1 := bne_iff_ne.mpr c43
             obtain rfl := Option.some.inj H
             have p5 : 0 ≤ (x8_1 : Int) := of_decide_eq_true dq27
             have q5 : x8_1 < (a0.size : Int) := of_decide_eq_true dq27
             have hx5 := bt_at a0 x8_1
             replace p5 := eq_true p5
             replace q5 := eq_true q5
             go_wp2
             go_ret
             exact ⟨dq26, dq33⟩
     ·rw [if_neg c4] at H
      exact absurd H dq31
    ·rw [if_neg c3] at H
     exact absurd H dq31
   ·rw [if_neg c2] at H
    have c2b0 := decide_eq_false c2
    clear c2
    replace H := Option.bind_eq_some_iff.mp H
    obtain ⟨t303, A440, H⟩ := H
    replace H : (some t303) = some r := H
    have A44 := Aside0.mk A440
    clear A440
    obtain rfl := Option.some.inj H
    go_wp2_with (first | ((with_reducible refine gate_callee (f := 56) rfl ?_); refine goesL_ (some 58) rfl rfl Tryd.func56 dq29 rfl #[.int .i64 (a0.size : Int), .int .i64 1, .int .i64 40] rfl dq28 ?_; (with_reducible refine (impl_in.calls (a0.size : Int) 1 40 t303 _ A44.out).mono ?_); rintro e w' ⟨rfl, ⟨nd, rfl⟩⟩; refine ⟨_, rfl, ?_⟩))
    go_ret
    exact ⟨dq26, dq33⟩

end Go.Proofs.YtpmjpbaeecnpiaaDoor.L

namespace Go.Proofs
open Go.Shelf
def Tryd.lays219_ren : Go.Shelf.Ren := ⟨fun | 219 => 115 | 217 => 124 | 225 => 125 | 224 => 126 | 267 => 127 | 266 => 132 | 314 => 133 | n => n, fun | 9 => 9 | 3 => 3 | 4 => 4 | 5 => 5 | 46 => 120 | 146 => 141 | 51 => 140 | n => n, fun | 1 => 0 | n => n⟩
theorem Tryd.lays219 : Go.Proofs.Lays.n219 Tryd.prog Tryd.lays219_ren := {
  mixed := by kernel_rfl
  f217 := Tryd.func124.trans (congrArg some (by kernel_rfl))
  f219 := Tryd.func115.trans (congrArg some (by kernel_rfl))
  f224 := Tryd.func126.trans (congrArg some (by kernel_rfl))
  f225 := Tryd.func125.trans (congrArg some (by kernel_rfl))
  f266 := Tryd.func132.trans (congrArg some (by kernel_rfl))
  f267 := Tryd.func127.trans (congrArg some (by kernel_rfl))
  f314 := Tryd.func133.trans (congrArg some (by kernel_rfl))
  t3 := Tryd.underlying3
  a3 := Tryd.isAgg3
  z3 := Tryd.sizeOf3
  v3 := Tryd.zeroValue3
  t4 := Tryd.underlying4
  a4 := Tryd.isAgg4
  z4 := Tryd.sizeOf4
  v4 := Tryd.zeroValue4
  t5 := Tryd.underlying5
  a5 := Tryd.isAgg5
  z5 := Tryd.sizeOf5
  v5 := Tryd.zeroValue5
  t9 := Tryd.underlying9
  a9 := Tryd.isAgg9
  z9 := Tryd.sizeOf9
  v9 := Tryd.zeroValue9
  t46 := Tryd.underlying120
  a46 := Tryd.isAgg120
  z46 := Tryd.sizeOf120
  v46 := Tryd.zeroValue120
  t51 := Tryd.underlying140
  a51 := Tryd.isAgg140
  z51 := Tryd.sizeOf140
  v51 := Tryd.zeroValue140
  t146 := Tryd.underlying141
  a146 := Tryd.isAgg141
  z146 := Tryd.sizeOf141
  v146 := Tryd.zeroValue141
  g1 := by kernel_rfl }
open Go.RowKit Go.Lib in
/-- internal/stringslite.Index (what strings.Index calls) AT A substr OF ONE BYTE c: IT RETURNS 'Lib.indexByte s c'; the world is as it was. (LAID: no walk: one application.) -/
theorem Tryd.stringslite_Index_one (s : ByteArray) (c : UInt8) (w : World) :
    Calls Tryd.prog 115 #[.string s, .string ⟨#[c]⟩] w fun e w' => e = .returned (.int .i64 (Lib.indexByte s.data.toList c)) ∧ w' = w := Any.stringslite_Index_one Tryd.lays219 s c w
def Tryd.lays146_ren : Go.Shelf.Ren := ⟨fun | 146 => 81 | 221 => 104 | 268 => 117 | 138 => 118 | 143 => 119 | 195 => 128 | 197 => 129 | 218 => 130 | 219 => 115 | 260 => 134 | 217 => 124 | 225 => 125 | 224 => 126 | 267 => 127 | 266 => 132 | 314 => 133 | n => n, fun | 9 => 9 | 31 => 66 | 3 => 3 | 4 => 4 | 0 => 0 | 105 => 133 | 21 => 21 | 5 => 5 | 46 => 120 | 119 => 136 | 139 => 139 | 138 => 138 | 146 => 141 | 51 => 140 | n => n, fun | 1 => 0 | 3 => 1 | 4 => 2 | n => n⟩
theorem Tryd.lays146 : Go.Proofs.Lays.n146 Tryd.prog Tryd.lays146_ren := {
  mixed := by kernel_rfl
  f138 := Tryd.func118.trans (congrArg some (by kernel_rfl))
  f143 := Tryd.func119.trans (congrArg some (by kernel_rfl))
  f146 := Tryd.func81.trans (congrArg some (by kernel_rfl))
  f195 := Tryd.func128.trans (congrArg some (by kernel_rfl))
  f197 := Tryd.func129.trans (congrArg some (by kernel_rfl))
  f217 := Tryd.func124.trans (congrArg some (by kernel_rfl))
  f218 := Tryd.func130.trans (congrArg some (by kernel_rfl))
  f219 := Tryd.func115.trans (congrArg some (by kernel_rfl))
  f221 := Tryd.func104.trans (congrArg some (by kernel_rfl))
  f224 := Tryd.func126.trans (congrArg some (by kernel_rfl))
  f225 := Tryd.func125.trans (congrArg some (by kernel_rfl))
  f260 := Tryd.func134.trans (congrArg some (by kernel_rfl))
  f266 := Tryd.func132.trans (congrArg some (by kernel_rfl))
  f267 := Tryd.func127.trans (congrArg some (by kernel_rfl))
  f268 := Tryd.func117.trans (congrArg some (by kernel_rfl))
  f314 := Tryd.func133.trans (congrArg some (by kernel_rfl))
  t0 := Tryd.underlying0
  a0 := Tryd.isAgg0
  z0 := Tryd.sizeOf0
  v0 := Tryd.zeroValue0
  t3 := Tryd.underlying3
  a3 := Tryd.isAgg3
  z3 := Tryd.sizeOf3
  v3 := Tryd.zeroValue3
  t4 := Tryd.underlying4
  a4 := Tryd.isAgg4
  z4 := Tryd.sizeOf4
  v4 := Tryd.zeroValue4
  t5 := Tryd.underlying5
  a5 := Tryd.isAgg5
  z5 := Tryd.sizeOf5
  v5 := Tryd.zeroValue5
  t9 := Tryd.underlying9
  a9 := Tryd.isAgg9
  z9 := Tryd.sizeOf9
  v9 := Tryd.zeroValue9
  t21 := Tryd.underlying21
  a21 := Tryd.isAgg21
  z21 := Tryd.sizeOf21
  v21 := Tryd.zeroValue21
  t31 := Tryd.underlying66
  a31 := Tryd.isAgg66
  z31 := Tryd.sizeOf66
  v31 := Tryd.zeroValue66
  t46 := Tryd.underlying120
  a46 := Tryd.isAgg120
  z46 := Tryd.sizeOf120
  v46 := Tryd.zeroValue120
  t51 := Tryd.underlying140
  a51 := Tryd.isAgg140
  z51 := Tryd.sizeOf140
  v51 := Tryd.zeroValue140
  t105 := Tryd.underlying133
  a105 := Tryd.isAgg133
  z105 := Tryd.sizeOf133
  v105 := Tryd.zeroValue133
  t119 := Tryd.underlying136
  a119 := Tryd.isAgg136
  z119 := Tryd.sizeOf136
  t138 := Tryd.underlying138
  a138 := Tryd.isAgg138
  z138 := Tryd.sizeOf138
  v138 := Tryd.zeroValue138
  t139 := Tryd.underlying139
  a139 := Tryd.isAgg139
  z139 := Tryd.sizeOf139
  v139 := Tryd.zeroValue139
  t146 := Tryd.underlying141
  a146 := Tryd.isAgg141
  z146 := Tryd.sizeOf141
  v146 := Tryd.zeroValue141
  g1 := by kernel_rfl
  g3 := by kernel_rfl
  g4 := by kernel_rfl }
open Go.RowKit Go.Lib in
/-- strings.Split. (LAID: no walk: one application.) -/
theorem Tryd.strings_Split (s sep : ByteArray) (m : Int) (w : World) (hs : s.size < 4294967281) (hm : w.cell? ⟨0, 0, none⟩ = some (.int .i64 m)) (h1 : 1 ≤ sep.size) :
    Calls Tryd.prog 81 #[.string s, .string sep] w fun e w' =>
      e = .returned (.slice (some ⟨w.heap.size, 0, none⟩) (Lib.countB s sep + 1) (Lib.countB s sep + 1)) ∧ w' = w.alloc (.cells ((Lib.splitB sep 0 (Lib.countB s sep) s).map Value.string).toArray 9) := Any.strings_Split Tryd.lays146 (by kernel_rfl) s sep m w hs hm h1
def Tryd.laysM146_ren : Go.Shelf.Ren := ⟨fun | 146 => 81 | 221 => 104 | 268 => 117 | 138 => 118 | 143 => 119 | 195 => 128 | 197 => 129 | 218 => 130 | 219 => 115 | 260 => 134 | 217 => 124 | 225 => 125 | 224 => 126 | 267 => 127 | 266 => 132 | 314 => 133 | n => n, fun | 9 => 9 | 31 => 66 | 3 => 3 | 4 => 4 | 0 => 0 | 105 => 133 | 21 => 21 | 5 => 5 | 46 => 120 | 119 => 136 | 139 => 139 | 138 => 138 | 146 => 141 | 51 => 140 | n => n, fun | 1 => 0 | 3 => 1 | 4 => 2 | n => n⟩
theorem Tryd.laysM146 : Go.Proofs.LaysM.n146 Tryd.prog Tryd.laysM146_ren := {
  mixed := by kernel_rfl
  f138 := Tryd.func118.trans (congrArg some (by kernel_rfl))
  f143 := Tryd.func119.trans (congrArg some (by kernel_rfl))
  f146 := Tryd.func81.trans (congrArg some (by kernel_rfl))
  f195 := Tryd.func128.trans (congrArg some (by kernel_rfl))
  f197 := Tryd.func129.trans (congrArg some (by kernel_rfl))
  f217 := Tryd.func124.trans (congrArg some (by kernel_rfl))
  f218 := Tryd.func130.trans (congrArg some (by kernel_rfl))
  f219 := Tryd.func115.trans (congrArg some (by kernel_rfl))
  f221 := Tryd.func104.trans (congrArg some (by kernel_rfl))
  f224 := Tryd.func126.trans (congrArg some (by kernel_rfl))
  f225 := Tryd.func125.trans (congrArg some (by kernel_rfl))
  f260 := Tryd.func134.trans (congrArg some (by kernel_rfl))
  f266 := Tryd.func132.trans (congrArg some (by kernel_rfl))
  f267 := Tryd.func127.trans (congrArg some (by kernel_rfl))
  f268 := Tryd.func117.trans (congrArg some (by kernel_rfl))
  f314 := Tryd.func133.trans (congrArg some (by kernel_rfl))
  t0 := Tryd.underlying0
  a0 := Tryd.isAgg0
  z0 := Tryd.sizeOf0
  v0 := Tryd.zeroValue0
  t3 := Tryd.underlying3
  a3 := Tryd.isAgg3
  z3 := Tryd.sizeOf3
  v3 := Tryd.zeroValue3
  t4 := Tryd.underlying4
  a4 := Tryd.isAgg4
  z4 := Tryd.sizeOf4
  v4 := Tryd.zeroValue4
  t5 := Tryd.underlying5
  a5 := Tryd.isAgg5
  z5 := Tryd.sizeOf5
  v5 := Tryd.zeroValue5
  t9 := Tryd.underlying9
  a9 := Tryd.isAgg9
  z9 := Tryd.sizeOf9
  v9 := Tryd.zeroValue9
  t21 := Tryd.underlying21
  a21 := Tryd.isAgg21
  z21 := Tryd.sizeOf21
  v21 := Tryd.zeroValue21
  t31 := Tryd.underlying66
  a31 := Tryd.isAgg66
  z31 := Tryd.sizeOf66
  v31 := Tryd.zeroValue66
  t46 := Tryd.underlying120
  a46 := Tryd.isAgg120
  z46 := Tryd.sizeOf120
  v46 := Tryd.zeroValue120
  t51 := Tryd.underlying140
  a51 := Tryd.isAgg140
  z51 := Tryd.sizeOf140
  v51 := Tryd.zeroValue140
  t105 := Tryd.underlying133
  a105 := Tryd.isAgg133
  z105 := Tryd.sizeOf133
  v105 := Tryd.zeroValue133
  t119 := Tryd.underlying136
  a119 := Tryd.isAgg136
  z119 := Tryd.sizeOf136
  t138 := Tryd.underlying138
  a138 := Tryd.isAgg138
  z138 := Tryd.sizeOf138
  v138 := Tryd.zeroValue138
  t139 := Tryd.underlying139
  a139 := Tryd.isAgg139
  z139 := Tryd.sizeOf139
  v139 := Tryd.zeroValue139
  t146 := Tryd.underlying141
  a146 := Tryd.isAgg141
  z146 := Tryd.sizeOf141
  v146 := Tryd.zeroValue141
  g1 := by kernel_rfl
  g3 := by kernel_rfl
  g4 := by kernel_rfl
  i0 := by kernel_rfl
  i3 := by kernel_rfl
  i4 := by kernel_rfl
  i5 := by kernel_rfl
  i9 := by kernel_rfl
  i21 := by kernel_rfl
  i31 := by kernel_rfl
  i46 := by kernel_rfl
  i51 := by kernel_rfl
  i105 := by kernel_rfl
  i138 := by kernel_rfl
  i139 := by kernel_rfl
  i146 := by kernel_rfl
  m1 := by kernel_rfl
  s1_3 := fun w h => Go.Proofs.cell_of_shapedOpen_int (zero := #[.int .i64 0]) (t := 3) h (of_decide_eq_true (by kernel_rfl)) (by kernel_rfl) rfl (by kernel_rfl) (by kernel_rfl) Tryd.underlying3
  m3 := by kernel_rfl
  m4 := by kernel_rfl }
def Tryd.lays260_ren : Go.Shelf.Ren := ⟨fun | 260 => 134 | n => n, fun | 9 => 9 | 21 => 21 | 3 => 3 | 4 => 4 | 5 => 5 | 119 => 136 | 0 => 0 | 46 => 120 | 139 => 139 | 138 => 138 | n => n, fun | 3 => 1 | 4 => 2 | n => n⟩
theorem Tryd.lays260 : Go.Proofs.Lays.n260 Tryd.prog Tryd.lays260_ren := {
  mixed := by kernel_rfl
  f260 := Tryd.func134.trans (congrArg some (by kernel_rfl))
  t0 := Tryd.underlying0
  a0 := Tryd.isAgg0
  z0 := Tryd.sizeOf0
  v0 := Tryd.zeroValue0
  t3 := Tryd.underlying3
  a3 := Tryd.isAgg3
  z3 := Tryd.sizeOf3
  v3 := Tryd.zeroValue3
  t4 := Tryd.underlying4
  a4 := Tryd.isAgg4
  z4 := Tryd.sizeOf4
  v4 := Tryd.zeroValue4
  t5 := Tryd.underlying5
  a5 := Tryd.isAgg5
  z5 := Tryd.sizeOf5
  v5 := Tryd.zeroValue5
  t9 := Tryd.underlying9
  a9 := Tryd.isAgg9
  z9 := Tryd.sizeOf9
  v9 := Tryd.zeroValue9
  t21 := Tryd.underlying21
  a21 := Tryd.isAgg21
  z21 := Tryd.sizeOf21
  v21 := Tryd.zeroValue21
  t46 := Tryd.underlying120
  a46 := Tryd.isAgg120
  z46 := Tryd.sizeOf120
  v46 := Tryd.zeroValue120
  t119 := Tryd.underlying136
  a119 := Tryd.isAgg136
  z119 := Tryd.sizeOf136
  t138 := Tryd.underlying138
  a138 := Tryd.isAgg138
  z138 := Tryd.sizeOf138
  v138 := Tryd.zeroValue138
  t139 := Tryd.underlying139
  a139 := Tryd.isAgg139
  z139 := Tryd.sizeOf139
  v139 := Tryd.zeroValue139
  g3 := by kernel_rfl
  g4 := by kernel_rfl }
end Go.Proofs

namespace Go.Proofs.YtpmjpbaeecnpiaaDoor.L
open Go.RowKit Go.Proofs.YtpmjpbaeecnpiaaDoorW.PrintWords Go.Proofs.YtpmjpbaeecnpiaaDoorW.PrintLast Go.Proofs.YtpmjpbaeecnpiaaDoorW.PrintMore
set_option linter.unusedVariables false
set_option linter.unusedSimpArgs false

def strings_Cut.f (a0 : ByteArray) (a1 : ByteArray) : Option (ByteArray × ByteArray × Bool) :=
  match a1.data.toList with
  | [c] => if a0.size ≤ 9223372036854775807 then
      (if 0 ≤ Lib.indexByte a0.data.toList c then some (a0.extract 0 (Lib.indexByte a0.data.toList c).toNat, a0.extract ((Lib.indexByte a0.data.toList c).toNat + 1) a0.size, true) else some (a0, ⟨#[]⟩, false)) else none
  | _ => none
theorem stringslite_cut_yes (s : ByteArray) (c : UInt8) (w : World) (hs : s.size ≤ 9223372036854775807) (i : Nat) (hi : Lib.indexByte s.data.toList c = (i : Int)) (hlt : i < s.size) :
    Calls Tryd.prog 76 #[.string s, .string ⟨#[c]⟩] w fun e w' => e = .returned (.tuple #[.string (s.extract 0 i), .string (s.extract (i + 1) s.size), .bool true]) ∧ Below w.heap.size w w' := by
  have HI := Lib.hid hi
  clear hi
  go_enter Tryd.func76, Tryd.ntmps76
  go_wp2_with (first | (go_at_call 115; refine (Tryd.stringslite_Index_one _ _ _).mono ?_; rintro e w' ⟨rfl, rfl⟩; rw [HI.out]) | go_in)
  have b0 : (0 : Int) ≤ (i : Int) := by omega
  have b1 : (i : Int) ≤ (s.size : Int) := by omega
  have b2 : (i : Int) + 1 ≤ (s.size : Int) := by omega
  have b3 : (0 : Int) ≤ (i : Int) + 1 := by omega
  have b4 : ((i : Int) + 1).toNat = i + 1 := by omega
  go_quiet (fail)
  go_wp2
  go_ret3
  go_wp2
  go_ret3
  exact ⟨rfl, pw_below_drewN (Below.refl _ _) _⟩
theorem stringslite_cut_no (s : ByteArray) (c : UInt8) (w : World) (hi : Lib.indexByte s.data.toList c = -1) :
    Calls Tryd.prog 76 #[.string s, .string ⟨#[c]⟩] w fun e w' => e = .returned (.tuple #[.string s, .string ⟨#[]⟩, .bool false]) ∧ Below w.heap.size w w' := by
  have HI := Lib.hid hi
  clear hi
  go_enter Tryd.func76, Tryd.ntmps76
  go_wp2_with (first | (go_at_call 115; refine (Tryd.stringslite_Index_one _ _ _).mono ?_; rintro e w' ⟨rfl, rfl⟩; rw [HI.out]) | go_in)
  go_ret3
  go_wp2
  go_ret3
  exact ⟨rfl, Below.refl _ _⟩
theorem strings_Cut.calls (a0 : ByteArray) (a1 : ByteArray) (r1 : ByteArray) (r2 : ByteArray) (r3 : Bool) (w : World) (h : strings_Cut.f a0 a1 = some (r1, r2, r3)) :
    Calls Tryd.prog 76 #[.string a0, .string a1] w fun e w' => e = .returned (.tuple #[.string r1, .string r2, .bool r3]) ∧ Below w.heap.size w w' := by
  unfold strings_Cut.f at h
  obtain ⟨⟨l⟩⟩ := a1
  match l, h with
  | [], h => simp at h
  | [c], h =>
    simp only at h
    by_cases hs : a0.size ≤ 9223372036854775807
    · rw [if_pos hs] at h
      by_cases h0 : 0 ≤ Lib.indexByte a0.data.toList c
      · rw [if_pos h0] at h
        simp only [Option.some.injEq, Prod.mk.injEq] at h
        obtain ⟨rfl, rfl, rfl⟩ := h
        obtain ⟨i, hi⟩ := Int.eq_ofNat_of_zero_le h0
        have hl : i < a0.size := by
          have := (Lib.indexByte_some hi).1
          have := (List.getElem?_eq_some_iff.1 this).1
          simpa using this
        rw [hi]
        exact stringslite_cut_yes a0 c w hs i hi hl
      · rw [if_neg h0] at h
        simp only [Option.some.injEq, Prod.mk.injEq] at h
        obtain ⟨rfl, rfl, rfl⟩ := h
        exact stringslite_cut_no a0 c w (by have := Lib.indexByte_ge a0.data.toList c; omega)
    · rw [if_neg hs] at h
      cases h
  | _ :: _ :: _, h => simp at h
end Go.Proofs.YtpmjpbaeecnpiaaDoor.L

namespace Go.Proofs.YtpmjpbaeecnpiaaDoor.L
open Go.RowKit Go.Proofs.YtpmjpbaeecnpiaaDoorW.PrintWords Go.Proofs.YtpmjpbaeecnpiaaDoorW.PrintLast Go.Proofs.YtpmjpbaeecnpiaaDoorW.PrintMore
attribute [local go_sem] max2_int min2_int max_two min_two max_three min_three max_four min_four
set_option linter.unusedVariables false
set_option linter.unusedSimpArgs false

/-! ### impl_Split: function 38 -/
def impl_Split.j0 : Nat → ByteArray → ByteArray → ByteArray → Bool → Bool → Option (ByteArray × ByteArray × Bool)
 | 0, _, _, _, _, _ => none
 | k + 1, x0, x5, x6, x7, x14 => if x14 = true then (some ((⟨#[]⟩ : ByteArray), x0, true)) else (if x7 = true then ((impl_NameOk.f k x5).bind fun t320 => (if t320 = true then ((impl_NameOk.f k x6).bind fun t321 => (if t321 = true then (some (x5, x6, true)) else (some ((⟨#[]⟩ : ByteArray), (⟨#[]⟩ : ByteArray), false)))) else (some ((⟨#[]⟩ : ByteArray), (⟨#[]⟩ : ByteArray), false)))) else (some ((⟨#[]⟩ : ByteArray), (⟨#[]⟩ : ByteArray), false)))
def impl_Split.f (k : Nat) (a0 : ByteArray) : Option (ByteArray × ByteArray × Bool) := (strings_Cut.f a0 (⟨#[58]⟩ : ByteArray)).bind fun bt316 => (if bt316.2.2 = true then (impl_Split.j0 k a0 bt316.1 bt316.2.1 bt316.2.2 false) else ((impl_NameOk.f k a0).bind fun t319 => (impl_Split.j0 k a0 bt316.1 bt316.2.1 bt316.2.2 t319)))
set_option maxHeartbeats 8000000 in
set_option maxRecDepth 100000 in
theorem impl_Split.calls (k : Nat) (a0 : ByteArray) (r1 : ByteArray) (r2 : ByteArray) (r3 : Bool) (w : World) (h : impl_Split.f k a0 = some (r1, r2, r3)) :
  Calls Tryd.prog 38 #[.string a0] w fun e w' => e = .returned (.tuple #[.string r1, .string r2, .bool r3]) ∧ Below w.heap.size w w' := by
 have HB := Aside0.mk (Below.refl w.heap.size w)
 have H : ((strings_Cut.f a0 (⟨#[58]⟩ : ByteArray)).bind fun bt316 => (if bt316.2.2 = true then (impl_Split.j0 k a0 bt316.1 bt316.2.1 bt316.2.2 false) else ((impl_NameOk.f k a0).bind fun t319 => (impl_Split.j0 k a0 bt316.1 bt316.2.1 bt316.2.2 t319)))) = some (r1, r2, r3) := h
 clear h
 replace H := Option.bind_eq_some_iff.mp H
 obtain ⟨⟨t316, t317, t318⟩, A20, H⟩ := H
 replace H : (if t318 = true then (impl_Split.j0 k a0 t316 t317 t318 false) else ((impl_NameOk.f k a0).bind fun t319 => (impl_Split.j0 k a0 t316 t317 t318 t319))) = some (r1, r2, r3) := H
 have A2 := Aside0.mk A20
 clear A20
 have HC3 := Aside0.mk H
 clear H
 go_enter Tryd.func38, Tryd.ntmps38
 go_upto_region 2 with (first | ((with_reducible refine gate_callee (f := 76) rfl ?_); refine goesL_ (some 10) rfl rfl Tryd.func76 dq29 rfl #[.string a0, .string (⟨#[58]⟩ : ByteArray)] rfl dq28 ?_; (with_reducible refine (strings_Cut.calls a0 (⟨#[58]⟩ : ByteArray) t316 t317 t318 _ A2.out).mono ?_); rintro e w4 ⟨rfl, hb⟩; refine ⟨_, rfl, ?_⟩; have n0_ := Aside0.mk (below_step dq23 hb); clear HB; have HB := n0_; clear n0_; (try clear hb); (try clear hb2); (try clear hk); (try clear hi)))
 (try simp only [Act.put, List.setIfInBounds_toArray, List.set_cons_zero, List.set_cons_succ])
 go_cut [14] (fun v14 wc => ∃ (kq : Nat) (x14_2 : Bool), v14 = .bool x14_2 ∧ Aside0 (impl_Split.j0 kq a0 t316 t317 t318 x14_2 = some (r1, r2, r3)) ∧ Aside0 (kq ≤ k) ∧ Aside0 (Below w.heap.size w wc))
 case first =>
  have H := HC3.out
  clear HC3
  by_cases c5 : t318 = true
  ·subst c5
   have H1 : (impl_Split.j0 k a0 t316 t317 true false) = some (r1, r2, r3) := by rw [if_pos rfl] at H; exact H
   clear H
   have H := H1
   clear H1
   have H' := Aside0.mk H
   clear H
   go_wp2
   go_meet
   case rel => exact ⟨_, (false), dq26, H', ⟨dq35⟩, ⟨dq23⟩⟩
  ·replace c5 := Bool.eq_false_iff.mpr c5
   subst c5
   have H1 : ((impl_NameOk.f k a0).bind fun t319 => (impl_Split.j0 k a0 t316 t317 false t319)) = some (r1, r2, r3) := by rw [if_neg (show ¬ (false = true) by decide)] at H; exact H
   clear H
   have H := H1
   clear H1
   replace H := Option.bind_eq_some_iff.mp H
   obtain ⟨t319, A60, H⟩ := H
   replace H : (impl_Split.j0 k a0 t316 t317 false t319) = some (r1, r2, r3) := H
   have A6 := Aside0.mk A60
   clear A60
   have H' := Aside0.mk H
   clear H
   go_wp2_with (first | (go_at_call 21; (with_reducible refine (impl_NameOk.calls k a0 t319 _ A6.out).mono ?_); rintro e w' ⟨rfl, ⟨nd, rfl⟩⟩))
   go_meet
   case rel => exact ⟨_, (t319), dq26, H', ⟨dq35⟩, ⟨dq23⟩⟩
 case rest =>
  clear HC3
  try clear p2
  try clear c3
  try clear c5
  obtain ⟨kq, x14_2, rfl, HA, HJ2, HB⟩ := hcut
  cases kq with
  | zero => exact absurd HA.out (by simp [impl_Split.j0])
  | succ kj2 =>
   have H := HA.out
   clear HA
   simp only [impl_Split.j0] at H
   by_cases c7 : x14_2 = true
   ·subst c7
    have H1 : (some ((⟨#[]⟩ : ByteArray), a0, true)) = some (r1, r2, r3) := by rw [if_pos rfl] at H; exact H
    clear H
    have H := H1
    clear H1
    simp only [Option.some.injEq, Prod.mk.injEq] at H
    obtain ⟨rfl, rfl, rfl⟩ := H
    go_wp2
    go_ret3
    exact ⟨dq25, dq23⟩
   ·replace c7 := Bool.eq_false_iff.mpr c7
    subst c7
    have H1 : (if t318 = true then ((impl_NameOk.f kj2 t316).bind fun t320 => (if t320 = true then ((impl_NameOk.f kj2 t317).bind fun t321 => (if t321 = true then (some (t316, t317, true)) else (some ((⟨#[]⟩ : ByteArray), (⟨#[]⟩ : ByteArray), false)))) else (some ((⟨#[]⟩ : ByteArray), (⟨#[]⟩ : ByteArray), false)))) else (some ((⟨#[]⟩ : ByteArray), (⟨#[]⟩ : ByteArray), false))) = some (r1, r2, r3) := by rw [if_neg (show ¬ (false = true) by decide)] at H; exact H
    clear H
    have H := H1
    clear H1
    by_cases c8 : t318 = true
    ·subst c8
     have H1 : ((impl_NameOk.f kj2 t316).bind fun t320 => (if t320 = true then ((impl_NameOk.f kj2 t317).bind fun t321 => (if t321 = true then (some (t316, t317, true)) else (some ((⟨#[]⟩ : ByteArray), (⟨#[]⟩ : ByteArray), false)))) else (some ((⟨#[]⟩ : ByteArray), (⟨#[]⟩ : ByteArray), false)))) = some (r1, r2, r3) := by rw [if_pos rfl] at H; exact H
     clear H
     have H := H1
     clear H1
     replace H := Option.bind_eq_some_iff.mp H
     obtain ⟨t320, A90, H⟩ := H
     replace H : (if t320 = true then ((impl_NameOk.f kj2 t317).bind fun t321 => (if t321 = true then (some (t316, t317, true)) else (some ((⟨#[]⟩ : ByteArray), (⟨#[]⟩ : ByteArray), false)))) else (some ((⟨#[]⟩ : ByteArray), (⟨#[]⟩ : ByteArray), false))) = some (r1, r2, r3) := H
     have A9 := Aside0.mk A90
     clear A90
     by_cases c10 : t320 = true
     ·subst c10
      have H1 : ((impl_NameOk.f kj2 t317).bind fun t321 => (if t321 = true then (some (t316, t317, true)) else (some ((⟨#[]⟩ : ByteArray), (⟨#[]⟩ : ByteArray), false)))) = some (r1, r2, r3) := by rw [if_pos rfl] at H; exact H
      clear H
      have H := H1
      clear H1
      replace H := Option.bind_eq_some_iff.mp H
      obtain ⟨t321, A110, H⟩ := H
      replace H : (if t321 = true then (some (t316, t317, true)) else (some ((⟨#[]⟩ : ByteArray), (⟨#[]⟩ : ByteArray), false))) = some (r1, r2, r3) := H
      have A11 := Aside0.mk A110
      clear A110
      by_cases c12 : t321 = true
      ·subst c12
       have H1 : (some (t316, t317, true)) = some (r1, r2, r3) := by rw [if_pos rfl] at H; exact H
       clear H
       have H := H1
       clear H1
       simp only [Option.some.injEq, Prod.mk.injEq] at H
       obtain ⟨rfl, rfl, rfl⟩ := H
       go_wp2_with (first | (go_at_call 21; (with_reducible refine (impl_NameOk.calls kj2 t316 true _ A9.out).mono ?_); rintro e w' ⟨rfl, ⟨nd, rfl⟩⟩) | (go_at_call 21; (with_reducible refine (impl_NameOk.calls kj2 t317 true _ A11.out).mono ?_); rintro e w' ⟨rfl, ⟨nd, rfl⟩⟩))
       go_ret3
       exact ⟨dq25, dq23⟩
      ·replace c12 := Bool.eq_false_iff.mpr c12
       subst c12
       have H1 : (some ((⟨#[]⟩ : ByteArray), (⟨#[]⟩ : ByteArray), false)) = some (r1, r2, r3) := by rw [if_neg (show ¬ (false = true) by decide)] at H; exact H
       clear H
       have H := H1
       clear H1
       simp only [Option.some.injEq, Prod.mk.injEq] at H
       obtain ⟨rfl, rfl, rfl⟩ := H
       go_wp2_with (first | (go_at_call 21; (with_reducible refine (impl_NameOk.calls kj2 t316 true _ A9.out).mono ?_); rintro e w' ⟨rfl, ⟨nd, rfl⟩⟩) | (go_at_call 21; (with_reducible refine (impl_NameOk.calls kj2 t317 false _ A11.out).mono ?_); rintro e w' ⟨rfl, ⟨nd, rfl⟩⟩))
       go_ret3
       exact ⟨dq25, dq23⟩
     ·replace c10 := Bool.eq_false_iff.mpr c10
      subst c10
      have H1 : (some ((⟨#[]⟩ : ByteArray), (⟨#[]⟩ : ByteArray), false)) = some (r1, r2, r3) := by rw [if_neg (show ¬ (false = true) by decide)] at H; exact H
      clear H
      have H := H1
      clear H1
      simp only [Option.some.injEq, Prod.mk.injEq] at H
      obtain ⟨rfl, rfl, rfl⟩ := H
      go_wp2_with (first | (go_at_call 21; (with_reducible refine (impl_NameOk.calls kj2 t316 false _ A9.out).mono ?_); rintro e w' ⟨rfl, ⟨nd, rfl⟩⟩))
      go_ret3
      exact ⟨dq25, dq23⟩
    ·replace c8 := Bool.eq_false_iff.mpr c8
     subst c8
     have H1 : (some ((⟨#[]⟩ : ByteArray), (⟨#[]⟩ : ByteArray), false)) = some (r1, r2, r3) := by rw [if_neg (show ¬ (false = true) by decide)] at H; exact H
     clear H
     have H := H1
     clear H1
     simp only [Option.some.injEq, Prod.mk.injEq] at H
     obtain ⟨rfl, rfl, rfl⟩ := H
     go_wp2
     go_ret3
     exact ⟨dq25, dq23⟩

/-! ### impl_isQualified: function 97 -/
def impl_isQualified.f (k : Nat) (a0 : ByteArray) : Option (Bool) := (impl_Split.f k a0).bind fun bt322 => (some bt322.2.2)
set_option maxHeartbeats 8000000 in
set_option maxRecDepth 100000 in
theorem impl_isQualified.calls (k : Nat) (a0 : ByteArray) (r : Bool) (w : World) (h : impl_isQualified.f k a0 = some r) :
  Calls Tryd.prog 97 #[.string a0] w fun e w' => e = .returned (.bool r) ∧ Below w.heap.size w w' := by
 have HB := Aside0.mk (Below.refl w.heap.size w)
 have H : ((impl_Split.f k a0).bind fun bt322 => (some bt322.2.2)) = some r := h
 clear h
 replace H := Option.bind_eq_some_iff.mp H
 obtain ⟨⟨t322, t323, t324⟩, A20, H⟩ := H
 replace H : (some t324) = some r := H
 have A2 := Aside0.mk A20
 clear A20
 obtain rfl := Option.some.inj H
 go_enter Tryd.func97, Tryd.ntmps97
 go_wp2_with (first | ((with_reducible refine gate_callee (f := 38) rfl ?_); refine goesL_ (some 8) rfl rfl Tryd.func38 dq29 rfl #[.string a0] rfl dq28 ?_; (with_reducible refine (impl_Split.calls k a0 t322 t323 t324 _ A2.out).mono ?_); rintro e w3 ⟨rfl, hb⟩; refine ⟨_, rfl, ?_⟩; have n0_ := Aside0.mk (below_step dq23 hb); clear HB; have HB := n0_; clear n0_; (try clear hb); (try clear hb2); (try clear hk); (try clear hi)))
 go_ret
 exact ⟨dq25, dq23⟩

/-! ### impl_Item_isGood: function 71 -/
mutual
def impl_Item_isGood.j0 : Nat → Bool → Int → ByteArray → ByteArray → List (S46) → Option (Bool)
 | 0, _, _, _, _, _ => none
 | k + 1, x38, x326000, x326001, x326002, x326003 => if x38 = true then (some false) else (impl_Item_isGood.l0 k x326003 (x326003.length : Int) 0 x326000 x326001 x326002 x326003)
def impl_Item_isGood.l0 : Nat → List (S46) → Int → Int → Int → ByteArray → ByteArray → List (S46) → Option (Bool)
 | 0, _, _, _, _, _, _, _ => none
 | k + 1, x40, x41, x42, x326000, x326001, x326002, x326003 => if x42 < x41 then (if 0 ≤ x42 then (if x42 < (x40.length : Int) then ((impl_isQualified.f k ((rd_T46 x40 x42).f0)).bind fun t330 => (if t330 = true then ((impl_isPlain.f k ((rd_T46 x40 x42).f1)).bind fun t331 => (impl_Item_isGood.j2 k x42 x40 x41 x42 (!t331) x326000 x326001 x326002 x326003 ((rd_T46 x40 x42).f0) ((rd_T46 x40 x42).f1))) else (impl_Item_isGood.j2 k x42 x40 x41 x42 true x326000 x326001 x326002 x326003 ((rd_T46 x40 x42).f0) ((rd_T46 x40 x42).f1)))) else (none)) else (none)) else (some true)
def impl_Item_isGood.j2 : Nat → Int → List (S46) → Int → Int → Bool → Int → ByteArray → ByteArray → List (S46) → ByteArray → ByteArray → Option (Bool)
 | 0, _, _, _, _, _, _, _, _, _, _, _ => none
 | k + 1, x3, x40, x41, x42, x56, x326000, x326001, x326002, x326003, x330000, x330001 => if x56 = true then (some false) else (if 0 ≤ x3 then (if x3 ≤ (x326003.length : Int) then ((some (x326003.take (x3 : Int).toNat : List (S46))).bind fun y332 => (impl_Item_isGood.l1 k x40 x41 x42 y332 (y332.length : Int) 0 x326000 x326001 x326002 x326003 x330000 x330001)) else (none)) else (none))
def impl_Item_isGood.l1 : Nat → List (S46) → Int → Int → List (S46) → Int → Int → Int → ByteArray → ByteArray → List (S46) → ByteArray → ByteArray → Option (Bool)
 | 0, _, _, _, _, _, _, _, _, _, _, _, _ => none
 | k + 1, x40, x41, x42, x60, x61, x62, x326000, x326001, x326002, x326003, x330000, x330001 => if x62 < x61 then (if 0 ≤ x62 then (if x62 < (x60.length : Int) then (if x330000.toList = ((rd_T46 x60 x62).f0).toList then (some false) else (impl_Item_isGood.l1 k x40 x41 x42 x60 x61 (wrap64 (x62 + 1)) x326000 x326001 x326002 x326003 x330000 x330001)) else (none)) else (none)) else (impl_Item_isGood.l0 k x40 x41 (wrap64 (x42 + 1)) x326000 x326001 x326002 x326003)
end
def impl_Item_isGood.f (k : Nat) (a0_0 : Int) (a0_1 : ByteArray) (a0_2 : ByteArray) (l0_3 : List (S46)) : Option (Bool) := if a0_1.toList = ([] : List UInt8) then (if a0_2.toList = ([] : List UInt8) then (some false) else ((impl_isPlain.f k a0_2).bind fun t326 => (if t326 = true then (some ((l0_3.length : Int) == 0)) else (some false)))) else ((impl_isQualified.f k a0_1).bind fun t327 => (if t327 = true then (if a0_2.toList = ([] : List UInt8) then (impl_Item_isGood.j0 k (decide ((l0_3.length : Int) > 10)) a0_0 a0_1 a0_2 l0_3) else (impl_Item_isGood.j0 k true a0_0 a0_1 a0_2 l0_3)) else (impl_Item_isGood.j0 k true a0_0 a0_1 a0_2 l0_3)))
set_option maxHeartbeats 8000000 in
set_option maxRecDepth 100000 in
theorem impl_Item_isGood.calls (k : Nat) (a0_0 : Int) (a0_1 : ByteArray) (a0_2 : ByteArray) (A0_3 : Option Addr) (c0_3 : Nat) (l0_3 : List (S46)) (r : Bool) (w : World) (hT : Gl w) (hr0_3 : Kd.C k46 w A0_3 l0_3.length l0_3) (hc0_3 : l0_3.length ≤ c0_3) (h : impl_Item_isGood.f k a0_0 a0_1 a0_2 l0_3 = some r) :
  Calls Tryd.prog 71 #[.agg #[.int .i64 a0_0, .string a0_1, .string a0_2, .slice A0_3 l0_3.length c0_3]] w fun e w' => e = .returned (.bool r) ∧ Below w.heap.size w w' := by
 have hu39 := Tryd.underlying39
 have hu46 := Tryd.underlying46
 have HR0_3 := Aside0.mk hr0_3
 have HC0_3 := Aside0.mk hc0_3
 clear hr0_3 hc0_3
 have HT := Aside0.mk hT
 clear hT
 have HB := Aside0.mk (Below.refl w.heap.size w)
 have H : (if a0_1.toList = ([] : List UInt8) then (if a0_2.toList = ([] : List UInt8) then (some false) else ((impl_isPlain.f k a0_2).bind fun t326 => (if t326 = true then (some ((l0_3.length : Int) == 0)) else (some false)))) else ((impl_isQualified.f k a0_1).bind fun t327 => (if t327 = true then (if a0_2.toList = ([] : List UInt8) then (impl_Item_isGood.j0 k (decide ((l0_3.length : Int) > 10)) a0_0 a0_1 a0_2 l0_3) else (impl_Item_isGood.j0 k true a0_0 a0_1 a0_2 l0_3)) else (impl_Item_isGood.j0 k true a0_0 a0_1 a0_2 l0_3)))) = some r := h
 clear h
 by_cases c2 : a0_1.toList = ([] : List UInt8)
 ·rw [if_pos c2] at H
  have c2b0 := beq_iff_eq.mpr c2
  have c2b1 := bne_eq_false_iff_eq.mpr c2
  clear c2
  by_cases c3 : a0_2.toList = ([] : List UInt8)
  ·rw [if_pos c3] at H
   have c3b0 := beq_iff_eq.mpr c3
   have c3b1 := bne_eq_false_iff_eq.mpr c3
   clear c3
   obtain rfl := Option.some.inj H
   go_enter Tryd.func71, Tryd.ntmps71
   go_wp2_with (first | ((with_reducible refine gate_dst (N := 1) rfl ?_); (try (refine gate_guard (by rfl) ?_; dsimp only)); refine box_event ?hg (N := 1) ?hd (cs := #[.int .i64 a0_0, .string a0_1, .string a0_2, .slice A0_3 l0_3.length c0_3]) (t := 39) ?hr ?_; (case hd => rfl); (case hg => rfl); (case hr => exact dq0); intro gb325 hg w4 hbox hb; have n0_ := Aside0.mk (below_step dq23 hb); have n1_ := Aside0.mk (hbox); have n2_ := Aside0.mk ((dq22 : w.heap.size ≤ gb325)); have n3_ := Aside0.mk ((dq22 : w.heap.size ≤ gb325)); clear HB; have HB := n0_; have BK325 := n1_; have GW325 := n2_; have GE325 := n3_; clear n0_ n1_ n2_ n3_; clear hb hbox hg; obtain ⟨⟨hcz5_0, hcz5_1, hcz5_2, hcz5_3⟩, hfz5_0, hfz5_1, hfz5_2, hfz5_3⟩ := blkC4 BK325.out))
   go_ret
   exact ⟨dq25, dq93⟩
  ·rw [if_neg c3] at H
   have c3b0 := beq_eq_false_iff_ne.mpr c3
   have c3b1 := bne_iff_ne.mpr c3
   replace H := Option.bind_eq_some_iff.mp H
   obtain ⟨t326, A60, H⟩ := H
   replace H : (if t326 = true then (some ((l0_3.length : Int) == 0)) else (some false)) = some r := H
   have A6 := Aside0.mk A60
   clear A60
   by_cases c7 : t326 = true
   ·subst c7
    have H1 : (some ((l0_3.length : Int) == 0)) = some r := by rw [if_pos rfl] at H; exact H
    clear H
    have H := H1
    clear H1
    obtain rfl := Option.some.inj H
    go_enter Tryd.func71, Tryd.ntmps71
    go_wp2_with (first | ((with_reducible refine gate_dst (N := 1) rfl ?_); (try (refine gate_guard (by rfl) ?_; dsimp only)); refine box_event ?hg (N := 1) ?hd (cs := #[.int .i64 a0_0, .string a0_1, .string a0_2, .slice A0_3 l0_3.length c0_3]) (t := 39) ?hr ?_; (case hd => rfl); (case hg => rfl); (case hr => exact dq0); intro gb325 hg w8 hbox hb; have n0_ := Aside0.mk (below_step dq23 hb); have n1_ := Aside0.mk (hbox); have n2_ := Aside0.mk ((dq22 : w.heap.size ≤ gb325)); have n3_ := Aside0.mk ((dq22 : w.heap.size ≤ gb325)); clear HB; have HB := n0_; have BK325 := n1_; have GW325 := n2_; have GE325 := n3_; clear n0_ n1_ n2_ n3_; clear hb hbox hg; obtain ⟨⟨hcz9_0, hcz9_1, hcz9_2, hcz9_3⟩, hfz9_0, hfz9_1, hfz9_2, hfz9_3⟩ := blkC4 BK325.out) | (go_at_call 96; (with_reducible refine (impl_isPlain.calls k a0_2 true _ ?side1 A6.out).mono ?_); (case side1 => exact dq9); rintro e w10 ⟨rfl, hb⟩; have n0_ := Aside0.mk (blk_below (g := gb325) (o := .cells #[.int .i64 a0_0, .string a0_1, .string a0_2, .slice A0_3 l0_3.length c0_3] 39 (0, 0)) dq94 hb); have n1_ := Aside0.mk (below_step dq93 hb); clear BK325; clear HB; have BK325 := n0_; have HB := n1_; clear n0_ n1_; (try clear hb); (try clear hb2); (try clear hk); (try clear hi); obtain ⟨⟨hcz11_0, hcz11_1, hcz11_2, hcz11_3⟩, hfz11_0, hfz11_1, hfz11_2, hfz11_3⟩ := blkC4 BK325.out))
    go_ret
    exact ⟨dq25, dq93⟩
   ·replace c7 := Bool.eq_false_iff.mpr c7
    subst c7
    have H1 : (some false) = some r := by rw [if_neg (show ¬ (false = true) by decide)] at H; exact H
    clear H
    have H := H1
    clear H1
    obtain rfl := Option.some.inj H
    go_enter Tryd.func71, Tryd.ntmps71
    go_wp2_with (first | ((with_reducible refine gate_dst (N := 1) rfl ?_); (try (refine gate_guard (by rfl) ?_; dsimp only)); refine box_event ?hg (N := 1) ?hd (cs := #[.int .i64 a0_0, .string a0_1, .string a0_2, .slice A0_3 l0_3.length c0_3]) (t := 39) ?hr ?_; (case hd => rfl); (case hg => rfl); (case hr => exact dq0); intro gb325 hg w12 hbox hb; have n0_ := Aside0.mk (below_step dq23 hb); have n1_ := Aside0.mk (hbox); have n2_ := Aside0.mk ((dq22 : w.heap.size ≤ gb325)); have n3_ := Aside0.mk ((dq22 : w.heap.size ≤ gb325)); clear HB; have HB := n0_; have BK325 := n1_; have GW325 := n2_; have GE325 := n3_; clear n0_ n1_ n2_ n3_; clear hb hbox hg; obtain ⟨⟨hcz13_0, hcz13_1, hcz13_2, hcz13_3⟩, hfz13_0, hfz13_1, hfz13_2, hfz13_3⟩ := blkC4 BK325.out) | (go_at_call 96; (with_reducible refine (impl_isPlain.calls k a0_2 false _ ?side1 A6.out).mono ?_); (case side1 => exact dq9); rintro e w14 ⟨rfl, hb⟩; have n0_ := Aside0.mk (blk_below (g := gb325) (o := .cells #[.int .i64 a0_0, .string a0_1, .string a0_2, .slice A0_3 l0_3.length c0_3] 39 (0, 0)) dq94 hb); have n1_ := Aside0.mk (below_step dq93 hb); clear BK325; clear HB; have BK325 := n0_; have HB := n1_; clear n0_ n1_; (try clear hb); (try clear hb2); (try clear hk); (try clear hi)))
    go_ret
    exact ⟨dq25, dq93⟩
 ·rw [if_neg c2] at H
  have c2b0 := beq_eq_false_iff_ne.mpr c2
  have c2b1 := bne_iff_ne.mpr c2
  have HC15 := Aside0.mk H
  clear H
  go_enter Tryd.func71, Tryd.ntmps71
  go_upto_region 3 with (first | ((with_reducible refine gate_dst (N := 1) rfl ?_); (try (refine gate_guard (by rfl) ?_; dsimp only)); refine box_event ?hg (N := 1) ?hd (cs := #[.int .i64 a0_0, .string a0_1, .string a0_2, .slice A0_3 l0_3.length c0_3]) (t := 39) ?hr ?_; (case hd => rfl); (case hg => rfl); (case hr => exact dq0); intro gb325 hg w16 hbox hb; have n0_ := Aside0.mk (below_step dq23 hb); have n1_ := Aside0.mk (hbox); have n2_ := Aside0.mk ((dq22 : w.heap.size ≤ gb325)); have n3_ := Aside0.mk ((dq22 : w.heap.size ≤ gb325)); clear HB; have HB := n0_; have BK325 := n1_; have GW325 := n2_; have GE325 := n3_; clear n0_ n1_ n2_ n3_; clear hb hbox hg; obtain ⟨⟨hcz17_0, hcz17_1, hcz17_2, hcz17_3⟩, hfz17_0, hfz17_1, hfz17_2, hfz17_3⟩ := blkC4 BK325.out))
  (try simp only [Act.put, List.setIfInBounds_toArray, List.set_cons_zero, List.set_cons_succ])
  go_cut [38] (fun v38 wc => ∃ (kq : Nat) (x38_14 : Bool), v38 = .bool x38_14 ∧ Aside0 (impl_Item_isGood.j0 kq x38_14 a0_0 a0_1 a0_2 l0_3 = some r) ∧ Aside0 (kq ≤ k) ∧ Aside0 (wc.heap[gb325]? = some (.cells #[.int .i64 a0_0, .string a0_1, .string a0_2, (.slice A0_3 l0_3.length c0_3)] 39 (0, 0))) ∧ Aside0 (Below w.heap.size w wc))
  case first =>
   have H := HC15.out
   clear HC15
   replace H := Option.bind_eq_some_iff.mp H
   obtain ⟨t327, A180, H⟩ := H
   replace H : (if t327 = true then (if a0_2.toList = ([] : List UInt8) then (impl_Item_isGood.j0 k (decide ((l0_3.length : Int) > 10)) a0_0 a0_1 a0_2 l0_3) else (impl_Item_isGood.j0 k true a0_0 a0_1 a0_2 l0_3)) else (impl_Item_isGood.j0 k true a0_0 a0_1 a0_2 l0_3)) = some r := H
   have A18 := Aside0.mk A180
   clear A180
   by_cases c19 : t327 = true
   ·subst c19
    have H1 : (if a0_2.toList = ([] : List UInt8) then (impl_Item_isGood.j0 k (decide ((l0_3.length : Int) > 10)) a0_0 a0_1 a0_2 l0_3) else (impl_Item_isGood.j0 k true a0_0 a0_1 a0_2 l0_3)) = some r := by rw [if_pos rfl] at H; exact H
    clear H
    have H := H1
    clear H1
    by_cases c20 : a0_2.toList = ([] : List UInt8)
    ·rw [if_pos c20] at H
     have c20b0 := beq_iff_eq.mpr c20
     have c20b1 := bne_eq_false_iff_eq.mpr c20
     clear c20
     (first | rw [c20b0] | (simp only [i64_w, i32_w]; rw [c20b0]) | skip)
     have H' := Aside0.mk H
     clear H
     obtain ⟨⟨hcz21_0, hcz21_1, hcz21_2, hcz21_3⟩, hfz21_0, hfz21_1, hfz21_2, hfz21_3⟩ := blkC4 BK325.out
     go_wp2_with (first | ((with_reducible refine gate_callee (f := 97) rfl ?_); refine goesL_ (some 26) rfl rfl Tryd.func97 dq29 rfl #[.string a0_1] rfl dq28 ?_; (with_reducible refine (impl_isQualified.calls k a0_1 true _ A18.out).mono ?_); rintro e w22 ⟨rfl, hb⟩; refine ⟨_, rfl, ?_⟩; have n0_ := Aside0.mk (blk_below (g := gb325) (o := .cells #[.int .i64 a0_0, .string a0_1, .string a0_2, .slice A0_3 l0_3.length c0_3] 39 (0, 0)) dq94 hb); have n1_ := Aside0.mk (below_step dq93 hb); clear BK325; clear HB; have BK325 := n0_; have HB := n1_; clear n0_ n1_; (try clear hb); (try clear hb2); (try clear hk); (try clear hi); obtain ⟨⟨hcz23_0, hcz23_1, hcz23_2, hcz23_3⟩, hfz23_0, hfz23_1, hfz23_2, hfz23_3⟩ := blkC4 BK325.out))
     go_meet
     case rel => exact ⟨_, (decide ((l0_3.length : Int) > 10)), dq26, H', ⟨dq35⟩, ⟨dq94⟩, ⟨dq93⟩⟩
    ·rw [if_neg c20] at H
     have c20b0 := beq_eq_false_iff_ne.mpr c20
     have c20b1 := bne_iff_ne.mpr c20
     (first | rw [c20b0] | (simp only [i64_w, i32_w]; rw [c20b0]) | skip)
     have H' := Aside0.mk H
     clear H
     obtain ⟨⟨hcz24_0, hcz24_1, hcz24_2, hcz24_3⟩, hfz24_0, hfz24_1, hfz24_2, hfz24_3⟩ := blkC4 BK325.out
     go_wp2_with (first | ((with_reducible refine gate_callee (f := 97) rfl ?_); refine goesL_ (some 26) rfl rfl Tryd.func97 dq29 rfl #[.string a0_1] rfl dq28 ?_; (with_reducible refine (impl_isQualified.calls k a0_1 true _ A18.out).mono ?_); rintro e w25 ⟨rfl, hb⟩; refine ⟨_, rfl, ?_⟩; have n0_ := Aside0.mk (blk_below (g := gb325) (o := .cells #[.int .i64 a0_0, .string a0_1, .string a0_2, .slice A0_3 l0_3.length c0_3] 39 (0, 0)) dq94 hb); have n1_ := Aside0.mk (below_step dq93 hb); clear BK325; clear HB; have BK325 := n0_; have HB := n1_; clear n0_ n1_; (try clear hb); (try clear hb2); (try clear hk); (try clear hi); obtain ⟨⟨hcz26_0, hcz26_1, hcz26_2, hcz26_3⟩, hfz26_0, hfz26_1, hfz26_2, hfz26_3⟩ := blkC4 BK325.out))
     go_meet
     case rel => exact ⟨_, (true), dq26, H', ⟨dq35⟩, ⟨dq94⟩, ⟨dq93⟩⟩
   ·replace c19 := Bool.eq_false_iff.mpr c19
    subst c19
    have H1 : (impl_Item_isGood.j0 k true a0_0 a0_1 a0_2 l0_3) = some r := by rw [if_neg (show ¬ (false = true) by decide)] at H; exact H
    clear H
    have H := H1
    clear H1
    have H' := Aside0.mk H
    clear H
    obtain ⟨⟨hcz27_0, hcz27_1, hcz27_2, hcz27_3⟩, hfz27_0, hfz27_1, hfz27_2, hfz27_3⟩ := blkC4 BK325.out
    go_wp2_with (first | ((with_reducible refine gate_callee (f := 97) rfl ?_); refine goesL_ (some 26) rfl rfl Tryd.func97 dq29 rfl #[.string a0_1] rfl dq28 ?_; (with_reducible refine (impl_isQualified.calls k a0_1 false _ A18.out).mono ?_); rintro e w28 ⟨rfl, hb⟩; refine ⟨_, rfl, ?_⟩; have n0_ := Aside0.mk (blk_below (g := gb325) (o := .cells #[.int .i64 a0_0, .string a0_1, .string a0_2, .slice A0_3 l0_3.length c0_3] 39 (0, 0)) dq94 hb); have n1_ := Aside0.mk (below_step dq93 hb); clear BK325; clear HB; have BK325 := n0_; have HB := n1_; clear n0_ n1_; (try clear hb); (try clear hb2); (try clear hk); (try clear hi)))
    go_meet
    case rel => exact ⟨_, (true), dq26, H', ⟨dq35⟩, ⟨dq94⟩, ⟨dq93⟩⟩
  case rest =>
   clear HC15
   try clear c1
   try clear c2
   try clear c2b0
   try clear c2b1
   try clear p2
   try clear c3
   try clear c3b0
   try clear c3b1
   try clear c7
   try clear c9
   try clear c19
   try clear c20
   try clear c20b0
   try clear c20b1
   try clear hcz11_0
   try clear hcz11_1
   try clear hcz11_2
   try clear hcz11_3
   try clear hcz13_0
   try clear hcz13_1
   try clear hcz13_2
   try clear hcz13_3
   try clear hcz17_0
   try clear hcz17_1
   try clear hcz17_2
   try clear hcz17_3
   try clear hcz21_0
   try clear hcz21_1
   try clear hcz21_2
   try clear hcz21_3
   try clear hcz23_0
   try clear hcz23_1
   try clear hcz23_2
   try clear hcz23_3
   try clear hcz24_0
   try clear hcz24_1
   try clear hcz24_2
   try clear hcz24_3
   try clear hcz26_0
   try clear hcz26_1
   try clear hcz26_2
   try clear hcz26_3
   try clear hcz27_0
   try clear hcz27_1
   try clear hcz27_2
   try clear hcz27_3
   try clear hcz5_0
   try clear hcz5_1
   try clear hcz5_2
   try clear hcz5_3
   try clear hcz9_0
   try clear hcz9_1
   try clear hcz9_2
   try clear hcz9_3
   try clear hfz11_0
   try clear hfz11_1
   try clear hfz11_2
   try clear hfz11_3
   try clear hfz13_0
   try clear hfz13_1
   try clear hfz13_2
   try clear hfz13_3
   try clear hfz17_0
   try clear hfz17_1
   try clear hfz17_2
   try clear hfz17_3
   try clear hfz21_0
   try clear hfz21_1
   try clear hfz21_2
   try clear hfz21_3
   try clear hfz23_0
   try clear hfz23_1
   try clear hfz23_2
   try clear hfz23_3
   try clear hfz24_0
   try clear hfz24_1
   try clear hfz24_2
   try clear hfz24_3
   try clear hfz26_0
   try clear hfz26_1
   try clear hfz26_2
   try clear hfz26_3
   try clear hfz27_0
   try clear hfz27_1
   try clear hfz27_2
   try clear hfz27_3
   try clear hfz5_0
   try clear hfz5_1
   try clear hfz5_2
   try clear hfz5_3
   try clear hfz9_0
   try clear hfz9_1
   try clear hfz9_2
   try clear hfz9_3
   obtain ⟨kq, x38_14, rfl, HA, HJ14, BK325, HB⟩ := hcut
   cases kq with
   | zero => exact absurd HA.out (by simp [impl_Item_isGood.j0])
   | succ kj14 =>
    have H := HA.out
    clear HA
    simp only [impl_Item_isGood.j0] at H
    by_cases c29 : x38_14 = true
    ·subst c29
     have H1 : (some false) = some r := by rw [if_pos rfl] at H; exact H
     clear H
     have H := H1
     clear H1
     obtain rfl := Option.some.inj H
     go_wp2
     go_ret
     exact ⟨dq25, dq93⟩
    ·replace c29 := Bool.eq_false_iff.mpr c29
     subst c29
     have H1 : (impl_Item_isGood.l0 kj14 l0_3 (l0_3.length : Int) 0 a0_0 a0_1 a0_2 l0_3) = some r := by rw [if_neg (show ¬ (false = true) by decide)] at H; exact H
     clear H
     have H := H1
     clear H1
     have H' := Aside0.mk H
     clear H
     obtain ⟨⟨hcz30_0, hcz30_1, hcz30_2, hcz30_3⟩, hfz30_0, hfz30_1, hfz30_2, hfz30_3⟩ := blkC4 BK325.out
     go_wp2
     go_loopg [42] kj14 (fun kq v42 w' => ∃ (x42_2 : Int), v42 = .int .i64 x42_2 ∧ Aside0 (impl_Item_isGood.l0 kq l0_3 (l0_3.length : Int) x42_2 a0_0 a0_1 a0_2 l0_3 = some r) ∧ Aside0 (kq ≤ kj14) ∧ Aside0 (w'.heap[gb325]? = some (.cells #[.int .i64 a0_0, .string a0_1, .string a0_2, (.slice A0_3 l0_3.length c0_3)] 39 (0, 0))) ∧ Aside0 (Below w.heap.size w w'))
     case atStart => exact ⟨(0), dq26, H', ⟨Nat.le_refl _⟩, ⟨dq94⟩, ⟨dq93⟩⟩
     case round =>
      clear H'
      try clear c1
      try clear c2
      try clear c2b0
      try clear c2b1
      try clear p2
      try clear c3
      try clear c3b0
      try clear c3b1
      try clear c7
      try clear c9
      try clear c19
      try clear c20
      try clear c20b0
      try clear c20b1
      try clear c29
      try clear hcz11_0
      try clear hcz11_1
      try clear hcz11_2
      try clear hcz11_3
      try clear hcz13_0
      try clear hcz13_1
      try clear hcz13_2
      try clear hcz13_3
      try clear hcz17_0
      try clear hcz17_1
      try clear hcz17_2
      try clear hcz17_3
      try clear hcz21_0
      try clear hcz21_1
      try clear hcz21_2
      try clear hcz21_3
      try clear hcz23_0
      try clear hcz23_1
      try clear hcz23_2
      try clear hcz23_3
      try clear hcz24_0
      try clear hcz24_1
      try clear hcz24_2
      try clear hcz24_3
      try clear hcz26_0
      try clear hcz26_1
      try clear hcz26_2
      try clear hcz26_3
      try clear hcz27_0
      try clear hcz27_1
      try clear hcz27_2
      try clear hcz27_3
      try clear hcz30_0
      try clear hcz30_1
      try clear hcz30_2
      try clear hcz30_3
      try clear hcz5_0
      try clear hcz5_1
      try clear hcz5_2
      try clear hcz5_3
      try clear hcz9_0
      try clear hcz9_1
      try clear hcz9_2
      try clear hcz9_3
      try clear hfz11_0
      try clear hfz11_1
      try clear hfz11_2
      try clear hfz11_3
      try clear hfz13_0
      try clear hfz13_1
      try clear hfz13_2
      try clear hfz13_3
      try clear hfz17_0
      try clear hfz17_1
      try clear hfz17_2
      try clear hfz17_3
      try clear hfz21_0
      try clear hfz21_1
      try clear hfz21_2
      try clear hfz21_3
      try clear hfz23_0
      try clear hfz23_1
      try clear hfz23_2
      try clear hfz23_3
      try clear hfz24_0
      try clear hfz24_1
      try clear hfz24_2
      try clear hfz24_3
      try clear hfz26_0
      try clear hfz26_1
      try clear hfz26_2
      try clear hfz26_3
      try clear hfz27_0
      try clear hfz27_1
      try clear hfz27_2
      try clear hfz27_3
      try clear hfz30_0
      try clear hfz30_1
      try clear hfz30_2
      try clear hfz30_3
      try clear hfz5_0
      try clear hfz5_1
      try clear hfz5_2
      try clear hfz5_3
      try clear hfz9_0
      try clear hfz9_1
      try clear hfz9_2
      try clear hfz9_3
      try clear p2
      obtain ⟨x42_2, rfl, HA, HK2, BK325, HB⟩ := hrel
      cases gk with
      | zero => exact absurd HA.out (by simp [impl_Item_isGood.l0])
      | succ k2 =>
       have H := HA.out
       clear HA
       simp only [impl_Item_isGood.l0] at H
       by_cases c31 : x42_2 < (l0_3.length : Int)
       ·rw [if_pos c31] at H
        have c31b0 := decide_eq_true c31
        clear c31
        by_cases c32 : 0 ≤ x42_2
        ·rw [if_pos c32] at H
         have c32b0 := decide_eq_true c32
         clear c32
         by_cases c33 : x42_2 < (l0_3.length : Int)
         ·rw [if_pos c33] at H
          have c33b0 := decide_eq_true c33
          clear c33
          have HC34 := Aside0.mk H
          clear H
          have p328 : 0 ≤ (x42_2 : Int) := of_decide_eq_true dq27
          have q328 : x42_2 < (l0_3.length : Int) := of_decide_eq_true dq27
          obtain ⟨ad328, e328, hx328_0, hx328_1⟩ := at_T46 HR0_3.out x42_2 p328 q328
          cases e328
          replace hx328_0 := (HB.out.cell (World.block_lt_of_cell? w _ hx328_0)).trans hx328_0
          replace hx328_1 := (HB.out.cell (World.block_lt_of_cell? w _ hx328_1)).trans hx328_1
          replace p328 := eq_true p328
          replace q328 := eq_true q328
          go_upto_region 8 with (first | ((with_reducible refine gate_dst (N := 4) rfl ?_); (try (refine gate_guard (by rfl) ?_; dsimp only)); refine box_event ?hg (N := 4) ?hd (cs := #[.string (⟨#[]⟩ : ByteArray), .string (⟨#[]⟩ : ByteArray)]) (t := 46) ?hr ?_; (case hd => rfl); (case hg => rfl); (case hr => exact dq0); intro gb329 hg w35 hbox hb; have n0_ := Aside0.mk (blk_below (g := gb325) (o := .cells #[.int .i64 a0_0, .string a0_1, .string a0_2, .slice (some ad328) l0_3.length c0_3] 39 (0, 0)) dq94 hb); have n1_ := Aside0.mk (below_step dq93 hb); have n2_ := Aside0.mk (hbox); have n3_ := Aside0.mk ((dq97 : w.heap.size ≤ gb329)); have n4_ := Aside0.mk ((dq97 : w.heap.size ≤ gb329)); have n5_ := Aside0.mk ((dq96 : gb325 ≠ gb329)); have n6_ := Aside0.mk ((dq95 : gb329 ≠ gb325)); clear BK325; clear HB; have BK325 := n0_; have HB := n1_; have BK329 := n2_; have GW329 := n3_; have GE329 := n4_; have NB325_329 := n5_; have NB329_325 := n6_; clear n0_ n1_ n2_ n3_ n4_ n5_ n6_; clear hb hbox hg; have hnb36 := NB329_325.out; have hnc36 := NB325_329.out; obtain ⟨⟨hcz37_0, hcz37_1⟩, hfz37_0, hfz37_1⟩ := blkC2 BK329.out))
          (try simp only [Act.put, List.setIfInBounds_toArray, List.set_cons_zero, List.set_cons_succ])
          go_cut [56] (fun v56 wc => ∃ (kq : Nat) (x56_33 : Bool), v56 = .bool x56_33 ∧ Aside0 (impl_Item_isGood.j2 kq x42_2 l0_3 (l0_3.length : Int) x42_2 x56_33 a0_0 a0_1 a0_2 l0_3 ((rd_T46 l0_3 x42_2).f0) ((rd_T46 l0_3 x42_2).f1) = some r) ∧ Aside0 (kq ≤ k2) ∧ Aside0 (wc.heap[gb325]? = some (.cells #[.int .i64 a0_0, .string a0_1, .string a0_2, (.slice (some ad328) l0_3.length c0_3)] 39 (0, 0))) ∧ Aside0 (wc.heap[gb329]? = some (.cells #[.string ((rd_T46 l0_3 x42_2).f0), .string ((rd_T46 l0_3 x42_2).f1)] 46 (0, 0))) ∧ Aside0 (Below w.heap.size w wc))
          case first =>
           have H := HC34.out
           clear HC34
           replace H := Option.bind_eq_some_iff.mp H
           obtain ⟨t330, A380, H⟩ := H
           replace H : (if t330 = true then ((impl_isPlain.f k2 ((rd_T46 l0_3 x42_2).f1)).bind fun t331 => (impl_Item_isGood.j2 k2 x42_2 l0_3 (l0_3.length : Int) x42_2 (!t331) a0_0 a0_1 a0_2 l0_3 ((rd_T46 l0_3 x42_2).f0) ((rd_T46 l0_3 x42_2).f1))) else (impl_Item_isGood.j2 k2 x42_2 l0_3 (l0_3.length : Int) x42_2 true a0_0 a0_1 a0_2 l0_3 ((rd_T46 l0_3 x42_2).f0) ((rd_T46 l0_3 x42_2).f1))) = some r := H
           have A38 := Aside0.mk A380
           clear A380
           by_cases c39 : t330 = true
           ·subst c39
            have H1 : ((impl_isPlain.f k2 ((rd_T46 l0_3 x42_2).f1)).bind fun t331 => (impl_Item_isGood.j2 k2 x42_2 l0_3 (l0_3.length : Int) x42_2 (!t331) a0_0 a0_1 a0_2 l0_3 ((rd_T46 l0_3 x42_2).f0) ((rd_T46 l0_3 x42_2).f1))) = some r := by rw [if_pos rfl] at H; exact H
            clear H
            have H := H1
            clear H1
            replace H := Option.bind_eq_some_iff.mp H
            obtain ⟨t331, A400, H⟩ := H
            replace H : (impl_Item_isGood.j2 k2 x42_2 l0_3 (l0_3.length : Int) x42_2 (!t331) a0_0 a0_1 a0_2 l0_3 ((rd_T46 l0_3 x42_2).f0) ((rd_T46 l0_3 x42_2).f1)) = some r := H
            have A40 := Aside0.mk A400
            clear A400
            have H' := Aside0.mk H
            clear H
            have hnb41 := NB329_325.out
            have hnc41 := NB325_329.out
            obtain ⟨⟨hcz42_0, hcz42_1⟩, hfz42_0, hfz42_1⟩ := blkC2 BK329.out
            go_wp2_with (first | ((with_reducible refine gate_callee (f := 97) rfl ?_); refine goesL_ (some 49) rfl rfl Tryd.func97 dq29 rfl #[.string ((rd_T46 l0_3 x42_2).f0)] rfl dq28 ?_; (with_reducible refine (impl_isQualified.calls k2 ((rd_T46 l0_3 x42_2).f0) true _ A38.out).mono ?_); rintro e w43 ⟨rfl, hb⟩; refine ⟨_, rfl, ?_⟩; have n0_ := Aside0.mk (blk_below (g := gb325) (o := .cells #[.int .i64 a0_0, .string a0_1, .string a0_2, .slice (some ad328) l0_3.length c0_3] 39 (0, 0)) dq101 hb); have n1_ := Aside0.mk (blk_below (g := gb329) (o := .cells #[.string ((rd_T46 l0_3 x42_2).f0), .string ((rd_T46 l0_3 x42_2).f1)] 46 (0, 0)) dq100 hb); have n2_ := Aside0.mk (below_step dq98 hb); clear BK325; clear BK329; clear HB; have BK325 := n0_; have BK329 := n1_; have HB := n2_; clear n0_ n1_ n2_; (try clear hb); (try clear hb2); (try clear hk); (try clear hi); obtain ⟨⟨hcz44_0, hcz44_1⟩, hfz44_0, hfz44_1⟩ := blkC2 BK329.out) | (go_at_call 96; (with_reducible refine (impl_isPlain.calls k2 ((rd_T46 l0_3 x42_2).f1) t331 _ ?side1 A40.out).mono ?_); (case side1 => exact Gl_below HT.out dq98); rintro e w45 ⟨rfl, hb⟩; have n0_ := Aside0.mk (blk_below (g := gb325) (o := .cells #[.int .i64 a0_0, .string a0_1, .string a0_2, .slice (some ad328) l0_3.length c0_3] 39 (0, 0)) dq94 hb); have n1_ := Aside0.mk (blk_below (g := gb329) (o := .cells #[.string ((rd_T46 l0_3 x42_2).f0), .string ((rd_T46 l0_3 x42_2).f1)] 46 (0, 0)) dq99 hb); have n2_ := Aside0.mk (below_step dq98 hb); clear BK325; clear BK329; clear HB; have BK325 := n0_; have BK329 := n1_; have HB := n2_; clear n0_ n1_ n2_; (try clear hb); (try clear hb2); (try clear hk); (try clear hi)))
            go_meet
            case rel => exact ⟨_, (!t331), dq26, H', ⟨by have := HJ14.out; have := HK2.out; first | omega | exact Nat.le_refl _⟩, ⟨dq94⟩, ⟨dq99⟩, ⟨dq98⟩⟩
           ·replace c39 := Bool.eq_false_iff.mpr c39
            subst c39
            have H1 : (impl_Item_isGood.j2 k2 x42_2 l0_3 (l0_3.length : Int) x42_2 true a0_0 a0_1 a0_2 l0_3 ((rd_T46 l0_3 x42_2).f0) ((rd_T46 l0_3 x42_2).f1)) = some r := by rw [if_neg (show ¬ (false = true) by decide)] at H; exact H
            clear H
            have H := H1
            clear H1
            have H' := Aside0.mk H
            clear H
            have hnb46 := NB329_325.out
            have hnc46 := NB325_329.out
            obtain ⟨⟨hcz47_0, hcz47_1⟩, hfz47_0, hfz47_1⟩ := blkC2 BK329.out
            go_wp2_with (first | ((with_reducible refine gate_callee (f := 97) rfl ?_); refine goesL_ (some 49) rfl rfl Tryd.func97 dq29 rfl #[.string ((rd_T46 l0_3 x42_2).f0)] rfl dq28 ?_; (with_reducible refine (impl_isQualified.calls k2 ((rd_T46 l0_3 x42_2).f0) false _ A38.out).mono ?_); rintro e w48 ⟨rfl, hb⟩; refine ⟨_, rfl, ?_⟩; have n0_ := Aside0.mk (blk_below (g := gb325) (o := .cells #[.int .i64 a0_0, .string a0_1, .string a0_2, .slice (some ad328) l0_3.length c0_3] 39 (0, 0)) dq101 hb); have n1_ := Aside0.mk (blk_below (g := gb329) (o := .cells #[.string ((rd_T46 l0_3 x42_2).f0), .string ((rd_T46 l0_3 x42_2).f1)] 46 (0, 0)) dq100 hb); have n2_ := Aside0.mk (below_step dq98 hb); clear BK325; clear BK329; clear HB; have BK325 := n0_; have BK329 := n1_; have HB := n2_; clear n0_ n1_ n2_; (try clear hb); (try clear hb2); (try clear hk); (try clear hi)))
            go_meet
            case rel => exact ⟨_, (true), dq26, H', ⟨by have := HJ14.out; have := HK2.out; first | omega | exact Nat.le_refl _⟩, ⟨dq94⟩, ⟨dq99⟩, ⟨dq98⟩⟩
          case rest =>
           clear HC34
           try clear c1
           try clear c2
           try clear c2b0
           try clear c2b1
           try clear p2
           try clear c3
           try clear c3b0
           try clear c3b1
           try clear p3
           try clear q3
           try clear hx3
           try clear c4
           try clear c7
           try clear c9
           try clear c19
           try clear c20
           try clear c20b0
           try clear c20b1
           try clear c29
           try clear c31
           try clear c31b0
           try clear c32
           try clear c32b0
           try clear p32
           try clear q32
           try clear hx32
           try clear c33
           try clear c33b0
           try clear c36
           try clear c39
           try clear c41
           try clear c46
           try clear hcz11_0
           try clear hcz11_1
           try clear hcz11_2
           try clear hcz11_3
           try clear hcz13_0
           try clear hcz13_1
           try clear hcz13_2
           try clear hcz13_3
           try clear hcz17_0
           try clear hcz17_1
           try clear hcz17_2
           try clear hcz17_3
           try clear hcz21_0
           try clear hcz21_1
           try clear hcz21_2
           try clear hcz21_3
           try clear hcz23_0
           try clear hcz23_1
           try clear hcz23_2
           try clear hcz23_3
           try clear hcz24_0
           try clear hcz24_1
           try clear hcz24_2
           try clear hcz24_3
           try clear hcz26_0
           try clear hcz26_1
           try clear hcz26_2
           try clear hcz26_3
           try clear hcz27_0
           try clear hcz27_1
           try clear hcz27_2
           try clear hcz27_3
           try clear hcz30_0
           try clear hcz30_1
           try clear hcz30_2
           try clear hcz30_3
           try clear hcz37_0
           try clear hcz37_1
           try clear hcz42_0
           try clear hcz42_1
           try clear hcz44_0
           try clear hcz44_1
           try clear hcz47_0
           try clear hcz47_1
           try clear hcz5_0
           try clear hcz5_1
           try clear hcz5_2
           try clear hcz5_3
           try clear hcz9_0
           try clear hcz9_1
           try clear hcz9_2
           try clear hcz9_3
           try clear hfz11_0
           try clear hfz11_1
           try clear hfz11_2
           try clear hfz11_3
           try clear hfz13_0
           try clear hfz13_1
           try clear hfz13_2
           try clear hfz13_3
           try clear hfz17_0
           try clear hfz17_1
           try clear hfz17_2
           try clear hfz17_3
           try clear hfz21_0
           try clear hfz21_1
           try clear hfz21_2
           try clear hfz21_3
           try clear hfz23_0
           try clear hfz23_1
           try clear hfz23_2
           try clear hfz23_3
           try clear hfz24_0
           try clear hfz24_1
           try clear hfz24_2
           try clear hfz24_3
           try clear hfz26_0
           try clear hfz26_1
           try clear hfz26_2
           try clear hfz26_3
           try clear hfz27_0
           try clear hfz27_1
           try clear hfz27_2
           try clear hfz27_3
           try clear hfz30_0
           try clear hfz30_1
           try clear hfz30_2
           try clear hfz30_3
           try clear hfz37_0
           try clear hfz37_1
           try clear hfz42_0
           try clear hfz42_1
           try clear hfz44_0
           try clear hfz44_1
           try clear hfz47_0
           try clear hfz47_1
           try clear hfz5_0
           try clear hfz5_1
           try clear hfz5_2
           try clear hfz5_3
           try clear hfz9_0
           try clear hfz9_1
           try clear hfz9_2
           try clear hfz9_3
           try clear hx328_0
           try clear hx328_1
           try clear p2
           try clear p328
           try clear q328
           obtain ⟨kq, x56_33, rfl, HA, HJ33, BK325, BK329, HB⟩ := hcut
           cases kq with
           | zero => exact absurd HA.out (by simp [impl_Item_isGood.j2])
           | succ kj33 =>
            have H := HA.out
            clear HA
            simp only [impl_Item_isGood.j2] at H
            by_cases c49 : x56_33 = true
            ·subst c49
             have H1 : (some false) = some r := by rw [if_pos rfl] at H; exact H
             clear H
             have H := H1
             clear H1
             obtain rfl := Option.some.inj H
             go_wp2
             go_ret
             exact ⟨dq25, dq98⟩
            ·replace c49 := Bool.eq_false_iff.mpr c49
             subst c49
             have H1 : (if 0 ≤ x42_2 then (if x42_2 ≤ (l0_3.length : Int) then ((some (l0_3.take (x42_2 : Int).toNat : List (S46))).bind fun y332 => (impl_Item_isGood.l1 kj33 l0_3 (l0_3.length : Int) x42_2 y332 (y332.length : Int) 0 a0_0 a0_1 a0_2 l0_3 ((rd_T46 l0_3 x42_2).f0) ((rd_T46 l0_3 x42_2).f1))) else (none)) else (none)) = some r := by rw [if_neg (show ¬ (false = true) by decide)] at H; exact H
             clear H
             have H := H1
             clear H1
             by_cases c50 : 0 ≤ x42_2
             ·rw [if_pos c50] at H
              have c50b0 := eq_true c50
              have c50b1 := decide_eq_true c50
              clear c50
              by_cases c51 : x42_2 ≤ (l0_3.length : Int)
              ·rw [if_pos c51] at H
               have c51b0 := eq_true c51
               have c51b1 := decide_eq_true c51
               clear c51
               obtain ⟨y332, hy332⟩ : ∃ y_ : List (S46), y_ = (l0_3.take (x42_2 : Int).toNat) := ⟨_, rfl⟩
               replace H : (impl_Item_isGood.l1 kj33 l0_3 (l0_3.length : Int) x42_2 y332 (y332.length : Int) 0 a0_0 a0_1 a0_2 l0_3 ((rd_T46 l0_3 x42_2).f0) ((rd_T46 l0_3 x42_2).f1)) = some r := by first | (rw [hy332]; with_reducible exact H) | (have H2_ := (Option.bind_some _ _).symm.trans H; rw [hy332]; with_reducible exact H2_) | (have H2_ := (Option.bind_some _ _).symm.trans H; with_reducible exact H2_) | with_reducible exact H | (rw [hy332]; exact H) | exact H
               have Ny332 := Aside0.mk hy332
               clear hy332
               have H' := Aside0.mk H
               clear H
               have hnb52 := NB325_329.out
               have hnc52 := NB329_325.out
               obtain ⟨⟨hcz53_0, hcz53_1, hcz53_2, hcz53_3⟩, hfz53_0, hfz53_1, hfz53_2, hfz53_3⟩ := blkC4 BK325.out
               have q54 : (x42_2 : Int) ≤ ((l0_3.length : Int) : Int) := of_decide_eq_true dq27
               obtain ⟨i054, hi054, _, hsz54, _⟩ := info_parts info46
               have hroom54 : l0_3.length ≤ c0_3 := HC0_3.out
               have hC54 : Kd.C k46 _ (some ad328) l0_3.length l0_3 := HR0_3.out
               have hcut54 := cut_to (P := Tryd.prog) 37 46 .i64 Tryd.underlying37 hi054 (some ad328) l0_3.length c0_3 x42_2 (of_decide_eq_true dq27) q54 hroom54
               have hr54 := Kd.C_take (m := (x42_2 : Int).toNat) hC54 dq34
               have hy54 : y332.length = (x42_2 : Int).toNat := (by rw [Ny332.out, List.length_take]; omega)
               rw [← Ny332.out] at hr54
               rw [← hy54] at hcut54
               have HR335 := Aside0.mk hr54
               have HC335 := Aside0.mk (show y332.length ≤ c0_3 from by omega)
               clear hr54 hC54 hroom54 hi054 hsz54
               have KY54 := Aside0.mk hy54
               clear hy54
               replace q54 := eq_true q54
               go_wp2
               go_loopg [62] kj33 (fun kq v62 w' => ∃ (x62_4 : Int), v62 = .int .i64 x62_4 ∧ Aside0 (impl_Item_isGood.l1 kq l0_3 (l0_3.length : Int) x42_2 y332 (y332.length : Int) x62_4 a0_0 a0_1 a0_2 l0_3 ((rd_T46 l0_3 x42_2).f0) ((rd_T46 l0_3 x42_2).f1) = some r) ∧ Aside0 (kq ≤ kj33) ∧ Aside0 (w'.heap[gb325]? = some (.cells #[.int .i64 a0_0, .string a0_1, .string a0_2, (.slice (some ad328) l0_3.length c0_3)] 39 (0, 0))) ∧ Aside0 (w'.heap[gb329]? = some (.cells #[.string ((rd_T46 l0_3 x42_2).f0), .string ((rd_T46 l0_3 x42_2).f1)] 46 (0, 0))) ∧ Aside0 (Below w.heap.size w w'))
               case atStart => exact ⟨(0), dq26, H', ⟨Nat.le_refl _⟩, ⟨dq94⟩, ⟨dq99⟩, ⟨dq98⟩⟩
               case round =>
                clear H'
                try clear c1
                try clear c2
                try clear c2b0
                try clear c2b1
                try clear p2
                try clear c3
                try clear c3b0
                try clear c3b1
                try clear p3
                try clear q3
                try clear hx3
                try clear c4
                try clear c5
                try clear q5
                try clear c7
                try clear c9
                try clear c19
                try clear c20
                try clear c20b0
                try clear c20b1
                try clear c29
                try clear c31
                try clear c31b0
                try clear c32
                try clear c32b0
                try clear p32
                try clear q32
                try clear hx32
                try clear c33
                try clear c33b0
                try clear c36
                try clear c39
                try clear c41
                try clear c46
                try clear c49
                try clear c50
                try clear c50b0
                try clear c50b1
                try clear c51
                try clear c51b0
                try clear c51b1
                try clear c52
                try clear q54
                try clear hcz11_0
                try clear hcz11_1
                try clear hcz11_2
                try clear hcz11_3
                try clear hcz13_0
                try clear hcz13_1
                try clear hcz13_2
                try clear hcz13_3
                try clear hcz17_0
                try clear hcz17_1
                try clear hcz17_2
                try clear hcz17_3
                try clear hcz21_0
                try clear hcz21_1
                try clear hcz21_2
                try clear hcz21_3
                try clear hcz23_0
                try clear hcz23_1
                try clear hcz23_2
                try clear hcz23_3
                try clear hcz24_0
                try clear hcz24_1
                try clear hcz24_2
                try clear hcz24_3
                try clear hcz26_0
                try clear hcz26_1
                try clear hcz26_2
                try clear hcz26_3
                try clear hcz27_0
                try clear hcz27_1
                try clear hcz27_2
                try clear hcz27_3
                try clear hcz30_0
                try clear hcz30_1
                try clear hcz30_2
                try clear hcz30_3
                try clear hcz37_0
                try clear hcz37_1
                try clear hcz42_0
                try clear hcz42_1
                try clear hcz44_0
                try clear hcz44_1
                try clear hcz47_0
                try clear hcz47_1
                try clear hcz53_0
                try clear hcz53_1
                try clear hcz53_2
                try clear hcz53_3
                try clear hcz5_0
                try clear hcz5_1
                try clear hcz5_2
                try clear hcz5_3
                try clear hcz9_0
                try clear hcz9_1
                try clear hcz9_2
                try clear hcz9_3
                try clear hfz11_0
                try clear hfz11_1
                try clear hfz11_2
                try clear hfz11_3
                try clear hfz13_0
                try clear hfz13_1
                try clear hfz13_2
                try clear hfz13_3
                try clear hfz17_0
                try clear hfz17_1
                try clear hfz17_2
                try clear hfz17_3
                try clear hfz21_0
                try clear hfz21_1
                try clear hfz21_2
                try clear hfz21_3
                try clear hfz23_0
                try clear hfz23_1
                try clear hfz23_2
                try clear hfz23_3
                try clear hfz24_0
                try clear hfz24_1
                try clear hfz24_2
                try clear hfz24_3
                try clear hfz26_0
                try clear hfz26_1
                try clear hfz26_2
                try clear hfz26_3
                try clear hfz27_0
                try clear hfz27_1
                try clear hfz27_2
                try clear hfz27_3
                try clear hfz30_0
                try clear hfz30_1
                try clear hfz30_2
                try clear hfz30_3
                try clear hfz37_0
                try clear hfz37_1
                try clear hfz42_0
                try clear hfz42_1
                try clear hfz44_0
                try clear hfz44_1
                try clear hfz47_0
                try clear hfz47_1
                try clear hfz53_0
                try clear hfz53_1
                try clear hfz53_2
                try clear hfz53_3
                try clear hfz5_0
                try clear hfz5_1
                try clear hfz5_2
                try clear hfz5_3
                try clear hfz9_0
                try clear hfz9_1
                try clear hfz9_2
                try clear hfz9_3
                try clear hx328_0
                try clear hx328_1
                try clear p2
                try clear p3
                try clear p32
                try clear p328
                try clear q3
                try clear q32
                try clear q328
                try clear q54
                obtain ⟨x62_4, rfl, HA, HK4, BK325, BK329, HB⟩ := hrel
                cases gk with
                | zero => exact absurd HA.out (by simp [impl_Item_isGood.l1])
                | succ k4 =>
                 have H := HA.out
                 clear HA
                 simp only [impl_Item_isGood.l1] at H
                 by_cases c55 : x62_4 < (y332.length : Int)
                 ·rw [if_pos c55] at H
                  have c55b0 := decide_eq_true c55
                  clear c55
                  by_cases c56 : 0 ≤ x62_4
                  ·rw [if_pos c56] at H
                   have c56b0 := decide_eq_true c56
                   clear c56
                   by_cases c57 : x62_4 < (y332.length : Int)
                   ·rw [if_pos c57] at H
                    have c57b0 := decide_eq_true c57
                    clear c57
                    by_cases c58 : ((rd_T46 l0_3 x42_2).f0).toList = ((rd_T46 y332 x62_4).f0).toList
                    ·rw [if_pos c58] at H
                     have c58b0 := beq_iff_eq.mpr c58
                     have c58b1 := bne_eq_false_iff_eq.mpr c58
                     clear c58
                     obtain rfl := Option.some.inj H
                     have p336 : 0 ≤ (x62_4 : Int) := of_decide_eq_true dq27
                     have q336 : x62_4 < (y332.length : Int) := of_decide_eq_true dq27
                     obtain ⟨ad336, e336, hx336_0, hx336_1⟩ := at_T46 HR335.out x62_4 p336 q336
                     obtain rfl : ad328 = ad336 := (by injection e336)
                     replace hx336_0 := (HB.out.cell (World.block_lt_of_cell? w _ hx336_0)).trans hx336_0
                     replace hx336_1 := (HB.out.cell (World.block_lt_of_cell? w _ hx336_1)).trans hx336_1
                     replace p336 := eq_true p336
                     replace q336 := eq_true q336
                     go_wp2_with (first | ((with_reducible refine gate_dst (N := 6) rfl ?_); (try (refine gate_guard (by rfl) ?_; dsimp only)); refine box_event ?hg (N := 6) ?hd (cs := #[.string (⟨#[]⟩ : ByteArray), .string (⟨#[]⟩ : ByteArray)]) (t := 46) ?hr ?_; (case hd => rfl); (case hg => rfl); (case hr => exact dq0); intro gb337 hg w59 hbox hb; have n0_ := Aside0.mk (blk_below (g := gb325) (o := .cells #[.int .i64 a0_0, .string a0_1, .string a0_2, .slice (some ad328) l0_3.length c0_3] 39 (0, 0)) dq94 hb); have n1_ := Aside0.mk (blk_below (g := gb329) (o := .cells #[.string ((rd_T46 l0_3 x42_2).f0), .string ((rd_T46 l0_3 x42_2).f1)] 46 (0, 0)) dq99 hb); have n2_ := Aside0.mk (below_step dq98 hb); have n3_ := Aside0.mk (hbox); have n4_ := Aside0.mk ((dq104 : w.heap.size ≤ gb337)); have n5_ := Aside0.mk ((dq104 : w.heap.size ≤ gb337)); have n6_ := Aside0.mk ((dq96 : gb325 ≠ gb337)); have n7_ := Aside0.mk ((dq95 : gb337 ≠ gb325)); have n8_ := Aside0.mk ((dq103 : gb329 ≠ gb337)); have n9_ := Aside0.mk ((dq102 : gb337 ≠ gb329)); clear BK325; clear BK329; clear HB; have BK325 := n0_; have BK329 := n1_; have HB := n2_; have BK337 := n3_; have GW337 := n4_; have GE337 := n5_; have NB325_337 := n6_; have NB337_325 := n7_; have NB329_337 := n8_; have NB337_329 := n9_; clear n0_ n1_ n2_ n3_ n4_ n5_ n6_ n7_ n8_ n9_; clear hb hbox hg; have hnb60 := NB337_325.out; have hnc60 := NB325_337.out; have hnb61 := NB337_329.out; have hnc61 := NB329_337.out; obtain ⟨⟨hcz62_0, hcz62_1⟩, hfz62_0, hfz62_1⟩ := blkC2 BK337.out; have hnb63 := NB329_325.out; have hnc63 := NB325_329.out; obtain ⟨⟨hcz64_0, hcz64_1⟩, hfz64_0, hfz64_1⟩ := blkC2 BK329.out))
                     go_ret
                     exact ⟨dq25, dq105⟩
                    ·rw [if_neg c58] at H
                     have c58b0 := beq_eq_false_iff_ne.mpr c58
                     have c58b1 := bne_iff_ne.mpr c58
                     have H' := Aside0.mk H
                     clear H
                     have p336 : 0 ≤ (x62_4 : Int) := of_decide_eq_true dq27
                     have q336 : x62_4 < (y332.length : Int) := of_decide_eq_true dq27
                     obtain ⟨ad336, e336, hx336_0, hx336_1⟩ := at_T46 HR335.out x62_4 p336 q336
                     obtain rfl : ad328 = ad336 := (by injection e336)
                     replace hx336_0 := (HB.out.cell (World.block_lt_of_cell? w _ hx336_0)).trans hx336_0
                     replace hx336_1 := (HB.out.cell (World.block_lt_of_cell? w _ hx336_1)).trans hx336_1
                     replace p336 := eq_true p336
                     replace q336 := eq_true q336
                     go_wp2_with (first | ((with_reducible refine gate_dst (N := 6) rfl ?_); (try (refine gate_guard (by rfl) ?_; dsimp only)); refine box_event ?hg (N := 6) ?hd (cs := #[.string (⟨#[]⟩ : ByteArray), .string (⟨#[]⟩ : ByteArray)]) (t := 46) ?hr ?_; (case hd => rfl); (case hg => rfl); (case hr => exact dq0); intro gb337 hg w65 hbox hb; have n0_ := Aside0.mk (blk_below (g := gb325) (o := .cells #[.int .i64 a0_0, .string a0_1, .string a0_2, .slice (some ad328) l0_3.length c0_3] 39 (0, 0)) dq94 hb); have n1_ := Aside0.mk (blk_below (g := gb329) (o := .cells #[.string ((rd_T46 l0_3 x42_2).f0), .string ((rd_T46 l0_3 x42_2).f1)] 46 (0, 0)) dq99 hb); have n2_ := Aside0.mk (below_step dq98 hb); have n3_ := Aside0.mk (hbox); have n4_ := Aside0.mk ((dq104 : w.heap.size ≤ gb337)); have n5_ := Aside0.mk ((dq104 : w.heap.size ≤ gb337)); have n6_ := Aside0.mk ((dq96 : gb325 ≠ gb337)); have n7_ := Aside0.mk ((dq95 : gb337 ≠ gb325)); have n8_ := Aside0.mk ((dq103 : gb329 ≠ gb337)); have n9_ := Aside0.mk ((dq102 : gb337 ≠ gb329)); clear BK325; clear BK329; clear HB; have BK325 := n0_; have BK329 := n1_; have HB := n2_; have BK337 := n3_; have GW337 := n4_; have GE337 := n5_; have NB325_337 := n6_; have NB337_325 := n7_; have NB329_337 := n8_; have NB337_329 := n9_; clear n0_ n1_ n2_ n3_ n4_ n5_ n6_ n7_ n8_ n9_; clear hb hbox hg; have hnb66 := NB337_325.out; have hnc66 := NB325_337.out; have hnb67 := NB337_329.out; have hnc67 := NB329_337.out; obtain ⟨⟨hcz68_0, hcz68_1⟩, hfz68_0, hfz68_1⟩ := blkC2 BK337.out; have hnb69 := NB329_325.out; have hnc69 := NB325_329.out; obtain ⟨⟨hcz70_0, hcz70_1⟩, hfz70_0, hfz70_1⟩ := blkC2 BK329.out))
                     go_roundg k4
                     case measure => have := HJ14.out; have := HK2.out; have := HJ33.out; have := HK4.out; omega
                     case rel => exact ⟨(wrap64 (x62_4 + 1)), dq26, H', ⟨by have := HJ14.out; have := HK2.out; have := HJ33.out; have := HK4.out; omega⟩, ⟨by refine blk_up ?_; refine blk_far ?_ NB325_337.out _; refine blk_up ?_; refine blk_far ?_ NB325_337.out _; refine blk_up ?_; exact BK325.out⟩, ⟨by refine blk_up ?_; refine blk_far ?_ NB329_337.out _; refine blk_up ?_; refine blk_far ?_ NB329_337.out _; refine blk_up ?_; exact BK329.out⟩, ⟨dq105⟩⟩
                   ·rw [if_neg c57] at H
                    exact absurd H dq31
                  ·rw [if_neg c56] at H
                   exact absurd H dq31
                 ·rw [if_neg c55] at H
                  have c55b0 := decide_eq_false c55
                  clear c55
                  have H' := Aside0.mk H
                  clear H
                  go_wp2
                  go_roundg k4
                  case measure => have := HJ14.out; have := HK2.out; have := HJ33.out; have := HK4.out; omega
                  case rel => exact ⟨(wrap64 (x42_2 + 1)), dq26, H', ⟨by have := HJ14.out; have := HK2.out; have := HJ33.out; have := HK4.out; omega⟩, ⟨dq94⟩, ⟨dq98⟩⟩
              ·rw [if_neg c51] at H
               exact absurd H dq31
             ·rw [if_neg c50] at H
              exact absurd H dq31
         ·rw [if_neg c33] at H
          exact absurd H dq31
        ·rw [if_neg c32] at H
         exact absurd H dq31
       ·rw [if_neg c31] at H
        have c31b0 := decide_eq_false c31
        clear c31
        obtain rfl := Option.some.inj H
        go_wp2
        go_ret
        exact ⟨dq25, dq93⟩

/-! ### impl_Item_bytes: function 72 -/
def impl_Item_bytes.l0 : Nat → Int → List (S46) → Int → Int → Option (Int)
 | 0, _, _, _, _ => none
 | k + 1, x3, x14, x15, x16 => if x16 < x15 then (if 0 ≤ x16 then (if x16 < (x14.length : Int) then (impl_Item_bytes.l0 k (wrap64 (x3 + (wrap64 ((((rd_T46 x14 x16).f0).size : Int) + (((rd_T46 x14 x16).f1).size : Int))))) x14 x15 (wrap64 (x16 + 1))) else (none)) else (none)) else (some x3)
def impl_Item_bytes.f (k : Nat) (a0_0 : Int) (a0_1 : ByteArray) (a0_2 : ByteArray) (l0_3 : List (S46)) : Option (Int) := impl_Item_bytes.l0 k (wrap64 ((a0_1.size : Int) + (a0_2.size : Int))) l0_3 (l0_3.length : Int) 0
set_option maxHeartbeats 8000000 in
set_option maxRecDepth 100000 in
theorem impl_Item_bytes.calls (k : Nat) (a0_0 : Int) (a0_1 : ByteArray) (a0_2 : ByteArray) (A0_3 : Option Addr) (c0_3 : Nat) (l0_3 : List (S46)) (r : Int) (w : World) (hr0_3 : Kd.C k46 w A0_3 l0_3.length l0_3) (hc0_3 : l0_3.length ≤ c0_3) (h : impl_Item_bytes.f k a0_0 a0_1 a0_2 l0_3 = some r) :
  Calls Tryd.prog 72 #[.agg #[.int .i64 a0_0, .string a0_1, .string a0_2, .slice A0_3 l0_3.length c0_3]] w fun e w' => e = .returned (.int .i64 r) ∧ Below w.heap.size w w' := by
 have hu39 := Tryd.underlying39
 have hu46 := Tryd.underlying46
 have HR0_3 := Aside0.mk hr0_3
 have HC0_3 := Aside0.mk hc0_3
 clear hr0_3 hc0_3
 have HB := Aside0.mk (Below.refl w.heap.size w)
 have H : (impl_Item_bytes.l0 k (wrap64 ((a0_1.size : Int) + (a0_2.size : Int))) l0_3 (l0_3.length : Int) 0) = some r := h
 clear h
 have H' := Aside0.mk H
 clear H
 go_enter Tryd.func72, Tryd.ntmps72
 go_wp2_with (first | ((with_reducible refine gate_dst (N := 1) rfl ?_); refine box_event ?hg (N := 1) ?hd (cs := #[.int .i64 a0_0, .string a0_1, .string a0_2, .slice A0_3 l0_3.length c0_3]) (t := 39) ?hr ?_; (case hd => rfl); (case hg => rfl); (case hr => exact dq0); intro gb338 hg w2 hbox hb; have n0_ := Aside0.mk (below_step dq23 hb); have n1_ := Aside0.mk (hbox); have n2_ := Aside0.mk ((dq22 : w.heap.size ≤ gb338)); have n3_ := Aside0.mk ((dq22 : w.heap.size ≤ gb338)); clear HB; have HB := n0_; have BK338 := n1_; have GW338 := n2_; have GE338 := n3_; clear n0_ n1_ n2_ n3_; clear hb hbox hg; obtain ⟨⟨hcz3_0, hcz3_1, hcz3_2, hcz3_3⟩, hfz3_0, hfz3_1, hfz3_2, hfz3_3⟩ := blkC4 BK338.out))
 go_loopg [3, 16] k (fun kq v3 v16 w' => ∃ (x3_1 : Int) (x16_1 : Int), v3 = .int .i64 x3_1 ∧ v16 = .int .i64 x16_1 ∧ Aside0 (impl_Item_bytes.l0 kq x3_1 l0_3 (l0_3.length : Int) x16_1 = some r) ∧ Aside0 (kq ≤ k) ∧ Aside0 (w'.heap[gb338]? = some (.cells #[.int .i64 a0_0, .string a0_1, .string a0_2, (.slice A0_3 l0_3.length c0_3)] 39 (0, 0))) ∧ Aside0 (Below w.heap.size w w'))
 case atStart => exact ⟨(wrap64 ((a0_1.size : Int) + (a0_2.size : Int))), (0), dq26, dq26, H', ⟨Nat.le_refl _⟩, ⟨by refine blk_up ?_; exact BK338.out⟩, ⟨dq106⟩⟩
 case round =>
  clear H'
  try clear p2
  try clear hcz3_0
  try clear hcz3_1
  try clear hcz3_2
  try clear hcz3_3
  try clear hfz3_0
  try clear hfz3_1
  try clear hfz3_2
  try clear hfz3_3
  obtain ⟨x3_1, x16_1, rfl, rfl, HA, HK1, BK338, HB⟩ := hrel
  cases gk with
  | zero => exact absurd HA.out (by simp [impl_Item_bytes.l0])
  | succ k1 =>
   have H := HA.out
   clear HA
   simp only [impl_Item_bytes.l0] at H
   by_cases c4 : x16_1 < (l0_3.length : Int)
   ·rw [if_pos c4] at H
    have c4b0 := decide_eq_true c4
    clear c4
    by_cases c5 : 0 ≤ x16_1
    ·rw [if_pos c5] at H
     have c5b0 := decide_eq_true c5
     clear c5
     by_cases c6 : x16_1 < (l0_3.length : Int)
     ·rw [if_pos c6] at H
      have c6b0 := decide_eq_true c6
      clear c6
      have H' := Aside0.mk H
      clear H
      have p339 : 0 ≤ (x16_1 : Int) := of_decide_eq_true dq27
      have q339 : x16_1 < (l0_3.length : Int) := of_decide_eq_true dq27
      obtain ⟨ad339, e339, hx339_0, hx339_1⟩ := at_T46 HR0_3.out x16_1 p339 q339
      cases e339
      replace hx339_0 := (HB.out.cell (World.block_lt_of_cell? w _ hx339_0)).trans hx339_0
      replace hx339_1 := (HB.out.cell (World.block_lt_of_cell? w _ hx339_1)).trans hx339_1
      replace p339 := eq_true p339
      replace q339 := eq_true q339
      go_wp2_with (first | ((with_reducible refine gate_dst (N := 5) rfl ?_); refine box_event ?hg (N := 5) ?hd (cs := #[.string (⟨#[]⟩ : ByteArray), .string (⟨#[]⟩ : ByteArray)]) (t := 46) ?hr ?_; (case hd => rfl); (case hg => rfl); (case hr => exact dq0); intro gb340 hg w7 hbox hb; have n0_ := Aside0.mk (blk_below (g := gb338) (o := .cells #[.int .i64 a0_0, .string a0_1, .string a0_2, .slice (some ad339) l0_3.length c0_3] 39 (0, 0)) (by refine blk_up ?_; exact BK338.out) hb); have n1_ := Aside0.mk (below_step dq106 hb); have n2_ := Aside0.mk (hbox); have n3_ := Aside0.mk ((dq107 : w.heap.size ≤ gb340)); have n4_ := Aside0.mk ((dq107 : w.heap.size ≤ gb340)); have n5_ := Aside0.mk ((by rw [hg]; exact Nat.ne_of_lt (blk_lt (g := gb338) (o := .cells #[.int .i64 a0_0, .string a0_1, .string a0_2, .slice (some ad339) l0_3.length c0_3] 39 (0, 0)) (by refine blk_up ?_; exact BK338.out)) : gb338 ≠ gb340)); have n6_ := Aside0.mk ((by rw [hg]; exact Nat.ne_of_gt (blk_lt (g := gb338) (o := .cells #[.int .i64 a0_0, .string a0_1, .string a0_2, .slice (some ad339) l0_3.length c0_3] 39 (0, 0)) (by refine blk_up ?_; exact BK338.out)) : gb340 ≠ gb338)); clear BK338; clear HB; have BK338 := n0_; have HB := n1_; have BK340 := n2_; have GW340 := n3_; have GE340 := n4_; have NB338_340 := n5_; have NB340_338 := n6_; clear n0_ n1_ n2_ n3_ n4_ n5_ n6_; clear hb hbox hg; have hnb8 := NB340_338.out; have hnc8 := NB338_340.out; obtain ⟨⟨hcz9_0, hcz9_1⟩, hfz9_0, hfz9_1⟩ := blkC2 BK340.out))
      go_roundg k1
      case measure => have := HK1.out; omega
      case rel => exact ⟨(wrap64 (x3_1 + (wrap64 ((((rd_T46 l0_3 x16_1).f0).size : Int) + (((rd_T46 l0_3 x16_1).f1).size : Int))))), (wrap64 (x16_1 + 1)), dq26, dq26, H', ⟨dq30⟩, ⟨by refine blk_up ?_; refine blk_far ?_ NB338_340.out _; refine blk_up ?_; refine blk_far ?_ NB338_340.out _; refine blk_up ?_; exact BK338.out⟩, ⟨by repeat (first | (with_reducible first | exact HB.out | apply below_alloc | apply pw_below_drewN | apply below_drew1 | refine below_set ?_ GE338.out | refine below_set ?_ GE340.out) | exact HB.out)⟩⟩
     ·rw [if_neg c6] at H
      exact absurd H dq31
    ·rw [if_neg c5] at H
     exact absurd H dq31
   ·rw [if_neg c4] at H
    have c4b0 := decide_eq_false c4
    clear c4
    obtain rfl := Option.some.inj H
    go_wp2
    go_ret
    exact ⟨dq25, dq106⟩

end Go.Proofs.YtpmjpbaeecnpiaaDoor.L
