/- Words and contracts for the row RowFnNames: what the Go functions answer that it calls; printed by programs of the kit and of this session, and merged. -/
import Derived.Test.YtpmjpbaeecnpiaaDoorQn9
import Derived.Sort.Walk0
import Derived.Lib.SlBy
import Derived.Lib.Hide
import Derived.Outline
import Derived.Lib.SplitLaws
import Derived.Lib.IndexBytes
import Derived.Lib.ValidLaws
import Derived.Lib.DecodeN
import Derived.Lib.MapLaws
import Derived.Lib.TrimUEq
namespace Go.Proofs.YtpmjpbaeecnpiaaDoor.L
open Go.RowKit Go.Proofs.YtpmjpbaeecnpiaaDoorW.PrintWords Go.Proofs.YtpmjpbaeecnpiaaDoorW.PrintLast Go.Proofs.YtpmjpbaeecnpiaaDoorW.PrintMore
attribute [local go_sem] max2_int min2_int max_two min_two max_three min_three max_four min_four
set_option linter.unusedVariables false
set_option linter.unusedSimpArgs false

attribute [local go_sem high] eqA56
theorem eq_nilE74 (l : List UInt8) : (l == ([] : List UInt8)) = l.isEmpty := by cases l <;> rfl
/-! ### laws_FnNames: function 8 -/
mutual
def laws_FnNames.j0 : Nat → List (S39) → List (S56) → Bool → List (S56) → Bool → Bool → Option (Bool)
 | 0, _, _, _, _, _, _ => none
 | k + 1, x3, x4, x5, x6, x7, x45 => if x45 = true then (if (x5 == x7) = true then (some ((x4.length : Int) == (x6.length : Int))) else (some false)) else (laws_FnNames.l0 k x3 x4 0)
def laws_FnNames.l0 : Nat → List (S39) → List (S56) → Int → Option (Bool)
 | 0, _, _, _ => none
 | k + 1, x3, x4, x8 => if x8 < (x3.length : Int) then (if 0 ≤ x8 then (if ((rd_T39 x3 x8).f1).toList = ([] : List UInt8) then (if x8 < (x4.length : Int) then (if (!((((rd_T56 x4 x8).f0).toList) == ([] : List UInt8)) || (!((((rd_T56 x4 x8).f1).toList) == ([] : List UInt8)))) = true then (some false) else (laws_FnNames.l0 k x3 x4 (wrap64 (x8 + 1)))) else (none)) else ((impl_Split.f k ((rd_T39 x3 x8).f1)).bind fun bt767 => ((impl_BoundAt.f k x3 x8 bt767.1).bind fun bt770 => ((impl_AttrNames.f k x3 x8).bind fun bt772 => (if bt770.2 = true then (if x8 < (x4.length : Int) then (if ((rd_T56 x4 x8).f0).toList = bt770.1.toList then (if ((rd_T56 x4 x8).f1).toList = bt767.2.1.toList then (if bt772.2 = true then (laws_FnNames.j2 k x3 x4 x8 bt772.1 (decide ((bt772.1.length : Int) > (((rd_T39 x3 x8).f3).length : Int)))) else (laws_FnNames.j2 k x3 x4 x8 bt772.1 true)) else (laws_FnNames.j2 k x3 x4 x8 bt772.1 true)) else (laws_FnNames.j2 k x3 x4 x8 bt772.1 true)) else (none)) else (laws_FnNames.j2 k x3 x4 x8 bt772.1 true)))))) else (none)) else (some true)
def laws_FnNames.j2 : Nat → List (S39) → List (S56) → Int → List (S56) → Bool → Option (Bool)
 | 0, _, _, _, _, _ => none
 | k + 1, x3, x4, x8, x14, x131 => if x131 = true then (some false) else (laws_FnNames.l1 k x3 x4 x8 x14 0)
def laws_FnNames.l1 : Nat → List (S39) → List (S56) → Int → List (S56) → Int → Option (Bool)
 | 0, _, _, _, _, _ => none
 | k + 1, x3, x4, x8, x14, x16 => if x16 < (x14.length : Int) then (laws_FnNames.l2 k x3 x4 x8 x14 x16 0) else (laws_FnNames.l0 k x3 x4 (wrap64 (x8 + 1)))
def laws_FnNames.l2 : Nat → List (S39) → List (S56) → Int → List (S56) → Int → Int → Option (Bool)
 | 0, _, _, _, _, _, _ => none
 | k + 1, x3, x4, x8, x14, x16, x17 => if x17 < x16 then (if 0 ≤ x16 then (if x16 < (x14.length : Int) then (if 0 ≤ x17 then (if x17 < (x14.length : Int) then (if ((((rd_T56 x14 x16).f0).toList) == (((rd_T56 x14 x17).f0).toList) && ((((rd_T56 x14 x16).f1).toList) == (((rd_T56 x14 x17).f1).toList))) = true then (some false) else (laws_FnNames.l2 k x3 x4 x8 x14 x16 (wrap64 (x17 + 1)))) else (none)) else (none)) else (none)) else (none)) else (laws_FnNames.l1 k x3 x4 x8 x14 (wrap64 (x16 + 1)))
end
def laws_FnNames.f (k : Nat) (l0 : List Int) : Option (Bool) := (laws_big.f l0).bind fun t752 => (if t752 = true then (some true) else ((spec_DrawNamesOf.f k l0).bind fun t753 => ((impl_NamesOf.f k t753).bind fun bt756 => ((spec_NamesOf.f k t753).bind fun bt760 => (if (bt756.2 != bt760.2) = true then (laws_FnNames.j0 k t753 bt756.1 bt756.2 bt760.1 bt760.2 true) else (if (bt756.1.length : Int) = (bt760.1.length : Int) then (laws_FnNames.j0 k t753 bt756.1 bt756.2 bt760.1 bt760.2 (!bt756.2)) else (laws_FnNames.j0 k t753 bt756.1 bt756.2 bt760.1 bt760.2 true)))))))
set_option maxHeartbeats 8000000 in
set_option maxRecDepth 100000 in
theorem laws_FnNames.calls (k : Nat) (A0 : Option Addr) (c0 : Nat) (l0 : List Int) (r : Bool) (w : World) (hT : Gl w) (hr0 : Kd.C (Kd.int .u8) w A0 l0.length l0) (hc0 : l0.length ≤ c0) (h : laws_FnNames.f k l0 = some r) :
  Calls Tryd.prog 8 #[.slice A0 l0.length c0] w fun e w' => e = .returned (.bool r) ∧ Below w.heap.size w w' := by
 have hu56 := Tryd.underlying56
 have HR0 := Aside0.mk hr0
 have HC0 := Aside0.mk hc0
 clear hr0 hc0
 have HT := Aside0.mk hT
 clear hT
 have HB := Aside0.mk (Below.refl w.heap.size w)
 have H : ((laws_big.f l0).bind fun t752 => (if t752 = true then (some true) else ((spec_DrawNamesOf.f k l0).bind fun t753 => ((impl_NamesOf.f k t753).bind fun bt756 => ((spec_NamesOf.f k t753).bind fun bt760 => (if (bt756.2 != bt760.2) = true then (laws_FnNames.j0 k t753 bt756.1 bt756.2 bt760.1 bt760.2 true) else (if (bt756.1.length : Int) = (bt760.1.length : Int) then (laws_FnNames.j0 k t753 bt756.1 bt756.2 bt760.1 bt760.2 (!bt756.2)) else (laws_FnNames.j0 k t753 bt756.1 bt756.2 bt760.1 bt760.2 true)))))))) = some r := h
 clear h
 replace H := Option.bind_eq_some_iff.mp H
 obtain ⟨t752, A20, H⟩ := H
 replace H : (if t752 = true then (some true) else ((spec_DrawNamesOf.f k l0).bind fun t753 => ((impl_NamesOf.f k t753).bind fun bt756 => ((spec_NamesOf.f k t753).bind fun bt760 => (if (bt756.2 != bt760.2) = true then (laws_FnNames.j0 k t753 bt756.1 bt756.2 bt760.1 bt760.2 true) else (if (bt756.1.length : Int) = (bt760.1.length : Int) then (laws_FnNames.j0 k t753 bt756.1 bt756.2 bt760.1 bt760.2 (!bt756.2)) else (laws_FnNames.j0 k t753 bt756.1 bt756.2 bt760.1 bt760.2 true))))))) = some r := H
 have A2 := Aside0.mk A20
 clear A20
 by_cases c3 : t752 = true
 ·subst c3
  have H1 : (some true) = some r := by rw [if_pos rfl] at H; exact H
  clear H
  have H := H1
  clear H1
  obtain rfl := Option.some.inj H
  go_enter Tryd.func8, Tryd.ntmps8
  go_wp2_with (first | (go_at_call 18; (with_reducible refine (laws_big.calls _ _ l0 true _ ?side1 ?side2 A2.out).mono ?_); (case side1 => exact dq5); (case side2 => exact HC0.out); rintro e w' ⟨rfl, ⟨nd, rfl⟩⟩; (try first | exact ⟨rfl, _, World.drewN_drewN _ _ _⟩ | exact ⟨rfl, _, Eq.trans (World.drewN_drewN _ _ _) (congrArg (World.drewN _) (Nat.add_assoc _ _ _))⟩)))
  go_ret
  exact ⟨dq26, dq24⟩
 replace c3 := Bool.eq_false_iff.mpr c3
 subst c3
 have H1 : ((spec_DrawNamesOf.f k l0).bind fun t753 => ((impl_NamesOf.f k t753).bind fun bt756 => ((spec_NamesOf.f k t753).bind fun bt760 => (if (bt756.2 != bt760.2) = true then (laws_FnNames.j0 k t753 bt756.1 bt756.2 bt760.1 bt760.2 true) else (if (bt756.1.length : Int) = (bt760.1.length : Int) then (laws_FnNames.j0 k t753 bt756.1 bt756.2 bt760.1 bt760.2 (!bt756.2)) else (laws_FnNames.j0 k t753 bt756.1 bt756.2 bt760.1 bt760.2 true)))))) = some r := by rw [if_neg (show ¬ (false = true) by decide)] at H; exact H
 clear H
 have H := H1
 clear H1
 replace H := Option.bind_eq_some_iff.mp H
 obtain ⟨t753, A40, H⟩ := H
 replace H : ((impl_NamesOf.f k t753).bind fun bt756 => ((spec_NamesOf.f k t753).bind fun bt760 => (if (bt756.2 != bt760.2) = true then (laws_FnNames.j0 k t753 bt756.1 bt756.2 bt760.1 bt760.2 true) else (if (bt756.1.length : Int) = (bt760.1.length : Int) then (laws_FnNames.j0 k t753 bt756.1 bt756.2 bt760.1 bt760.2 (!bt756.2)) else (laws_FnNames.j0 k t753 bt756.1 bt756.2 bt760.1 bt760.2 true))))) = some r := H
 have A4 := Aside0.mk A40
 clear A40
 replace H := Option.bind_eq_some_iff.mp H
 obtain ⟨⟨t756, t757⟩, A50, H⟩ := H
 replace H : ((spec_NamesOf.f k t753).bind fun bt760 => (if (t757 != bt760.2) = true then (laws_FnNames.j0 k t753 t756 t757 bt760.1 bt760.2 true) else (if (t756.length : Int) = (bt760.1.length : Int) then (laws_FnNames.j0 k t753 t756 t757 bt760.1 bt760.2 (!t757)) else (laws_FnNames.j0 k t753 t756 t757 bt760.1 bt760.2 true)))) = some r := H
 have A5 := Aside0.mk A50
 clear A50
 replace H := Option.bind_eq_some_iff.mp H
 obtain ⟨⟨t760, t761⟩, A60, H⟩ := H
 replace H : (if (t757 != t761) = true then (laws_FnNames.j0 k t753 t756 t757 t760 t761 true) else (if (t756.length : Int) = (t760.length : Int) then (laws_FnNames.j0 k t753 t756 t757 t760 t761 (!t757)) else (laws_FnNames.j0 k t753 t756 t757 t760 t761 true))) = some r := H
 have A6 := Aside0.mk A60
 clear A60
 have HC7 := Aside0.mk H
 clear H
 go_enter Tryd.func8, Tryd.ntmps8
 go_upto_region 6 with (first | (go_at_call 18; (with_reducible refine (laws_big.calls _ _ l0 false _ ?side1 ?side2 A2.out).mono ?_); (case side1 => exact dq5); (case side2 => exact HC0.out); rintro e w' ⟨rfl, ⟨nd, rfl⟩⟩; (try first | exact ⟨rfl, _, World.drewN_drewN _ _ _⟩ | exact ⟨rfl, _, Eq.trans (World.drewN_drewN _ _ _) (congrArg (World.drewN _) (Nat.add_assoc _ _ _))⟩)) | (go_at_call 35; (with_reducible refine (spec_DrawNamesOf.calls k _ _ l0 t753 _ ?side1 ?side2 A4.out).mono ?_); (case side1 => exact dq5); (case side2 => exact HC0.out); rintro e w8 ⟨v754, rfl, ho0, hb⟩; have n0_ := Aside0.mk (Kd.S_lower ho0 (below_size dq24)); have n1_ := Aside0.mk (below_step dq24 hb); clear HB; have HO755 := n0_; have HB := n1_; clear n0_ n1_; (try clear hb); (try clear hb2); (try clear hk); (try clear hi); (try clear ho0); obtain ⟨Ao9, co9, eo9⟩ := Kd.S_slice HO755.out; subst eo9) | (go_at_call 36; (with_reducible refine (impl_NamesOf.calls k _ _ t753 t756 t757 _ ?side3 ?side1 ?side2 A5.out).mono ?_); (case side1 => repeat (first | exact (Kd.S_reads' HO755.out).2.2 | (with_reducible refine Kd.C_alloc ?_ _) | (with_reducible refine Kd.C_drewN ?_ _) | (with_reducible refine Kd.C_drew ?_))); (case side2 => exact (Kd.S_reads' HO755.out).2.1); (case side3 => exact dq0); rintro e w10 ⟨v758, rfl, ho0, hb⟩; have n0_ := Aside0.mk (Kd.S_below dq137 hb); have n1_ := Aside0.mk (Kd.R_lower ho0 (below_size dq24)); have n2_ := Aside0.mk (below_step dq24 hb); clear HO755; clear HB; have HO755 := n0_; have HO759 := n1_; have HB := n2_; clear n0_ n1_ n2_; (try clear hb); (try clear hb2); (try clear hk); (try clear hi); (try clear ho0)) | (go_at_call 37; (with_reducible refine (spec_NamesOf.calls k _ _ t753 t760 t761 _ ?side1 ?side2 A6.out).mono ?_); (case side1 => repeat (first | exact (Kd.S_reads' HO755.out).2.2 | (with_reducible refine Kd.C_alloc ?_ _) | (with_reducible refine Kd.C_drewN ?_ _) | (with_reducible refine Kd.C_drew ?_))); (case side2 => exact (Kd.S_reads' HO755.out).2.1); rintro e w11 ⟨v762, rfl, ho0, hb⟩; have n0_ := Aside0.mk (Kd.S_below dq137 hb); have n1_ := Aside0.mk (Kd.R_elder' (by (with_reducible repeat (first | apply Kd.R_alloc | apply Kd.R_drewN | apply Kd.R_drew)); exact HO759.out) (Kd.R_base ho0) hb); have n2_ := Aside0.mk (Kd.R_lower (Kd.R_new' ho0 (Kd.R_lt (by (with_reducible repeat (first | apply Kd.R_alloc | apply Kd.R_drewN | apply Kd.R_drew)); exact HO759.out))) (below_size dq24)); have n3_ := Aside0.mk (below_step dq24 hb); clear HO755; clear HO759; clear HB; have HO755 := n0_; have HO759 := n1_; have HO763 := n2_; have HB := n3_; clear n0_ n1_ n2_ n3_; (try clear hb); (try clear hb2); (try clear hk); (try clear hi); (try clear ho0)))
 (try simp only [Act.put, List.setIfInBounds_toArray, List.set_cons_zero, List.set_cons_succ])
 go_cut [45] (fun v45 wc => ∃ (kq : Nat) (x45_6 : Bool), v45 = .bool x45_6 ∧ Aside0 (laws_FnNames.j0 kq t753 t756 t757 t760 t761 x45_6 = some r) ∧ Aside0 (kq ≤ k) ∧ Aside0 (Kd.S k39 39 wc w.heap.size (fun _ => True) (.slice Ao9 t753.length co9) t753) ∧ Aside0 (Kd.R k56 56 wc w.heap.size (fun k_ => some k_ ≠ (v762 : Value).ownBlock) v758 t756) ∧ Aside0 (Kd.R k56 56 wc w.heap.size (fun k_ => some k_ ≠ (v758 : Value).ownBlock) v762 t760) ∧ Aside0 (Below w.heap.size w wc))
 case first =>
  have H := HC7.out
  clear HC7
  by_cases c12 : (t757 != t761) = true
  ·rw [if_pos c12] at H
   have c12b0 : (t757 != t761) = true := c12
   (try (have c12b1 : decide (t757 = t761) = false := by simpa using c12))
   (try (have c12b2 : (t757 == t761) = false := by simpa using c12))
   (try (have c12b3 : ¬ (t757 = t761) := by simpa using c12))
   clear c12
   (first | rw [c12b0] | rw [c12b3] | (simp only [i64_w, i32_w]; rw [c12b0]) | skip)
   have H' := Aside0.mk H
   clear H
   go_wp2
   go_meet
   case rel => exact ⟨_, (true), dq18, H', ⟨dq25⟩, ⟨dq137⟩, ⟨dq139⟩, ⟨dq138⟩, ⟨dq24⟩⟩
  rw [if_neg c12] at H
  have c12b0 : (t757 != t761) = false := by simpa using c12
  (try (have c12b1 : decide (t757 = t761) = true := by simpa using c12))
  (try (have c12b2 : (t757 == t761) = true := by simpa using c12))
  clear c12
  (first | rw [c12b0] | rw [c12b3] | (simp only [i64_w, i32_w]; rw [c12b0]) | skip)
  by_cases c13 : (t756.length : Int) = (t760.length : Int)
  rotate_left
  ·rw [if_neg c13] at H
   have c13b0 := beq_eq_false_iff_ne.mpr c13
   have c13b1 := bne_iff_ne.mpr c13
   have c13b2 : (t756.length == t760.length) = false := by first | simpa using c13 | (simp at c13 ⊢; omega)
   have H' := Aside0.mk H
   clear H
   obtain ⟨Ao16, co16, eo16⟩ := Kd.R_slice HO759.out
   subst eo16
   obtain ⟨Ao17, co17, eo17⟩ := Kd.R_slice HO763.out
   subst eo17
   go_wp2
   go_meet
   case rel => exact ⟨_, (true), dq18, H', ⟨dq25⟩, ⟨dq137⟩, ⟨dq139⟩, ⟨dq138⟩, ⟨dq24⟩⟩
  rw [if_pos c13] at H
  have c13b0 := beq_iff_eq.mpr c13
  have c13b1 := bne_eq_false_iff_eq.mpr c13
  have c13b2 : (t756.length == t760.length) = true := by first | simpa using c13 | (simp at c13 ⊢; omega)
  clear c13
  have H' := Aside0.mk H
  clear H
  obtain ⟨Ao14, co14, eo14⟩ := Kd.R_slice HO759.out
  subst eo14
  obtain ⟨Ao15, co15, eo15⟩ := Kd.R_slice HO763.out
  subst eo15
  go_wp2
  go_meet
  case rel => exact ⟨_, (!t757), dq18, H', ⟨dq25⟩, ⟨dq137⟩, ⟨dq139⟩, ⟨dq138⟩, ⟨dq24⟩⟩
 clear HC7
 obtain ⟨kq, x45_6, rfl, HA, HJ6, HO_3, HO_4, HO_6, HB⟩ := hcut
 cases kq with
 | zero => exact absurd HA.out (by simp [laws_FnNames.j0])
 | succ kj6 =>
  have H := HA.out
  clear HA
  simp only [laws_FnNames.j0] at H
  by_cases c18 : x45_6 = true
  ·subst c18
   have H1 : (if (t757 == t761) = true then (some ((t756.length : Int) == (t760.length : Int))) else (some false)) = some r := by rw [if_pos rfl] at H; exact H
   clear H
   have H := H1
   clear H1
   by_cases c19 : (t757 == t761) = true
   rotate_left
   ·rw [if_neg c19] at H
    have c19b0 : (t757 == t761) = false := by simpa using c19
    (try (have c19b1 : decide (t757 = t761) = false := by simpa using c19))
    (try (have c19b2 : (t757 == t761) = false := by simpa using c19))
    (try (have c19b3 : ¬ (t757 = t761) := by simpa using c19))
    clear c19
    obtain rfl := Option.some.inj H
    go_wp2
    go_ret
    exact ⟨dq26, dq24⟩
   rw [if_pos c19] at H
   have c19b0 : (t757 == t761) = true := c19
   (try (have c19b1 : decide (t757 = t761) = true := by simpa using c19))
   (try (have c19b2 : (t757 == t761) = true := by simpa using c19))
   clear c19
   obtain rfl := Option.some.inj H
   obtain ⟨Ao20, co20, eo20⟩ := Kd.R_slice HO_4.out
   subst eo20
   obtain ⟨Ao21, co21, eo21⟩ := Kd.R_slice HO_6.out
   subst eo21
   go_wp2
   go_ret
   exact ⟨dq26, dq24⟩
  replace c18 := Bool.eq_false_iff.mpr c18
  subst c18
  have H1 : (laws_FnNames.l0 kj6 t753 t756 0) = some r := by rw [if_neg (show ¬ (false = true) by decide)] at H; exact H
  clear H
  have H := H1
  clear H1
  have H' := Aside0.mk H
  clear H
  go_wp2
  go_loopg [8] kj6 (fun kq v8 w' => ∃ (x8_2 : Int), v8 = .int .i64 x8_2 ∧ Aside0 (laws_FnNames.l0 kq t753 t756 x8_2 = some r) ∧ Aside0 (kq ≤ kj6) ∧ Aside0 (Kd.S k39 39 w' w.heap.size (fun _ => True) (.slice Ao9 t753.length co9) t753) ∧ Aside0 (Kd.R k56 56 w' w.heap.size (fun _ => True) v758 t756) ∧ Aside0 (Below w.heap.size w w'))
  case atStart => exact ⟨(0), dq18, H', ⟨Nat.le_refl _⟩, ⟨dq85⟩, ⟨dq140⟩, ⟨dq24⟩⟩
  clear H'
  obtain ⟨x8_2, rfl, HA, HK2, HO_3, HO_4, HB⟩ := hrel
  cases gk with
  | zero => exact absurd HA.out (by simp [laws_FnNames.l0])
  | succ k2 =>
   have H := HA.out
   clear HA
   simp only [laws_FnNames.l0] at H
   by_cases c22 : x8_2 < (t753.length : Int)
   rotate_left
   ·rw [if_neg c22] at H
    have c22b0 := decide_eq_false c22
    clear c22
    obtain rfl := Option.some.inj H
    go_wp2
    go_ret
    exact ⟨dq26, dq24⟩
   rw [if_pos c22] at H
   have c22b0 := decide_eq_true c22
   clear c22
   by_cases c23 : 0 ≤ x8_2
   rotate_left
   ·rw [if_neg c23] at H
    exact absurd H dq21
   rw [if_pos c23] at H
   have c23b0 := decide_eq_true c23
   clear c23
   by_cases c24 : ((rd_T39 t753 x8_2).f1).toList = ([] : List UInt8)
   ·rw [if_pos c24] at H
    have c24b0 := beq_iff_eq.mpr c24
    have c24b1 := bne_eq_false_iff_eq.mpr c24
    clear c24
    by_cases c25 : x8_2 < (t756.length : Int)
    rotate_left
    ·rw [if_neg c25] at H
     exact absurd H dq21
    rw [if_pos c25] at H
    have c25b0 := decide_eq_true c25
    clear c25
    by_cases c26 : (!((((rd_T56 t756 x8_2).f0).toList) == ([] : List UInt8)) || (!((((rd_T56 t756 x8_2).f1).toList) == ([] : List UInt8)))) = true
    ·rw [if_pos c26] at H
     have c26b0 : (!((((rd_T56 t756 x8_2).f0).toList) == ([] : List UInt8)) || (!((((rd_T56 t756 x8_2).f1).toList) == ([] : List UInt8)))) = true := c26
     have c26b3 : (!((((rd_T56 t756 x8_2).f0).toList).isEmpty) || !((((rd_T56 t756 x8_2).f1).toList).isEmpty)) = true := by rw [← eq_nilE74, ← eq_nilE74]; exact c26b0
     clear c26
     obtain rfl := Option.some.inj H
     have p764 : 0 ≤ (x8_2 : Int) := of_decide_eq_true dq19
     have q764 : x8_2 < (t753.length : Int) := of_decide_eq_true dq19
     obtain ⟨ad764, A764_3, c764_3, e764, hx764_0, hx764_1, hx764_2, hx764_3, hl764_3, hi764_3⟩ := at_T39 (Kd.S_reads' HO_3.out).2.2 x8_2 p764 q764
     cases e764
     obtain ⟨ce764, hce764, hMe764, hcc764⟩ := Kd.S_get HO_3.out z39 x8_2 p764 dq141
     obtain ⟨ve764_3, rfl, ge764_3⟩ := k39_openM hMe764
     have hv764_3 := hcc764 3 _ rfl
     rw [add_field _ _ 3 dq37] at hv764_3
     replace hv764_3 := Option.some.inj (hv764_3.symm.trans hx764_3)
     rw [hv764_3] at ge764_3
     have HL764_3 := Aside0.mk (show Kd.R k46 46 _ _ _ _ ((rd_T39 t753 x8_2).f3) from ge764_3)
     clear hv764_3 ge764_3
     clear hcc764 hce764
     have HR764_3 := Aside0.mk hi764_3
     have HC764_3 := Aside0.mk hl764_3
     clear hi764_3 hl764_3
     replace p764 := eq_true p764
     replace q764 := eq_true q764
     obtain ⟨Ao27, co27, eo27⟩ := Kd.R_slice HO_4.out
     subst eo27
     have p765 : 0 ≤ (x8_2 : Int) := of_decide_eq_true dq19
     have q765 : x8_2 < (t756.length : Int) := of_decide_eq_true dq19
     obtain ⟨ad765, e765, hx765_0, hx765_1⟩ := at_T56 (Kd.R_reads' HO_4.out).2.2 x8_2 p765 q765
     cases e765
     replace p765 := eq_true p765
     replace q765 := eq_true q765
     go_wp2
     go_ret
     exact ⟨dq26, dq24⟩
    rw [if_neg c26] at H
    have c26b0 : (!((((rd_T56 t756 x8_2).f0).toList) == ([] : List UInt8)) || (!((((rd_T56 t756 x8_2).f1).toList) == ([] : List UInt8)))) = false := by simpa using c26
    have c26b3 : (!((((rd_T56 t756 x8_2).f0).toList).isEmpty) || !((((rd_T56 t756 x8_2).f1).toList).isEmpty)) = false := by rw [← eq_nilE74, ← eq_nilE74]; exact c26b0
    clear c26
    have H' := Aside0.mk H
    clear H
    have p764 : 0 ≤ (x8_2 : Int) := of_decide_eq_true dq19
    have q764 : x8_2 < (t753.length : Int) := of_decide_eq_true dq19
    obtain ⟨ad764, A764_3, c764_3, e764, hx764_0, hx764_1, hx764_2, hx764_3, hl764_3, hi764_3⟩ := at_T39 (Kd.S_reads' HO_3.out).2.2 x8_2 p764 q764
    cases e764
    obtain ⟨ce764, hce764, hMe764, hcc764⟩ := Kd.S_get HO_3.out z39 x8_2 p764 dq141
    obtain ⟨ve764_3, rfl, ge764_3⟩ := k39_openM hMe764
    have hv764_3 := hcc764 3 _ rfl
    rw [add_field _ _ 3 dq37] at hv764_3
    replace hv764_3 := Option.some.inj (hv764_3.symm.trans hx764_3)
    rw [hv764_3] at ge764_3
    have HL764_3 := Aside0.mk (show Kd.R k46 46 _ _ _ _ ((rd_T39 t753 x8_2).f3) from ge764_3)
    clear hv764_3 ge764_3
    clear hcc764 hce764
    have HR764_3 := Aside0.mk hi764_3
    have HC764_3 := Aside0.mk hl764_3
    clear hi764_3 hl764_3
    replace p764 := eq_true p764
    replace q764 := eq_true q764
    obtain ⟨Ao28, co28, eo28⟩ := Kd.R_slice HO_4.out
    subst eo28
    have p765 : 0 ≤ (x8_2 : Int) := of_decide_eq_true dq19
    have q765 : x8_2 < (t756.length : Int) := of_decide_eq_true dq19
    obtain ⟨ad765, e765, hx765_0, hx765_1⟩ := at_T56 (Kd.R_reads' HO_4.out).2.2 x8_2 p765 q765
    cases e765
    replace p765 := eq_true p765
    replace q765 := eq_true q765
    go_wp2
    go_roundg k2
    case measure => have := HJ6.out; have := HK2.out; omega
    case rel => exact ⟨(wrap64 (x8_2 + 1)), dq18, H', ⟨by have := HJ6.out; have := HK2.out; omega⟩, ⟨dq85⟩, ⟨dq46⟩, ⟨dq24⟩⟩
   rw [if_neg c24] at H
   have c24b0 := beq_eq_false_iff_ne.mpr c24
   have c24b1 := bne_iff_ne.mpr c24
   replace H := Option.bind_eq_some_iff.mp H
   obtain ⟨⟨t767, t768, t769⟩, A290, H⟩ := H
   replace H : ((impl_BoundAt.f k2 t753 x8_2 t767).bind fun bt770 => ((impl_AttrNames.f k2 t753 x8_2).bind fun bt772 => (if bt770.2 = true then (if x8_2 < (t756.length : Int) then (if ((rd_T56 t756 x8_2).f0).toList = bt770.1.toList then (if ((rd_T56 t756 x8_2).f1).toList = t768.toList then (if bt772.2 = true then (laws_FnNames.j2 k2 t753 t756 x8_2 bt772.1 (decide ((bt772.1.length : Int) > (((rd_T39 t753 x8_2).f3).length : Int)))) else (laws_FnNames.j2 k2 t753 t756 x8_2 bt772.1 true)) else (laws_FnNames.j2 k2 t753 t756 x8_2 bt772.1 true)) else (laws_FnNames.j2 k2 t753 t756 x8_2 bt772.1 true)) else (none)) else (laws_FnNames.j2 k2 t753 t756 x8_2 bt772.1 true)))) = some r := H
   have A29 := Aside0.mk A290
   clear A290
   replace H := Option.bind_eq_some_iff.mp H
   obtain ⟨⟨t770, t771⟩, A300, H⟩ := H
   replace H : ((impl_AttrNames.f k2 t753 x8_2).bind fun bt772 => (if t771 = true then (if x8_2 < (t756.length : Int) then (if ((rd_T56 t756 x8_2).f0).toList = t770.toList then (if ((rd_T56 t756 x8_2).f1).toList = t768.toList then (if bt772.2 = true then (laws_FnNames.j2 k2 t753 t756 x8_2 bt772.1 (decide ((bt772.1.length : Int) > (((rd_T39 t753 x8_2).f3).length : Int)))) else (laws_FnNames.j2 k2 t753 t756 x8_2 bt772.1 true)) else (laws_FnNames.j2 k2 t753 t756 x8_2 bt772.1 true)) else (laws_FnNames.j2 k2 t753 t756 x8_2 bt772.1 true)) else (none)) else (laws_FnNames.j2 k2 t753 t756 x8_2 bt772.1 true))) = some r := H
   have A30 := Aside0.mk A300
   clear A300
   replace H := Option.bind_eq_some_iff.mp H
   obtain ⟨⟨t772, t773⟩, A310, H⟩ := H
   replace H : (if t771 = true then (if x8_2 < (t756.length : Int) then (if ((rd_T56 t756 x8_2).f0).toList = t770.toList then (if ((rd_T56 t756 x8_2).f1).toList = t768.toList then (if t773 = true then (laws_FnNames.j2 k2 t753 t756 x8_2 t772 (decide ((t772.length : Int) > (((rd_T39 t753 x8_2).f3).length : Int)))) else (laws_FnNames.j2 k2 t753 t756 x8_2 t772 true)) else (laws_FnNames.j2 k2 t753 t756 x8_2 t772 true)) else (laws_FnNames.j2 k2 t753 t756 x8_2 t772 true)) else (none)) else (laws_FnNames.j2 k2 t753 t756 x8_2 t772 true)) = some r := H
   have A31 := Aside0.mk A310
   clear A310
   have HC32 := Aside0.mk H
   clear H
   have p764 : 0 ≤ (x8_2 : Int) := of_decide_eq_true dq19
   have q764 : x8_2 < (t753.length : Int) := of_decide_eq_true dq19
   obtain ⟨ad764, A764_3, c764_3, e764, hx764_0, hx764_1, hx764_2, hx764_3, hl764_3, hi764_3⟩ := at_T39 (Kd.S_reads' HO_3.out).2.2 x8_2 p764 q764
   cases e764
   obtain ⟨ce764, hce764, hMe764, hcc764⟩ := Kd.S_get HO_3.out z39 x8_2 p764 dq141
   obtain ⟨ve764_3, rfl, ge764_3⟩ := k39_openM hMe764
   have hv764_3 := hcc764 3 _ rfl
   rw [add_field _ _ 3 dq37] at hv764_3
   replace hv764_3 := Option.some.inj (hv764_3.symm.trans hx764_3)
   rw [hv764_3] at ge764_3
   have HL764_3 := Aside0.mk (show Kd.R k46 46 _ _ _ _ ((rd_T39 t753 x8_2).f3) from ge764_3)
   clear hv764_3 ge764_3
   clear hcc764 hce764
   have HR764_3 := Aside0.mk hi764_3
   have HC764_3 := Aside0.mk hl764_3
   clear hi764_3 hl764_3
   replace p764 := eq_true p764
   replace q764 := eq_true q764
   have p766 : 0 ≤ (x8_2 : Int) := of_decide_eq_true dq19
   have q766 : x8_2 < (t753.length : Int) := of_decide_eq_true dq19
   obtain ⟨ad766, A766_3, c766_3, e766, hx766_0, hx766_1, hx766_2, hx766_3, hl766_3, hi766_3⟩ := at_T39 (Kd.S_reads' HO_3.out).2.2 x8_2 p766 q766
   obtain rfl : ad764 = ad766 := (by injection e766)
   obtain ⟨ce766, hce766, hMe766, hcc766⟩ := Kd.S_get HO_3.out z39 x8_2 p766 (by first | exact q766 | exact of_decide_eq_true dq19 | (have e_ := (Kd.S_reads' HO_3.out).1; omega))
   obtain ⟨ve766_3, rfl, ge766_3⟩ := k39_openM hMe766
   have hv766_3 := hcc766 3 _ rfl
   rw [add_field _ _ 3 dq37] at hv766_3
   replace hv766_3 := Option.some.inj (hv766_3.symm.trans hx766_3)
   rw [hv766_3] at ge766_3
   have HL766_3 := Aside0.mk (show Kd.R k46 46 _ _ _ _ ((rd_T39 t753 x8_2).f3) from ge766_3)
   clear hv766_3 ge766_3
   clear hcc766 hce766
   have HR766_3 := Aside0.mk hi766_3
   have HC766_3 := Aside0.mk hl766_3
   clear hi766_3 hl766_3
   replace p766 := eq_true p766
   replace q766 := eq_true q766
   have ea_ := Option.some.inj (hx764_3.symm.trans hx766_3)
   injection ea_ with ea_ en_ ec_
   subst ea_
   subst ec_
   clear en_
   go_upto_region 17 with (first | (go_at_call 38; (with_reducible refine (impl_Split.calls k2 ((rd_T39 t753 x8_2).f1) t767 t768 t769 _ A29.out).mono ?_); rintro e w33 ⟨rfl, hb⟩; have n0_ := Aside0.mk (Kd.S_below dq85 hb); have n1_ := Aside0.mk (Kd.R_below dq46 hb); have n2_ := Aside0.mk (Kd.R_below dq145 hb); have n3_ := Aside0.mk (Kd.R_below dq144 hb); have n4_ := Aside0.mk (Kd.C_below dq143 hb); have n5_ := Aside0.mk (Kd.C_below dq142 hb); have n6_ := Aside0.mk (below_step dq24 hb); clear HO_3; clear HO_4; clear HL764_3; clear HL766_3; clear HR764_3; clear HR766_3; clear HB; have HO_3 := n0_; have HO_4 := n1_; have HL764_3 := n2_; have HL766_3 := n3_; have HR764_3 := n4_; have HR766_3 := n5_; have HB := n6_; clear n0_ n1_ n2_ n3_ n4_ n5_ n6_; (try clear hb); (try clear hb2); (try clear hk); (try clear hi)) | (go_at_call 27; (with_reducible refine (impl_BoundAt.calls k2 _ _ t753 x8_2 t767 t770 t771 _ ?side3 ?side1 ?side2 A30.out).mono ?_); (case side1 => repeat (first | exact (Kd.S_reads' HO_3.out).2.2 | (with_reducible refine Kd.C_alloc ?_ _) | (with_reducible refine Kd.C_drewN ?_ _) | (with_reducible refine Kd.C_drew ?_))); (case side2 => exact (Kd.S_reads' HO_3.out).2.1); (case side3 => exact dq0); rintro e w34 ⟨rfl, hb⟩; have n0_ := Aside0.mk (Kd.S_below dq85 hb); have n1_ := Aside0.mk (Kd.R_below dq46 hb); have n2_ := Aside0.mk (Kd.R_below dq145 hb); have n3_ := Aside0.mk (Kd.R_below dq144 hb); have n4_ := Aside0.mk (Kd.C_below dq143 hb); have n5_ := Aside0.mk (Kd.C_below dq142 hb); have n6_ := Aside0.mk (below_step dq24 hb); clear HO_3; clear HO_4; clear HL764_3; clear HL766_3; clear HR764_3; clear HR766_3; clear HB; have HO_3 := n0_; have HO_4 := n1_; have HL764_3 := n2_; have HL766_3 := n3_; have HR764_3 := n4_; have HR766_3 := n5_; have HB := n6_; clear n0_ n1_ n2_ n3_ n4_ n5_ n6_; (try clear hb); (try clear hb2); (try clear hk); (try clear hi)) | (go_at_call 39; (with_reducible refine (impl_AttrNames.calls k2 _ _ t753 x8_2 t772 t773 _ ?side3 ?side1 ?side2 A31.out).mono ?_); (case side1 => repeat (first | exact (Kd.S_reads' HO_3.out).2.2 | (with_reducible refine Kd.C_alloc ?_ _) | (with_reducible refine Kd.C_drewN ?_ _) | (with_reducible refine Kd.C_drew ?_))); (case side2 => exact (Kd.S_reads' HO_3.out).2.1); (case side3 => exact dq0); rintro e w35 ⟨v774, rfl, ho0, hb⟩; have n0_ := Aside0.mk (Kd.S_below dq85 hb); have n1_ := Aside0.mk (Kd.R_elder' dq46 (Kd.R_base ho0) hb); have n2_ := Aside0.mk (Kd.R_below dq145 hb); have n3_ := Aside0.mk (Kd.R_below dq144 hb); have n4_ := Aside0.mk (Kd.R_lower (Kd.R_new' ho0 (Kd.R_lt dq46)) (below_size dq24)); have n5_ := Aside0.mk (Kd.C_below dq143 hb); have n6_ := Aside0.mk (Kd.C_below dq142 hb); have n7_ := Aside0.mk (below_step dq24 hb); clear HO_3; clear HO_4; clear HL764_3; clear HL766_3; clear HR764_3; clear HR766_3; clear HB; have HO_3 := n0_; have HO_4 := n1_; have HL764_3 := n2_; have HL766_3 := n3_; have HO775 := n4_; have HR764_3 := n5_; have HR766_3 := n6_; have HB := n7_; clear n0_ n1_ n2_ n3_ n4_ n5_ n6_ n7_; (try clear hb); (try clear hb2); (try clear hk); (try clear hi); (try clear ho0)))
   (try simp only [Act.put, List.setIfInBounds_toArray, List.set_cons_zero, List.set_cons_succ])
   go_cut [131] (fun v131 wc => ∃ (kq : Nat) (x131_31 : Bool), v131 = .bool x131_31 ∧ Aside0 (laws_FnNames.j2 kq t753 t756 x8_2 t772 x131_31 = some r) ∧ Aside0 (kq ≤ k2) ∧ Aside0 (Kd.S k39 39 wc w.heap.size (fun _ => True) (.slice (some ad764) t753.length co9) t753) ∧ Aside0 (Kd.R k56 56 wc w.heap.size (fun k_ => some k_ ≠ (v774 : Value).ownBlock) v758 t756) ∧ Aside0 (Kd.R k56 56 wc w.heap.size (fun k_ => some k_ ≠ (v758 : Value).ownBlock) v774 t772) ∧ Aside0 (Kd.C k46 wc A764_3 ((rd_T39 t753 x8_2).f3).length ((rd_T39 t753 x8_2).f3)) ∧ Aside0 (Kd.C k46 wc A764_3 ((rd_T39 t753 x8_2).f3).length ((rd_T39 t753 x8_2).f3)) ∧ Aside0 (Below w.heap.size w wc))
   case first =>
    have H := HC32.out
    clear HC32
    by_cases c36 : t771 = true
    rotate_left
    ·replace c36 := Bool.eq_false_iff.mpr c36
     subst c36
     have H1 : (laws_FnNames.j2 k2 t753 t756 x8_2 t772 true) = some r := by rw [if_neg (show ¬ (false = true) by decide)] at H; exact H
     clear H
     have H := H1
     clear H1
     have H' := Aside0.mk H
     clear H
     go_wp2
     go_meet
     case rel => exact ⟨_, (true), dq18, H', ⟨dq147⟩, ⟨dq85⟩, ⟨dq136⟩, ⟨dq146⟩, ⟨dq143⟩, ⟨dq142⟩, ⟨dq24⟩⟩
    subst c36
    have H1 : (if x8_2 < (t756.length : Int) then (if ((rd_T56 t756 x8_2).f0).toList = t770.toList then (if ((rd_T56 t756 x8_2).f1).toList = t768.toList then (if t773 = true then (laws_FnNames.j2 k2 t753 t756 x8_2 t772 (decide ((t772.length : Int) > (((rd_T39 t753 x8_2).f3).length : Int)))) else (laws_FnNames.j2 k2 t753 t756 x8_2 t772 true)) else (laws_FnNames.j2 k2 t753 t756 x8_2 t772 true)) else (laws_FnNames.j2 k2 t753 t756 x8_2 t772 true)) else (none)) = some r := by rw [if_pos rfl] at H; exact H
    clear H
    have H := H1
    clear H1
    by_cases c37 : x8_2 < (t756.length : Int)
    rotate_left
    ·rw [if_neg c37] at H
     exact absurd H dq21
    rw [if_pos c37] at H
    have c37b0 := decide_eq_true c37
    clear c37
    (first | rw [c37b0] | rw [c37b3] | (simp only [i64_w, i32_w]; rw [c37b0]) | skip)
    by_cases c38 : ((rd_T56 t756 x8_2).f0).toList = t770.toList
    rotate_left
    ·rw [if_neg c38] at H
     have c38b0 := beq_eq_false_iff_ne.mpr c38
     have c38b1 := bne_iff_ne.mpr c38
     have H' := Aside0.mk H
     clear H
     obtain ⟨Ao45, co45, eo45⟩ := Kd.R_slice HO_4.out
     subst eo45
     have p776 : 0 ≤ (x8_2 : Int) := of_decide_eq_true dq19
     have q776 : x8_2 < (t756.length : Int) := of_decide_eq_true dq19
     obtain ⟨ad776, e776, hx776_0, hx776_1⟩ := at_T56 (Kd.R_reads' HO_4.out).2.2 x8_2 p776 q776
     cases e776
     replace p776 := eq_true p776
     replace q776 := eq_true q776
     go_wp2
     go_meet
     case rel => exact ⟨_, (true), dq18, H', ⟨dq147⟩, ⟨dq85⟩, ⟨dq136⟩, ⟨dq146⟩, ⟨dq143⟩, ⟨dq142⟩, ⟨dq24⟩⟩
    rw [if_pos c38] at H
    have c38b0 := beq_iff_eq.mpr c38
    have c38b1 := bne_eq_false_iff_eq.mpr c38
    clear c38
    by_cases c39 : ((rd_T56 t756 x8_2).f1).toList = t768.toList
    rotate_left
    ·rw [if_neg c39] at H
     have c39b0 := beq_eq_false_iff_ne.mpr c39
     have c39b1 := bne_iff_ne.mpr c39
     have H' := Aside0.mk H
     clear H
     obtain ⟨Ao44, co44, eo44⟩ := Kd.R_slice HO_4.out
     subst eo44
     have p776 : 0 ≤ (x8_2 : Int) := of_decide_eq_true dq19
     have q776 : x8_2 < (t756.length : Int) := of_decide_eq_true dq19
     obtain ⟨ad776, e776, hx776_0, hx776_1⟩ := at_T56 (Kd.R_reads' HO_4.out).2.2 x8_2 p776 q776
     cases e776
     replace p776 := eq_true p776
     replace q776 := eq_true q776
     have p777 : 0 ≤ (x8_2 : Int) := of_decide_eq_true dq19
     have q777 : x8_2 < (t756.length : Int) := of_decide_eq_true dq19
     obtain ⟨ad777, e777, hx777_0, hx777_1⟩ := at_T56 (Kd.R_reads' HO_4.out).2.2 x8_2 p777 q777
     obtain rfl : ad776 = ad777 := (by injection e777)
     replace p777 := eq_true p777
     replace q777 := eq_true q777
     go_wp2
     go_meet
     case rel => exact ⟨_, (true), dq18, H', ⟨dq147⟩, ⟨dq85⟩, ⟨dq136⟩, ⟨dq146⟩, ⟨dq143⟩, ⟨dq142⟩, ⟨dq24⟩⟩
    rw [if_pos c39] at H
    have c39b0 := beq_iff_eq.mpr c39
    have c39b1 := bne_eq_false_iff_eq.mpr c39
    clear c39
    by_cases c40 : t773 = true
    rotate_left
    ·replace c40 := Bool.eq_false_iff.mpr c40
     subst c40
     have H1 : (laws_FnNames.j2 k2 t753 t756 x8_2 t772 true) = some r := by rw [if_neg (show ¬ (false = true) by decide)] at H; exact H
     clear H
     have H := H1
     clear H1
     have H' := Aside0.mk H
     clear H
     obtain ⟨Ao43, co43, eo43⟩ := Kd.R_slice HO_4.out
     subst eo43
     have p776 : 0 ≤ (x8_2 : Int) := of_decide_eq_true dq19
     have q776 : x8_2 < (t756.length : Int) := of_decide_eq_true dq19
     obtain ⟨ad776, e776, hx776_0, hx776_1⟩ := at_T56 (Kd.R_reads' HO_4.out).2.2 x8_2 p776 q776
     cases e776
     replace p776 := eq_true p776
     replace q776 := eq_true q776
     have p777 : 0 ≤ (x8_2 : Int) := of_decide_eq_true dq19
     have q777 : x8_2 < (t756.length : Int) := of_decide_eq_true dq19
     obtain ⟨ad777, e777, hx777_0, hx777_1⟩ := at_T56 (Kd.R_reads' HO_4.out).2.2 x8_2 p777 q777
     obtain rfl : ad776 = ad777 := (by injection e777)
     replace p777 := eq_true p777
     replace q777 := eq_true q777
     go_wp2
     go_meet
     case rel => exact ⟨_, (true), dq18, H', ⟨dq147⟩, ⟨dq85⟩, ⟨dq136⟩, ⟨dq146⟩, ⟨dq143⟩, ⟨dq142⟩, ⟨dq24⟩⟩
    subst c40
    have H1 : (laws_FnNames.j2 k2 t753 t756 x8_2 t772 (decide ((t772.length : Int) > (((rd_T39 t753 x8_2).f3).length : Int)))) = some r := by rw [if_pos rfl] at H; exact H
    clear H
    have H := H1
    clear H1
    have H' := Aside0.mk H
    clear H
    obtain ⟨Ao41, co41, eo41⟩ := Kd.R_slice HO_4.out
    subst eo41
    have p776 : 0 ≤ (x8_2 : Int) := of_decide_eq_true dq19
    have q776 : x8_2 < (t756.length : Int) := of_decide_eq_true dq19
    obtain ⟨ad776, e776, hx776_0, hx776_1⟩ := at_T56 (Kd.R_reads' HO_4.out).2.2 x8_2 p776 q776
    cases e776
    replace p776 := eq_true p776
    replace q776 := eq_true q776
    have p777 : 0 ≤ (x8_2 : Int) := of_decide_eq_true dq19
    have q777 : x8_2 < (t756.length : Int) := of_decide_eq_true dq19
    obtain ⟨ad777, e777, hx777_0, hx777_1⟩ := at_T56 (Kd.R_reads' HO_4.out).2.2 x8_2 p777 q777
    obtain rfl : ad776 = ad777 := (by injection e777)
    replace p777 := eq_true p777
    replace q777 := eq_true q777
    obtain ⟨Ao42, co42, eo42⟩ := Kd.R_slice HO775.out
    subst eo42
    have p778 : 0 ≤ (x8_2 : Int) := of_decide_eq_true dq19
    have q778 : x8_2 < (t753.length : Int) := of_decide_eq_true dq19
    obtain ⟨ad778, A778_3, c778_3, e778, hx778_0, hx778_1, hx778_2, hx778_3, hl778_3, hi778_3⟩ := at_T39 (Kd.S_reads' HO_3.out).2.2 x8_2 p778 q778
    obtain rfl : ad764 = ad778 := (by injection e778)
    obtain ⟨ce778, hce778, hMe778, hcc778⟩ := Kd.S_get HO_3.out z39 x8_2 p778 (by first | exact q778 | exact of_decide_eq_true dq19 | (have e_ := (Kd.S_reads' HO_3.out).1; omega))
    obtain ⟨ve778_3, rfl, ge778_3⟩ := k39_openM hMe778
    have hv778_3 := hcc778 3 _ rfl
    rw [add_field _ _ 3 dq37] at hv778_3
    replace hv778_3 := Option.some.inj (hv778_3.symm.trans hx778_3)
    rw [hv778_3] at ge778_3
    have HL778_3 := Aside0.mk (show Kd.R k46 46 _ _ _ _ ((rd_T39 t753 x8_2).f3) from ge778_3)
    clear hv778_3 ge778_3
    clear hcc778 hce778
    have HR778_3 := Aside0.mk hi778_3
    have HC778_3 := Aside0.mk hl778_3
    clear hi778_3 hl778_3
    replace p778 := eq_true p778
    replace q778 := eq_true q778
    go_wp2
    go_meet
    case rel => exact ⟨_, (decide ((t772.length : Int) > (((rd_T39 t753 x8_2).f3).length : Int))), dq18, H', ⟨dq147⟩, ⟨dq85⟩, ⟨dq136⟩, ⟨dq146⟩, ⟨dq143⟩, ⟨dq142⟩, ⟨dq24⟩⟩
   clear HC32
   try clear c22b0
   try clear c23b0
   try clear c24
   try clear c24b0
   try clear c24b1
   try clear hx764_0
   try clear hx764_1
   try clear hx764_2
   try clear hx764_3
   try clear hx766_0
   try clear hx766_1
   try clear hx766_2
   try clear hx766_3
   try clear p764
   try clear p766
   try clear q764
   try clear q766
   obtain ⟨kq, x131_31, rfl, HA, HJ31, HO_3, HO_4, HO_14, HR764_3, HR766_3, HB⟩ := hcut
   cases kq with
   | zero => exact absurd HA.out (by simp [laws_FnNames.j2])
   | succ kj31 =>
    have H := HA.out
    clear HA
    simp only [laws_FnNames.j2] at H
    by_cases c46 : x131_31 = true
    ·subst c46
     have H1 : (some false) = some r := by rw [if_pos rfl] at H; exact H
     clear H
     have H := H1
     clear H1
     obtain rfl := Option.some.inj H
     go_wp2
     go_ret
     exact ⟨dq26, dq24⟩
    replace c46 := Bool.eq_false_iff.mpr c46
    subst c46
    have H1 : (laws_FnNames.l1 kj31 t753 t756 x8_2 t772 0) = some r := by rw [if_neg (show ¬ (false = true) by decide)] at H; exact H
    clear H
    have H := H1
    clear H1
    have H' := Aside0.mk H
    clear H
    go_wp2
    go_loopg [16] kj31 (fun kq v16 w' => ∃ (x16_4 : Int), v16 = .int .i64 x16_4 ∧ Aside0 (laws_FnNames.l1 kq t753 t756 x8_2 t772 x16_4 = some r) ∧ Aside0 (kq ≤ kj31) ∧ Aside0 (Kd.S k39 39 w' w.heap.size (fun _ => True) (.slice (some ad764) t753.length co9) t753) ∧ Aside0 (Kd.R k56 56 w' w.heap.size (fun k_ => some k_ ≠ (v774 : Value).ownBlock) v758 t756) ∧ Aside0 (Kd.R k56 56 w' w.heap.size (fun k_ => some k_ ≠ (v758 : Value).ownBlock) v774 t772) ∧ Aside0 (Kd.C k46 w' A764_3 ((rd_T39 t753 x8_2).f3).length ((rd_T39 t753 x8_2).f3)) ∧ Aside0 (Kd.C k46 w' A764_3 ((rd_T39 t753 x8_2).f3).length ((rd_T39 t753 x8_2).f3)) ∧ Aside0 (Below w.heap.size w w'))
    case atStart => exact ⟨(0), dq18, H', ⟨Nat.le_refl _⟩, ⟨dq85⟩, ⟨dq46⟩, ⟨dq148⟩, ⟨dq143⟩, ⟨dq142⟩, ⟨dq24⟩⟩
    clear H'
    obtain ⟨x16_4, rfl, HA, HK4, HO_3, HO_4, HO_14, HR764_3, HR766_3, HB⟩ := hrel
    cases gk with
    | zero => exact absurd HA.out (by simp [laws_FnNames.l1])
    | succ k4 =>
     have H := HA.out
     clear HA
     simp only [laws_FnNames.l1] at H
     by_cases c47 : x16_4 < (t772.length : Int)
     rotate_left
     ·rw [if_neg c47] at H
      have c47b0 := decide_eq_false c47
      clear c47
      have H' := Aside0.mk H
      clear H
      obtain ⟨Ao55, co55, eo55⟩ := Kd.R_slice HO_14.out
      subst eo55
      go_wp2
      go_roundg k4
      case measure => have := HJ6.out; have := HK2.out; have := HJ31.out; have := HK4.out; omega
      case rel => exact ⟨(wrap64 (x8_2 + 1)), dq18, H', ⟨by have := HJ6.out; have := HK2.out; have := HJ31.out; have := HK4.out; omega⟩, ⟨dq85⟩, ⟨dq140⟩, ⟨dq24⟩⟩
     rw [if_pos c47] at H
     have c47b0 := decide_eq_true c47
     clear c47
     have H' := Aside0.mk H
     clear H
     obtain ⟨Ao48, co48, eo48⟩ := Kd.R_slice HO_14.out
     subst eo48
     go_wp2
     go_loopg [17] k4 (fun kq v17 w' => ∃ (x17_5 : Int), v17 = .int .i64 x17_5 ∧ Aside0 (laws_FnNames.l2 kq t753 t756 x8_2 t772 x16_4 x17_5 = some r) ∧ Aside0 (kq ≤ k4) ∧ Aside0 (Kd.S k39 39 w' w.heap.size (fun _ => True) (.slice (some ad764) t753.length co9) t753) ∧ Aside0 (Kd.R k56 56 w' w.heap.size (fun k_ => some k_ ≠ ((.slice Ao48 t772.length co48) : Value).ownBlock) v758 t756) ∧ Aside0 (Kd.R k56 56 w' w.heap.size (fun k_ => some k_ ≠ (v758 : Value).ownBlock) (.slice Ao48 t772.length co48) t772) ∧ Aside0 (Kd.C k46 w' A764_3 ((rd_T39 t753 x8_2).f3).length ((rd_T39 t753 x8_2).f3)) ∧ Aside0 (Kd.C k46 w' A764_3 ((rd_T39 t753 x8_2).f3).length ((rd_T39 t753 x8_2).f3)) ∧ Aside0 (Below w.heap.size w w'))
     case atStart => exact ⟨(0), dq18, H', ⟨Nat.le_refl _⟩, ⟨dq85⟩, ⟨dq46⟩, ⟨dq148⟩, ⟨dq143⟩, ⟨dq142⟩, ⟨dq24⟩⟩
     clear H'
     try clear c47b0
     obtain ⟨x17_5, rfl, HA, HK5, HO_3, HO_4, HO_14, HR764_3, HR766_3, HB⟩ := hrel
     cases gk with
     | zero => exact absurd HA.out (by simp [laws_FnNames.l2])
     | succ k5 =>
      have H := HA.out
      clear HA
      simp only [laws_FnNames.l2] at H
      by_cases c49 : x17_5 < x16_4
      rotate_left
      ·rw [if_neg c49] at H
       have c49b0 := decide_eq_false c49
       clear c49
       have H' := Aside0.mk H
       clear H
       go_wp2
       go_roundg k5
       case measure => have := HJ6.out; have := HK2.out; have := HJ31.out; have := HK4.out; have := HK5.out; omega
       case rel => exact ⟨(wrap64 (x16_4 + 1)), dq18, H', ⟨by have := HJ6.out; have := HK2.out; have := HJ31.out; have := HK4.out; have := HK5.out; omega⟩, ⟨dq85⟩, ⟨dq46⟩, ⟨dq148⟩, ⟨dq143⟩, ⟨dq142⟩, ⟨dq24⟩⟩
      rw [if_pos c49] at H
      have c49b0 := decide_eq_true c49
      clear c49
      by_cases c50 : 0 ≤ x16_4
      rotate_left
      ·rw [if_neg c50] at H
       exact absurd H dq21
      rw [if_pos c50] at H
      have c50b0 := decide_eq_true c50
      clear c50
      by_cases c51 : x16_4 < (t772.length : Int)
      rotate_left
      ·rw [if_neg c51] at H
       exact absurd H dq21
      rw [if_pos c51] at H
      have c51b0 := decide_eq_true c51
      clear c51
      by_cases c52 : 0 ≤ x17_5
      rotate_left
      ·rw [if_neg c52] at H
       exact absurd H dq21
      rw [if_pos c52] at H
      have c52b0 := decide_eq_true c52
      clear c52
      by_cases c53 : x17_5 < (t772.length : Int)
      rotate_left
      ·rw [if_neg c53] at H
       exact absurd H dq21
      rw [if_pos c53] at H
      have c53b0 := decide_eq_true c53
      clear c53
      by_cases c54 : ((((rd_T56 t772 x16_4).f0).toList) == (((rd_T56 t772 x17_5).f0).toList) && ((((rd_T56 t772 x16_4).f1).toList) == (((rd_T56 t772 x17_5).f1).toList))) = true
      ·rw [if_pos c54] at H
       have c54b0 : ((((rd_T56 t772 x16_4).f0).toList) == (((rd_T56 t772 x17_5).f0).toList) && ((((rd_T56 t772 x16_4).f1).toList) == (((rd_T56 t772 x17_5).f1).toList))) = true := c54
       (try (have c54b1 : decide ((((rd_T56 t772 x16_4).f0).toList) = (((rd_T56 t772 x17_5).f0).toList) && ((((rd_T56 t772 x16_4).f1).toList) == (((rd_T56 t772 x17_5).f1).toList))) = true := by simpa using c54))
       (try (have c54b2 : ((((rd_T56 t772 x16_4).f0).toList) == (((rd_T56 t772 x17_5).f0).toList) && ((((rd_T56 t772 x16_4).f1).toList) == (((rd_T56 t772 x17_5).f1).toList))) = true := by simpa using c54))
       clear c54
       obtain rfl := Option.some.inj H
       have p779 : 0 ≤ (x16_4 : Int) := of_decide_eq_true dq19
       have q779 : x16_4 < (t772.length : Int) := of_decide_eq_true dq19
       obtain ⟨ad779, e779, hx779_0, hx779_1⟩ := at_T56 (Kd.R_reads' HO_14.out).2.2 x16_4 p779 q779
       cases e779
       replace p779 := eq_true p779
       replace q779 := eq_true q779
       have p780 : 0 ≤ (x17_5 : Int) := of_decide_eq_true dq19
       have q780 : x17_5 < (t772.length : Int) := of_decide_eq_true dq19
       obtain ⟨ad780, e780, hx780_0, hx780_1⟩ := at_T56 (Kd.R_reads' HO_14.out).2.2 x17_5 p780 q780
       obtain rfl : ad779 = ad780 := (by injection e780)
       replace p780 := eq_true p780
       replace q780 := eq_true q780
       go_wp2
       repeat (go_quiet (fail); try go_wp2)
       go_ret
       exact ⟨dq26, dq24⟩
      rw [if_neg c54] at H
      have c54b0 : ((((rd_T56 t772 x16_4).f0).toList) == (((rd_T56 t772 x17_5).f0).toList) && ((((rd_T56 t772 x16_4).f1).toList) == (((rd_T56 t772 x17_5).f1).toList))) = false := by simpa using c54
      (try (have c54b1 : decide ((((rd_T56 t772 x16_4).f0).toList) = (((rd_T56 t772 x17_5).f0).toList) && ((((rd_T56 t772 x16_4).f1).toList) == (((rd_T56 t772 x17_5).f1).toList))) = false := by simpa using c54))
      (try (have c54b2 : ((((rd_T56 t772 x16_4).f0).toList) == (((rd_T56 t772 x17_5).f0).toList) && ((((rd_T56 t772 x16_4).f1).toList) == (((rd_T56 t772 x17_5).f1).toList))) = false := by simpa using c54))
      (try (have c54b3 : ¬ ((((rd_T56 t772 x16_4).f0).toList) = (((rd_T56 t772 x17_5).f0).toList) && ((((rd_T56 t772 x16_4).f1).toList) == (((rd_T56 t772 x17_5).f1).toList))) := by simpa using c54))
      clear c54
      have H' := Aside0.mk H
      clear H
      have p779 : 0 ≤ (x16_4 : Int) := of_decide_eq_true dq19
      have q779 : x16_4 < (t772.length : Int) := of_decide_eq_true dq19
      obtain ⟨ad779, e779, hx779_0, hx779_1⟩ := at_T56 (Kd.R_reads' HO_14.out).2.2 x16_4 p779 q779
      cases e779
      replace p779 := eq_true p779
      replace q779 := eq_true q779
      have p780 : 0 ≤ (x17_5 : Int) := of_decide_eq_true dq19
      have q780 : x17_5 < (t772.length : Int) := of_decide_eq_true dq19
      obtain ⟨ad780, e780, hx780_0, hx780_1⟩ := at_T56 (Kd.R_reads' HO_14.out).2.2 x17_5 p780 q780
      obtain rfl : ad779 = ad780 := (by injection e780)
      replace p780 := eq_true p780
      replace q780 := eq_true q780
      go_wp2
      repeat (go_quiet (fail); try go_wp2)
      go_roundg k5
      case measure => have := HJ6.out; have := HK2.out; have := HJ31.out; have := HK4.out; have := HK5.out; omega
      case rel => exact ⟨(wrap64 (x17_5 + 1)), dq18, H', ⟨by have := HJ6.out; have := HK2.out; have := HJ31.out; have := HK4.out; have := HK5.out; omega⟩, ⟨dq85⟩, ⟨dq46⟩, ⟨dq148⟩, ⟨dq143⟩, ⟨dq142⟩, ⟨dq24⟩⟩

/-- THE ONE PURE STATEMENT of laws_FnNames: yours. -/
def laws_FnNames.Pure : Prop := ∀ (l0 : List Int), l0.length ≤ maxLen → l0.length * 1 ≤ 140737488351232 → (∀ x ∈ l0, (Lit.int .u8 x).wf = true) → ∃ k, laws_FnNames.f k l0 = some true
theorem laws_FnNames.walk (P : laws_FnNames.Pure) (a0 : Option Addr) (len0 cap0 : Nat) (z0 : List Int) (w : World) (hT : Gl w) (w0 : (a0 = none ∧ len0 = 0 ∧ cap0 = 0 ∧ z0 = []) ∨ ∃ x, a0 = some x ∧ len0 ≤ cap0 ∧ cap0 ≤ maxLen ∧ z0.length = cap0 ∧ (∀ i, i < z0.length → w.cell? (x.add i) = some (.int .u8 (z0.getD i 0))) ∧ ∀ n ∈ z0, (Lit.int .u8 n).wf = true) (y0 : len0 * 1 ≤ 140737488351232) :
  Calls Tryd.prog 8 #[.slice a0 len0 cap0] w fun e w' => e = .returned (.bool true) ∧ Below w.heap.size w w' := by
 obtain ⟨l0, rfl, hr0, hm0, hw0, hc0⟩ := ReadsInt.ofRowC w0
 obtain ⟨k, h⟩ := P l0 hm0 y0 hw0
 refine (laws_FnNames.calls k _ _ l0 true w hT (Kd.C_of_reads (d := (0 : Int)) (h1 := fun _ => rfl) hr0) hc0 h).mono ?_
 rintro e w' ⟨rfl, hd⟩
 exact ⟨rfl, hd⟩

end Go.Proofs.YtpmjpbaeecnpiaaDoor.L

namespace Go.Proofs.YtpmjpbaeecnpiaaDoor.Pure
open Go.RowKit Go.Proofs.YtpmjpbaeecnpiaaDoor.L Go.Proofs.YtpmjpbaeecnpiaaDoorW.PrintWords Go.Proofs.YtpmjpbaeecnpiaaDoorW.PrintLast Go.Proofs.YtpmjpbaeecnpiaaDoorW.PrintMore
set_option linter.unusedVariables false
set_option linter.unusedSimpArgs false

theorem ba_ext {a b : ByteArray} (h : a.data.toList = b.data.toList) : a = b := by
  cases a; cases b; simp only [ByteArray.mk.injEq]; exact Array.toList_inj.mp h
theorem ba_app (a b : ByteArray) : (a ++ b).data.toList = a.data.toList ++ b.data.toList := by
  rw [ByteArray.data_append, Array.toList_append]
theorem sz (a : ByteArray) : a.size = a.data.toList.length := (data_length a).symm
theorem w64 {n : Int} (h : -9223372036854775808 ≤ n) (h' : n ≤ 9223372036854775807) : wrap64 n = n := by unfold wrap64; omega
theorem bt_nat (s : ByteArray) (i : Nat) (h : i < s.data.toList.length) : bt s (i : Int) = ((s.data.toList[i]).toNat : Int) := by
  have h' : i < s.size := by rw [sz]; exact h
  unfold bt
  rw [dif_pos (by simpa using h')]
  simp only [Int.toNat_natCast]
  rfl
theorem first_bt (s : ByteArray) (b : UInt8) (l : List UInt8) (h : s.data.toList = b :: l) : bt s 0 = (b.toNat : Int) := by
  have := bt_nat s 0 (by rw [h]; simp)
  simp only [h, Int.ofNat_zero, List.getElem_cons_zero] at this
  simpa using this
theorem byte_is (b : UInt8) (n : Nat) (hn : n < 256) : ((b.toNat : Int) = (n : Int)) ↔ b = UInt8.ofNat n := by
  constructor
  · intro h
    apply UInt8.toNat.inj
    rw [UInt8.toNat_ofNat']
    omega
  · intro h; subst h; rw [UInt8.toNat_ofNat']; omega
/-- A row of bytes that is a name. -/
def fstB (b : UInt8) : Bool := decide (97 ≤ b.toNat ∧ b.toNat ≤ 122) || decide (65 ≤ b.toNat ∧ b.toNat ≤ 90) || decide (b.toNat = 95)
def moreB (b : UInt8) : Bool := fstB b || decide (48 ≤ b.toNat ∧ b.toNat ≤ 57) || decide (b.toNat = 46) || decide (b.toNat = 45)
def nameB : List UInt8 → Bool
  | [] => false
  | b :: t => fstB b && t.all moreB && decide (t.length + 1 ≤ 40)
theorem u8_all {p : UInt8 → Prop} (h : ∀ n : Fin 256, p (UInt8.ofNat n.val)) (b : UInt8) : p b := by
  have := h ⟨b.toNat, b.toNat_lt⟩
  simpa using this
theorem first_f (b : UInt8) : spec_l1First.f (b.toNat : Int) = some (fstB b) := by
  revert b
  refine u8_all ?_
  decide +kernel
theorem more_f (b : UInt8) : spec_l1More.f (b.toNat : Int) = some (moreB b) := by
  revert b
  refine u8_all ?_
  decide +kernel
theorem spec_name_l0 (s : ByteArray) (hs : s.data.toList.length ≤ 9223372036854775806) : ∀ (n i : Nat), i + n = s.data.toList.length →
    Ev (fun k => spec_NameOk.l0 k s (i : Int)) ((s.data.toList.drop i).all moreB) := by
  intro n
  induction n with
  | zero =>
    intro i hi
    refine Ev.step (f := fun _ => some true) (fun k => ?_) ?_
    · unfold spec_NameOk.l0
      rw [if_neg (by rw [sz]; omega)]
    · rw [List.drop_of_length_le (by omega)]; exact Ev.now _
  | succ n ih =>
    intro i hi
    have hlt : i < s.data.toList.length := by omega
    have e : spec_l1More.f (bt s (i : Int)) = some (moreB (s.data.toList[i])) := by rw [bt_nat s i hlt]; exact more_f _
    have hd : s.data.toList.drop i = s.data.toList[i] :: s.data.toList.drop (i + 1) := List.drop_eq_getElem_cons hlt
    have w : wrap64 ((i : Int) + 1) = ((i + 1 : Nat) : Int) := by rw [w64] <;> omega
    by_cases c : moreB (s.data.toList[i]) = true
    · refine Ev.step (f := fun k => spec_NameOk.l0 k s ((i + 1 : Nat) : Int)) (fun k => ?_) ?_
      · conv => lhs; unfold spec_NameOk.l0
        rw [if_pos (by rw [sz]; omega), if_pos (by omega), e]
        simp only [Option.bind_some, if_pos c, w]
      · rw [hd, List.all_cons, c, Bool.true_and]; exact ih (i + 1) (by omega)
    · refine Ev.step (f := fun _ => some false) (fun k => ?_) ?_
      · conv => lhs; unfold spec_NameOk.l0
        rw [if_pos (by rw [sz]; omega), if_pos (by omega), e]
        simp only [Option.bind_some, if_neg c]
      · rw [hd, List.all_cons]
        rw [Bool.not_eq_true] at c
        rw [c, Bool.false_and]; exact Ev.now _
theorem spec_name (s : ByteArray) : Ev (fun k => spec_NameOk.f k s) (nameB s.data.toList) := by
  cases hl : s.data.toList with
  | nil =>
    refine Ev.congr (f := fun k => spec_NameOk.j0 k s true) (fun k => ?_) ?_
    · unfold spec_NameOk.f
      rw [if_pos (by rw [sz, hl]; decide)]
    · refine Ev.step (f := fun _ => some false) (fun k => ?_) (Ev.now _)
      rfl
  | cons b t =>
    have hz : (s.size : Int) = (t.length : Int) + 1 := by rw [sz, hl]; simp
    by_cases c : t.length + 1 ≤ 40
    · refine Ev.congr (f := fun k => spec_NameOk.j0 k s (!fstB b)) (fun k => ?_) ?_
      · unfold spec_NameOk.f
        rw [if_neg (by omega), if_neg (by omega), if_pos (by omega), first_bt s b t hl, first_f]
        rfl
      · by_cases d : fstB b = true
        · refine Ev.step (f := fun k => spec_NameOk.l0 k s ((1 : Nat) : Int)) (fun k => ?_) ?_
          · rw [d]; rfl
          · have := spec_name_l0 s (by rw [hl]; simp; omega) t.length 1 (by rw [hl]; simp; omega)
            rw [hl] at this
            have e : nameB (b :: t) = ((b :: t).drop 1).all moreB := by simp [nameB, d, c]
            rw [e]; exact this
        · rw [Bool.not_eq_true] at d
          have e : nameB (b :: t) = false := by simp [nameB, d]
          rw [e]
          refine Ev.step (f := fun _ => some false) (fun k => ?_) (Ev.now _)
          rw [d]; rfl
    · have e : nameB (b :: t) = false := by simp [nameB, c]
      rw [e]
      refine Ev.congr (f := fun k => spec_NameOk.j0 k s true) (fun k => ?_) ?_
      · unfold spec_NameOk.f
        rw [if_neg (by omega), if_pos (by omega)]
      · refine Ev.step (f := fun _ => some false) (fun k => ?_) (Ev.now _)
        rfl

def lenB (n : Nat) : Bool := decide (1 ≤ n) && decide (n ≤ 40)
theorem in_len (n : Nat) : impl_in.f (n : Int) 1 40 = some (lenB n) := by
  unfold impl_in.f lenB
  by_cases h : 1 ≤ n
  · rw [if_pos (by omega)]; simp [h]; omega
  · rw [if_neg (by omega)]; simp [h]
theorem fst_iff (b : UInt8) : fstB b = true ↔ ((97 ≤ (b.toNat : Int) ∧ (b.toNat : Int) ≤ 122) ∨ (65 ≤ (b.toNat : Int) ∧ (b.toNat : Int) ≤ 90) ∨ (b.toNat : Int) = 95) := by
  unfold fstB
  simp only [Bool.or_eq_true, decide_eq_true_eq]
  omega
theorem more_iff (b : UInt8) : moreB b = true ↔ (((97 ≤ (b.toNat : Int) ∧ (b.toNat : Int) ≤ 122) ∨ (65 ≤ (b.toNat : Int) ∧ (b.toNat : Int) ≤ 90) ∨ (b.toNat : Int) = 95) ∨ (48 ≤ (b.toNat : Int) ∧ (b.toNat : Int) ≤ 57) ∨ (b.toNat : Int) = 46 ∨ (b.toNat : Int) = 45) := by
  unfold moreB
  simp only [Bool.or_eq_true, decide_eq_true_eq, fst_iff]
  omega
theorem impl_name_l0 (s : ByteArray) (hs : s.data.toList.length ≤ 9223372036854775806) : ∀ (n i : Nat), 1 ≤ i → i + n = s.data.toList.length →
    Ev (fun k => impl_NameOk.l0 k s (s.size : Int) (i : Int)) ((s.data.toList.drop i).all moreB && lenB s.data.toList.length) := by
  intro n
  induction n with
  | zero =>
    intro i h1 hi
    refine Ev.step (f := fun _ => some (lenB s.data.toList.length)) (fun k => ?_) ?_
    · unfold impl_NameOk.l0
      rw [if_neg (by rw [sz]; omega), sz, in_len]
      rfl
    · rw [List.drop_of_length_le (by omega)]; exact Ev.now _
  | succ n ih =>
    intro i h1 hi
    have hlt : i < s.data.toList.length := by omega
    have hd : s.data.toList.drop i = s.data.toList[i] :: s.data.toList.drop (i + 1) := List.drop_eq_getElem_cons hlt
    have w : wrap64 ((i : Int) + 1) = ((i + 1 : Nat) : Int) := by rw [w64] <;> omega
    have hm := more_iff (s.data.toList[i])
    by_cases c : moreB (s.data.toList[i]) = true
    · have hv := hm.1 c
      refine Ev.step (f := fun k => impl_NameOk.l0 k s (s.size : Int) ((i + 1 : Nat) : Int)) (fun k => ?_) ?_
      · conv => lhs; unfold impl_NameOk.l0
        rw [if_pos (by rw [sz]; omega), if_pos (by omega), if_pos (by rw [sz]; omega), bt_nat s i hlt, w]
        generalize impl_NameOk.l0 k s (s.size : Int) ((i + 1 : Nat) : Int) = X
        generalize ((s.data.toList[i]).toNat : Int) = v at hv
        clear hm ih c hd w hs hi hlt
        have hi0 : ¬ (i : Int) = 0 := by omega
        simp only [if_neg hi0]
        clear hi0 h1
        repeat' split
        all_goals first | rfl | (exfalso; omega)
      · rw [hd, List.all_cons, c, Bool.true_and]; exact ih (i + 1) (by omega) (by omega)
    · have hv := mt hm.2 c
      refine Ev.step (f := fun _ => some false) (fun k => ?_) ?_
      · conv => lhs; unfold impl_NameOk.l0
        rw [if_pos (by rw [sz]; omega), if_pos (by omega), if_pos (by rw [sz]; omega), bt_nat s i hlt, w]
        generalize impl_NameOk.l0 k s (s.size : Int) ((i + 1 : Nat) : Int) = X
        generalize ((s.data.toList[i]).toNat : Int) = v at hv
        clear hm ih c hd w hs hi hlt
        have hi0 : ¬ (i : Int) = 0 := by omega
        simp only [if_neg hi0]
        clear hi0 h1
        repeat' split
        all_goals first | rfl | (exfalso; omega)
      · rw [hd, List.all_cons]
        rw [Bool.not_eq_true] at c
        rw [c, Bool.false_and, Bool.false_and]; exact Ev.now _
theorem impl_name (s : ByteArray) (hs : s.data.toList.length ≤ 9223372036854775806) : Ev (fun k => impl_NameOk.f k s) (nameB s.data.toList) := by
  cases hl : s.data.toList with
  | nil =>
    unfold impl_NameOk.f
    refine Ev.step (f := fun _ => some false) (fun k => ?_) (Ev.now _)
    unfold impl_NameOk.l0
    have hz : s.size = 0 := by rw [sz, hl]; rfl
    rw [if_neg (by omega), hz]
    rfl
  | cons b t =>
    have hlt : 0 < s.data.toList.length := by rw [hl]; simp
    have hlen : s.data.toList.length = t.length + 1 := by rw [hl]; simp
    have w : wrap64 ((0 : Int) + 1) = ((1 : Nat) : Int) := by rw [w64 (by omega) (by omega)]; rfl
    have hm := fst_iff b
    have eb : bt s 0 = (b.toNat : Int) := first_bt s b t hl
    unfold impl_NameOk.f
    by_cases c : fstB b = true
    · have hv := hm.1 c
      refine Ev.step (f := fun k => impl_NameOk.l0 k s (s.size : Int) ((1 : Nat) : Int)) (fun k => ?_) ?_
      · conv => lhs; unfold impl_NameOk.l0
        rw [if_pos (by rw [sz]; omega), if_pos (by omega), if_pos (by rw [sz]; omega), eb, w]
        generalize impl_NameOk.l0 k s (s.size : Int) ((1 : Nat) : Int) = X
        generalize (b.toNat : Int) = v at hv
        clear hm c eb w hs hlt hlen hl
        simp only [if_true]
        repeat' split
        all_goals first | rfl | (exfalso; omega)
      · have := impl_name_l0 s hs t.length 1 (by omega) (by omega)
        rw [hl] at this
        have e : nameB (b :: t) = (((b :: t).drop 1).all moreB && lenB (b :: t).length) := by
          simp [nameB, lenB, c]
        rw [e]; exact this
    · have hv := mt hm.2 c
      refine Ev.step (f := fun _ => some false) (fun k => ?_) ?_
      · conv => lhs; unfold impl_NameOk.l0
        rw [if_pos (by rw [sz]; omega), if_pos (by omega), if_pos (by rw [sz]; omega), eb, w]
        generalize impl_NameOk.l0 k s (s.size : Int) ((1 : Nat) : Int) = X
        generalize (b.toNat : Int) = v at hv
        clear hm c eb w hs hlt hlen hl
        simp only [if_true]
        repeat' split
        all_goals first | rfl | (exfalso; omega)
      · rw [Bool.not_eq_true] at c
        have e : nameB (b :: t) = false := by simp [nameB, c]
        rw [e]; exact Ev.now _
def B (s : ByteArray) (i : Nat) : Nat := (s.get! i).toNat
theorem B_lt (s : ByteArray) (i : Nat) : B s i < 256 := (s.get! i).toNat_lt
theorem bt_B (s : ByteArray) (i : Nat) (h : i < s.size) : bt s (i : Int) = (B s i : Int) := by
  have hl : i < s.data.toList.length := by rw [← sz]; exact h
  rw [bt_nat s i hl]
  have h2 : i < s.data.size := by simpa using hl
  have e : s.get! i = s.data[i] := by unfold ByteArray.get!; exact getElem!_pos s.data i h2
  unfold B
  rw [e]
  simp
theorem tm (b m : Nat) : Int.tmod (b : Int) (m : Int) = ((b % m : Nat) : Int) := (Int.ofNat_tmod b m).symm
def charB (x : Nat) : Bool := decide (x ≤ 55295) || (decide (57344 ≤ x) && decide (x ≤ 1114111))
theorem char_f (x : Nat) : spec_l1Char.f (x : Int) = some (charB x) := by
  unfold spec_l1Char.f spec_l1In.f charB
  by_cases h1 : x ≤ 55295
  · rw [if_pos (by omega)]
    have : decide ((x : Int) ≤ 55295) = true := decide_eq_true (by omega)
    rw [this]
    simp [h1]
  · rw [if_pos (by omega)]
    have : decide ((x : Int) ≤ 55295) = false := decide_eq_false (by omega)
    rw [this]
    simp only [Option.bind_some, Bool.false_eq_true, if_false]
    by_cases h2 : 57344 ≤ x
    · rw [if_pos (by omega)]
      have e : decide ((x : Int) ≤ 1114111) = decide (x ≤ 1114111) := by simp only [decide_eq_decide]; omega
      simp [h1, h2, e]
    · rw [if_neg (by omega)]
      simp [h1, h2]
def finV (x n low : Nat) : Int × Int := if x < low then (0, 0) else if charB x = true then ((x : Int), (n : Int)) else (0, 0)
theorem l0_end (s : ByteArray) (x n low : Nat) : Ev (fun k => spec_l1Rune.l0 k s (x : Int) (n : Int) (low : Int) (n : Int)) (finV x n low) := by
  refine Ev.step (f := fun _ => some (finV x n low)) (fun k => ?_) (Ev.now _)
  conv => lhs; unfold spec_l1Rune.l0
  rw [if_neg (by omega), char_f]
  unfold finV
  by_cases h : x < low
  · rw [if_pos (by omega), if_pos h]
  · rw [if_neg (by omega), if_neg h]
    simp only [Option.bind_some]
    cases charB x <;> rfl
theorem l0_go (s : ByteArray) (x n low i : Nat) (hi : i < n) (hs : i < s.size) (hn : n ≤ 4) (hx : x < 4194304) (hc : B s i / 64 = 2) (r : Int × Int)
    (h : Ev (fun k => spec_l1Rune.l0 k s ((64 * x + B s i % 64 : Nat) : Int) (n : Int) (low : Int) ((i + 1 : Nat) : Int)) r) : Ev (fun k => spec_l1Rune.l0 k s (x : Int) (n : Int) (low : Int) (i : Int)) r := by
  have hb := B_lt s i
  refine Ev.step (fun k => ?_) h
  conv => lhs; unfold spec_l1Rune.l0
  have e1 : wrap64 (64 * (x : Int)) = ((64 * x : Nat) : Int) := by rw [w64] <;> omega
  have e2 : wrap64 (Int.tmod (B s i : Int) 64) = ((B s i % 64 : Nat) : Int) := by
    have := tm (B s i) 64
    rw [show ((64 : Nat) : Int) = 64 from rfl] at this
    rw [this, w64] <;> omega
  have e3 : wrap64 (((64 * x : Nat) : Int) + ((B s i % 64 : Nat) : Int)) = ((64 * x + B s i % 64 : Nat) : Int) := by rw [w64] <;> omega
  have e4 : wrap64 ((i : Int) + 1) = ((i + 1 : Nat) : Int) := by rw [w64] <;> omega
  rw [if_pos (by omega), if_pos (by omega), if_pos (by omega), bt_B s i hs, if_neg (by omega), if_neg (by omega), e1, e2, e3, e4]
theorem l0_no (s : ByteArray) (x n low i : Nat) (hi : i < n) (hs : i < s.size) (hc : ¬ B s i / 64 = 2) : Ev (fun k => spec_l1Rune.l0 k s (x : Int) (n : Int) (low : Int) (i : Int)) (0, 0) := by
  have hb := B_lt s i
  refine Ev.step (f := fun _ => some (0, 0)) (fun k => ?_) (Ev.now _)
  conv => lhs; unfold spec_l1Rune.l0
  rw [if_pos (by omega), if_pos (by omega), if_pos (by omega), bt_B s i hs]
  by_cases h : B s i < 128
  · rw [if_pos (by omega)]
  · rw [if_neg (by omega), if_pos (by omega)]
/-- What the reference says of the first character: the model's decoding, 0 bytes where that fails. -/
def runeV (s : ByteArray) : Int × Int := if (Utf8.decode s 0).1 = 65533 ∧ (Utf8.decode s 0).2 = 1 then (0, 0) else (((Utf8.decode s 0).1 : Int), ((Utf8.decode s 0).2 : Int))
def runeN (n b0 b1 b2 b3 : Nat) : Int × Int := if (Lib.decodeN n b0 b1 b2 b3).1 = 65533 ∧ (Lib.decodeN n b0 b1 b2 b3).2 = 1 then (0, 0) else (((Lib.decodeN n b0 b1 b2 b3).1 : Int), ((Lib.decodeN n b0 b1 b2 b3).2 : Int))
theorem runeV_N (s : ByteArray) : runeV s = runeN s.size (B s 0) (B s 1) (B s 2) (B s 3) := by
  unfold runeV runeN B
  rw [Lib.decode_at s 0]
  simp only [Nat.sub_zero, Nat.zero_add]
theorem j2_few (s : ByteArray) (x n low : Nat) (h : s.size < n) : Ev (fun k => spec_l1Rune.j2 k s (x : Int) (n : Int) (low : Int)) (0, 0) := by
  refine Ev.step (f := fun _ => some (0, 0)) (fun k => ?_) (Ev.now _)
  have e : spec_l1Rune.j2 (k + 1) s (x : Int) (n : Int) (low : Int) = (if (s.size : Int) < (n : Int) then some (0, 0) else spec_l1Rune.l0 k s (x : Int) (n : Int) (low : Int) 1) := rfl
  rw [e, if_pos (by omega)]
theorem j2_go (s : ByteArray) (x n low : Nat) (h : n ≤ s.size) (r : Int × Int) (hr : Ev (fun k => spec_l1Rune.l0 k s (x : Int) (n : Int) (low : Int) ((1 : Nat) : Int)) r) : Ev (fun k => spec_l1Rune.j2 k s (x : Int) (n : Int) (low : Int)) r := by
  refine Ev.step (f := fun k => spec_l1Rune.l0 k s (x : Int) (n : Int) (low : Int) ((1 : Nat) : Int)) (fun k => ?_) hr
  have e : spec_l1Rune.j2 (k + 1) s (x : Int) (n : Int) (low : Int) = (if (s.size : Int) < (n : Int) then some (0, 0) else spec_l1Rune.l0 k s (x : Int) (n : Int) (low : Int) 1) := rfl
  rw [e, if_neg (by omega)]
  rfl
theorem bad_N {n b0 b1 b2 b3 : Nat} (h : Lib.decodeN n b0 b1 b2 b3 = (65533, 1)) : runeN n b0 b1 b2 b3 = (0, 0) := by
  unfold runeN; rw [h]; rfl
theorem two_rune (s : ByteArray) (h0 : B s 0 / 32 = 6) : Ev (fun k => spec_l1Rune.j2 k s ((B s 0 % 32 : Nat) : Int) ((2 : Nat) : Int) ((128 : Nat) : Int)) (runeN s.size (B s 0) (B s 1) (B s 2) (B s 3)) := by
  have hb := B_lt s 0
  by_cases hz : s.size < 2
  · rw [bad_N]
    · exact j2_few s _ 2 128 hz
    · unfold Lib.decodeN
      rw [if_neg (by omega), if_neg (by omega), if_neg (by omega), if_neg (by omega)]
  · refine j2_go s _ 2 128 (by omega) _ ?_
    by_cases c1 : B s 1 / 64 = 2
    · refine l0_go s _ 2 128 1 (by omega) (by omega) (by omega) (by omega) c1 _ ?_
      have e : runeN s.size (B s 0) (B s 1) (B s 2) (B s 3) = finV (64 * (B s 0 % 32) + B s 1 % 64) 2 128 := by
        unfold runeN Lib.decodeN finV charB
        rw [if_neg (show ¬ B s 0 < 128 by omega), if_pos (show B s 0 / 32 = 6 ∧ (1 < s.size ∧ B s 1 / 64 = 2) from ⟨h0, by omega, c1⟩)]
        by_cases c : B s 0 % 32 * 64 + B s 1 % 64 ≥ 128
        · rw [if_pos c, if_neg (show ¬ (64 * (B s 0 % 32) + B s 1 % 64) < 128 by omega)]
          rw [decide_eq_true (show 64 * (B s 0 % 32) + B s 1 % 64 ≤ 55295 by omega)]
          simp only [Bool.true_or, if_true]
          rw [if_neg (show ¬ (B s 0 % 32 * 64 + B s 1 % 64 = 65533 ∧ (2 : Nat) = 1) by omega)]
          congr 1
          omega
        · rw [if_neg c, if_pos (show (64 * (B s 0 % 32) + B s 1 % 64) < 128 by omega)]
          rfl
      rw [e]
      exact l0_end s _ 2 128
    · rw [bad_N]
      · exact l0_no s _ 2 128 1 (by omega) (by omega) c1
      · unfold Lib.decodeN
        rw [if_neg (by omega), if_neg (by omega), if_neg (by omega), if_neg (by omega)]
theorem three_rune (s : ByteArray) (h0 : B s 0 / 16 = 14) : Ev (fun k => spec_l1Rune.j2 k s ((B s 0 % 16 : Nat) : Int) ((3 : Nat) : Int) ((2048 : Nat) : Int)) (runeN s.size (B s 0) (B s 1) (B s 2) (B s 3)) := by
  have hb := B_lt s 0
  by_cases hz : s.size < 3
  · rw [bad_N]
    · exact j2_few s _ 3 2048 hz
    · unfold Lib.decodeN
      rw [if_neg (by omega), if_neg (by omega), if_neg (by omega), if_neg (by omega)]
  · refine j2_go s _ 3 2048 (by omega) _ ?_
    by_cases c1 : B s 1 / 64 = 2
    · refine l0_go s _ 3 2048 1 (by omega) (by omega) (by omega) (by omega) c1 _ ?_
      by_cases c2 : B s 2 / 64 = 2
      · refine l0_go s _ 3 2048 2 (by omega) (by omega) (by omega) (by omega) c2 _ ?_
        have e : runeN s.size (B s 0) (B s 1) (B s 2) (B s 3) = finV (64 * (64 * (B s 0 % 16) + B s 1 % 64) + B s 2 % 64) 3 2048 := by
          obtain ⟨y, hy⟩ : ∃ y, 64 * (64 * (B s 0 % 16) + B s 1 % 64) + B s 2 % 64 = y := ⟨_, rfl⟩
          have hy2 : B s 0 % 16 * 4096 + B s 1 % 64 * 64 + B s 2 % 64 = y := by omega
          unfold runeN Lib.decodeN
          rw [hy, hy2, if_neg (show ¬ B s 0 < 128 by omega), if_neg (show ¬ (B s 0 / 32 = 6 ∧ (1 < s.size ∧ B s 1 / 64 = 2)) by omega), if_pos (show B s 0 / 16 = 14 ∧ (1 < s.size ∧ B s 1 / 64 = 2) ∧ (2 < s.size ∧ B s 2 / 64 = 2) from ⟨h0, ⟨by omega, c1⟩, by omega, c2⟩)]
          clear hy hy2
          unfold finV charB
          by_cases d : y < 2048
          · rw [if_neg (show ¬ (y ≥ 2048 ∧ (y < 55296 ∨ (57344 ≤ y ∧ y ≤ 1114111))) by omega), if_pos d]; rfl
          · by_cases d2 : y < 55296 ∨ (57344 ≤ y ∧ y ≤ 1114111)
            · rw [if_pos (show y ≥ 2048 ∧ (y < 55296 ∨ (57344 ≤ y ∧ y ≤ 1114111)) from ⟨by omega, d2⟩), if_neg (show ¬ (((y, 3) : Nat × Nat).1 = 65533 ∧ ((y, 3) : Nat × Nat).2 = 1) from fun h => by cases h.2), if_neg d, if_pos (show (decide (y ≤ 55295) || (decide (57344 ≤ y) && decide (y ≤ 1114111))) = true by simp only [Bool.or_eq_true, Bool.and_eq_true, decide_eq_true_eq]; omega)]
            · rw [if_neg (show ¬ (y ≥ 2048 ∧ (y < 55296 ∨ (57344 ≤ y ∧ y ≤ 1114111))) by omega), if_neg d, if_neg (show ¬ ((decide (y ≤ 55295) || (decide (57344 ≤ y) && decide (y ≤ 1114111))) = true) by simp only [Bool.or_eq_true, Bool.and_eq_true, decide_eq_true_eq]; omega)]; rfl
        rw [e]
        exact l0_end s _ 3 2048
      · rw [bad_N]
        · exact l0_no s _ 3 2048 2 (by omega) (by omega) c2
        · unfold Lib.decodeN
          rw [if_neg (by omega), if_neg (by omega), if_neg (by omega), if_neg (by omega)]
    · rw [bad_N]
      · exact l0_no s _ 3 2048 1 (by omega) (by omega) c1
      · unfold Lib.decodeN
        rw [if_neg (by omega), if_neg (by omega), if_neg (by omega), if_neg (by omega)]
theorem four_rune (s : ByteArray) (h0 : B s 0 / 8 = 30) : Ev (fun k => spec_l1Rune.j2 k s ((B s 0 % 8 : Nat) : Int) ((4 : Nat) : Int) ((65536 : Nat) : Int)) (runeN s.size (B s 0) (B s 1) (B s 2) (B s 3)) := by
  have hb := B_lt s 0
  by_cases hz : s.size < 4
  · rw [bad_N]
    · exact j2_few s _ 4 65536 hz
    · unfold Lib.decodeN
      rw [if_neg (by omega), if_neg (by omega), if_neg (by omega), if_neg (by omega)]
  · refine j2_go s _ 4 65536 (by omega) _ ?_
    by_cases c1 : B s 1 / 64 = 2
    · refine l0_go s _ 4 65536 1 (by omega) (by omega) (by omega) (by omega) c1 _ ?_
      by_cases c2 : B s 2 / 64 = 2
      · refine l0_go s _ 4 65536 2 (by omega) (by omega) (by omega) (by omega) c2 _ ?_
        by_cases c3 : B s 3 / 64 = 2
        · refine l0_go s _ 4 65536 3 (by omega) (by omega) (by omega) (by omega) c3 _ ?_
          have e : runeN s.size (B s 0) (B s 1) (B s 2) (B s 3) = finV (64 * (64 * (64 * (B s 0 % 8) + B s 1 % 64) + B s 2 % 64) + B s 3 % 64) 4 65536 := by
            obtain ⟨y, hy⟩ : ∃ y, 64 * (64 * (64 * (B s 0 % 8) + B s 1 % 64) + B s 2 % 64) + B s 3 % 64 = y := ⟨_, rfl⟩
            have hy2 : B s 0 % 8 * 262144 + B s 1 % 64 * 4096 + B s 2 % 64 * 64 + B s 3 % 64 = y := by omega
            unfold runeN Lib.decodeN
            rw [hy, hy2, if_neg (show ¬ B s 0 < 128 by omega), if_neg (show ¬ (B s 0 / 32 = 6 ∧ (1 < s.size ∧ B s 1 / 64 = 2)) by omega), if_neg (show ¬ (B s 0 / 16 = 14 ∧ (1 < s.size ∧ B s 1 / 64 = 2) ∧ (2 < s.size ∧ B s 2 / 64 = 2)) by omega), if_pos (show B s 0 / 8 = 30 ∧ (1 < s.size ∧ B s 1 / 64 = 2) ∧ (2 < s.size ∧ B s 2 / 64 = 2) ∧ (3 < s.size ∧ B s 3 / 64 = 2) from ⟨h0, ⟨by omega, c1⟩, ⟨by omega, c2⟩, by omega, c3⟩)]
            clear hy hy2
            unfold finV charB
            by_cases d : y < 65536
            · rw [if_neg (show ¬ (y ≥ 65536 ∧ (y < 55296 ∨ (57344 ≤ y ∧ y ≤ 1114111))) by omega), if_pos d]; rfl
            · by_cases d2 : y < 55296 ∨ (57344 ≤ y ∧ y ≤ 1114111)
              · rw [if_pos (show y ≥ 65536 ∧ (y < 55296 ∨ (57344 ≤ y ∧ y ≤ 1114111)) from ⟨by omega, d2⟩), if_neg (show ¬ (((y, 4) : Nat × Nat).1 = 65533 ∧ ((y, 4) : Nat × Nat).2 = 1) from fun h => by cases h.2), if_neg d, if_pos (show (decide (y ≤ 55295) || (decide (57344 ≤ y) && decide (y ≤ 1114111))) = true by simp only [Bool.or_eq_true, Bool.and_eq_true, decide_eq_true_eq]; omega)]
              · rw [if_neg (show ¬ (y ≥ 65536 ∧ (y < 55296 ∨ (57344 ≤ y ∧ y ≤ 1114111))) by omega), if_neg d, if_neg (show ¬ ((decide (y ≤ 55295) || (decide (57344 ≤ y) && decide (y ≤ 1114111))) = true) by simp only [Bool.or_eq_true, Bool.and_eq_true, decide_eq_true_eq]; omega)]; rfl
          rw [e]
          exact l0_end s _ 4 65536
        · rw [bad_N]
          · exact l0_no s _ 4 65536 3 (by omega) (by omega) c3
          · unfold Lib.decodeN
            rw [if_neg (by omega), if_neg (by omega), if_neg (by omega), if_neg (by omega)]
      · rw [bad_N]
        · exact l0_no s _ 4 65536 2 (by omega) (by omega) c2
        · unfold Lib.decodeN
          rw [if_neg (by omega), if_neg (by omega), if_neg (by omega), if_neg (by omega)]
    · rw [bad_N]
      · exact l0_no s _ 4 65536 1 (by omega) (by omega) c1
      · unfold Lib.decodeN
        rw [if_neg (by omega), if_neg (by omega), if_neg (by omega), if_neg (by omega)]
theorem tmod_of (b m : Nat) : Int.tmod (b : Int) (m : Int) = ((b % m : Nat) : Int) := tm b m
theorem j0_true (k : Nat) (s : ByteArray) (x : Int) : spec_l1Rune.j0 (k + 1) s x true = spec_l1Rune.j2 k s (Int.tmod x 32) 2 128 := rfl
theorem j0_false (k : Nat) (s : ByteArray) (x : Int) : spec_l1Rune.j0 (k + 1) s x false = (if x ≥ 224 then (spec_l1Rune.j1 k s x (decide (x < 240))) else (spec_l1Rune.j1 k s x false)) := rfl
theorem j1_true (k : Nat) (s : ByteArray) (x : Int) : spec_l1Rune.j1 (k + 1) s x true = spec_l1Rune.j2 k s (Int.tmod x 16) 3 2048 := rfl
theorem j1_false (k : Nat) (s : ByteArray) (x : Int) : spec_l1Rune.j1 (k + 1) s x false = (if x ≥ 240 then (if x < 248 then (spec_l1Rune.j2 k s (Int.tmod x 8) 4 65536) else (some (0, 0))) else (some (0, 0))) := rfl
theorem rune_f (s : ByteArray) (hne : 0 < s.size) : Ev (fun k => spec_l1Rune.f k s) (runeV s) := by
  rw [runeV_N]
  have hb := B_lt s 0
  have hnil : ¬ s.toList = ([] : List UInt8) := by
    rw [Lib.toList_data]
    intro e
    rw [sz, e] at hne
    simp at hne
  have hw : wrap64 (bt s 0) = (B s 0 : Int) := by
    have := bt_B s 0 hne
    rw [show ((0 : Nat) : Int) = 0 from rfl] at this
    rw [this, w64] <;> omega
  by_cases a : B s 0 < 128
  · refine Ev.congr (f := fun _ => some ((B s 0 : Int), 1)) (fun k => ?_) ?_
    · unfold spec_l1Rune.f
      rw [if_neg hnil, if_pos (by omega), hw, if_pos (by omega)]
    · have : runeN s.size (B s 0) (B s 1) (B s 2) (B s 3) = ((B s 0 : Int), 1) := by
        unfold runeN Lib.decodeN
        rw [if_pos a, if_neg (show ¬ (B s 0 = 65533 ∧ (1 : Nat) = 1) by omega)]
        rfl
      rw [this]
      exact Ev.now _
  · have hf : ∀ k, spec_l1Rune.f k s = if (B s 0 : Int) ≥ 192 then (spec_l1Rune.j0 k s (B s 0 : Int) (decide ((B s 0 : Int) < 224))) else (spec_l1Rune.j0 k s (B s 0 : Int) false) := by
      intro k
      unfold spec_l1Rune.f
      rw [if_neg hnil, if_pos (by omega), hw, if_neg (by omega)]
    by_cases c2 : B s 0 / 32 = 6
    · refine Ev.congr (f := fun k => spec_l1Rune.j0 k s (B s 0 : Int) true) (fun k => ?_) ?_
      · rw [hf, if_pos (by omega), decide_eq_true (by omega)]
      · refine Ev.step (f := fun k => spec_l1Rune.j2 k s ((B s 0 % 32 : Nat) : Int) ((2 : Nat) : Int) ((128 : Nat) : Int)) (fun k => ?_) (two_rune s c2)
        rw [j0_true, ← tmod_of]
        rfl
    · have hj1 : ∀ r, Ev (fun k => if (B s 0 : Int) ≥ 224 then (spec_l1Rune.j1 k s (B s 0 : Int) (decide ((B s 0 : Int) < 240))) else (spec_l1Rune.j1 k s (B s 0 : Int) false)) r → Ev (fun k => spec_l1Rune.f k s) r := by
        intro r hr
        refine Ev.congr (f := fun k => spec_l1Rune.j0 k s (B s 0 : Int) false) (fun k => ?_) ?_
        · rw [hf]
          by_cases d : (B s 0 : Int) ≥ 192
          · rw [if_pos d, decide_eq_false (by omega)]
          · rw [if_neg d]
        · exact Ev.step (fun k => j0_false k s _) hr
      by_cases c3 : B s 0 / 16 = 14
      · refine hj1 _ ?_
        refine Ev.congr (f := fun k => spec_l1Rune.j1 k s (B s 0 : Int) true) (fun k => ?_) ?_
        · rw [if_pos (by omega), decide_eq_true (by omega)]
        · refine Ev.step (f := fun k => spec_l1Rune.j2 k s ((B s 0 % 16 : Nat) : Int) ((3 : Nat) : Int) ((2048 : Nat) : Int)) (fun k => ?_) (three_rune s c3)
          rw [j1_true, ← tmod_of]
          rfl
      · have hj1f : ∀ r, Ev (fun k => if (B s 0 : Int) ≥ 240 then (if (B s 0 : Int) < 248 then (spec_l1Rune.j2 k s (Int.tmod (B s 0 : Int) 8) 4 65536) else (some (0, 0))) else (some (0, 0))) r → Ev (fun k => spec_l1Rune.f k s) r := by
          intro r hr
          refine hj1 _ ?_
          refine Ev.congr (f := fun k => spec_l1Rune.j1 k s (B s 0 : Int) false) (fun k => ?_) ?_
          · by_cases d : (B s 0 : Int) ≥ 224
            · rw [if_pos d, decide_eq_false (by omega)]
            · rw [if_neg d]
          · exact Ev.step (fun k => j1_false k s _) hr
        refine hj1f _ ?_
        by_cases c4 : B s 0 / 8 = 30
        · refine Ev.congr (f := fun k => spec_l1Rune.j2 k s ((B s 0 % 8 : Nat) : Int) ((4 : Nat) : Int) ((65536 : Nat) : Int)) (fun k => ?_) (four_rune s c4)
          rw [if_pos (by omega), if_pos (by omega), ← tmod_of]
          rfl
        · rw [bad_N]
          · refine Ev.congr (f := fun _ => some (0, 0)) (fun k => ?_) (Ev.now _)
            by_cases d : (B s 0 : Int) ≥ 240
            · rw [if_pos d, if_neg (by omega)]
            · rw [if_neg d]
          · unfold Lib.decodeN
            rw [if_neg (by omega), if_neg (by omega), if_neg (by omega), if_neg (by omega)]
def runesV (s : ByteArray) : List Int × Bool := if 20000 < s.size then ([], false) else if Lib.validD s.data.toList = true then (runesOf s, true) else ([], false)
theorem impl_runes (s : ByteArray) (hs : s.size ≤ 9223372036854775807) : impl_Runes.f s = some (runesV s) := by
  unfold impl_Runes.f runesV
  rw [if_pos hs]
  split
  · rfl
  · split <;> rfl
theorem spec_runes_l0 (s : ByteArray) (hs : s.size ≤ 20000) : ∀ (fuel pos : Nat) (acc : List Int), s.size ≤ pos + fuel → pos ≤ s.size → acc.length ≤ pos →
    Ev (fun k => spec_Runes.l0 k (s.extract pos s.size) acc) (if Lib.validD (s.data.toList.drop pos) = true then (acc ++ runesFrom s fuel pos, true) else ([], false)) := by
  intro fuel
  have hend : ∀ (fuel pos : Nat) (acc : List Int), pos = s.size → Ev (fun k => spec_Runes.l0 k (s.extract pos s.size) acc) (if Lib.validD (s.data.toList.drop pos) = true then (acc ++ runesFrom s fuel pos, true) else ([], false)) := by
    intro fuel pos acc e
    have hd : s.data.toList.drop pos = [] := List.drop_of_length_le (by rw [← sz]; omega)
    rw [runesFrom_end s fuel pos (by omega), hd, Lib.validD_nil, if_pos rfl, List.append_nil]
    refine Ev.step (f := fun _ => some (acc, true)) (fun k => ?_) (Ev.now _)
    conv => lhs; unfold spec_Runes.l0
    rw [if_pos (by rw [Lib.toList_data, Lib.extract_to_end, hd])]
  induction fuel with
  | zero =>
    intro pos acc h1 h2 h3
    exact hend 0 pos acc (by omega)
  | succ f ih =>
    intro pos acc h1 h2 h3
    by_cases he : pos = s.size
    · exact hend (f + 1) pos acc he
    · obtain ⟨t, ht⟩ : ∃ t, s.extract pos s.size = t := ⟨_, rfl⟩
      have htl : t.data.toList = s.data.toList.drop pos := by rw [← ht]; exact Lib.extract_to_end s pos
      have htz : t.size = s.size - pos := by rw [sz t, htl, List.length_drop, ← sz]
      have hne : s.data.toList.drop pos ≠ [] := by
        intro e
        have := congrArg List.length e
        rw [List.length_drop, ← sz] at this
        simp at this
        omega
      have hdec : Utf8.decode t 0 = Utf8.decode s pos := by
        have e1 := Lib.decodeL_drop t 0
        have e2 := Lib.decodeL_drop s pos
        rw [List.drop_zero, htl] at e1
        rw [← e1, e2]
      have hdl := Lib.decodeL_drop s pos
      have hstep := Lib.validD_step (s.data.toList.drop pos) hne
      have hle := Lib.decodeL_le (s.data.toList.drop pos) hne
      rw [hdl] at hstep hle
      rw [List.length_drop, ← sz] at hle
      have hw := rune_width s pos (by omega)
      have hr := rune_f t (by omega)
      have hV : runeV t = if (Utf8.decode s pos).1 = 65533 ∧ (Utf8.decode s pos).2 = 1 then (0, 0) else (((Utf8.decode s pos).1 : Int), ((Utf8.decode s pos).2 : Int)) := by
        unfold runeV
        rw [hdec]
      have hnil : ¬ t.toList = ([] : List UInt8) := by rw [Lib.toList_data, htl]; exact hne
      rw [ht]
      have hf : ∀ k, spec_Runes.l0 (k + 1) t acc = (spec_l1Rune.f k t).bind fun bt111 => (if bt111.2 = 0 then (some (([] : List Int), false)) else (if acc.length < 17592186044416 then (if 0 ≤ bt111.2 then (if bt111.2 ≤ (t.size : Int) then (spec_Runes.l0 k (t.extract (bt111.2 : Int).toNat t.size) (acc ++ [bt111.1])) else (none)) else (none)) else (none))) := by
        intro k
        conv => lhs; unfold spec_Runes.l0
        rw [if_neg hnil]
      refine Ev.step hf (Ev.bind hr ?_)
      rw [hV, hstep]
      by_cases hb : (Utf8.decode s pos).1 = 65533 ∧ (Utf8.decode s pos).2 = 1
      · rw [if_pos hb, if_pos hb, if_neg (by decide)]
        simp only [if_true]
        exact Ev.now _
      · rw [if_neg hb, if_neg hb]
        have hx : t.extract (Utf8.decode s pos).2 t.size = s.extract (pos + (Utf8.decode s pos).2) s.size := by
          apply ba_ext
          rw [Lib.extract_to_end, htl, Lib.extract_to_end, List.drop_drop]
        have hih := ih (pos + (Utf8.decode s pos).2) (acc ++ [((Utf8.decode s pos).1 : Int)]) (by omega) (by omega) (by simp; omega)
        rw [List.drop_drop]
        have hrf : runesFrom s (f + 1) pos = ((Utf8.decode s pos).1 : Int) :: runesFrom s f (pos + (Utf8.decode s pos).2) := by
          simp [runesFrom, show pos < s.size by omega]
        rw [hrf, ← hx] at *
        simp only [if_neg (show ¬ ((Utf8.decode s pos).2 : Int) = 0 by omega), if_pos (show acc.length < 17592186044416 by omega), if_pos (show (0 : Int) ≤ ((Utf8.decode s pos).2 : Int) by omega), if_pos (show ((Utf8.decode s pos).2 : Int) ≤ (t.size : Int) by omega), Int.toNat_natCast]
        simpa using hih
theorem spec_runes (s : ByteArray) : Ev (fun k => spec_Runes.f k s) (runesV s) := by
  unfold runesV
  by_cases c : 20000 < s.size
  · rw [if_pos c]
    refine Ev.congr (f := fun _ => some (([] : List Int), false)) (fun k => ?_) (Ev.now _)
    unfold spec_Runes.f
    rw [if_pos (by omega)]
  · rw [if_neg c]
    have h := spec_runes_l0 s (by omega) s.size 0 [] (by omega) (by omega) (by simp)
    have e : s.extract 0 s.size = s := by apply ba_ext; rw [Lib.extract_to_end, List.drop_zero]
    rw [e, List.drop_zero, List.nil_append] at h
    refine Ev.congr (f := fun k => spec_Runes.l0 k s []) (fun k => ?_) h
    unfold spec_Runes.f
    rw [if_neg (by omega)]
theorem Ev.step2' {α : Type} {g f : Nat → Option α} {r : α} (h : ∀ k, g (k + 1 + 1) = f k) (k : Ev f r) : Ev g r := Ev.step (f := fun k => g (k + 1)) (fun _ => rfl) (Ev.step h k)
theorem w1n {i m : Nat} (h : i < m) (hm : m ≤ 9223372036854775807) : wrap64 ((i : Int) + 1) = ((i + 1 : Nat) : Int) := by rw [w64] <;> omega
theorem idx_is {l : List UInt8} {c : UInt8} {i : Nat} (h1 : l[i]? = some c) (h2 : ∀ k : Nat, k < i → l[k]? ≠ some c) : Lib.indexByte l c = (i : Int) := by
  have hge := Lib.indexByte_ge l c
  by_cases e : Lib.indexByte l c = -1
  · exact absurd h1 (Lib.indexByte_none e i)
  · obtain ⟨o, ho⟩ := Int.eq_ofNat_of_zero_le (show 0 ≤ Lib.indexByte l c by omega)
    obtain ⟨h3, h4⟩ := Lib.indexByte_some ho
    rw [ho]
    rcases Nat.lt_trichotomy o i with h | h | h
    · exact absurd h3 (h2 o h)
    · rw [h]
    · exact absurd h1 (h4 i h)
theorem idx_no {l : List UInt8} {c : UInt8} (h : ∀ k : Nat, l[k]? ≠ some c) : Lib.indexByte l c = -1 := by
  have hge := Lib.indexByte_ge l c
  by_cases e : Lib.indexByte l c = -1
  · exact e
  · obtain ⟨o, ho⟩ := Int.eq_ofNat_of_zero_le (show 0 ≤ Lib.indexByte l c by omega)
    exact absurd (Lib.indexByte_some ho).1 (h o)
def noB : ByteArray := ⟨#[]⟩
/-- A name: its prefix, and what stands behind it. -/
def splitV (s : ByteArray) : ByteArray × ByteArray × Bool :=
  if 0 ≤ Lib.indexByte s.data.toList 58 then (if nameB (s.data.toList.take (Lib.indexByte s.data.toList 58).toNat) = true then (if nameB (s.data.toList.drop ((Lib.indexByte s.data.toList 58).toNat + 1)) = true then (s.extract 0 (Lib.indexByte s.data.toList 58).toNat, s.extract ((Lib.indexByte s.data.toList 58).toNat + 1) s.size, true) else (noB, noB, false)) else (noB, noB, false))
  else if nameB s.data.toList = true then (noB, s, true) else (noB, noB, false)
theorem ex_to (s : ByteArray) (n : Nat) : (s.extract 0 n).data.toList = s.data.toList.take n := by
  simp [ByteArray.data_extract]
theorem ex_from (s : ByteArray) (n : Nat) : (s.extract n s.size).data.toList = s.data.toList.drop n := Lib.extract_to_end s n
theorem impl_split (s : ByteArray) (hs : s.data.toList.length ≤ 9223372036854775806) : Ev (fun k => impl_Split.f k s) (splitV s) := by
  have hc : strings_Cut.f s ⟨#[58]⟩ = some (if 0 ≤ Lib.indexByte s.data.toList 58 then (s.extract 0 (Lib.indexByte s.data.toList 58).toNat, s.extract ((Lib.indexByte s.data.toList 58).toNat + 1) s.size, true) else (s, ⟨#[]⟩, false)) := by
    unfold strings_Cut.f
    simp only
    rw [if_pos (by rw [sz]; omega)]
    split <;> rfl
  unfold splitV
  by_cases h : 0 ≤ Lib.indexByte s.data.toList 58
  · rw [if_pos h] at hc ⊢
    have n1 := impl_name (s.extract 0 (Lib.indexByte s.data.toList 58).toNat) (by rw [ex_to, List.length_take]; omega)
    have n2 := impl_name (s.extract ((Lib.indexByte s.data.toList 58).toNat + 1) s.size) (by rw [ex_from, List.length_drop]; omega)
    rw [ex_to] at n1
    rw [ex_from] at n2
    generalize Lib.indexByte s.data.toList 58 = i at *
    refine Ev.congr (f := fun k => impl_Split.j0 k s (s.extract 0 i.toNat) (s.extract (i.toNat + 1) s.size) true false) (fun k => ?_) ?_
    · unfold impl_Split.f
      rw [hc, Option.bind_some]
      simp only [if_true]
    · refine Ev.step (f := fun k => (impl_NameOk.f k (s.extract 0 i.toNat)).bind fun t320 => (if t320 = true then ((impl_NameOk.f k (s.extract (i.toNat + 1) s.size)).bind fun t321 => (if t321 = true then (some (s.extract 0 i.toNat, s.extract (i.toNat + 1) s.size, true)) else (some (noB, noB, false)))) else (some (noB, noB, false)))) (fun k => ?_) (Ev.bind n1 ?_)
      · conv => lhs; unfold impl_Split.j0
        simp only [Bool.false_eq_true, if_false, if_true]
        rfl
      · cases nameB (s.data.toList.take i.toNat) with
        | false => exact Ev.now _
        | true =>
          simp only [if_true]
          refine Ev.bind n2 ?_
          cases nameB (s.data.toList.drop (i.toNat + 1)) <;> exact Ev.now _
  · rw [if_neg h] at hc ⊢
    have n1 := impl_name s hs
    refine Ev.congr (f := fun k => (impl_NameOk.f k s).bind fun t319 => impl_Split.j0 k s s ⟨#[]⟩ false t319) (fun k => ?_) (Ev.bind n1 ?_)
    · unfold impl_Split.f
      rw [hc, Option.bind_some]
      simp only [Bool.false_eq_true, if_false]
    · cases nameB s.data.toList with
      | false =>
        refine Ev.step (f := fun _ => some (noB, noB, false)) (fun k => ?_) (Ev.now _)
        conv => lhs; unfold impl_Split.j0
        simp only [Bool.false_eq_true, if_false]
        rfl
      | true =>
        refine Ev.step (f := fun _ => some (noB, s, true)) (fun k => ?_) (Ev.now _)
        conv => lhs; unfold impl_Split.j0
        simp only [if_true]
        rfl
theorem spec_split_l0 (s : ByteArray) (hs : s.data.toList.length ≤ 9223372036854775806) : ∀ (n i : Nat), i + n = s.data.toList.length → (∀ k : Nat, k < i → s.data.toList[k]? ≠ some 58) →
    Ev (fun k => spec_Split.l0 k s (-1) (i : Int)) (splitV s) := by
  intro n
  induction n with
  | zero =>
    intro i hi hno
    have hidx : Lib.indexByte s.data.toList 58 = -1 := idx_no (fun k => by
      by_cases hk : k < i
      · exact hno k hk
      · rw [List.getElem?_eq_none (by omega)]; simp)
    unfold splitV
    rw [if_neg (by rw [hidx]; decide)]
    refine Ev.step2' (f := fun k => (spec_NameOk.f k s).bind fun t134 => (if t134 = true then (some (noB, s, true)) else (some (noB, noB, false)))) (fun k => ?_) (Ev.bind (spec_name s) ?_)
    · conv => lhs; unfold spec_Split.l0
      rw [if_neg (by rw [sz]; omega)]
      conv => lhs; unfold spec_Split.j1
      rw [if_neg (by decide), if_pos (by decide)]
      rfl
    · cases nameB s.data.toList <;> exact Ev.now _
  | succ n ih =>
    intro i hi hno
    have hlt : i < s.data.toList.length := by omega
    have hw : wrap64 ((i : Int) + 1) = ((i + 1 : Nat) : Int) := w1n hlt (by omega)
    by_cases c : s.data.toList[i] = 58
    · have h58 : s.data.toList[i]? = some 58 := by rw [List.getElem?_eq_getElem hlt, c]
      have hidx := idx_is h58 hno
      have hb : bt s (i : Int) = 58 := by rw [bt_nat s i hlt, c]; rfl
      unfold splitV
      rw [hidx, if_pos (by omega), Int.toNat_natCast]
      have n1 := spec_name (s.extract 0 i)
      have n2 := spec_name (s.extract (i + 1) s.size)
      rw [ex_to] at n1
      rw [ex_from] at n2
      have hw2 : 0 ≤ ((i + 1 : Nat) : Int) := by omega
      have goal : Ev (fun k => spec_Split.j1 k s (i : Int) ((i + 1 : Nat) : Int) false) (if nameB (s.data.toList.take i) = true then (if nameB (s.data.toList.drop (i + 1)) = true then (s.extract 0 i, s.extract (i + 1) s.size, true) else (noB, noB, false)) else (noB, noB, false)) := by
        refine Ev.step (f := fun k => (spec_NameOk.f k (s.extract 0 i)).bind fun t135 => (if t135 = true then ((spec_NameOk.f k (s.extract (i + 1) s.size)).bind fun t136 => (if t136 = true then (some (s.extract 0 i, s.extract (i + 1) s.size, true)) else (some (noB, noB, false)))) else (some (noB, noB, false)))) (fun k => ?_) (Ev.bind n1 ?_)
        · conv => lhs; unfold spec_Split.j1
          rw [if_neg (by decide), if_neg (by omega), if_pos (by omega), if_pos (by rw [sz]; omega), hw]
          simp only [Int.toNat_natCast, if_pos hw2, if_pos (show ((i + 1 : Nat) : Int) ≤ (s.size : Int) by rw [sz]; omega)]
          rfl
        · cases nameB (s.data.toList.take i) with
          | false => exact Ev.now _
          | true =>
            simp only [if_true]
            refine Ev.bind n2 ?_
            cases nameB (s.data.toList.drop (i + 1)) <;> exact Ev.now _
      have step2 : Ev (fun k => spec_Split.l0 k s (i : Int) ((i + 1 : Nat) : Int)) (if nameB (s.data.toList.take i) = true then (if nameB (s.data.toList.drop (i + 1)) = true then (s.extract 0 i, s.extract (i + 1) s.size, true) else (noB, noB, false)) else (noB, noB, false)) := by
        refine Ev.step (fun k => ?_) goal
        conv => lhs; unfold spec_Split.l0
        split
        · rw [decide_eq_false (by omega)]
        · rfl
      refine Ev.step2' (fun k => ?_) step2
      conv => lhs; unfold spec_Split.l0
      rw [if_pos (by rw [sz]; omega), decide_eq_true (by omega)]
      conv => lhs; unfold spec_Split.j1
      rw [if_pos rfl, if_pos (by omega), if_pos (by rw [sz]; omega), if_pos hb, hw]
    · have hb : ¬ bt s (i : Int) = 58 := by
        rw [bt_nat s i hlt]
        exact fun h => c ((byte_is s.data.toList[i] 58 (by decide)).1 h)
      refine Ev.step2' (fun k => ?_) (ih (i + 1) (by omega) (fun k hk => ?_))
      · conv => lhs; unfold spec_Split.l0
        rw [if_pos (by rw [sz]; omega), decide_eq_true (by omega)]
        conv => lhs; unfold spec_Split.j1
        rw [if_pos rfl, if_pos (by omega), if_pos (by rw [sz]; omega), if_neg hb, hw]
      · by_cases e : k = i
        · subst e
          rw [List.getElem?_eq_getElem hlt]
          simpa using c
        · exact hno k (by omega)
theorem spec_split (s : ByteArray) (hs : s.data.toList.length ≤ 9223372036854775806) : Ev (fun k => spec_Split.f k s) (splitV s) := by
  refine Ev.congr (fun k => ?_) (spec_split_l0 s hs s.data.toList.length 0 (by omega) (fun k hk => by omega))
  rfl
def qualV (s : ByteArray) : Bool := (splitV s).2.2
theorem impl_qual (s : ByteArray) (hs : s.data.toList.length ≤ 9223372036854775806) : Ev (fun k => impl_isQualified.f k s) (qualV s) := by
  refine Ev.congr (f := fun k => (impl_Split.f k s).bind fun bt322 => (some bt322.2.2)) (fun k => rfl) (Ev.bind (impl_split s hs) (Ev.now _))
theorem spec_qual (s : ByteArray) (hs : s.data.toList.length ≤ 9223372036854775806) : Ev (fun k => spec_l1Qual.f k s) (qualV s) := by
  refine Ev.congr (f := fun k => (spec_Split.f k s).bind fun bt322 => (some bt322.2.2)) (fun k => rfl) (Ev.bind (spec_split s hs) (Ev.now _))
/-! plain texts -/
def inZ (n a b : Int) : Bool := decide (a ≤ n) && decide (n ≤ b)
def charZ (n : Int) : Bool := decide (n = 9) || decide (n = 10) || decide (n = 13) || inZ n 32 55295 || inZ n 57344 65533 || inZ n 65536 1114111
theorem impl_in' (n a b : Int) : impl_in.f n a b = some (inZ n a b) := by
  unfold impl_in.f inZ
  split
  · rename_i h; have h' : a ≤ n := by omega
    simp [h']
  · rename_i h; have h' : ¬ a ≤ n := by omega
    simp [h']
theorem spec_in' (n a b : Int) : spec_l1In.f n a b = some (inZ n a b) := by
  unfold spec_l1In.f inZ
  split
  · rename_i h; have h' : a ≤ n := by omega
    simp [h']
  · rename_i h; have h' : ¬ a ≤ n := by omega
    simp [h']
theorem impl_char (n : Int) : impl_CharOk.f n = some (charZ n) := by
  unfold impl_CharOk.f charZ
  simp only [impl_in', Option.bind_some]
  by_cases h1 : n = 9
  · simp [h1]
  by_cases h2 : n = 10
  · simp [h2]
  by_cases h3 : n = 13
  · simp [h3]
  rw [if_neg h1, if_neg h2, if_neg h3, decide_eq_false h1, decide_eq_false h2, decide_eq_false h3]
  cases inZ n 32 55295 <;> cases inZ n 57344 65533 <;> rfl
theorem spec_char (n : Int) : spec_CharOk.f n = some (charZ n) := by
  unfold spec_CharOk.f charZ
  simp only [spec_in', Option.bind_some]
  by_cases h1 : n = 9
  · simp [h1]
  by_cases h2 : n = 10
  · simp [h2]
  by_cases h3 : n = 13
  · simp [h3]
  rw [if_neg h1, if_neg h2, if_neg h3, decide_eq_false h1, decide_eq_false h2, decide_eq_false h3]
  cases inZ n 32 55295 <;> cases inZ n 57344 65533 <;> rfl
def plainV (s : ByteArray) : Bool := (runesV s).2 && (runesV s).1.all charZ
theorem rdZ (l : List Int) (i : Nat) (h : i < l.length) : rd l (i : Int) = l[i] := by
  unfold rd
  simp [h]
theorem impl_plain_l0 (l : List Int) (hl : l.length ≤ 9223372036854775807) : ∀ (n i : Nat) (b : Bool), i + n = l.length → Ev (fun k => impl_isPlain.l0 k b l (l.length : Int) (i : Int)) (b && (l.drop i).all charZ) := by
  intro n
  induction n with
  | zero =>
    intro i b hi
    rw [List.drop_of_length_le (by omega), List.all_nil, Bool.and_true]
    refine Ev.step (f := fun _ => some b) (fun k => ?_) (Ev.now _)
    conv => lhs; unfold impl_isPlain.l0
    rw [if_neg (by omega)]
  | succ n ih =>
    intro i b hi
    have hlt : i < l.length := by omega
    rw [List.drop_eq_getElem_cons hlt, List.all_cons]
    have hw := w1n hlt hl
    cases b with
    | false =>
      refine Ev.step (fun k => ?_) (ih (i + 1) false (by omega))
      conv => lhs; unfold impl_isPlain.l0
      rw [if_pos (by omega), if_pos (by omega), if_pos (by omega), if_neg (by decide), hw]
    | true =>
      rw [Bool.true_and]
      refine Ev.step (fun k => ?_) (ih (i + 1) (charZ l[i]) (by omega))
      conv => lhs; unfold impl_isPlain.l0
      rw [if_pos (by omega), if_pos (by omega), if_pos (by omega), if_pos rfl, rdZ l i hlt, impl_char, Option.bind_some, hw]
theorem runes_len (s : ByteArray) : (runesV s).1.length ≤ s.size := by
  have h : ∀ (f p : Nat), (runesFrom s f p).length ≤ f := by
    intro f
    induction f with
    | zero => intro p; exact Nat.le_refl _
    | succ f ih =>
      intro p
      unfold runesFrom
      split
      · rw [List.length_cons]; have := ih (p + (Utf8.decode s p).2); omega
      · simp
  unfold runesV runesOf
  split
  · simp
  · split
    · exact h _ _
    · simp
theorem impl_plain (s : ByteArray) (hs : s.size ≤ 9223372036854775807) : Ev (fun k => impl_isPlain.f k s) (plainV s) := by
  refine Ev.congr (fun k => ?_) (impl_plain_l0 (runesV s).1 (by have := runes_len s; omega) (runesV s).1.length 0 (runesV s).2 (by omega))
  unfold impl_isPlain.f
  rw [impl_runes s hs]
  rfl
theorem spec_text_l0 (l : List Int) (hl : l.length ≤ 9223372036854775807) : ∀ (n i : Nat), i + n = l.length → Ev (fun k => spec_l1Text.l0 k l (i : Int)) ((l.drop i).all charZ) := by
  intro n
  induction n with
  | zero =>
    intro i hi
    rw [List.drop_of_length_le (by omega), List.all_nil]
    refine Ev.step (f := fun _ => some true) (fun k => ?_) (Ev.now _)
    conv => lhs; unfold spec_l1Text.l0
    rw [if_neg (by omega)]
  | succ n ih =>
    intro i hi
    have hlt : i < l.length := by omega
    rw [List.drop_eq_getElem_cons hlt, List.all_cons]
    have hw := w1n hlt hl
    cases hc : charZ l[i] with
    | false =>
      refine Ev.step (f := fun _ => some false) (fun k => ?_) (Ev.now _)
      conv => lhs; unfold spec_l1Text.l0
      rw [if_pos (by omega), if_pos (by omega), rdZ l i hlt, spec_char, Option.bind_some, hc, if_neg (by decide)]
    | true =>
      rw [Bool.true_and]
      refine Ev.step (fun k => ?_) (ih (i + 1) (by omega))
      conv => lhs; unfold spec_l1Text.l0
      rw [if_pos (by omega), if_pos (by omega), rdZ l i hlt, spec_char, Option.bind_some, hc, if_pos rfl, hw]
theorem spec_text (s : ByteArray) (hs : s.size ≤ 9223372036854775807) : Ev (fun k => spec_l1Text.f k s) (plainV s) := by
  refine Ev.congr (f := fun k => (spec_Runes.f k s).bind fun bt124 => (if bt124.2 = true then (spec_l1Text.l0 k bt124.1 0) else (some false))) (fun k => rfl) (Ev.bind (spec_runes s) ?_)
  unfold plainV
  have hl := runes_len s
  generalize runesV s = p at *
  obtain ⟨l, ok⟩ := p
  cases ok with
  | false => exact Ev.now _
  | true =>
    simp only [if_true, Bool.true_and]
    exact spec_text_l0 l (by simp only at hl; omega) l.length 0 (by omega)
abbrev It : Type := S39
abbrev At : Type := S46
theorem rdIt (l : List It) (i : Nat) (h : i < l.length) : rd_T39 l (i : Int) = l[i] := by
  unfold rd_T39
  simp [h]
theorem rdAt (l : List At) (i : Nat) (h : i < l.length) : rd_T46 l (i : Int) = l[i] := by
  unfold rd_T46
  simp [h]
/-- p holds at d places from i on. -/
def allN (p : Nat → Bool) : Nat → Nat → Bool
  | _, 0 => true
  | i, d + 1 => p i && allN p (i + 1) d
theorem allN_iff {p : Nat → Bool} : ∀ {d i : Nat}, allN p i d = true ↔ ∀ j, i ≤ j → j < i + d → p j = true
  | 0, i => by simp [allN]; omega
  | d + 1, i => by
    rw [allN, Bool.and_eq_true, allN_iff]
    constructor
    · rintro ⟨h1, h2⟩ j h3 h4
      by_cases e : j = i
      · rw [e]; exact h1
      · exact h2 j (by omega) (by omega)
    · exact fun h => ⟨h i (Nat.le_refl _) (by omega), fun j h1 h2 => h j (by omega) (by omega)⟩
def smallA (a : At) : Prop := a.f0.size ≤ 1048576 ∧ a.f1.size ≤ 1048576
def smallAs (l : List At) : Prop := l.length ≤ 1048576 ∧ ∀ a ∈ l, smallA a
def smallI (x : It) : Prop := x.f1.size ≤ 1048576 ∧ x.f2.size ≤ 1048576 ∧ smallAs x.f3
/-- Attribute i is right, and none ahead of it has its name. -/
def attrV (l : List At) (i : Nat) : Bool := match l[i]? with
  | some a => qualV a.f0 && plainV a.f1 && !(l.take i).any (fun b => decide (b.f0.toList = a.f0.toList))
  | none => false
theorem attrV_at {l : List At} {i : Nat} (h : i < l.length) : attrV l i = (qualV l[i].f0 && plainV l[i].f1 && !(l.take i).any (fun b => decide (b.f0.toList = l[i].f0.toList))) := by
  unfold attrV
  rw [List.getElem?_eq_getElem h]
theorem size_len {s : ByteArray} (h : s.size ≤ 1048576) : s.data.toList.length ≤ 9223372036854775806 := by rw [← sz]; omega
section
variable (l : List At) (hl : smallAs l) (z : It)
include hl
theorem sm (i : Nat) (h : i < l.length) : l[i].f0.size ≤ 1048576 ∧ l[i].f1.size ≤ 1048576 := hl.2 _ (List.getElem_mem h)
theorem impl_names_l1 (i : Nat) (hi : i < l.length) (R : Bool) (hR : Ev (fun k => impl_Item_isGood.l0 k l (l.length : Int) ((i + 1 : Nat) : Int) z.f0 z.f1 z.f2 z.f3) R) (v : ByteArray) : ∀ (n j : Nat), j + n = i →
    Ev (fun k => impl_Item_isGood.l1 k l (l.length : Int) (i : Int) (l.take i) ((l.take i).length : Int) (j : Int) z.f0 z.f1 z.f2 z.f3 l[i].f0 v) (!((l.take i).drop j).any (fun b => decide (b.f0.toList = l[i].f0.toList)) && R) := by
  have h1 := hl.1
  have hlen : (l.take i).length = i := by rw [List.length_take]; omega
  intro n
  induction n with
  | zero =>
    intro j hj
    rw [List.drop_of_length_le (by omega)]
    refine Ev.step (fun k => ?_) hR
    conv => lhs; unfold impl_Item_isGood.l1
    rw [if_neg (by omega), w1n hi (by omega)]
  | succ n ih =>
    intro j hj
    have hlt : j < (l.take i).length := by omega
    rw [List.drop_eq_getElem_cons hlt, List.any_cons]
    by_cases c : (l.take i)[j].f0.toList = l[i].f0.toList
    · rw [decide_eq_true c]
      refine Ev.step (f := fun _ => some false) (fun k => ?_) (Ev.now _)
      conv => lhs; unfold impl_Item_isGood.l1
      rw [if_pos (by omega), if_pos (by omega), if_pos (by omega), rdAt _ j hlt, if_pos c.symm]
    · rw [decide_eq_false c, Bool.false_or]
      refine Ev.step (fun k => ?_) (ih (j + 1) (by omega))
      conv => lhs; unfold impl_Item_isGood.l1
      rw [if_pos (by omega), if_pos (by omega), if_pos (by omega), rdAt _ j hlt, if_neg (fun h => c h.symm), w1n hlt (by omega)]
theorem impl_attrs (hz : z.f3 = l) : ∀ (n i : Nat), i + n = l.length → Ev (fun k => impl_Item_isGood.l0 k l (l.length : Int) (i : Int) z.f0 z.f1 z.f2 z.f3) (allN (attrV l) i n) := by
  have h1 := hl.1
  intro n
  induction n with
  | zero =>
    intro i hi
    refine Ev.step (f := fun _ => some true) (fun k => ?_) (Ev.now _)
    conv => lhs; unfold impl_Item_isGood.l0
    rw [if_neg (by omega)]
  | succ n ih =>
    intro i hi
    have hlt : i < l.length := by omega
    have hs := sm l hl i hlt
    rw [allN, attrV_at hlt]
    have q := impl_qual l[i].f0 (size_len hs.1)
    have p := impl_plain l[i].f1 (by omega)
    have tail : ∀ b : Bool, Ev (fun k => impl_Item_isGood.j2 k (i : Int) l (l.length : Int) (i : Int) b z.f0 z.f1 z.f2 z.f3 l[i].f0 l[i].f1) (!b && (!(l.take i).any (fun b => decide (b.f0.toList = l[i].f0.toList)) && allN (attrV l) (i + 1) n)) := by
      intro b
      cases b with
      | true =>
        refine Ev.step (f := fun _ => some false) (fun k => ?_) (Ev.now _)
        conv => lhs; unfold impl_Item_isGood.j2
        rw [if_pos rfl]
      | false =>
        have := impl_names_l1 l hl z i hlt _ (ih (i + 1) (by omega)) l[i].f1 i 0 (by omega)
        refine Ev.step (fun k => ?_) this
        conv => lhs; unfold impl_Item_isGood.j2
        rw [if_neg (by decide), if_pos (by omega), if_pos (by rw [hz]; omega)]
        simp only [Option.bind_some, Int.toNat_natCast, hz]
        rfl
    refine Ev.step (f := fun k => (impl_isQualified.f k l[i].f0).bind fun t330 => (if t330 = true then ((impl_isPlain.f k l[i].f1).bind fun t331 => (impl_Item_isGood.j2 k (i : Int) l (l.length : Int) (i : Int) (!t331) z.f0 z.f1 z.f2 z.f3 l[i].f0 l[i].f1)) else (impl_Item_isGood.j2 k (i : Int) l (l.length : Int) (i : Int) true z.f0 z.f1 z.f2 z.f3 l[i].f0 l[i].f1))) (fun k => ?_) (Ev.bind q ?_)
    · conv => lhs; unfold impl_Item_isGood.l0
      rw [if_pos (by omega), if_pos (by omega), if_pos (by omega), rdAt l i hlt]
    · cases qualV l[i].f0 with
      | false => exact tail true
      | true =>
        simp only [if_true, Bool.true_and]
        refine Ev.bind p ?_
        have := tail (!plainV l[i].f1)
        rw [Bool.not_not] at this
        rw [Bool.and_assoc]
        exact this
omit hl in
theorem spec_names_l1 (hl : smallAs l) (i : Nat) (hi : i < l.length) (R : Bool) (hR : Ev (fun k => spec_l2Attrs.l0 k l ((i + 1 : Nat) : Int)) R) : ∀ (n j : Nat), j + n = i →
    Ev (fun k => spec_l2Attrs.l1 k l (i : Int) (j : Int)) (!((l.take i).drop j).any (fun b => decide (b.f0.toList = l[i].f0.toList)) && R) := by
  have h1 := hl.1
  have hlen : (l.take i).length = i := by rw [List.length_take]; omega
  intro n
  induction n with
  | zero =>
    intro j hj
    rw [List.drop_of_length_le (by omega)]
    refine Ev.step (fun k => ?_) hR
    conv => lhs; unfold spec_l2Attrs.l1
    rw [if_neg (by omega), w1n hi (by omega)]
  | succ n ih =>
    intro j hj
    have hlt : j < (l.take i).length := by omega
    have hj2 : j < l.length := by omega
    have ej : (l.take i)[j] = l[j] := List.getElem_take
    rw [List.drop_eq_getElem_cons hlt, List.any_cons, ej]
    by_cases c : l[j].f0.toList = l[i].f0.toList
    · rw [decide_eq_true c]
      refine Ev.step (f := fun _ => some false) (fun k => ?_) (Ev.now _)
      conv => lhs; unfold spec_l2Attrs.l1
      rw [if_pos (by omega), if_pos (by omega), if_pos (by omega), if_pos (by omega), if_pos (by omega), rdAt _ j hj2, rdAt _ i hi, if_pos c]
    · rw [decide_eq_false c, Bool.false_or]
      refine Ev.step (fun k => ?_) (ih (j + 1) (by omega))
      conv => lhs; unfold spec_l2Attrs.l1
      rw [if_pos (by omega), if_pos (by omega), if_pos (by omega), if_pos (by omega), if_pos (by omega), rdAt _ j hj2, rdAt _ i hi, if_neg c, w1n hlt (by omega)]
theorem spec_attrs_l0 : ∀ (n i : Nat), i + n = l.length → Ev (fun k => spec_l2Attrs.l0 k l (i : Int)) (allN (attrV l) i n) := by
  have h1 := hl.1
  intro n
  induction n with
  | zero =>
    intro i hi
    refine Ev.step (f := fun _ => some true) (fun k => ?_) (Ev.now _)
    conv => lhs; unfold spec_l2Attrs.l0
    rw [if_neg (by omega)]
  | succ n ih =>
    intro i hi
    have hlt : i < l.length := by omega
    have hs := sm l hl i hlt
    rw [allN, attrV_at hlt]
    have q := spec_qual l[i].f0 (size_len hs.1)
    have p := spec_text l[i].f1 (by omega)
    have tail : ∀ b : Bool, Ev (fun k => spec_l2Attrs.j1 k l (i : Int) b) (!b && (!(l.take i).any (fun b => decide (b.f0.toList = l[i].f0.toList)) && allN (attrV l) (i + 1) n)) := by
      intro b
      cases b with
      | true =>
        refine Ev.step (f := fun _ => some false) (fun k => ?_) (Ev.now _)
        conv => lhs; unfold spec_l2Attrs.j1
        rw [if_pos rfl]
      | false =>
        refine Ev.step (fun k => ?_) (spec_names_l1 l hl i hlt _ (ih (i + 1) (by omega)) i 0 (by omega))
        conv => lhs; unfold spec_l2Attrs.j1
        rw [if_neg (by decide)]
        rfl
    refine Ev.step (f := fun k => (spec_l1Qual.f k l[i].f0).bind fun t141 => (if t141 = true then ((spec_l1Text.f k l[i].f1).bind fun t143 => (spec_l2Attrs.j1 k l (i : Int) (!t143))) else (spec_l2Attrs.j1 k l (i : Int) true))) (fun k => ?_) (Ev.bind q ?_)
    · conv => lhs; unfold spec_l2Attrs.l0
      rw [if_pos (by omega), if_pos (by omega), rdAt l i hlt]
    · cases qualV l[i].f0 with
      | false => exact tail true
      | true =>
        simp only [if_true, Bool.true_and]
        refine Ev.bind p ?_
        have := tail (!plainV l[i].f1)
        rw [Bool.not_not] at this
        rw [Bool.and_assoc]
        exact this
def attrsV (l : List At) : Bool := decide (l.length ≤ 10) && allN (attrV l) 0 l.length
theorem spec_attrs : Ev (fun k => spec_l2Attrs.f k l) (attrsV l) := by
  unfold attrsV
  by_cases c : l.length ≤ 10
  · rw [decide_eq_true c, Bool.true_and]
    refine Ev.congr (fun k => ?_) (spec_attrs_l0 l hl l.length 0 (by omega))
    unfold spec_l2Attrs.f
    rw [if_neg (by omega)]
    rfl
  · rw [decide_eq_false c]
    refine Ev.congr (f := fun _ => some false) (fun k => ?_) (Ev.now _)
    unfold spec_l2Attrs.f
    rw [if_pos (by omega)]
end
/-- An item that is right in itself. -/
def goodV (x : It) : Bool := if x.f1.toList = ([] : List UInt8) then (if x.f2.toList = ([] : List UInt8) then false else plainV x.f2 && decide (x.f3.length = 0)) else qualV x.f1 && (if x.f2.toList = ([] : List UInt8) then attrsV x.f3 else false)
theorem impl_good (x : It) (h : smallI x) : Ev (fun k => impl_Item_isGood.f k x.f0 x.f1 x.f2 x.f3) (goodV x) := by
  obtain ⟨h1, h2, h3⟩ := h
  unfold goodV
  by_cases c1 : x.f1.toList = ([] : List UInt8)
  · rw [if_pos c1]
    by_cases c2 : x.f2.toList = ([] : List UInt8)
    · rw [if_pos c2]
      refine Ev.congr (f := fun _ => some false) (fun k => ?_) (Ev.now _)
      unfold impl_Item_isGood.f
      rw [if_pos c1, if_pos c2]
    · rw [if_neg c2]
      refine Ev.congr (f := fun k => (impl_isPlain.f k x.f2).bind fun t326 => (if t326 = true then (some ((x.f3.length : Int) == 0)) else (some false))) (fun k => ?_) (Ev.bind (impl_plain x.f2 (by omega)) ?_)
      · unfold impl_Item_isGood.f
        rw [if_pos c1, if_neg c2]
      · cases plainV x.f2 with
        | false => exact Ev.now _
        | true =>
          have e : ((x.f3.length : Int) == 0) = decide (x.f3.length = 0) := by
            rw [Bool.eq_iff_iff]; simp
          simp only [if_true, Bool.true_and, e]
          exact Ev.now _
  · rw [if_neg c1]
    have tail : ∀ b : Bool, Ev (fun k => impl_Item_isGood.j0 k b x.f0 x.f1 x.f2 x.f3) (!b && allN (attrV x.f3) 0 x.f3.length) := by
      intro b
      cases b with
      | true =>
        exact Ev.step (f := fun _ => some false) (fun k => rfl) (Ev.now _)
      | false =>
        exact Ev.step (fun k => rfl) (impl_attrs x.f3 h3 x rfl x.f3.length 0 (by omega))
    refine Ev.congr (f := fun k => (impl_isQualified.f k x.f1).bind fun t327 => (if t327 = true then (if x.f2.toList = ([] : List UInt8) then (impl_Item_isGood.j0 k (decide ((x.f3.length : Int) > 10)) x.f0 x.f1 x.f2 x.f3) else (impl_Item_isGood.j0 k true x.f0 x.f1 x.f2 x.f3)) else (impl_Item_isGood.j0 k true x.f0 x.f1 x.f2 x.f3))) (fun k => ?_) (Ev.bind (impl_qual x.f1 (size_len h1)) ?_)
    · unfold impl_Item_isGood.f
      rw [if_neg c1]
    · cases qualV x.f1 with
      | false => exact tail true
      | true =>
        simp only [if_true, Bool.true_and]
        by_cases c2 : x.f2.toList = ([] : List UInt8)
        · simp only [if_pos c2]
          unfold attrsV
          have e : (!decide ((x.f3.length : Int) > 10)) = decide (x.f3.length ≤ 10) := by
            rw [Bool.eq_iff_iff]; simp; omega
          rw [← e]
          exact tail _
        · simp only [if_neg c2]
          exact tail true
/-! how many bytes -/
def bytesA : List At → Int
  | [] => 0
  | a :: l => (a.f0.size : Int) + a.f1.size + bytesA l
def bytesV (x : It) : Int := (x.f1.size : Int) + x.f2.size + bytesA x.f3
theorem bytesA_bound : ∀ l : List At, (∀ a ∈ l, smallA a) → 0 ≤ bytesA l ∧ bytesA l ≤ 2097152 * l.length
  | [], _ => ⟨by simp [bytesA], by simp [bytesA]⟩
  | a :: l, h => by
    have h1 := h a (by simp)
    have h2 := bytesA_bound l (fun b hb => h b (by simp [hb]))
    unfold smallA at h1
    unfold bytesA
    simp only [List.length_cons]
    constructor <;> omega
theorem impl_bytes_l0 (l : List At) (hl : smallAs l) : ∀ (n i : Nat) (c : Int), i + n = l.length → 0 ≤ c → c ≤ 4194304 + 2097152 * i → Ev (fun k => impl_Item_bytes.l0 k c l (l.length : Int) (i : Int)) (c + bytesA (l.drop i)) := by
  have h1 := hl.1
  intro n
  induction n with
  | zero =>
    intro i c hi h0 hc
    rw [List.drop_of_length_le (by omega)]
    refine Ev.step (f := fun _ => some c) (fun k => ?_) (by rw [bytesA, Int.add_zero]; exact Ev.now _)
    conv => lhs; unfold impl_Item_bytes.l0
    rw [if_neg (by omega)]
  | succ n ih =>
    intro i c hi h0 hc
    have hlt : i < l.length := by omega
    have hs := sm l hl i hlt
    rw [List.drop_eq_getElem_cons hlt, bytesA]
    have e1 : wrap64 ((l[i].f0.size : Int) + (l[i].f1.size : Int)) = (l[i].f0.size : Int) + (l[i].f1.size : Int) := by rw [w64] <;> omega
    have e2 : wrap64 (c + ((l[i].f0.size : Int) + (l[i].f1.size : Int))) = c + ((l[i].f0.size : Int) + (l[i].f1.size : Int)) := by rw [w64] <;> omega
    have := ih (i + 1) (c + ((l[i].f0.size : Int) + (l[i].f1.size : Int))) (by omega) (by omega) (by omega)
    rw [← Int.add_assoc]
    refine Ev.step (fun k => ?_) this
    conv => lhs; unfold impl_Item_bytes.l0
    rw [if_pos (by omega), if_pos (by omega), if_pos (by omega), rdAt l i hlt, e1, e2, w1n hlt (by omega)]
theorem impl_bytes (x : It) (h : smallI x) : Ev (fun k => impl_Item_bytes.f k x.f0 x.f1 x.f2 x.f3) (bytesV x) := by
  obtain ⟨h1, h2, h3⟩ := h
  have := impl_bytes_l0 x.f3 h3 x.f3.length 0 ((x.f1.size : Int) + x.f2.size) (by omega) (by omega) (by omega)
  rw [List.drop_zero] at this
  refine Ev.congr (fun k => ?_) this
  unfold impl_Item_bytes.f
  rw [w64 (by omega) (by omega)]
  rfl
end Go.Proofs.YtpmjpbaeecnpiaaDoor.Pure

namespace Go.Proofs.YtpmjpbaeecnpiaaDoor.Pure
set_option linter.unusedVariables false
set_option linter.unusedSimpArgs false

namespace DT
/-- A place and those above it. -/
def chain (up : Nat → Int) (j : Nat) : List Nat := j :: (if _h : 0 ≤ up j ∧ (up j).toNat < j then chain up (up j).toNat else [])
termination_by j
/-- The first i items stand below elements that stand ahead. -/
def Val (up : Nat → Int) (el : Nat → Bool) (i : Nat) : Prop := (0 < i → up 0 = -1 ∧ el 0 = true) ∧ ∀ j, 0 < j → j < i → 0 ≤ up j ∧ (up j).toNat < j ∧ el (up j).toNat = true
/-- What may stand above the next one. -/
def stk (up : Nat → Int) (el : Nat → Bool) (j : Nat) : List Nat := if el j = true then chain up j else (chain up j).tail
section
variable {up : Nat → Int} {el : Nat → Bool}
theorem chain_eq (j : Nat) : chain up j = j :: (if _h : 0 ≤ up j ∧ (up j).toNat < j then chain up (up j).toNat else []) := by
  conv => lhs; rw [chain]
theorem chain_zero (h : up 0 = -1) : chain up 0 = [0] := by
  rw [chain, dif_neg (by omega)]
theorem chain_up {j : Nat} (h0 : 0 ≤ up j) (h1 : (up j).toNat < j) : chain up j = j :: chain up (up j).toNat := by
  conv => lhs; rw [chain]
  rw [dif_pos ⟨h0, h1⟩]
theorem chain_lt : ∀ j a, a ∈ chain up j → a ≤ j := by
  intro j
  induction j using Nat.strongRecOn with
  | _ j ih =>
  intro a ha
  rw [chain] at ha
  rcases List.mem_cons.1 ha with rfl | ha
  · exact Nat.le_refl _
  · split at ha
    · rename_i h
      have := ih _ h.2 a ha
      omega
    · simp at ha
/-- What stands above is elements. -/
theorem chain_el {i : Nat} (V : Val up el i) : ∀ j, j < i → ∀ a ∈ (chain up j).tail, el a = true := by
  intro j
  induction j using Nat.strongRecOn with
  | _ j ih =>
  intro hj a ha
  by_cases e : j = 0
  · subst e
    rw [chain_zero (V.1 (by omega)).1] at ha
    simp at ha
  · obtain ⟨h0, h1, h2⟩ := V.2 j (by omega) hj
    rw [chain_up h0 h1, List.tail_cons] at ha
    rw [chain] at ha
    rcases List.mem_cons.1 ha with rfl | ha
    · exact h2
    · refine ih (up j).toNat h1 (by omega) a ?_
      rw [chain, List.tail_cons]
      exact ha
/-- The rest of a chain from one of its places on is that place's chain. -/
theorem chain_drop {i : Nat} (V : Val up el i) : ∀ j, j < i → ∀ a, a ∈ chain up j → (chain up j).dropWhile (fun x => x != a) = chain up a := by
  intro j
  induction j using Nat.strongRecOn with
  | _ j ih =>
  intro hj a ha
  by_cases e : a = j
  · subst e
    rw [chain_eq a, List.dropWhile_cons_of_neg (by simp)]
  · by_cases ez : j = 0
    · subst ez
      rw [chain_zero (V.1 (by omega)).1] at ha
      simp at ha
      exact absurd ha e
    · obtain ⟨h0, h1, h2⟩ := V.2 j (by omega) hj
      rw [chain_up h0 h1] at ha ⊢
      rw [List.dropWhile_cons_of_pos (by simpa using fun h => e h.symm)]
      rcases List.mem_cons.1 ha with h | ha
      · exact absurd h e
      · exact ih _ h1 (by omega) a ha
theorem chain_head (j : Nat) : chain up j = j :: (chain up j).tail := by
  rw [chain_eq j, List.tail_cons]
/-- What is left above a place that may stand above the next one. -/
theorem stk_drop {i : Nat} (V : Val up el i) {j a : Nat} (hj : j < i) (ha : a ∈ stk up el j) : (stk up el j).dropWhile (fun x => x != a) = chain up a ∧ el a = true ∧ a ∈ chain up j := by
  unfold stk at ha ⊢
  split at ha
  · rename_i he
    rw [if_pos he]
    refine ⟨chain_drop V j hj a ha, ?_, ha⟩
    rw [chain_head] at ha
    rcases List.mem_cons.1 ha with rfl | ha
    · exact he
    · exact chain_el V j hj a ha
  · rename_i he
    rw [if_neg he]
    have hm : a ∈ chain up j := by rw [chain_head]; exact List.mem_cons_of_mem _ ha
    have hne : a ≠ j := by
      rintro rfl
      exact he (chain_el V a hj a ha)
    have := chain_drop V j hj a hm
    rw [chain_head, List.dropWhile_cons_of_pos (by simpa using fun h => hne h.symm)] at this
    exact ⟨this, chain_el V j hj a ha, hm⟩
theorem stk_mem {i : Nat} {j a : Nat} (ha : a ∈ chain up j) (he : el a = true) : a ∈ stk up el j := by
  unfold stk
  split
  · exact ha
  · rename_i h
    rw [chain_head] at ha
    rcases List.mem_cons.1 ha with rfl | ha
    · exact absurd he h
    · exact ha
theorem drop_none {l : List Nat} {a : Nat} (h : a ∉ l) : l.dropWhile (fun x => x != a) = [] := by
  induction l with
  | nil => rfl
  | cons x l ih =>
    rw [List.dropWhile_cons_of_pos]
    · exact ih (fun h' => h (by simp [h']))
    · simp only [bne_iff_ne, ne_eq]
      rintro rfl
      exact h (by simp)
theorem Val.next {i : Nat} (V : Val up el i) (h0 : i = 0 → up 0 = -1 ∧ el 0 = true) (h1 : 0 < i → 0 ≤ up i ∧ (up i).toNat < i ∧ el (up i).toNat = true) : Val up el (i + 1) := by
  refine ⟨fun _ => ?_, fun j hj hji => ?_⟩
  · by_cases e : i = 0
    · exact h0 e
    · exact V.1 (by omega)
  · by_cases e : j = i
    · subst e
      exact h1 hj
    · exact V.2 j hj (by omega)
end
end DT
end Go.Proofs.YtpmjpbaeecnpiaaDoor.Pure

namespace Go.Proofs.YtpmjpbaeecnpiaaDoor.Pure
open Go.RowKit Go.Proofs.YtpmjpbaeecnpiaaDoor.L Go.Proofs.YtpmjpbaeecnpiaaDoorW.PrintWords Go.Proofs.YtpmjpbaeecnpiaaDoorW.PrintLast Go.Proofs.YtpmjpbaeecnpiaaDoorW.PrintMore
open DT
set_option linter.unusedVariables false
set_option linter.unusedSimpArgs false

def upV (l : List It) (j : Nat) : Int := match l[j]? with | some x => x.f0 | none => -1
def elV (l : List It) (j : Nat) : Bool := match l[j]? with | some x => decide (¬ x.f1.toList = ([] : List UInt8)) | none => false
theorem upV_at {l : List It} {i : Nat} (h : i < l.length) : upV l i = l[i].f0 := by
  unfold upV; rw [List.getElem?_eq_getElem h]
theorem elV_at {l : List It} {i : Nat} (h : i < l.length) : elV l i = decide (¬ l[i].f1.toList = ([] : List UInt8)) := by
  unfold elV; rw [List.getElem?_eq_getElem h]
theorem el_yes {l : List It} {i : Nat} (h : i < l.length) : elV l i = true ↔ ¬ l[i].f1.toList = ([] : List UInt8) := by
  rw [elV_at h, decide_eq_true_eq]
theorem el_no {l : List It} {i : Nat} (h : i < l.length) : elV l i = false ↔ l[i].f1.toList = ([] : List UInt8) := by
  rw [elV_at h, decide_eq_false_iff_not, Classical.not_not]
/-- Item i stands where it may. -/
def PosP (l : List It) (i : Nat) : Prop := (i = 0 → upV l 0 = -1 ∧ elV l 0 = true) ∧ (0 < i → 0 ≤ upV l i ∧ elV l (upV l i).toNat = true ∧ (upV l i).toNat ∈ chain (upV l) (i - 1))
instance (l : List It) (i : Nat) : Decidable (PosP l i) := by unfold PosP; infer_instance
def posV (l : List It) (i : Nat) : Bool := decide (PosP l i)
def depV (l : List It) (i : Nat) : Bool := decide ((chain (upV l) i).length ≤ 20)
def textV (l : List It) (i : Nat) : Bool := elV l i || !(decide (0 < i) && !elV l (i - 1) && decide (upV l (i - 1) = upV l i))
def goodAt (l : List It) (i : Nat) : Bool := match l[i]? with | some x => goodV x | none => false
theorem good_at {l : List It} {i : Nat} (h : i < l.length) : goodAt l i = goodV l[i] := by
  unfold goodAt; rw [List.getElem?_eq_getElem h]
def stepV (l : List It) (i : Nat) : Bool := posV l i && (depV l i && (textV l i && goodAt l i))
def bytesD : List It → Int
  | [] => 0
  | x :: l => bytesV x + bytesD l
def smallD (l : List It) : Prop := ∀ x ∈ l, smallI x
theorem bytesV_bound {x : It} (h : smallI x) : 0 ≤ bytesV x ∧ bytesV x ≤ 4398046511104 := by
  obtain ⟨h1, h2, h3, h4⟩ := h
  have := bytesA_bound x.f3 h4
  unfold bytesV
  constructor <;> omega
theorem bytesD_pos : ∀ {l : List It}, smallD l → 0 ≤ bytesD l
  | [], _ => Int.le_refl _
  | x :: l, h => by
    have h1 := bytesV_bound (h x (by simp))
    have h2 := bytesD_pos (l := l) (fun y hy => h y (by simp [hy]))
    unfold bytesD
    omega
/-- A right document. -/
def docV (l : List It) : Bool := (decide (1 ≤ l.length) && decide (l.length ≤ 200)) && (allN (stepV l) 0 l.length && decide (bytesD l ≤ 2500))
theorem step_pos {l : List It} {i : Nat} (h : stepV l i = true) : PosP l i := by
  unfold stepV at h
  rw [Bool.and_eq_true] at h
  exact of_decide_eq_true h.1
theorem pos_val {l : List It} : ∀ {i : Nat}, (∀ j, j < i → PosP l j) → Val (upV l) (elV l) i := by
  intro i h
  refine ⟨fun h0 => (h 0 h0).1 rfl, fun j hj hji => ?_⟩
  obtain ⟨h1, h2, h3⟩ := (h j hji).2 hj
  have := chain_lt _ _ h3
  exact ⟨h1, by omega, h2⟩
theorem drop_all {α : Type} {p : α → Bool} : ∀ {s : List α}, (∀ x ∈ s, p x = true) → s.dropWhile p = []
  | [], _ => rfl
  | x :: s, h => by
    rw [List.dropWhile_cons_of_pos (h x (by simp))]
    exact drop_all (fun y hy => h y (by simp [hy]))
/-! the stack -/
def revI (s : List Nat) : List Int := (s.map Int.ofNat).reverse
theorem revI_cons (x : Nat) (s : List Nat) : revI (x :: s) = revI s ++ [(x : Int)] := by simp [revI]
theorem revI_len (s : List Nat) : (revI s).length = s.length := by simp [revI]
theorem revI_nil : revI [] = [] := rfl
def stkV (l : List It) (i : Nat) : List Nat := if i = 0 then [] else stk (upV l) (elV l) (i - 1)
theorem chain_len (up : Nat → Int) : ∀ j, (chain up j).length ≤ j + 1 := by
  intro j
  induction j using Nat.strongRecOn with
  | _ j ih =>
  rw [chain_eq]
  split
  · rename_i h
    have := ih _ h.2
    simp only [List.length_cons]
    omega
  · simp
theorem stkV_len (l : List It) (i : Nat) : (stkV l i).length ≤ i := by
  unfold stkV
  split
  · simp
  · unfold stk
    have := chain_len (upV l) (i - 1)
    split
    · omega
    · rw [List.length_tail]; omega
section
variable (l : List It) (hl : smallD l) (hn : l.length ≤ 200)
theorem impl_pop (c : Int) (i : Nat) (p : Int) (nm tx : ByteArray) (ats : List At) (R : Bool) : ∀ s : List Nat, s.length ≤ 200 → Ev (fun k => impl_DocOk.j3 k l c (revI (s.dropWhile (fun x : Nat => (x : Int) != p))) (i : Int) l (l.length : Int) (i : Int) p nm tx ats) R → Ev (fun k => impl_DocOk.l1 k l c (revI s) (i : Int) l (l.length : Int) (i : Int) p nm tx ats) R
  | [], _, h => by
    rw [List.dropWhile_nil, revI_nil] at h
    refine Ev.step (fun k => ?_) h
    conv => lhs; unfold impl_DocOk.l1
    rw [if_neg (by simp [revI])]
    rfl
  | x :: s, hs, h => by
    simp only [List.length_cons] at hs
    have e1 : ((revI (x :: s)).length : Int) = (s.length : Int) + 1 := by rw [revI_len]; simp
    have e2 : wrap64 ((s.length : Int) + 1 - 1) = (s.length : Int) := by rw [w64] <;> omega
    have e3 : rd (revI (x :: s)) (s.length : Int) = (x : Int) := by
      rw [rdZ _ _ (by rw [revI_len]; simp)]
      simp only [revI_cons]
      rw [List.getElem_append_right (by rw [revI_len]; exact Nat.le_refl _)]
      simp
    by_cases c1 : (x : Int) = p
    · rw [List.dropWhile_cons_of_neg (by simp [c1])] at h
      refine Ev.step (fun k => ?_) h
      conv => lhs; unfold impl_DocOk.l1
      rw [e1, e2, e3, if_pos (by omega), if_pos (by omega), if_pos (by omega), if_pos c1]
    · rw [List.dropWhile_cons_of_pos (by simp [c1])] at h
      refine Ev.step (fun k => ?_) (impl_pop c i p nm tx ats R s (by omega) h)
      conv => lhs; unfold impl_DocOk.l1
      rw [e1, e2, e3, if_pos (by omega), if_pos (by omega), if_pos (by omega), if_neg c1, if_pos (by omega)]
      rw [Int.toNat_natCast, revI_cons, List.take_left' (revI_len s)]
include hl hn
theorem impl_doc_l0 (hp0 : PosP l 0) : ∀ (n i : Nat) (c : Int), i + n = l.length → (∀ j, j < i → PosP l j) → 0 ≤ c → c ≤ 4398046511104 * i → Ev (fun k => impl_DocOk.l0 k l c (revI (stkV l i)) l (l.length : Int) (i : Int)) (allN (stepV l) i n && decide (c + bytesD (l.drop i) ≤ 2500)) := by
  intro n
  induction n with
  | zero =>
    intro i c hi hp h0 hc
    rw [List.drop_of_length_le (by omega), allN, Bool.true_and, bytesD, Int.add_zero]
    refine Ev.step (f := fun _ => some (decide (c ≤ 2500))) (fun k => ?_) (Ev.now _)
    conv => lhs; unfold impl_DocOk.l0
    rw [if_neg (by omega)]
  | succ n ih =>
    intro i c hi hp h0 hc
    have hlt : i < l.length := by omega
    have hx : smallI l[i] := hl _ (List.getElem_mem hlt)
    have hb := bytesV_bound hx
    rw [allN]
    refine Ev.step (f := fun k => (impl_Item_isGood.f k l[i].f0 l[i].f1 l[i].f2 l[i].f3).bind fun t349 => (if t349 = true then ((impl_Item_bytes.f k l[i].f0 l[i].f1 l[i].f2 l[i].f3).bind fun t350 => (impl_DocOk.l1 k l (wrap64 (c + t350)) (revI (stkV l i)) (i : Int) l (l.length : Int) (i : Int) l[i].f0 l[i].f1 l[i].f2 l[i].f3)) else (some false))) (fun k => ?_) (Ev.bind (impl_good l[i] hx) ?_)
    · conv => lhs; unfold impl_DocOk.l0
      rw [if_pos (by omega), if_pos (by omega), if_pos (by omega), rdIt l i hlt]
    have hg := good_at hlt
    cases hgv : goodV l[i] with
    | false =>
      have : stepV l i = false := by unfold stepV; rw [hg, hgv]; simp
      rw [this]
      exact Ev.now _
    | true =>
      rw [hgv] at hg
      simp only [if_true]
      refine Ev.bind (impl_bytes l[i] hx) ?_
      have ec : wrap64 (c + bytesV l[i]) = c + bytesV l[i] := by rw [w64] <;> omega
      simp only [ec]
      have hlen := stkV_len l i
      refine impl_pop l _ i _ _ _ _ _ (stkV l i) (by omega) ?_
      have V : Val (upV l) (elV l) i := pos_val hp
      have hup := upV_at hlt
      -- what is left
      have key : (PosP l i ∧ (stkV l i).dropWhile (fun x : Nat => (x : Int) != l[i].f0) = (if i = 0 then [] else chain (upV l) (upV l i).toNat)) ∨ (¬ PosP l i ∧ 0 < i ∧ (stkV l i).dropWhile (fun x : Nat => (x : Int) != l[i].f0) = []) := by
        by_cases e : i = 0
        · subst e
          exact .inl ⟨hp0, by simp [stkV]⟩
        · have es : stkV l i = stk (upV l) (elV l) (i - 1) := by unfold stkV; rw [if_neg e]
          rw [es, if_neg e]
          by_cases hneg : 0 ≤ l[i].f0
          · have ef : (fun x : Nat => (x : Int) != l[i].f0) = (fun x : Nat => x != (upV l i).toNat) := by
              funext x
              rw [Bool.eq_iff_iff, bne_iff_ne, bne_iff_ne, hup]
              omega
            rw [ef]
            by_cases hm : (upV l i).toNat ∈ stk (upV l) (elV l) (i - 1)
            · obtain ⟨h1, h2, h3⟩ := stk_drop V (show i - 1 < i by omega) hm
              exact .inl ⟨⟨fun h => absurd h e, fun _ => ⟨by rw [hup]; exact hneg, h2, h3⟩⟩, h1⟩
            · refine .inr ⟨fun h => hm ?_, by omega, drop_none hm⟩
              obtain ⟨_, h2, h3⟩ := h.2 (by omega)
              exact stk_mem (i := 0) h3 h2
          · refine .inr ⟨fun h => hneg ?_, by omega, ?_⟩
            · have := (h.2 (by omega)).1
              rwa [hup] at this
            · refine drop_all (fun x _ => ?_)
              rw [bne_iff_ne]
              omega
      rcases key with ⟨hP, hD⟩ | ⟨hP, h0i, hD⟩
      · rw [hD]
        have hpv : posV l i = true := decide_eq_true hP
        generalize hS : (if i = 0 then [] else chain (upV l) (upV l i).toNat) = S
        have hC : chain (upV l) i = i :: S := by
          rw [← hS]
          by_cases e : i = 0
          · subst e
            rw [if_pos rfl, chain_zero (hP.1 rfl).1]
          · obtain ⟨h1, h2, h3⟩ := hP.2 (by omega)
            have := chain_lt _ _ h3
            rw [if_neg e, chain_up h1 (by omega)]
        have hSl : S.length ≤ 200 := by
          have := chain_len (upV l) i
          rw [hC] at this
          simp only [List.length_cons] at this
          omega
        have hSn : 0 < i → 0 < S.length := by
          intro h
          rw [← hS, if_neg (by omega), chain_head]
          simp
        have hdep : depV l i = !decide (((revI S).length : Int) ≥ 20) := by
          unfold depV
          rw [hC, revI_len, Bool.eq_iff_iff]
          simp
          omega
        have hpop : ∀ b : Bool, Ev (fun k => impl_DocOk.j4 k l (c + bytesV l[i]) (revI S) (i : Int) l (l.length : Int) (i : Int) b l[i].f0 l[i].f1 l[i].f2 l[i].f3) ((!b && textV l i) && (allN (stepV l) (i + 1) n && decide (c + bytesD (l.drop i) ≤ 2500))) := by
          have hnext := ih (i + 1) (c + bytesV l[i]) (by omega) (fun j hj => by
            by_cases e : j = i
            · rw [e]; exact hP
            · exact hp j (by omega)) (by omega) (by omega)
          have hsum : c + bytesV l[i] + bytesD (l.drop (i + 1)) = c + bytesD (l.drop i) := by
            rw [List.drop_eq_getElem_cons hlt, bytesD]; omega
          rw [hsum] at hnext
          have hstk : stkV l (i + 1) = stk (upV l) (elV l) i := by
            unfold stkV
            rw [if_neg (by omega), Nat.add_sub_cancel]
          intro b
          cases b with
          | true =>
            refine Ev.step (f := fun _ => some false) (fun k => ?_) (Ev.now _)
            conv => lhs; unfold impl_DocOk.j4
            rw [if_pos rfl]
          | false =>
            cases he : elV l i with
            | true =>
              have ht : textV l i = true := by unfold textV; rw [he]; rfl
              have hq : stkV l (i + 1) = i :: S := by rw [hstk]; unfold stk; rw [if_pos he, hC]
              rw [ht]
              simp only [Bool.not_false, Bool.true_and]
              rw [hq] at hnext
              refine Ev.step (fun k => ?_) hnext
              conv => lhs; unfold impl_DocOk.j4
              rw [if_neg (by decide), if_neg ((el_yes hlt).1 he), if_pos (by rw [revI_len]; omega), w1n hlt (by omega), revI_cons]
            | false =>
              have hi0 : 0 < i := by
                rcases Nat.eq_zero_or_pos i with h | h
                · subst h
                  rw [(hP.1 rfl).2] at he
                  cases he
                · exact h
              have hq : stkV l (i + 1) = S := by rw [hstk]; unfold stk; rw [if_neg (by rw [he]; decide), hC, List.tail_cons]
              rw [hq] at hnext
              have ew : wrap64 ((i : Int) - 1) = ((i - 1 : Nat) : Int) := by rw [w64] <;> omega
              have hlt1 : i - 1 < l.length := by omega
              have hnm := (el_no hlt).1 he
              have ht : textV l i = !(!elV l (i - 1) && decide (upV l (i - 1) = upV l i)) := by
                unfold textV
                rw [he, decide_eq_true hi0]
                simp
              rw [ht]
              cases hpe : elV l (i - 1) with
              | true =>
                have h2 := (el_yes hlt1).1 hpe
                simp only [Bool.not_true, Bool.not_false, Bool.false_and, Bool.true_and]
                refine Ev.step (fun k => ?_) hnext
                conv => lhs; unfold impl_DocOk.j4
                rw [if_neg (by decide), if_pos hnm, if_pos (by omega), ew, if_pos (by omega), if_pos (by omega), rdIt l (i - 1) hlt1, if_neg h2, w1n hlt (by omega)]
              | false =>
                have h2 := (el_no hlt1).1 hpe
                by_cases hs : upV l (i - 1) = upV l i
                · rw [decide_eq_true hs]
                  rw [upV_at hlt1, hup] at hs
                  refine Ev.step (f := fun _ => some false) (fun k => ?_) (Ev.now _)
                  conv => lhs; unfold impl_DocOk.j4
                  rw [if_neg (by decide), if_pos hnm, if_pos (by omega), ew, if_pos (by omega), if_pos (by omega), rdIt l (i - 1) hlt1, if_pos h2, if_pos hs]
                · rw [decide_eq_false hs]
                  rw [upV_at hlt1, hup] at hs
                  simp only [Bool.not_true, Bool.not_false, Bool.and_false, Bool.true_and]
                  refine Ev.step (fun k => ?_) hnext
                  conv => lhs; unfold impl_DocOk.j4
                  rw [if_neg (by decide), if_pos hnm, if_pos (by omega), ew, if_pos (by omega), if_pos (by omega), rdIt l (i - 1) hlt1, if_pos h2, if_neg hs, w1n hlt (by omega)]
        have := hpop (decide (((revI S).length : Int) ≥ 20))
        rw [← hdep] at this
        have es : stepV l i = (depV l i && textV l i) := by
          unfold stepV
          rw [hpv, hg, Bool.true_and, Bool.and_true]
        rw [es, Bool.and_assoc]
        refine Ev.step (fun k => ?_) this
        conv => lhs; unfold impl_DocOk.j3
        by_cases h0i : 0 < i
        · have := hSn h0i
          rw [if_pos (by omega), if_neg (by rw [revI_len]; omega)]
        · rw [if_neg (by omega)]
      · rw [hD, revI_nil]
        have : stepV l i = false := by unfold stepV posV; rw [decide_eq_false hP]; rfl
        rw [this]
        refine Ev.step (f := fun k => impl_DocOk.j4 k l (c + bytesV l[i]) [] (i : Int) l (l.length : Int) (i : Int) true l[i].f0 l[i].f1 l[i].f2 l[i].f3) (fun k => ?_) ?_
        · conv => lhs; unfold impl_DocOk.j3
          rw [if_pos (by omega), if_pos (by simp)]
        · refine Ev.step (f := fun _ => some false) (fun k => ?_) (Ev.now _)
          conv => lhs; unfold impl_DocOk.j4
          rw [if_pos rfl]
end
theorem impl_doc (l : List It) (hl : smallD l) (hb : l.length ≤ 1048576) : Ev (fun k => impl_DocOk.f k l) (docV l) := by
  have hj : Ev (fun k => impl_DocOk.j0 k l true) false := by
    exact Ev.step (f := fun _ => some false) (fun k => rfl) (Ev.now _)
  unfold docV
  cases hc : (decide (1 ≤ l.length) && decide (l.length ≤ 200)) with
  | false =>
    refine Ev.congr (fun k => ?_) hj
    have : inZ (l.length : Int) 1 200 = false := by
      rw [← hc]
      unfold inZ
      rw [Bool.eq_iff_iff]
      simp
      omega
    unfold impl_DocOk.f
    rw [impl_in', Option.bind_some, this, if_neg (by decide)]
  | true =>
    rw [Bool.and_eq_true, decide_eq_true_eq, decide_eq_true_eq] at hc
    have h0 : 0 < l.length := by omega
    have hz : inZ (l.length : Int) 1 200 = true := by
      unfold inZ
      simp
      omega
    have es : ∀ k, impl_DocOk.f k l = if (rd_T39 l 0).f0 = (-1) then (impl_DocOk.j0 k l (((rd_T39 l 0).f1).toList == ([] : List UInt8))) else (impl_DocOk.j0 k l true) := by
      intro k
      unfold impl_DocOk.f
      rw [impl_in', Option.bind_some, hz, if_pos rfl, if_pos (by omega)]
    have er : rd_T39 l 0 = l[0] := rdIt l 0 h0
    simp only [Bool.true_and]
    by_cases hP : PosP l 0
    · obtain ⟨h1, h2⟩ := hP.1 rfl
      have hmain := impl_doc_l0 l hl hc.2 hP l.length 0 0 (by omega) (fun j hj => by omega) (by omega) (by omega)
      rw [List.drop_zero, Int.zero_add] at hmain
      rw [upV_at h0] at h1
      have h3 := (el_yes h0).1 h2
      refine Ev.congr (f := fun k => impl_DocOk.j0 k l false) (fun k => ?_) ?_
      · rw [es, er, if_pos h1]
        congr 1
        rw [beq_eq_false_iff_ne]
        exact h3
      · exact Ev.step (fun k => rfl) hmain
    · have : allN (stepV l) 0 l.length = false := by
        rw [Bool.eq_false_iff]
        intro h
        rw [allN_iff] at h
        exact hP (step_pos (h 0 (by omega) (by omega)))
      rw [this, Bool.false_and]
      refine Ev.congr (fun k => ?_) hj
      rw [es, er]
      split
      · rename_i h1
        congr 1
        rw [beq_iff_eq]
        by_cases h2 : l[0].f1.toList = ([] : List UInt8)
        · exact h2
        · exact absurd ⟨fun _ => ⟨by rw [upV_at h0]; exact h1, (el_yes h0).2 h2⟩, fun h => by omega⟩ hP
      · rfl
end Go.Proofs.YtpmjpbaeecnpiaaDoor.Pure
