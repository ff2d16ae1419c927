/- Words and contracts for the row RowFnFields: what the Go functions answer that it calls; printed by programs of the kit and of this session, and merged. -/
import Derived.Test.YtpmjpbaeecnpiaaGreatDoorQg8
import Derived.Sort.Walk0
import Derived.Lib.SplitLaws
import Derived.Lib.IndexBytes
import Derived.Lib.TrimUEq
import Derived.Lib.MapLaws
import Derived.Lib.ValidLaws
import Derived.Lib.DecodeN
namespace Go.Proofs.YtpmjpbaeecnpiaaGreatDoor.L
open Go.RowKit Go.Proofs.YtpmjpbaeecnpiaaGreatDoorW.PrintWords Go.Proofs.YtpmjpbaeecnpiaaGreatDoorW.PrintLast Go.Proofs.YtpmjpbaeecnpiaaGreatDoorW.PrintMore
attribute [local go_sem] max2_int min2_int max_two min_two max_three min_three max_four min_four
set_option linter.unusedVariables false
set_option linter.unusedSimpArgs false

theorem bne_nilE67 (l : List UInt8) : (l != ([] : List UInt8)) = !l.isEmpty := by cases l <;> rfl
/-! ### laws_FnFields: function 6 -/
mutual
def laws_FnFields.j0 : Nat → List (S65) → Int → ByteArray → ByteArray → Int → ByteArray → Int → Bool → Option (Bool)
 | 0, _, _, _, _, _, _, _, _ => none
 | k + 1, x3, x4, x5, x6, x7, x8, x9, x55 => if x55 = true then (if x6.toList = x8.toList then (if x7 = x9 then (some (x6.toList == ([] : List UInt8))) else (some false)) else (some false)) else (if x5.toList = ([46] : List UInt8) then ((impl_TextOf.f k x3 x4).bind fun bt524 => (if x7 = 1 then (if bt524.2 = true then ((impl_White.f bt524.1 2).bind fun t526 => (some (x6.toList == t526.toList))) else (some false)) else (some false))) else (if 0 < (x5.size : Int) then (if (bt x5 0) = 64 then (laws_FnFields.l0 k x3 x4 x5 x6 x7 0 0) else ((impl_White.f x6 2).bind fun t527 => (some (t527.toList == x6.toList)))) else (none)))
def laws_FnFields.l0 : Nat → List (S65) → Int → ByteArray → ByteArray → Int → Int → Int → Option (Bool)
 | 0, _, _, _, _, _, _, _ => none
 | k + 1, x3, x4, x5, x6, x7, x12, x13 => if 0 ≤ x4 then (if x4 < (x3.length : Int) then (if x13 < (((rd_T65 x3 x4).f3).length : Int) then (if 0 ≤ x13 then (if 1 ≤ (x5.size : Int) then (if ((rd_T67 ((rd_T65 x3 x4).f3) x13).f0).toList = (x5.extract 1 x5.size).toList then ((impl_White.f ((rd_T67 ((rd_T65 x3 x4).f3) x13).f1) 2).bind fun t533 => (if x6.toList = t533.toList then (laws_FnFields.l0 k x3 x4 x5 x6 x7 (wrap64 (x12 + 1)) (wrap64 (x13 + 1))) else (some false))) else (laws_FnFields.l0 k x3 x4 x5 x6 x7 x12 (wrap64 (x13 + 1)))) else (none)) else (none)) else (some (x12 == x7))) else (none)) else (none)
end
def laws_FnFields.f (k : Nat) (l0 : List Int) : Option (Bool) := (laws_big.f l0).bind fun t514 => (if t514 = true then (some true) else ((spec_DrawFieldOf.f k l0).bind fun bt515 => ((impl_FieldOf.f k bt515.1 bt515.2.1 bt515.2.2).bind fun bt520 => ((spec_FieldOf.f k bt515.1 bt515.2.1 bt515.2.2).bind fun bt522 => (if bt520.1.toList = bt522.1.toList then (if bt520.2 = bt522.2 then (if bt520.2 < 0 then (laws_FnFields.j0 k bt515.1 bt515.2.1 bt515.2.2 bt520.1 bt520.2 bt522.1 bt522.2 true) else (if bt520.2 = 1 then (laws_FnFields.j0 k bt515.1 bt515.2.1 bt515.2.2 bt520.1 bt520.2 bt522.1 bt522.2 false) else (laws_FnFields.j0 k bt515.1 bt515.2.1 bt515.2.2 bt520.1 bt520.2 bt522.1 bt522.2 (bt520.1.toList != ([] : List UInt8))))) else (laws_FnFields.j0 k bt515.1 bt515.2.1 bt515.2.2 bt520.1 bt520.2 bt522.1 bt522.2 true)) else (laws_FnFields.j0 k bt515.1 bt515.2.1 bt515.2.2 bt520.1 bt520.2 bt522.1 bt522.2 true))))))
set_option maxHeartbeats 8000000 in
set_option maxRecDepth 100000 in
theorem laws_FnFields.calls (k : Nat) (A0 : Option Addr) (c0 : Nat) (l0 : List Int) (r : Bool) (w : World) (hT : Gl w) (hr0 : Kd.C (Kd.int .u8) w A0 l0.length l0) (hc0 : l0.length ≤ c0) (h : laws_FnFields.f k l0 = some r) :
  Calls Tryz.prog 6 #[.slice A0 l0.length c0] w fun e w' => e = .returned (.bool r) ∧ Below w.heap.size w w' := by
 have HR0 := Aside0.mk hr0
 have HC0 := Aside0.mk hc0
 clear hr0 hc0
 have HT := Aside0.mk hT
 clear hT
 have HB := Aside0.mk (Below.refl w.heap.size w)
 have H : ((laws_big.f l0).bind fun t514 => (if t514 = true then (some true) else ((spec_DrawFieldOf.f k l0).bind fun bt515 => ((impl_FieldOf.f k bt515.1 bt515.2.1 bt515.2.2).bind fun bt520 => ((spec_FieldOf.f k bt515.1 bt515.2.1 bt515.2.2).bind fun bt522 => (if bt520.1.toList = bt522.1.toList then (if bt520.2 = bt522.2 then (if bt520.2 < 0 then (laws_FnFields.j0 k bt515.1 bt515.2.1 bt515.2.2 bt520.1 bt520.2 bt522.1 bt522.2 true) else (if bt520.2 = 1 then (laws_FnFields.j0 k bt515.1 bt515.2.1 bt515.2.2 bt520.1 bt520.2 bt522.1 bt522.2 false) else (laws_FnFields.j0 k bt515.1 bt515.2.1 bt515.2.2 bt520.1 bt520.2 bt522.1 bt522.2 (bt520.1.toList != ([] : List UInt8))))) else (laws_FnFields.j0 k bt515.1 bt515.2.1 bt515.2.2 bt520.1 bt520.2 bt522.1 bt522.2 true)) else (laws_FnFields.j0 k bt515.1 bt515.2.1 bt515.2.2 bt520.1 bt520.2 bt522.1 bt522.2 true))))))) = some r := h
 clear h
 replace H := Option.bind_eq_some_iff.mp H
 obtain ⟨t514, A20, H⟩ := H
 replace H : (if t514 = true then (some true) else ((spec_DrawFieldOf.f k l0).bind fun bt515 => ((impl_FieldOf.f k bt515.1 bt515.2.1 bt515.2.2).bind fun bt520 => ((spec_FieldOf.f k bt515.1 bt515.2.1 bt515.2.2).bind fun bt522 => (if bt520.1.toList = bt522.1.toList then (if bt520.2 = bt522.2 then (if bt520.2 < 0 then (laws_FnFields.j0 k bt515.1 bt515.2.1 bt515.2.2 bt520.1 bt520.2 bt522.1 bt522.2 true) else (if bt520.2 = 1 then (laws_FnFields.j0 k bt515.1 bt515.2.1 bt515.2.2 bt520.1 bt520.2 bt522.1 bt522.2 false) else (laws_FnFields.j0 k bt515.1 bt515.2.1 bt515.2.2 bt520.1 bt520.2 bt522.1 bt522.2 (bt520.1.toList != ([] : List UInt8))))) else (laws_FnFields.j0 k bt515.1 bt515.2.1 bt515.2.2 bt520.1 bt520.2 bt522.1 bt522.2 true)) else (laws_FnFields.j0 k bt515.1 bt515.2.1 bt515.2.2 bt520.1 bt520.2 bt522.1 bt522.2 true)))))) = some r := H
 have A2 := Aside0.mk A20
 clear A20
 by_cases c3 : t514 = true
 ·subst c3
  have H1 : (some true) = some r := by rw [if_pos rfl] at H; exact H
  clear H
  have H := H1
  clear H1
  obtain rfl := Option.some.inj H
  go_enter Tryz.func6, Tryz.ntmps6
  go_wp2_with (first | (go_at_call 33; (with_reducible refine (laws_big.calls _ _ l0 true _ ?side1 ?side2 A2.out).mono ?_); (case side1 => exact dq2); (case side2 => exact HC0.out); rintro e w' ⟨rfl, ⟨nd, rfl⟩⟩; (try first | exact ⟨rfl, _, World.drewN_drewN _ _ _⟩ | exact ⟨rfl, _, Eq.trans (World.drewN_drewN _ _ _) (congrArg (World.drewN _) (Nat.add_assoc _ _ _))⟩)))
  repeat (go_quiet (first | (go_at_call 33; (with_reducible refine (laws_big.calls _ _ l0 true _ ?side1 ?side2 A2.out).mono ?_); (case side1 => exact dq2); (case side2 => exact HC0.out); rintro e w' ⟨rfl, ⟨nd, rfl⟩⟩; (try first | exact ⟨rfl, _, World.drewN_drewN _ _ _⟩ | exact ⟨rfl, _, Eq.trans (World.drewN_drewN _ _ _) (congrArg (World.drewN _) (Nat.add_assoc _ _ _))⟩))); try go_wp2_with (first | (go_at_call 33; (with_reducible refine (laws_big.calls _ _ l0 true _ ?side1 ?side2 A2.out).mono ?_); (case side1 => exact dq2); (case side2 => exact HC0.out); rintro e w' ⟨rfl, ⟨nd, rfl⟩⟩; (try first | exact ⟨rfl, _, World.drewN_drewN _ _ _⟩ | exact ⟨rfl, _, Eq.trans (World.drewN_drewN _ _ _) (congrArg (World.drewN _) (Nat.add_assoc _ _ _))⟩))))
  go_ret
  exact ⟨dq27, dq25⟩
 replace c3 := Bool.eq_false_iff.mpr c3
 subst c3
 have H1 : ((spec_DrawFieldOf.f k l0).bind fun bt515 => ((impl_FieldOf.f k bt515.1 bt515.2.1 bt515.2.2).bind fun bt520 => ((spec_FieldOf.f k bt515.1 bt515.2.1 bt515.2.2).bind fun bt522 => (if bt520.1.toList = bt522.1.toList then (if bt520.2 = bt522.2 then (if bt520.2 < 0 then (laws_FnFields.j0 k bt515.1 bt515.2.1 bt515.2.2 bt520.1 bt520.2 bt522.1 bt522.2 true) else (if bt520.2 = 1 then (laws_FnFields.j0 k bt515.1 bt515.2.1 bt515.2.2 bt520.1 bt520.2 bt522.1 bt522.2 false) else (laws_FnFields.j0 k bt515.1 bt515.2.1 bt515.2.2 bt520.1 bt520.2 bt522.1 bt522.2 (bt520.1.toList != ([] : List UInt8))))) else (laws_FnFields.j0 k bt515.1 bt515.2.1 bt515.2.2 bt520.1 bt520.2 bt522.1 bt522.2 true)) else (laws_FnFields.j0 k bt515.1 bt515.2.1 bt515.2.2 bt520.1 bt520.2 bt522.1 bt522.2 true))))) = some r := by rw [if_neg (show ¬ (false = true) by decide)] at H; exact H
 clear H
 have H := H1
 clear H1
 replace H := Option.bind_eq_some_iff.mp H
 obtain ⟨⟨t515, t516, t517⟩, A40, H⟩ := H
 replace H : ((impl_FieldOf.f k t515 t516 t517).bind fun bt520 => ((spec_FieldOf.f k t515 t516 t517).bind fun bt522 => (if bt520.1.toList = bt522.1.toList then (if bt520.2 = bt522.2 then (if bt520.2 < 0 then (laws_FnFields.j0 k t515 t516 t517 bt520.1 bt520.2 bt522.1 bt522.2 true) else (if bt520.2 = 1 then (laws_FnFields.j0 k t515 t516 t517 bt520.1 bt520.2 bt522.1 bt522.2 false) else (laws_FnFields.j0 k t515 t516 t517 bt520.1 bt520.2 bt522.1 bt522.2 (bt520.1.toList != ([] : List UInt8))))) else (laws_FnFields.j0 k t515 t516 t517 bt520.1 bt520.2 bt522.1 bt522.2 true)) else (laws_FnFields.j0 k t515 t516 t517 bt520.1 bt520.2 bt522.1 bt522.2 true)))) = some r := H
 have A4 := Aside0.mk A40
 clear A40
 replace H := Option.bind_eq_some_iff.mp H
 obtain ⟨⟨t520, t521⟩, A50, H⟩ := H
 replace H : ((spec_FieldOf.f k t515 t516 t517).bind fun bt522 => (if t520.toList = bt522.1.toList then (if t521 = bt522.2 then (if t521 < 0 then (laws_FnFields.j0 k t515 t516 t517 t520 t521 bt522.1 bt522.2 true) else (if t521 = 1 then (laws_FnFields.j0 k t515 t516 t517 t520 t521 bt522.1 bt522.2 false) else (laws_FnFields.j0 k t515 t516 t517 t520 t521 bt522.1 bt522.2 (t520.toList != ([] : List UInt8))))) else (laws_FnFields.j0 k t515 t516 t517 t520 t521 bt522.1 bt522.2 true)) else (laws_FnFields.j0 k t515 t516 t517 t520 t521 bt522.1 bt522.2 true))) = some r := H
 have A5 := Aside0.mk A50
 clear A50
 replace H := Option.bind_eq_some_iff.mp H
 obtain ⟨⟨t522, t523⟩, A60, H⟩ := H
 replace H : (if t520.toList = t522.toList then (if t521 = t523 then (if t521 < 0 then (laws_FnFields.j0 k t515 t516 t517 t520 t521 t522 t523 true) else (if t521 = 1 then (laws_FnFields.j0 k t515 t516 t517 t520 t521 t522 t523 false) else (laws_FnFields.j0 k t515 t516 t517 t520 t521 t522 t523 (t520.toList != ([] : List UInt8))))) else (laws_FnFields.j0 k t515 t516 t517 t520 t521 t522 t523 true)) else (laws_FnFields.j0 k t515 t516 t517 t520 t521 t522 t523 true)) = some r := H
 have A6 := Aside0.mk A60
 clear A60
 have HC7 := Aside0.mk H
 clear H
 go_enter Tryz.func6, Tryz.ntmps6
 go_upto_region 6 with (first | (go_at_call 33; (with_reducible refine (laws_big.calls _ _ l0 false _ ?side1 ?side2 A2.out).mono ?_); (case side1 => exact dq2); (case side2 => exact HC0.out); rintro e w' ⟨rfl, ⟨nd, rfl⟩⟩; (try first | exact ⟨rfl, _, World.drewN_drewN _ _ _⟩ | exact ⟨rfl, _, Eq.trans (World.drewN_drewN _ _ _) (congrArg (World.drewN _) (Nat.add_assoc _ _ _))⟩)) | (go_at_call 34; (with_reducible refine (spec_DrawFieldOf.calls k _ _ l0 t515 t516 t517 _ ?side1 ?side2 A4.out).mono ?_); (case side1 => exact dq2); (case side2 => exact HC0.out); rintro e w8 ⟨v518, rfl, ho0, hb⟩; have n0_ := Aside0.mk (Kd.S_lower ho0 (below_size dq25)); have n1_ := Aside0.mk (below_step dq25 hb); clear HB; have HO519 := n0_; have HB := n1_; clear n0_ n1_; (try clear hb); (try clear hb2); (try clear hk); (try clear hi); (try clear ho0); obtain ⟨Ao9, co9, eo9⟩ := Kd.S_slice HO519.out; subst eo9) | (go_at_call 12; (with_reducible refine (impl_FieldOf.calls k _ _ t515 t516 t517 t520 t521 _ ?side3 ?side1 ?side2 A5.out).mono ?_); (case side1 => exact dq13); (case side2 => exact (Kd.S_reads' HO519.out).2.1); (case side3 => exact dq3); rintro e w10 ⟨rfl, hb⟩; have n0_ := Aside0.mk (Kd.S_below dq117 hb); have n1_ := Aside0.mk (below_step dq25 hb); clear HO519; clear HB; have HO519 := n0_; have HB := n1_; clear n0_ n1_; (try clear hb); (try clear hb2); (try clear hk); (try clear hi)) | (go_at_call 10; (with_reducible refine (spec_FieldOf.calls k _ _ t515 t516 t517 t522 t523 _ ?side1 ?side2 A6.out).mono ?_); (case side1 => exact dq13); (case side2 => exact (Kd.S_reads' HO519.out).2.1); rintro e w11 ⟨rfl, hb⟩; have n0_ := Aside0.mk (Kd.S_below dq117 hb); have n1_ := Aside0.mk (below_step dq25 hb); clear HO519; clear HB; have HO519 := n0_; have HB := n1_; clear n0_ n1_; (try clear hb); (try clear hb2); (try clear hk); (try clear hi)))
 repeat (go_quiet (first | (go_at_call 33; (with_reducible refine (laws_big.calls _ _ l0 false _ ?side1 ?side2 A2.out).mono ?_); (case side1 => exact dq2); (case side2 => exact HC0.out); rintro e w' ⟨rfl, ⟨nd, rfl⟩⟩; (try first | exact ⟨rfl, _, World.drewN_drewN _ _ _⟩ | exact ⟨rfl, _, Eq.trans (World.drewN_drewN _ _ _) (congrArg (World.drewN _) (Nat.add_assoc _ _ _))⟩)) | (go_at_call 34; (with_reducible refine (spec_DrawFieldOf.calls k _ _ l0 t515 t516 t517 _ ?side1 ?side2 A4.out).mono ?_); (case side1 => exact dq2); (case side2 => exact HC0.out); rintro e w8 ⟨v518, rfl, ho0, hb⟩; have n0_ := Aside0.mk (Kd.S_lower ho0 (below_size dq25)); have n1_ := Aside0.mk (below_step dq25 hb); clear HB; have HO519 := n0_; have HB := n1_; clear n0_ n1_; (try clear hb); (try clear hb2); (try clear hk); (try clear hi); (try clear ho0); obtain ⟨Ao9, co9, eo9⟩ := Kd.S_slice HO519.out; subst eo9) | (go_at_call 12; (with_reducible refine (impl_FieldOf.calls k _ _ t515 t516 t517 t520 t521 _ ?side3 ?side1 ?side2 A5.out).mono ?_); (case side1 => exact dq13); (case side2 => exact (Kd.S_reads' HO519.out).2.1); (case side3 => exact dq3); rintro e w10 ⟨rfl, hb⟩; have n0_ := Aside0.mk (Kd.S_below dq117 hb); have n1_ := Aside0.mk (below_step dq25 hb); clear HO519; clear HB; have HO519 := n0_; have HB := n1_; clear n0_ n1_; (try clear hb); (try clear hb2); (try clear hk); (try clear hi)) | (go_at_call 10; (with_reducible refine (spec_FieldOf.calls k _ _ t515 t516 t517 t522 t523 _ ?side1 ?side2 A6.out).mono ?_); (case side1 => exact dq13); (case side2 => exact (Kd.S_reads' HO519.out).2.1); rintro e w11 ⟨rfl, hb⟩; have n0_ := Aside0.mk (Kd.S_below dq117 hb); have n1_ := Aside0.mk (below_step dq25 hb); clear HO519; clear HB; have HO519 := n0_; have HB := n1_; clear n0_ n1_; (try clear hb); (try clear hb2); (try clear hk); (try clear hi))); go_upto_region 6 with (first | (go_at_call 33; (with_reducible refine (laws_big.calls _ _ l0 false _ ?side1 ?side2 A2.out).mono ?_); (case side1 => exact dq2); (case side2 => exact HC0.out); rintro e w' ⟨rfl, ⟨nd, rfl⟩⟩; (try first | exact ⟨rfl, _, World.drewN_drewN _ _ _⟩ | exact ⟨rfl, _, Eq.trans (World.drewN_drewN _ _ _) (congrArg (World.drewN _) (Nat.add_assoc _ _ _))⟩)) | (go_at_call 34; (with_reducible refine (spec_DrawFieldOf.calls k _ _ l0 t515 t516 t517 _ ?side1 ?side2 A4.out).mono ?_); (case side1 => exact dq2); (case side2 => exact HC0.out); rintro e w8 ⟨v518, rfl, ho0, hb⟩; have n0_ := Aside0.mk (Kd.S_lower ho0 (below_size dq25)); have n1_ := Aside0.mk (below_step dq25 hb); clear HB; have HO519 := n0_; have HB := n1_; clear n0_ n1_; (try clear hb); (try clear hb2); (try clear hk); (try clear hi); (try clear ho0); obtain ⟨Ao9, co9, eo9⟩ := Kd.S_slice HO519.out; subst eo9) | (go_at_call 12; (with_reducible refine (impl_FieldOf.calls k _ _ t515 t516 t517 t520 t521 _ ?side3 ?side1 ?side2 A5.out).mono ?_); (case side1 => exact dq13); (case side2 => exact (Kd.S_reads' HO519.out).2.1); (case side3 => exact dq3); rintro e w10 ⟨rfl, hb⟩; have n0_ := Aside0.mk (Kd.S_below dq117 hb); have n1_ := Aside0.mk (below_step dq25 hb); clear HO519; clear HB; have HO519 := n0_; have HB := n1_; clear n0_ n1_; (try clear hb); (try clear hb2); (try clear hk); (try clear hi)) | (go_at_call 10; (with_reducible refine (spec_FieldOf.calls k _ _ t515 t516 t517 t522 t523 _ ?side1 ?side2 A6.out).mono ?_); (case side1 => exact dq13); (case side2 => exact (Kd.S_reads' HO519.out).2.1); rintro e w11 ⟨rfl, hb⟩; have n0_ := Aside0.mk (Kd.S_below dq117 hb); have n1_ := Aside0.mk (below_step dq25 hb); clear HO519; clear HB; have HO519 := n0_; have HB := n1_; clear n0_ n1_; (try clear hb); (try clear hb2); (try clear hk); (try clear hi))))
 (try simp only [Act.put, List.setIfInBounds_toArray, List.set_cons_zero, List.set_cons_succ])
 go_cut [55] (fun v55 wc => ∃ (kq : Nat) (x55_6 : Bool), v55 = .bool x55_6 ∧ Aside0 (laws_FnFields.j0 kq t515 t516 t517 t520 t521 t522 t523 x55_6 = some r) ∧ Aside0 (kq ≤ k) ∧ Aside0 (Kd.S k65 65 wc w.heap.size (fun _ => True) (.slice Ao9 t515.length co9) t515) ∧ Aside0 (Below w.heap.size w wc))
 case first =>
  have H := HC7.out
  clear HC7
  by_cases c12 : t520.toList = t522.toList
  rotate_left
  ·rw [if_neg c12] at H
   have c12b0 := beq_eq_false_iff_ne.mpr c12
   have c12b1 := bne_iff_ne.mpr c12
   (first | rw [c12b0] | (simp only [i64_w, i32_w]; rw [c12b0]) | skip)
   have H' := Aside0.mk H
   clear H
   go_wp2
   repeat (go_quiet (fail); try go_wp2)
   go_meet
   case rel => exact ⟨_, (true), dq17, H', ⟨dq24⟩, ⟨dq117⟩, ⟨dq25⟩⟩
  rw [if_pos c12] at H
  have c12b0 := beq_iff_eq.mpr c12
  have c12b1 := bne_eq_false_iff_eq.mpr c12
  clear c12
  (first | rw [c12b0] | (simp only [i64_w, i32_w]; rw [c12b0]) | skip)
  by_cases c13 : t521 = t523
  rotate_left
  ·rw [if_neg c13] at H
   have c13b0 := beq_eq_false_iff_ne.mpr c13
   have c13b1 := bne_iff_ne.mpr c13
   have H' := Aside0.mk H
   clear H
   go_wp2
   repeat (go_quiet (fail); try go_wp2)
   go_meet
   case rel => exact ⟨_, (true), dq17, H', ⟨dq24⟩, ⟨dq117⟩, ⟨dq25⟩⟩
  rw [if_pos c13] at H
  have c13b0 := beq_iff_eq.mpr c13
  have c13b1 := bne_eq_false_iff_eq.mpr c13
  clear c13
  by_cases c14 : t521 < 0
  ·rw [if_pos c14] at H
   have c14b0 := decide_eq_true c14
   clear c14
   have H' := Aside0.mk H
   clear H
   go_wp2
   repeat (go_quiet (fail); try go_wp2)
   go_meet
   case rel => exact ⟨_, (true), dq17, H', ⟨dq24⟩, ⟨dq117⟩, ⟨dq25⟩⟩
  rw [if_neg c14] at H
  have c14b0 := decide_eq_false c14
  clear c14
  by_cases c15 : t521 = 1
  ·rw [if_pos c15] at H
   have c15b0 := beq_iff_eq.mpr c15
   have c15b1 := bne_eq_false_iff_eq.mpr c15
   clear c15
   have H' := Aside0.mk H
   clear H
   go_wp2
   repeat (go_quiet (fail); try go_wp2)
   go_meet
   case rel => exact ⟨_, (false), dq17, H', ⟨dq24⟩, ⟨dq117⟩, ⟨dq25⟩⟩
  rw [if_neg c15] at H
  have c15b0 := beq_eq_false_iff_ne.mpr c15
  have c15b1 := bne_iff_ne.mpr c15
  have H' := Aside0.mk H
  clear H
  go_wp2
  repeat (go_quiet (fail); try go_wp2)
  go_meet
  case rel => exact ⟨_, ((t520.toList != ([] : List UInt8))), (by first | rfl | (rw [bne_nilE67]; done) | (simp only [bne_nilE67]; done) | (simp; done) | (simp [*]; done)), H', ⟨dq24⟩, ⟨dq117⟩, ⟨dq25⟩⟩
 clear HC7
 try clear c1
 try clear p2
 try clear c3
 try clear c6
 try clear c12
 try clear c12b0
 try clear c12b1
 try clear c13
 try clear c13b0
 try clear c13b1
 try clear c14
 try clear c14b0
 try clear c15
 try clear c15b0
 try clear c15b1
 obtain ⟨kq, x55_6, rfl, HA, HJ6, HO_3, HB⟩ := hcut
 cases kq with
 | zero => exact absurd HA.out (by simp [laws_FnFields.j0])
 | succ kj6 =>
  have H := HA.out
  clear HA
  simp only [laws_FnFields.j0] at H
  by_cases c16 : x55_6 = true
  ·subst c16
   have H1 : (if t520.toList = t522.toList then (if t521 = t523 then (some (t520.toList == ([] : List UInt8))) else (some false)) else (some false)) = some r := by rw [if_pos rfl] at H; exact H
   clear H
   have H := H1
   clear H1
   by_cases c17 : t520.toList = t522.toList
   rotate_left
   ·rw [if_neg c17] at H
    have c17b0 := beq_eq_false_iff_ne.mpr c17
    have c17b1 := bne_iff_ne.mpr c17
    obtain rfl := Option.some.inj H
    go_wp2
    repeat (go_quiet (fail); try go_wp2)
    go_ret
    exact ⟨dq27, dq25⟩
   rw [if_pos c17] at H
   have c17b0 := beq_iff_eq.mpr c17
   have c17b1 := bne_eq_false_iff_eq.mpr c17
   clear c17
   by_cases c18 : t521 = t523
   rotate_left
   ·rw [if_neg c18] at H
    have c18b0 := beq_eq_false_iff_ne.mpr c18
    have c18b1 := bne_iff_ne.mpr c18
    obtain rfl := Option.some.inj H
    go_wp2
    repeat (go_quiet (fail); try go_wp2)
    go_ret
    exact ⟨dq27, dq25⟩
   rw [if_pos c18] at H
   have c18b0 := beq_iff_eq.mpr c18
   have c18b1 := bne_eq_false_iff_eq.mpr c18
   clear c18
   obtain rfl := Option.some.inj H
   go_wp2
   repeat (go_quiet (fail); try go_wp2)
   go_ret
   exact ⟨dq27, dq25⟩
  replace c16 := Bool.eq_false_iff.mpr c16
  subst c16
  have H1 : (if t517.toList = ([46] : List UInt8) then ((impl_TextOf.f kj6 t515 t516).bind fun bt524 => (if t521 = 1 then (if bt524.2 = true then ((impl_White.f bt524.1 2).bind fun t526 => (some (t520.toList == t526.toList))) else (some false)) else (some false))) else (if 0 < (t517.size : Int) then (if (bt t517 0) = 64 then (laws_FnFields.l0 kj6 t515 t516 t517 t520 t521 0 0) else ((impl_White.f t520 2).bind fun t527 => (some (t527.toList == t520.toList)))) else (none))) = some r := by rw [if_neg (show ¬ (false = true) by decide)] at H; exact H
  clear H
  have H := H1
  clear H1
  by_cases c19 : t517.toList = ([46] : List UInt8)
  ·rw [if_pos c19] at H
   have c19b0 := beq_iff_eq.mpr c19
   have c19b1 := bne_eq_false_iff_eq.mpr c19
   clear c19
   replace H := Option.bind_eq_some_iff.mp H
   obtain ⟨⟨t524, t525⟩, A200, H⟩ := H
   replace H : (if t521 = 1 then (if t525 = true then ((impl_White.f t524 2).bind fun t526 => (some (t520.toList == t526.toList))) else (some false)) else (some false)) = some r := H
   have A20 := Aside0.mk A200
   clear A200
   by_cases c21 : t521 = 1
   rotate_left
   ·rw [if_neg c21] at H
    have c21b0 := beq_eq_false_iff_ne.mpr c21
    have c21b1 := bne_iff_ne.mpr c21
    obtain rfl := Option.some.inj H
    go_wp2_with (first | (go_at_call 35; (with_reducible refine (impl_TextOf.calls kj6 _ _ t515 t516 t524 t525 _ ?side3 ?side1 ?side2 A20.out).mono ?_); (case side1 => exact dq14); (case side2 => exact dq15); (case side3 => exact dq3); rintro e w27 ⟨rfl, hb⟩; have n0_ := Aside0.mk (Kd.S_below dq102 hb); have n1_ := Aside0.mk (below_step dq25 hb); clear HO_3; clear HB; have HO_3 := n0_; have HB := n1_; clear n0_ n1_; (try clear hb); (try clear hb2); (try clear hk); (try clear hi)))
    repeat (go_quiet (first | (go_at_call 35; (with_reducible refine (impl_TextOf.calls kj6 _ _ t515 t516 t524 t525 _ ?side3 ?side1 ?side2 A20.out).mono ?_); (case side1 => exact dq14); (case side2 => exact dq15); (case side3 => exact dq3); rintro e w27 ⟨rfl, hb⟩; have n0_ := Aside0.mk (Kd.S_below dq102 hb); have n1_ := Aside0.mk (below_step dq25 hb); clear HO_3; clear HB; have HO_3 := n0_; have HB := n1_; clear n0_ n1_; (try clear hb); (try clear hb2); (try clear hk); (try clear hi))); try go_wp2_with (first | (go_at_call 35; (with_reducible refine (impl_TextOf.calls kj6 _ _ t515 t516 t524 t525 _ ?side3 ?side1 ?side2 A20.out).mono ?_); (case side1 => exact dq14); (case side2 => exact dq15); (case side3 => exact dq3); rintro e w27 ⟨rfl, hb⟩; have n0_ := Aside0.mk (Kd.S_below dq102 hb); have n1_ := Aside0.mk (below_step dq25 hb); clear HO_3; clear HB; have HO_3 := n0_; have HB := n1_; clear n0_ n1_; (try clear hb); (try clear hb2); (try clear hk); (try clear hi))))
    go_ret
    exact ⟨dq27, dq25⟩
   rw [if_pos c21] at H
   have c21b0 := beq_iff_eq.mpr c21
   have c21b1 := bne_eq_false_iff_eq.mpr c21
   clear c21
   by_cases c22 : t525 = true
   rotate_left
   ·replace c22 := Bool.eq_false_iff.mpr c22
    subst c22
    have H1 : (some false) = some r := by rw [if_neg (show ¬ (false = true) by decide)] at H; exact H
    clear H
    have H := H1
    clear H1
    obtain rfl := Option.some.inj H
    go_wp2_with (first | (go_at_call 35; (with_reducible refine (impl_TextOf.calls kj6 _ _ t515 t516 t524 false _ ?side3 ?side1 ?side2 A20.out).mono ?_); (case side1 => exact dq14); (case side2 => exact dq15); (case side3 => exact dq3); rintro e w26 ⟨rfl, hb⟩; have n0_ := Aside0.mk (Kd.S_below dq102 hb); have n1_ := Aside0.mk (below_step dq25 hb); clear HO_3; clear HB; have HO_3 := n0_; have HB := n1_; clear n0_ n1_; (try clear hb); (try clear hb2); (try clear hk); (try clear hi)))
    repeat (go_quiet (first | (go_at_call 35; (with_reducible refine (impl_TextOf.calls kj6 _ _ t515 t516 t524 false _ ?side3 ?side1 ?side2 A20.out).mono ?_); (case side1 => exact dq14); (case side2 => exact dq15); (case side3 => exact dq3); rintro e w26 ⟨rfl, hb⟩; have n0_ := Aside0.mk (Kd.S_below dq102 hb); have n1_ := Aside0.mk (below_step dq25 hb); clear HO_3; clear HB; have HO_3 := n0_; have HB := n1_; clear n0_ n1_; (try clear hb); (try clear hb2); (try clear hk); (try clear hi))); try go_wp2_with (first | (go_at_call 35; (with_reducible refine (impl_TextOf.calls kj6 _ _ t515 t516 t524 false _ ?side3 ?side1 ?side2 A20.out).mono ?_); (case side1 => exact dq14); (case side2 => exact dq15); (case side3 => exact dq3); rintro e w26 ⟨rfl, hb⟩; have n0_ := Aside0.mk (Kd.S_below dq102 hb); have n1_ := Aside0.mk (below_step dq25 hb); clear HO_3; clear HB; have HO_3 := n0_; have HB := n1_; clear n0_ n1_; (try clear hb); (try clear hb2); (try clear hk); (try clear hi))))
    go_ret
    exact ⟨dq27, dq25⟩
   subst c22
   have H1 : ((impl_White.f t524 2).bind fun t526 => (some (t520.toList == t526.toList))) = some r := by rw [if_pos rfl] at H; exact H
   clear H
   have H := H1
   clear H1
   replace H := Option.bind_eq_some_iff.mp H
   obtain ⟨t526, A230, H⟩ := H
   replace H : (some (t520.toList == t526.toList)) = some r := H
   have A23 := Aside0.mk A230
   clear A230
   obtain rfl := Option.some.inj H
   go_wp2_with (first | (go_at_call 35; (with_reducible refine (impl_TextOf.calls kj6 _ _ t515 t516 t524 true _ ?side3 ?side1 ?side2 A20.out).mono ?_); (case side1 => exact dq14); (case side2 => exact dq15); (case side3 => exact dq3); rintro e w24 ⟨rfl, hb⟩; have n0_ := Aside0.mk (Kd.S_below dq102 hb); have n1_ := Aside0.mk (below_step dq25 hb); clear HO_3; clear HB; have HO_3 := n0_; have HB := n1_; clear n0_ n1_; (try clear hb); (try clear hb2); (try clear hk); (try clear hi)) | (go_at_call 36; (with_reducible refine (impl_White.calls t524 2 t526 _ A23.out).mono ?_); rintro e w25 ⟨rfl, hb⟩; have n0_ := Aside0.mk (Kd.S_below dq102 hb); have n1_ := Aside0.mk (below_step dq25 hb); clear HO_3; clear HB; have HO_3 := n0_; have HB := n1_; clear n0_ n1_; (try clear hb); (try clear hb2); (try clear hk); (try clear hi)))
   repeat (go_quiet (first | (go_at_call 35; (with_reducible refine (impl_TextOf.calls kj6 _ _ t515 t516 t524 true _ ?side3 ?side1 ?side2 A20.out).mono ?_); (case side1 => exact dq14); (case side2 => exact dq15); (case side3 => exact dq3); rintro e w24 ⟨rfl, hb⟩; have n0_ := Aside0.mk (Kd.S_below dq102 hb); have n1_ := Aside0.mk (below_step dq25 hb); clear HO_3; clear HB; have HO_3 := n0_; have HB := n1_; clear n0_ n1_; (try clear hb); (try clear hb2); (try clear hk); (try clear hi)) | (go_at_call 36; (with_reducible refine (impl_White.calls t524 2 t526 _ A23.out).mono ?_); rintro e w25 ⟨rfl, hb⟩; have n0_ := Aside0.mk (Kd.S_below dq102 hb); have n1_ := Aside0.mk (below_step dq25 hb); clear HO_3; clear HB; have HO_3 := n0_; have HB := n1_; clear n0_ n1_; (try clear hb); (try clear hb2); (try clear hk); (try clear hi))); try go_wp2_with (first | (go_at_call 35; (with_reducible refine (impl_TextOf.calls kj6 _ _ t515 t516 t524 true _ ?side3 ?side1 ?side2 A20.out).mono ?_); (case side1 => exact dq14); (case side2 => exact dq15); (case side3 => exact dq3); rintro e w24 ⟨rfl, hb⟩; have n0_ := Aside0.mk (Kd.S_below dq102 hb); have n1_ := Aside0.mk (below_step dq25 hb); clear HO_3; clear HB; have HO_3 := n0_; have HB := n1_; clear n0_ n1_; (try clear hb); (try clear hb2); (try clear hk); (try clear hi)) | (go_at_call 36; (with_reducible refine (impl_White.calls t524 2 t526 _ A23.out).mono ?_); rintro e w25 ⟨rfl, hb⟩; have n0_ := Aside0.mk (Kd.S_below dq102 hb); have n1_ := Aside0.mk (below_step dq25 hb); clear HO_3; clear HB; have HO_3 := n0_; have HB := n1_; clear n0_ n1_; (try clear hb); (try clear hb2); (try clear hk); (try clear hi))))
   go_ret
   exact ⟨dq27, dq25⟩
  rw [if_neg c19] at H
  have c19b0 := beq_eq_false_iff_ne.mpr c19
  have c19b1 := bne_iff_ne.mpr c19
  by_cases c28 : 0 < (t517.size : Int)
  rotate_left
  ·rw [if_neg c28] at H
   exact absurd H dq20
  rw [if_pos c28] at H
  have c28b0 := decide_eq_true c28
  have c28b1 : decide (0 < t517.size) = true := decide_eq_true dq23
  clear c28
  by_cases c30 : (bt t517 0) = 64
  rotate_left
  ·rw [if_neg c30] at H
   have c30b0 := beq_eq_false_iff_ne.mpr c30
   have c30b1 := bne_iff_ne.mpr c30
   replace H := Option.bind_eq_some_iff.mp H
   obtain ⟨t527, A410, H⟩ := H
   replace H : (some (t527.toList == t520.toList)) = some r := H
   have A41 := Aside0.mk A410
   clear A410
   obtain rfl := Option.some.inj H
   have p29 : 0 ≤ (0 : Int) := dq23
   have q29 : 0 < t517.size := (by have : (0 : Int) < (t517.size : Int) := of_decide_eq_true dq18; omega)
   have hx29 : ∀ h : 0 < t517.size, ((t517[0]'h).toNat : Int) = bt t517 0 := bt_at t517 0
   clear p29
   have qi29 : (0 < (t517.size : Int)) = True := eq_true (of_decide_eq_true dq18)
   replace q29 := eq_true q29
   go_wp2_with (first | (go_at_call 36; (with_reducible refine (impl_White.calls t520 2 t527 _ A41.out).mono ?_); rintro e w42 ⟨rfl, hb⟩; have n0_ := Aside0.mk (Kd.S_below dq102 hb); have n1_ := Aside0.mk (below_step dq25 hb); clear HO_3; clear HB; have HO_3 := n0_; have HB := n1_; clear n0_ n1_; (try clear hb); (try clear hb2); (try clear hk); (try clear hi)))
   repeat (go_quiet (first | (go_at_call 36; (with_reducible refine (impl_White.calls t520 2 t527 _ A41.out).mono ?_); rintro e w42 ⟨rfl, hb⟩; have n0_ := Aside0.mk (Kd.S_below dq102 hb); have n1_ := Aside0.mk (below_step dq25 hb); clear HO_3; clear HB; have HO_3 := n0_; have HB := n1_; clear n0_ n1_; (try clear hb); (try clear hb2); (try clear hk); (try clear hi))); try go_wp2_with (first | (go_at_call 36; (with_reducible refine (impl_White.calls t520 2 t527 _ A41.out).mono ?_); rintro e w42 ⟨rfl, hb⟩; have n0_ := Aside0.mk (Kd.S_below dq102 hb); have n1_ := Aside0.mk (below_step dq25 hb); clear HO_3; clear HB; have HO_3 := n0_; have HB := n1_; clear n0_ n1_; (try clear hb); (try clear hb2); (try clear hk); (try clear hi))))
   go_ret
   exact ⟨dq27, dq25⟩
  rw [if_pos c30] at H
  have c30b0 := beq_iff_eq.mpr c30
  have c30b1 := bne_eq_false_iff_eq.mpr c30
  clear c30
  have H' := Aside0.mk H
  clear H
  have p29 : 0 ≤ (0 : Int) := dq23
  have q29 : 0 < t517.size := (by have : (0 : Int) < (t517.size : Int) := of_decide_eq_true dq18; omega)
  have hx29 : ∀ h : 0 < t517.size, ((t517[0]'h).toNat : Int) = bt t517 0 := bt_at t517 0
  clear p29
  have qi29 : (0 < (t517.size : Int)) = True := eq_true (of_decide_eq_true dq18)
  replace q29 := eq_true q29
  go_wp2
  repeat (go_quiet (fail); try go_wp2)
  go_loopg [12, 13] kj6 (fun kq v12 v13 w' => ∃ (x12_2 : Int) (x13_2 : Int), v12 = .int .i64 x12_2 ∧ v13 = .int .i64 x13_2 ∧ Aside0 (laws_FnFields.l0 kq t515 t516 t517 t520 t521 x12_2 x13_2 = some r) ∧ Aside0 (kq ≤ kj6) ∧ Aside0 (Kd.S k65 65 w' w.heap.size (fun _ => True) (.slice Ao9 t515.length co9) t515) ∧ Aside0 (Below w.heap.size w w'))
  case atStart => exact ⟨(0), (0), dq17, dq17, H', ⟨Nat.le_refl _⟩, ⟨dq102⟩, ⟨dq25⟩⟩
  clear H'
  try clear c1
  try clear c2
  try clear p2
  try clear q2
  try clear hx2
  try clear qi2
  try clear c3
  try clear c6
  try clear c12
  try clear c12b0
  try clear c12b1
  try clear c13
  try clear c13b0
  try clear c13b1
  try clear c14
  try clear c14b0
  try clear c15
  try clear c15b0
  try clear c15b1
  try clear c16
  try clear c17
  try clear c17b0
  try clear c17b1
  try clear c18
  try clear c18b0
  try clear c18b1
  try clear c19
  try clear c19b0
  try clear c19b1
  try clear c21
  try clear c21b0
  try clear c21b1
  try clear c22
  try clear c28
  try clear c28b0
  try clear c28b1
  try clear p29
  try clear q29
  try clear hx29
  try clear qi29
  try clear c30
  try clear c30b0
  try clear c30b1
  try clear p2
  try clear p29
  try clear q29
  obtain ⟨x12_2, x13_2, rfl, rfl, HA, HK2, HO_3, HB⟩ := hrel
  cases gk with
  | zero => exact absurd HA.out (by simp [laws_FnFields.l0])
  | succ k2 =>
   have H := HA.out
   clear HA
   simp only [laws_FnFields.l0] at H
   by_cases c31 : 0 ≤ t516
   rotate_left
   ·rw [if_neg c31] at H
    exact absurd H dq20
   rw [if_pos c31] at H
   have c31b0 := decide_eq_true c31
   clear c31
   by_cases c32 : t516 < (t515.length : Int)
   rotate_left
   ·rw [if_neg c32] at H
    exact absurd H dq20
   rw [if_pos c32] at H
   have c32b0 := decide_eq_true c32
   clear c32
   by_cases c33 : x13_2 < (((rd_T65 t515 t516).f3).length : Int)
   rotate_left
   ·rw [if_neg c33] at H
    have c33b0 := decide_eq_false c33
    clear c33
    obtain rfl := Option.some.inj H
    have p528 : 0 ≤ (t516 : Int) := of_decide_eq_true dq18
    have q528 : t516 < (t515.length : Int) := of_decide_eq_true dq18
    obtain ⟨ad528, A528_3, c528_3, e528, hx528_0, hx528_1, hx528_2, hx528_3, hl528_3, hi528_3⟩ := at_T65 (Kd.S_reads' HO_3.out).2.2 t516 p528 q528
    cases e528
    obtain ⟨ce528, hce528, hMe528, hcc528⟩ := Kd.S_get HO_3.out z65 t516 p528 dq118
    obtain ⟨ve528_3, rfl, ge528_3⟩ := k65_openM hMe528
    have hv528_3 := hcc528 3 _ rfl
    rw [add_field _ _ 3 dq23] at hv528_3
    replace hv528_3 := Option.some.inj (hv528_3.symm.trans hx528_3)
    rw [hv528_3] at ge528_3
    have HL528_3 := Aside0.mk (show Kd.R k67 67 _ _ _ _ ((rd_T65 t515 t516).f3) from ge528_3)
    clear hv528_3 ge528_3
    clear hcc528 hce528
    have HR528_3 := Aside0.mk hi528_3
    have HC528_3 := Aside0.mk hl528_3
    clear hi528_3 hl528_3
    replace p528 := eq_true p528
    replace q528 := eq_true q528
    go_wp2
    repeat (go_quiet (fail); try go_wp2)
    go_ret
    exact ⟨dq27, dq25⟩
   rw [if_pos c33] at H
   have c33b0 := decide_eq_true c33
   clear c33
   by_cases c34 : 0 ≤ x13_2
   rotate_left
   ·rw [if_neg c34] at H
    exact absurd H dq20
   rw [if_pos c34] at H
   have c34b0 := decide_eq_true c34
   clear c34
   by_cases c35 : 1 ≤ (t517.size : Int)
   rotate_left
   ·rw [if_neg c35] at H
    exact absurd H dq20
   rw [if_pos c35] at H
   have c35b0 := eq_true c35
   have c35b1 := decide_eq_true c35
   clear c35
   by_cases c36 : ((rd_T67 ((rd_T65 t515 t516).f3) x13_2).f0).toList = (t517.extract 1 t517.size).toList
   rotate_left
   ·rw [if_neg c36] at H
    have c36b0 := beq_eq_false_iff_ne.mpr c36
    have c36b1 := bne_iff_ne.mpr c36
    have H' := Aside0.mk H
    clear H
    have p528 : 0 ≤ (t516 : Int) := of_decide_eq_true dq18
    have q528 : t516 < (t515.length : Int) := of_decide_eq_true dq18
    obtain ⟨ad528, A528_3, c528_3, e528, hx528_0, hx528_1, hx528_2, hx528_3, hl528_3, hi528_3⟩ := at_T65 (Kd.S_reads' HO_3.out).2.2 t516 p528 q528
    cases e528
    obtain ⟨ce528, hce528, hMe528, hcc528⟩ := Kd.S_get HO_3.out z65 t516 p528 dq118
    obtain ⟨ve528_3, rfl, ge528_3⟩ := k65_openM hMe528
    have hv528_3 := hcc528 3 _ rfl
    rw [add_field _ _ 3 dq23] at hv528_3
    replace hv528_3 := Option.some.inj (hv528_3.symm.trans hx528_3)
    rw [hv528_3] at ge528_3
    have HL528_3 := Aside0.mk (show Kd.R k67 67 _ _ _ _ ((rd_T65 t515 t516).f3) from ge528_3)
    clear hv528_3 ge528_3
    clear hcc528 hce528
    have HR528_3 := Aside0.mk hi528_3
    have HC528_3 := Aside0.mk hl528_3
    clear hi528_3 hl528_3
    replace p528 := eq_true p528
    replace q528 := eq_true q528
    have p529 : 0 ≤ (t516 : Int) := of_decide_eq_true dq18
    have q529 : t516 < (t515.length : Int) := of_decide_eq_true dq18
    obtain ⟨ad529, A529_3, c529_3, e529, hx529_0, hx529_1, hx529_2, hx529_3, hl529_3, hi529_3⟩ := at_T65 (Kd.S_reads' HO_3.out).2.2 t516 p529 q529
    obtain rfl : ad528 = ad529 := (by injection e529)
    obtain ⟨ce529, hce529, hMe529, hcc529⟩ := Kd.S_get HO_3.out z65 t516 p529 dq119
    obtain ⟨ve529_3, rfl, ge529_3⟩ := k65_openM hMe529
    have hv529_3 := hcc529 3 _ rfl
    rw [add_field _ _ 3 dq23] at hv529_3
    replace hv529_3 := Option.some.inj (hv529_3.symm.trans hx529_3)
    rw [hv529_3] at ge529_3
    have HL529_3 := Aside0.mk (show Kd.R k67 67 _ _ _ _ ((rd_T65 t515 t516).f3) from ge529_3)
    clear hv529_3 ge529_3
    clear hcc529 hce529
    have HR529_3 := Aside0.mk hi529_3
    have HC529_3 := Aside0.mk hl529_3
    clear hi529_3 hl529_3
    replace p529 := eq_true p529
    replace q529 := eq_true q529
    have ea_ := Option.some.inj (hx528_3.symm.trans hx529_3)
    injection ea_ with ea_ en_ ec_
    subst ea_
    subst ec_
    clear en_
    have p530 : 0 ≤ (x13_2 : Int) := of_decide_eq_true dq18
    have q530 : x13_2 < (((rd_T65 t515 t516).f3).length : Int) := of_decide_eq_true dq18
    obtain ⟨ad530, e530, hx530_0, hx530_1⟩ := at_T67 dq120 x13_2 p530 q530
    cases e530
    replace p530 := eq_true p530
    replace q530 := eq_true q530
    go_wp2
    repeat (go_quiet (fail); try go_wp2)
    go_roundg k2
    case measure => have := HJ6.out; have := HK2.out; omega
    case rel => exact ⟨(x12_2), (wrap64 (x13_2 + 1)), dq17, dq17, H', ⟨by have := HJ6.out; have := HK2.out; omega⟩, ⟨dq102⟩, ⟨dq25⟩⟩
   rw [if_pos c36] at H
   have c36b0 := beq_iff_eq.mpr c36
   have c36b1 := bne_eq_false_iff_eq.mpr c36
   clear c36
   replace H := Option.bind_eq_some_iff.mp H
   obtain ⟨t533, A370, H⟩ := H
   replace H : (if t520.toList = t533.toList then (laws_FnFields.l0 k2 t515 t516 t517 t520 t521 (wrap64 (x12_2 + 1)) (wrap64 (x13_2 + 1))) else (some false)) = some r := H
   have A37 := Aside0.mk A370
   clear A370
   by_cases c38 : t520.toList = t533.toList
   rotate_left
   ·rw [if_neg c38] at H
    have c38b0 := beq_eq_false_iff_ne.mpr c38
    have c38b1 := bne_iff_ne.mpr c38
    obtain rfl := Option.some.inj H
    have p528 : 0 ≤ (t516 : Int) := of_decide_eq_true dq18
    have q528 : t516 < (t515.length : Int) := of_decide_eq_true dq18
    obtain ⟨ad528, A528_3, c528_3, e528, hx528_0, hx528_1, hx528_2, hx528_3, hl528_3, hi528_3⟩ := at_T65 (Kd.S_reads' HO_3.out).2.2 t516 p528 q528
    cases e528
    obtain ⟨ce528, hce528, hMe528, hcc528⟩ := Kd.S_get HO_3.out z65 t516 p528 dq118
    obtain ⟨ve528_3, rfl, ge528_3⟩ := k65_openM hMe528
    have hv528_3 := hcc528 3 _ rfl
    rw [add_field _ _ 3 dq23] at hv528_3
    replace hv528_3 := Option.some.inj (hv528_3.symm.trans hx528_3)
    rw [hv528_3] at ge528_3
    have HL528_3 := Aside0.mk (show Kd.R k67 67 _ _ _ _ ((rd_T65 t515 t516).f3) from ge528_3)
    clear hv528_3 ge528_3
    clear hcc528 hce528
    have HR528_3 := Aside0.mk hi528_3
    have HC528_3 := Aside0.mk hl528_3
    clear hi528_3 hl528_3
    replace p528 := eq_true p528
    replace q528 := eq_true q528
    have p529 : 0 ≤ (t516 : Int) := of_decide_eq_true dq18
    have q529 : t516 < (t515.length : Int) := of_decide_eq_true dq18
    obtain ⟨ad529, A529_3, c529_3, e529, hx529_0, hx529_1, hx529_2, hx529_3, hl529_3, hi529_3⟩ := at_T65 (Kd.S_reads' HO_3.out).2.2 t516 p529 q529
    obtain rfl : ad528 = ad529 := (by injection e529)
    obtain ⟨ce529, hce529, hMe529, hcc529⟩ := Kd.S_get HO_3.out z65 t516 p529 dq119
    obtain ⟨ve529_3, rfl, ge529_3⟩ := k65_openM hMe529
    have hv529_3 := hcc529 3 _ rfl
    rw [add_field _ _ 3 dq23] at hv529_3
    replace hv529_3 := Option.some.inj (hv529_3.symm.trans hx529_3)
    rw [hv529_3] at ge529_3
    have HL529_3 := Aside0.mk (show Kd.R k67 67 _ _ _ _ ((rd_T65 t515 t516).f3) from ge529_3)
    clear hv529_3 ge529_3
    clear hcc529 hce529
    have HR529_3 := Aside0.mk hi529_3
    have HC529_3 := Aside0.mk hl529_3
    clear hi529_3 hl529_3
    replace p529 := eq_true p529
    replace q529 := eq_true q529
    have ea_ := Option.some.inj (hx528_3.symm.trans hx529_3)
    injection ea_ with ea_ en_ ec_
    subst ea_
    subst ec_
    clear en_
    have p530 : 0 ≤ (x13_2 : Int) := of_decide_eq_true dq18
    have q530 : x13_2 < (((rd_T65 t515 t516).f3).length : Int) := of_decide_eq_true dq18
    obtain ⟨ad530, e530, hx530_0, hx530_1⟩ := at_T67 dq120 x13_2 p530 q530
    cases e530
    replace p530 := eq_true p530
    replace q530 := eq_true q530
    have p531 : 0 ≤ (t516 : Int) := of_decide_eq_true dq18
    have q531 : t516 < (t515.length : Int) := of_decide_eq_true dq18
    obtain ⟨ad531, A531_3, c531_3, e531, hx531_0, hx531_1, hx531_2, hx531_3, hl531_3, hi531_3⟩ := at_T65 (Kd.S_reads' HO_3.out).2.2 t516 p531 q531
    obtain rfl : ad528 = ad531 := (by injection e531)
    obtain ⟨ce531, hce531, hMe531, hcc531⟩ := Kd.S_get HO_3.out z65 t516 p531 dq121
    obtain ⟨ve531_3, rfl, ge531_3⟩ := k65_openM hMe531
    have hv531_3 := hcc531 3 _ rfl
    rw [add_field _ _ 3 dq23] at hv531_3
    replace hv531_3 := Option.some.inj (hv531_3.symm.trans hx531_3)
    rw [hv531_3] at ge531_3
    have HL531_3 := Aside0.mk (show Kd.R k67 67 _ _ _ _ ((rd_T65 t515 t516).f3) from ge531_3)
    clear hv531_3 ge531_3
    clear hcc531 hce531
    have HR531_3 := Aside0.mk hi531_3
    have HC531_3 := Aside0.mk hl531_3
    clear hi531_3 hl531_3
    replace p531 := eq_true p531
    replace q531 := eq_true q531
    have ea_ := Option.some.inj (hx528_3.symm.trans hx531_3)
    injection ea_ with ea_ en_ ec_
    subst ea_
    subst ec_
    clear en_
    have p532 : 0 ≤ (x13_2 : Int) := of_decide_eq_true dq18
    have q532 : x13_2 < (((rd_T65 t515 t516).f3).length : Int) := of_decide_eq_true dq18
    obtain ⟨ad532, e532, hx532_0, hx532_1⟩ := at_T67 dq122 x13_2 p532 q532
    cases e532
    replace p532 := eq_true p532
    replace q532 := eq_true q532
    go_wp2_with (first | (go_at_call 36; (with_reducible refine (impl_White.calls ((rd_T67 ((rd_T65 t515 t516).f3) x13_2).f1) 2 t533 _ A37.out).mono ?_); rintro e w40 ⟨rfl, hb⟩; have n0_ := Aside0.mk (Kd.S_below dq102 hb); have n1_ := Aside0.mk (Kd.R_below dq126 hb); have n2_ := Aside0.mk (Kd.R_below dq125 hb); have n3_ := Aside0.mk (Kd.R_below dq124 hb); have n4_ := Aside0.mk (Kd.C_below dq123 hb); have n5_ := Aside0.mk (Kd.C_below dq120 hb); have n6_ := Aside0.mk (Kd.C_below dq122 hb); have n7_ := Aside0.mk (below_step dq25 hb); clear HO_3; clear HL528_3; clear HL529_3; clear HL531_3; clear HR528_3; clear HR529_3; clear HR531_3; clear HB; have HO_3 := n0_; have HL528_3 := n1_; have HL529_3 := n2_; have HL531_3 := n3_; have HR528_3 := n4_; have HR529_3 := n5_; have HR531_3 := n6_; have HB := n7_; clear n0_ n1_ n2_ n3_ n4_ n5_ n6_ n7_; (try clear hb); (try clear hb2); (try clear hk); (try clear hi)))
    repeat (go_quiet (first | (go_at_call 36; (with_reducible refine (impl_White.calls ((rd_T67 ((rd_T65 t515 t516).f3) x13_2).f1) 2 t533 _ A37.out).mono ?_); rintro e w40 ⟨rfl, hb⟩; have n0_ := Aside0.mk (Kd.S_below dq102 hb); have n1_ := Aside0.mk (Kd.R_below dq126 hb); have n2_ := Aside0.mk (Kd.R_below dq125 hb); have n3_ := Aside0.mk (Kd.R_below dq124 hb); have n4_ := Aside0.mk (Kd.C_below dq123 hb); have n5_ := Aside0.mk (Kd.C_below dq120 hb); have n6_ := Aside0.mk (Kd.C_below dq122 hb); have n7_ := Aside0.mk (below_step dq25 hb); clear HO_3; clear HL528_3; clear HL529_3; clear HL531_3; clear HR528_3; clear HR529_3; clear HR531_3; clear HB; have HO_3 := n0_; have HL528_3 := n1_; have HL529_3 := n2_; have HL531_3 := n3_; have HR528_3 := n4_; have HR529_3 := n5_; have HR531_3 := n6_; have HB := n7_; clear n0_ n1_ n2_ n3_ n4_ n5_ n6_ n7_; (try clear hb); (try clear hb2); (try clear hk); (try clear hi))); try go_wp2_with (first | (go_at_call 36; (with_reducible refine (impl_White.calls ((rd_T67 ((rd_T65 t515 t516).f3) x13_2).f1) 2 t533 _ A37.out).mono ?_); rintro e w40 ⟨rfl, hb⟩; have n0_ := Aside0.mk (Kd.S_below dq102 hb); have n1_ := Aside0.mk (Kd.R_below dq126 hb); have n2_ := Aside0.mk (Kd.R_below dq125 hb); have n3_ := Aside0.mk (Kd.R_below dq124 hb); have n4_ := Aside0.mk (Kd.C_below dq123 hb); have n5_ := Aside0.mk (Kd.C_below dq120 hb); have n6_ := Aside0.mk (Kd.C_below dq122 hb); have n7_ := Aside0.mk (below_step dq25 hb); clear HO_3; clear HL528_3; clear HL529_3; clear HL531_3; clear HR528_3; clear HR529_3; clear HR531_3; clear HB; have HO_3 := n0_; have HL528_3 := n1_; have HL529_3 := n2_; have HL531_3 := n3_; have HR528_3 := n4_; have HR529_3 := n5_; have HR531_3 := n6_; have HB := n7_; clear n0_ n1_ n2_ n3_ n4_ n5_ n6_ n7_; (try clear hb); (try clear hb2); (try clear hk); (try clear hi))))
    go_ret
    exact ⟨dq27, dq25⟩
   rw [if_pos c38] at H
   have c38b0 := beq_iff_eq.mpr c38
   have c38b1 := bne_eq_false_iff_eq.mpr c38
   clear c38
   have H' := Aside0.mk H
   clear H
   have p528 : 0 ≤ (t516 : Int) := of_decide_eq_true dq18
   have q528 : t516 < (t515.length : Int) := of_decide_eq_true dq18
   obtain ⟨ad528, A528_3, c528_3, e528, hx528_0, hx528_1, hx528_2, hx528_3, hl528_3, hi528_3⟩ := at_T65 (Kd.S_reads' HO_3.out).2.2 t516 p528 q528
   cases e528
   obtain ⟨ce528, hce528, hMe528, hcc528⟩ := Kd.S_get HO_3.out z65 t516 p528 dq118
   obtain ⟨ve528_3, rfl, ge528_3⟩ := k65_openM hMe528
   have hv528_3 := hcc528 3 _ rfl
   rw [add_field _ _ 3 dq23] at hv528_3
   replace hv528_3 := Option.some.inj (hv528_3.symm.trans hx528_3)
   rw [hv528_3] at ge528_3
   have HL528_3 := Aside0.mk (show Kd.R k67 67 _ _ _ _ ((rd_T65 t515 t516).f3) from ge528_3)
   clear hv528_3 ge528_3
   clear hcc528 hce528
   have HR528_3 := Aside0.mk hi528_3
   have HC528_3 := Aside0.mk hl528_3
   clear hi528_3 hl528_3
   replace p528 := eq_true p528
   replace q528 := eq_true q528
   have p529 : 0 ≤ (t516 : Int) := of_decide_eq_true dq18
   have q529 : t516 < (t515.length : Int) := of_decide_eq_true dq18
   obtain ⟨ad529, A529_3, c529_3, e529, hx529_0, hx529_1, hx529_2, hx529_3, hl529_3, hi529_3⟩ := at_T65 (Kd.S_reads' HO_3.out).2.2 t516 p529 q529
   obtain rfl : ad528 = ad529 := (by injection e529)
   obtain ⟨ce529, hce529, hMe529, hcc529⟩ := Kd.S_get HO_3.out z65 t516 p529 dq119
   obtain ⟨ve529_3, rfl, ge529_3⟩ := k65_openM hMe529
   have hv529_3 := hcc529 3 _ rfl
   rw [add_field _ _ 3 dq23] at hv529_3
   replace hv529_3 := Option.some.inj (hv529_3.symm.trans hx529_3)
   rw [hv529_3] at ge529_3
   have HL529_3 := Aside0.mk (show Kd.R k67 67 _ _ _ _ ((rd_T65 t515 t516).f3) from ge529_3)
   clear hv529_3 ge529_3
   clear hcc529 hce529
   have HR529_3 := Aside0.mk hi529_3
   have HC529_3 := Aside0.mk hl529_3
   clear hi529_3 hl529_3
   replace p529 := eq_true p529
   replace q529 := eq_true q529
   have ea_ := Option.some.inj (hx528_3.symm.trans hx529_3)
   injection ea_ with ea_ en_ ec_
   subst ea_
   subst ec_
   clear en_
   have p530 : 0 ≤ (x13_2 : Int) := of_decide_eq_true dq18
   have q530 : x13_2 < (((rd_T65 t515 t516).f3).length : Int) := of_decide_eq_true dq18
   obtain ⟨ad530, e530, hx530_0, hx530_1⟩ := at_T67 dq120 x13_2 p530 q530
   cases e530
   replace p530 := eq_true p530
   replace q530 := eq_true q530
   have p531 : 0 ≤ (t516 : Int) := of_decide_eq_true dq18
   have q531 : t516 < (t515.length : Int) := of_decide_eq_true dq18
   obtain ⟨ad531, A531_3, c531_3, e531, hx531_0, hx531_1, hx531_2, hx531_3, hl531_3, hi531_3⟩ := at_T65 (Kd.S_reads' HO_3.out).2.2 t516 p531 q531
   obtain rfl : ad528 = ad531 := (by injection e531)
   obtain ⟨ce531, hce531, hMe531, hcc531⟩ := Kd.S_get HO_3.out z65 t516 p531 dq121
   obtain ⟨ve531_3, rfl, ge531_3⟩ := k65_openM hMe531
   have hv531_3 := hcc531 3 _ rfl
   rw [add_field _ _ 3 dq23] at hv531_3
   replace hv531_3 := Option.some.inj (hv531_3.symm.trans hx531_3)
   rw [hv531_3] at ge531_3
   have HL531_3 := Aside0.mk (show Kd.R k67 67 _ _ _ _ ((rd_T65 t515 t516).f3) from ge531_3)
   clear hv531_3 ge531_3
   clear hcc531 hce531
   have HR531_3 := Aside0.mk hi531_3
   have HC531_3 := Aside0.mk hl531_3
   clear hi531_3 hl531_3
   replace p531 := eq_true p531
   replace q531 := eq_true q531
   have ea_ := Option.some.inj (hx528_3.symm.trans hx531_3)
   injection ea_ with ea_ en_ ec_
   subst ea_
   subst ec_
   clear en_
   have p532 : 0 ≤ (x13_2 : Int) := of_decide_eq_true dq18
   have q532 : x13_2 < (((rd_T65 t515 t516).f3).length : Int) := of_decide_eq_true dq18
   obtain ⟨ad532, e532, hx532_0, hx532_1⟩ := at_T67 dq122 x13_2 p532 q532
   cases e532
   replace p532 := eq_true p532
   replace q532 := eq_true q532
   go_wp2_with (first | (go_at_call 36; (with_reducible refine (impl_White.calls ((rd_T67 ((rd_T65 t515 t516).f3) x13_2).f1) 2 t533 _ A37.out).mono ?_); rintro e w39 ⟨rfl, hb⟩; have n0_ := Aside0.mk (Kd.S_below dq102 hb); have n1_ := Aside0.mk (Kd.R_below dq126 hb); have n2_ := Aside0.mk (Kd.R_below dq125 hb); have n3_ := Aside0.mk (Kd.R_below dq124 hb); have n4_ := Aside0.mk (Kd.C_below dq123 hb); have n5_ := Aside0.mk (Kd.C_below dq120 hb); have n6_ := Aside0.mk (Kd.C_below dq122 hb); have n7_ := Aside0.mk (below_step dq25 hb); clear HO_3; clear HL528_3; clear HL529_3; clear HL531_3; clear HR528_3; clear HR529_3; clear HR531_3; clear HB; have HO_3 := n0_; have HL528_3 := n1_; have HL529_3 := n2_; have HL531_3 := n3_; have HR528_3 := n4_; have HR529_3 := n5_; have HR531_3 := n6_; have HB := n7_; clear n0_ n1_ n2_ n3_ n4_ n5_ n6_ n7_; (try clear hb); (try clear hb2); (try clear hk); (try clear hi)))
   repeat (go_quiet (first | (go_at_call 36; (with_reducible refine (impl_White.calls ((rd_T67 ((rd_T65 t515 t516).f3) x13_2).f1) 2 t533 _ A37.out).mono ?_); rintro e w39 ⟨rfl, hb⟩; have n0_ := Aside0.mk (Kd.S_below dq102 hb); have n1_ := Aside0.mk (Kd.R_below dq126 hb); have n2_ := Aside0.mk (Kd.R_below dq125 hb); have n3_ := Aside0.mk (Kd.R_below dq124 hb); have n4_ := Aside0.mk (Kd.C_below dq123 hb); have n5_ := Aside0.mk (Kd.C_below dq120 hb); have n6_ := Aside0.mk (Kd.C_below dq122 hb); have n7_ := Aside0.mk (below_step dq25 hb); clear HO_3; clear HL528_3; clear HL529_3; clear HL531_3; clear HR528_3; clear HR529_3; clear HR531_3; clear HB; have HO_3 := n0_; have HL528_3 := n1_; have HL529_3 := n2_; have HL531_3 := n3_; have HR528_3 := n4_; have HR529_3 := n5_; have HR531_3 := n6_; have HB := n7_; clear n0_ n1_ n2_ n3_ n4_ n5_ n6_ n7_; (try clear hb); (try clear hb2); (try clear hk); (try clear hi))); try go_wp2_with (first | (go_at_call 36; (with_reducible refine (impl_White.calls ((rd_T67 ((rd_T65 t515 t516).f3) x13_2).f1) 2 t533 _ A37.out).mono ?_); rintro e w39 ⟨rfl, hb⟩; have n0_ := Aside0.mk (Kd.S_below dq102 hb); have n1_ := Aside0.mk (Kd.R_below dq126 hb); have n2_ := Aside0.mk (Kd.R_below dq125 hb); have n3_ := Aside0.mk (Kd.R_below dq124 hb); have n4_ := Aside0.mk (Kd.C_below dq123 hb); have n5_ := Aside0.mk (Kd.C_below dq120 hb); have n6_ := Aside0.mk (Kd.C_below dq122 hb); have n7_ := Aside0.mk (below_step dq25 hb); clear HO_3; clear HL528_3; clear HL529_3; clear HL531_3; clear HR528_3; clear HR529_3; clear HR531_3; clear HB; have HO_3 := n0_; have HL528_3 := n1_; have HL529_3 := n2_; have HL531_3 := n3_; have HR528_3 := n4_; have HR529_3 := n5_; have HR531_3 := n6_; have HB := n7_; clear n0_ n1_ n2_ n3_ n4_ n5_ n6_ n7_; (try clear hb); (try clear hb2); (try clear hk); (try clear hi))))
   go_roundg k2
   case measure => have := HJ6.out; have := HK2.out; omega
   case rel => exact ⟨(wrap64 (x12_2 + 1)), (wrap64 (x13_2 + 1)), dq17, dq17, H', ⟨by have := HJ6.out; have := HK2.out; omega⟩, ⟨dq102⟩, ⟨dq25⟩⟩

/-- THE ONE PURE STATEMENT of laws_FnFields: yours. -/
def laws_FnFields.Pure : Prop := ∀ (l0 : List Int), l0.length ≤ maxLen → l0.length * 1 ≤ 140737488351232 → (∀ x ∈ l0, (Lit.int .u8 x).wf = true) → ∃ k, laws_FnFields.f k l0 = some true
theorem laws_FnFields.walk (P : laws_FnFields.Pure) (a0 : Option Addr) (len0 cap0 : Nat) (z0 : List Int) (w : World) (hT : Gl w) (w0 : (a0 = none ∧ len0 = 0 ∧ cap0 = 0 ∧ z0 = []) ∨ ∃ x, a0 = some x ∧ len0 ≤ cap0 ∧ cap0 ≤ maxLen ∧ z0.length = cap0 ∧ (∀ i, i < z0.length → w.cell? (x.add i) = some (.int .u8 (z0.getD i 0))) ∧ ∀ n ∈ z0, (Lit.int .u8 n).wf = true) (y0 : len0 * 1 ≤ 140737488351232) :
  Calls Tryz.prog 6 #[.slice a0 len0 cap0] w fun e w' => e = .returned (.bool true) ∧ Below w.heap.size w w' := by
 obtain ⟨l0, rfl, hr0, hm0, hw0, hc0⟩ := ReadsInt.ofRowC w0
 obtain ⟨k, h⟩ := P l0 hm0 y0 hw0
 refine (laws_FnFields.calls k _ _ l0 true w hT (Kd.C_of_reads (d := (0 : Int)) (h1 := fun _ => rfl) hr0) hc0 h).mono ?_
 rintro e w' ⟨rfl, hd⟩
 exact ⟨rfl, hd⟩

end Go.Proofs.YtpmjpbaeecnpiaaGreatDoor.L

namespace Go.Proofs.YtpmjpbaeecnpiaaGreatDoor.Pure
open Go.RowKit Go.Proofs.YtpmjpbaeecnpiaaGreatDoor.L Go.Proofs.YtpmjpbaeecnpiaaGreatDoorW.PrintWords Go.Proofs.YtpmjpbaeecnpiaaGreatDoorW.PrintLast Go.Proofs.YtpmjpbaeecnpiaaGreatDoorW.PrintMore
set_option linter.unusedVariables false
set_option linter.unusedSimpArgs false

theorem ba_ext {a b : ByteArray} (h : a.data.toList = b.data.toList) : a = b := by
  cases a; cases b; simp only [ByteArray.mk.injEq]; exact Array.toList_inj.mp h
theorem ba_app (a b : ByteArray) : (a ++ b).data.toList = a.data.toList ++ b.data.toList := by
  rw [ByteArray.data_append, Array.toList_append]
theorem sz (a : ByteArray) : a.size = a.data.toList.length := (data_length a).symm
theorem w64 {n : Int} (h : -9223372036854775808 ≤ n) (h' : n ≤ 9223372036854775807) : wrap64 n = n := by unfold wrap64; omega
theorem bt_nat (s : ByteArray) (i : Nat) (h : i < s.data.toList.length) : bt s (i : Int) = ((s.data.toList[i]).toNat : Int) := by
  have h' : i < s.size := by rw [sz]; exact h
  unfold bt
  rw [dif_pos (by simpa using h')]
  simp only [Int.toNat_natCast]
  rfl
theorem first_bt (s : ByteArray) (b : UInt8) (l : List UInt8) (h : s.data.toList = b :: l) : bt s 0 = (b.toNat : Int) := by
  have := bt_nat s 0 (by rw [h]; simp)
  simp only [h, Int.ofNat_zero, List.getElem_cons_zero] at this
  simpa using this
def mkB (l : List UInt8) : ByteArray := ⟨l.toArray⟩
theorem mkB_list (l : List UInt8) : (mkB l).data.toList = l := by simp [mkB]
theorem mkB_of (s : ByteArray) : mkB s.data.toList = s := ba_ext (mkB_list _)
theorem byte_is (b : UInt8) (n : Nat) (hn : n < 256) : ((b.toNat : Int) = (n : Int)) ↔ b = UInt8.ofNat n := by
  constructor
  · intro h
    apply UInt8.toNat.inj
    rw [UInt8.toNat_ofNat']
    omega
  · intro h; subst h; rw [UInt8.toNat_ofNat']; omega
/-- The pieces of a row of bytes between strokes, the first one behind what was gathered. -/
def segs : List UInt8 → List UInt8 → List (List UInt8)
  | acc, [] => [acc]
  | acc, b :: t => if b = 47 then acc :: segs [] t else segs (acc ++ [b]) t
theorem segs_miss : ∀ (l acc : List UInt8), (∀ k : Nat, l[k]? ≠ some 47) → segs acc l = [acc ++ l]
  | [], acc, _ => by simp [segs]
  | b :: t, acc, h => by
    have hb : b ≠ 47 := fun e => h 0 (by simp [e])
    have ht : ∀ k : Nat, t[k]? ≠ some 47 := fun k => by simpa using h (k + 1)
    unfold segs
    rw [if_neg hb, segs_miss t (acc ++ [b]) ht]
    simp
theorem segs_hit : ∀ (i : Nat) (l acc : List UInt8), l[i]? = some 47 → (∀ k : Nat, k < i → l[k]? ≠ some 47) → segs acc l = (acc ++ l.take i) :: segs [] (l.drop (i + 1))
  | i, [], acc, h, _ => by simp at h
  | 0, b :: t, acc, h, _ => by
    have hb : b = 47 := by simpa using h
    rw [segs, if_pos hb]
    simp
  | i + 1, b :: t, acc, h, h2 => by
    have hb : b ≠ 47 := fun e => h2 0 (by omega) (by simp [e])
    have h' : t[i]? = some 47 := by simpa using h
    have h2' : ∀ k : Nat, k < i → t[k]? ≠ some 47 := fun k hk => by simpa using h2 (k + 1) (by omega)
    rw [segs, if_neg hb, segs_hit i t (acc ++ [b]) h' h2']
    simp
theorem slash_size : slash.size = 1 := rfl
theorem slash_index (s : ByteArray) : Lib.indexB s slash = Lib.indexByte s.data.toList 47 := by
  rw [Lib.one s slash slash_size]
  rfl
theorem names_of_aux : ∀ (n : Nat) (s : ByteArray), s.size ≤ n → (namesOf s).map (fun x => x.data.toList) = segs [] s.data.toList := by
  intro n
  induction n with
  | zero =>
    intro s hs
    rcases Lib.indexB_cases s slash with hix | ⟨i, _, hroom⟩
    · unfold namesOf
      rw [Lib.splitB_miss slash 0 _ s hix]
      rw [slash_index] at hix
      rw [segs_miss _ _ (Lib.indexByte_none hix)]
      simp
    · rw [slash_size] at hroom; omega
  | succ n ih =>
    intro s hs
    rcases Lib.indexB_cases s slash with hix | ⟨i, hix, hroom⟩
    · unfold namesOf
      rw [Lib.splitB_miss slash 0 _ s hix]
      rw [slash_index] at hix
      rw [segs_miss _ _ (Lib.indexByte_none hix)]
      simp
    · rw [slash_size] at hroom
      have e2 : (s.extract (i + 1) s.size).size = s.size - (i + 1) := by rw [ByteArray.size_extract]; omega
      have := ih (s.extract (i + 1) s.size) (by omega)
      unfold namesOf at this ⊢
      rw [Lib.countB_hit s slash i (by decide) hix, Nat.add_comm, Lib.splitB_hit slash 0 _ s i hix]
      rw [slash_size, List.map_cons, this]
      rw [slash_index] at hix
      obtain ⟨h1, h2⟩ := Lib.indexByte_some hix
      rw [segs_hit i _ [] h1 h2]
      congr 1
      · simp
      · rw [Lib.extract_to_end]
theorem names_of (s : ByteArray) : (namesOf s).map (fun x => x.data.toList) = segs [] s.data.toList := names_of_aux s.size s (Nat.le_refl _)
theorem names_len (s : ByteArray) : (namesOf s).length = Lib.countB s slash + 1 := Lib.splitB_all slash (by decide) 0 _ s rfl
theorem names_most (s : ByteArray) : (namesOf s).length ≤ s.size + 1 := by
  rw [names_len]
  have := Lib.countB_le slash (by decide) s.size s (Nat.le_refl _)
  omega

/-- A row of bytes that is a name. -/
def fstB (b : UInt8) : Bool := decide (97 ≤ b.toNat ∧ b.toNat ≤ 122) || decide (65 ≤ b.toNat ∧ b.toNat ≤ 90) || decide (b.toNat = 95)
def moreB (b : UInt8) : Bool := fstB b || decide (48 ≤ b.toNat ∧ b.toNat ≤ 57) || decide (b.toNat = 46) || decide (b.toNat = 45)
def nameB : List UInt8 → Bool
  | [] => false
  | b :: t => fstB b && t.all moreB && decide (t.length + 1 ≤ 40)
theorem u8_all {p : UInt8 → Prop} (h : ∀ n : Fin 256, p (UInt8.ofNat n.val)) (b : UInt8) : p b := by
  have := h ⟨b.toNat, b.toNat_lt⟩
  simpa using this
theorem first_f (b : UInt8) : spec_l1First.f (b.toNat : Int) = some (fstB b) := by
  revert b
  refine u8_all ?_
  decide +kernel
theorem more_f (b : UInt8) : spec_l1More.f (b.toNat : Int) = some (moreB b) := by
  revert b
  refine u8_all ?_
  decide +kernel
theorem fst_more (b : UInt8) (h : fstB b = true) : moreB b = true := by unfold moreB; rw [h]; rfl
theorem spec_name_l0 (s : ByteArray) (hs : s.data.toList.length ≤ 9223372036854775806) : ∀ (n i : Nat), i + n = s.data.toList.length →
    Ev (fun k => spec_NameOk.l0 k s (i : Int)) ((s.data.toList.drop i).all moreB) := by
  intro n
  induction n with
  | zero =>
    intro i hi
    refine Ev.step (f := fun _ => some true) (fun k => ?_) ?_
    · unfold spec_NameOk.l0
      rw [if_neg (by rw [sz]; omega)]
    · rw [List.drop_of_length_le (by omega)]; exact Ev.now _
  | succ n ih =>
    intro i hi
    have hlt : i < s.data.toList.length := by omega
    have e : spec_l1More.f (bt s (i : Int)) = some (moreB (s.data.toList[i])) := by rw [bt_nat s i hlt]; exact more_f _
    have hd : s.data.toList.drop i = s.data.toList[i] :: s.data.toList.drop (i + 1) := List.drop_eq_getElem_cons hlt
    have w : wrap64 ((i : Int) + 1) = ((i + 1 : Nat) : Int) := by rw [w64] <;> omega
    by_cases c : moreB (s.data.toList[i]) = true
    · refine Ev.step (f := fun k => spec_NameOk.l0 k s ((i + 1 : Nat) : Int)) (fun k => ?_) ?_
      · conv => lhs; unfold spec_NameOk.l0
        rw [if_pos (by rw [sz]; omega), if_pos (by omega), e]
        simp only [Option.bind_some, if_pos c, w]
      · rw [hd, List.all_cons, c, Bool.true_and]; exact ih (i + 1) (by omega)
    · refine Ev.step (f := fun _ => some false) (fun k => ?_) ?_
      · conv => lhs; unfold spec_NameOk.l0
        rw [if_pos (by rw [sz]; omega), if_pos (by omega), e]
        simp only [Option.bind_some, if_neg c]
      · rw [hd, List.all_cons]
        rw [Bool.not_eq_true] at c
        rw [c, Bool.false_and]; exact Ev.now _
theorem spec_name (s : ByteArray) : Ev (fun k => spec_NameOk.f k s) (nameB s.data.toList) := by
  cases hl : s.data.toList with
  | nil =>
    refine Ev.congr (f := fun k => spec_NameOk.j0 k s true) (fun k => ?_) ?_
    · unfold spec_NameOk.f
      rw [if_pos (by rw [sz, hl]; decide)]
    · refine Ev.step (f := fun _ => some false) (fun k => ?_) (Ev.now _)
      rfl
  | cons b t =>
    have hz : (s.size : Int) = (t.length : Int) + 1 := by rw [sz, hl]; simp
    by_cases c : t.length + 1 ≤ 40
    · refine Ev.congr (f := fun k => spec_NameOk.j0 k s (!fstB b)) (fun k => ?_) ?_
      · unfold spec_NameOk.f
        rw [if_neg (by omega), if_neg (by omega), if_pos (by omega), first_bt s b t hl, first_f]
        rfl
      · by_cases d : fstB b = true
        · refine Ev.step (f := fun k => spec_NameOk.l0 k s ((1 : Nat) : Int)) (fun k => ?_) ?_
          · rw [d]; rfl
          · have := spec_name_l0 s (by rw [hl]; simp; omega) t.length 1 (by rw [hl]; simp; omega)
            rw [hl] at this
            have e : nameB (b :: t) = ((b :: t).drop 1).all moreB := by simp [nameB, d, c]
            rw [e]; exact this
        · rw [Bool.not_eq_true] at d
          have e : nameB (b :: t) = false := by simp [nameB, d]
          rw [e]
          refine Ev.step (f := fun _ => some false) (fun k => ?_) (Ev.now _)
          rw [d]; rfl
    · have e : nameB (b :: t) = false := by simp [nameB, c]
      rw [e]
      refine Ev.congr (f := fun k => spec_NameOk.j0 k s true) (fun k => ?_) ?_
      · unfold spec_NameOk.f
        rw [if_neg (by omega), if_pos (by omega)]
      · refine Ev.step (f := fun _ => some false) (fun k => ?_) (Ev.now _)
        rfl

def lenB (n : Nat) : Bool := decide (1 ≤ n) && decide (n ≤ 40)
theorem in_len (n : Nat) : impl_in.f (n : Int) 1 40 = some (lenB n) := by
  unfold impl_in.f lenB
  by_cases h : 1 ≤ n
  · rw [if_pos (by omega)]; simp [h]; omega
  · rw [if_neg (by omega)]; simp [h]
theorem fst_iff (b : UInt8) : fstB b = true ↔ ((97 ≤ (b.toNat : Int) ∧ (b.toNat : Int) ≤ 122) ∨ (65 ≤ (b.toNat : Int) ∧ (b.toNat : Int) ≤ 90) ∨ (b.toNat : Int) = 95) := by
  unfold fstB
  simp only [Bool.or_eq_true, decide_eq_true_eq]
  omega
theorem more_iff (b : UInt8) : moreB b = true ↔ (((97 ≤ (b.toNat : Int) ∧ (b.toNat : Int) ≤ 122) ∨ (65 ≤ (b.toNat : Int) ∧ (b.toNat : Int) ≤ 90) ∨ (b.toNat : Int) = 95) ∨ (48 ≤ (b.toNat : Int) ∧ (b.toNat : Int) ≤ 57) ∨ (b.toNat : Int) = 46 ∨ (b.toNat : Int) = 45) := by
  unfold moreB
  simp only [Bool.or_eq_true, decide_eq_true_eq, fst_iff]
  omega
theorem impl_name_l0 (s : ByteArray) (hs : s.data.toList.length ≤ 9223372036854775806) : ∀ (n i : Nat), 1 ≤ i → i + n = s.data.toList.length →
    Ev (fun k => impl_NameOk.l0 k s (s.size : Int) (i : Int)) ((s.data.toList.drop i).all moreB && lenB s.data.toList.length) := by
  intro n
  induction n with
  | zero =>
    intro i h1 hi
    refine Ev.step (f := fun _ => some (lenB s.data.toList.length)) (fun k => ?_) ?_
    · unfold impl_NameOk.l0
      rw [if_neg (by rw [sz]; omega), sz, in_len]
      rfl
    · rw [List.drop_of_length_le (by omega)]; exact Ev.now _
  | succ n ih =>
    intro i h1 hi
    have hlt : i < s.data.toList.length := by omega
    have hd : s.data.toList.drop i = s.data.toList[i] :: s.data.toList.drop (i + 1) := List.drop_eq_getElem_cons hlt
    have w : wrap64 ((i : Int) + 1) = ((i + 1 : Nat) : Int) := by rw [w64] <;> omega
    have hm := more_iff (s.data.toList[i])
    by_cases c : moreB (s.data.toList[i]) = true
    · have hv := hm.1 c
      refine Ev.step (f := fun k => impl_NameOk.l0 k s (s.size : Int) ((i + 1 : Nat) : Int)) (fun k => ?_) ?_
      · conv => lhs; unfold impl_NameOk.l0
        rw [if_pos (by rw [sz]; omega), if_pos (by omega), if_pos (by rw [sz]; omega), bt_nat s i hlt, w]
        generalize impl_NameOk.l0 k s (s.size : Int) ((i + 1 : Nat) : Int) = X
        generalize ((s.data.toList[i]).toNat : Int) = v at hv
        clear hm ih c hd w hs hi hlt
        have hi0 : ¬ (i : Int) = 0 := by omega
        simp only [if_neg hi0]
        clear hi0 h1
        repeat' split
        all_goals first | rfl | (exfalso; omega)
      · rw [hd, List.all_cons, c, Bool.true_and]; exact ih (i + 1) (by omega) (by omega)
    · have hv := mt hm.2 c
      refine Ev.step (f := fun _ => some false) (fun k => ?_) ?_
      · conv => lhs; unfold impl_NameOk.l0
        rw [if_pos (by rw [sz]; omega), if_pos (by omega), if_pos (by rw [sz]; omega), bt_nat s i hlt, w]
        generalize impl_NameOk.l0 k s (s.size : Int) ((i + 1 : Nat) : Int) = X
        generalize ((s.data.toList[i]).toNat : Int) = v at hv
        clear hm ih c hd w hs hi hlt
        have hi0 : ¬ (i : Int) = 0 := by omega
        simp only [if_neg hi0]
        clear hi0 h1
        repeat' split
        all_goals first | rfl | (exfalso; omega)
      · rw [hd, List.all_cons]
        rw [Bool.not_eq_true] at c
        rw [c, Bool.false_and, Bool.false_and]; exact Ev.now _
theorem impl_name (s : ByteArray) (hs : s.data.toList.length ≤ 9223372036854775806) : Ev (fun k => impl_NameOk.f k s) (nameB s.data.toList) := by
  cases hl : s.data.toList with
  | nil =>
    unfold impl_NameOk.f
    refine Ev.step (f := fun _ => some false) (fun k => ?_) (Ev.now _)
    unfold impl_NameOk.l0
    have hz : s.size = 0 := by rw [sz, hl]; rfl
    rw [if_neg (by omega), hz]
    rfl
  | cons b t =>
    have hlt : 0 < s.data.toList.length := by rw [hl]; simp
    have hlen : s.data.toList.length = t.length + 1 := by rw [hl]; simp
    have w : wrap64 ((0 : Int) + 1) = ((1 : Nat) : Int) := by rw [w64 (by omega) (by omega)]; rfl
    have hm := fst_iff b
    have eb : bt s 0 = (b.toNat : Int) := first_bt s b t hl
    unfold impl_NameOk.f
    by_cases c : fstB b = true
    · have hv := hm.1 c
      refine Ev.step (f := fun k => impl_NameOk.l0 k s (s.size : Int) ((1 : Nat) : Int)) (fun k => ?_) ?_
      · conv => lhs; unfold impl_NameOk.l0
        rw [if_pos (by rw [sz]; omega), if_pos (by omega), if_pos (by rw [sz]; omega), eb, w]
        generalize impl_NameOk.l0 k s (s.size : Int) ((1 : Nat) : Int) = X
        generalize (b.toNat : Int) = v at hv
        clear hm c eb w hs hlt hlen hl
        simp only [if_true]
        repeat' split
        all_goals first | rfl | (exfalso; omega)
      · have := impl_name_l0 s hs t.length 1 (by omega) (by omega)
        rw [hl] at this
        have e : nameB (b :: t) = (((b :: t).drop 1).all moreB && lenB (b :: t).length) := by
          simp [nameB, lenB, c]
        rw [e]; exact this
    · have hv := mt hm.2 c
      refine Ev.step (f := fun _ => some false) (fun k => ?_) ?_
      · conv => lhs; unfold impl_NameOk.l0
        rw [if_pos (by rw [sz]; omega), if_pos (by omega), if_pos (by rw [sz]; omega), eb, w]
        generalize impl_NameOk.l0 k s (s.size : Int) ((1 : Nat) : Int) = X
        generalize (b.toNat : Int) = v at hv
        clear hm c eb w hs hlt hlen hl
        simp only [if_true]
        repeat' split
        all_goals first | rfl | (exfalso; omega)
      · rw [Bool.not_eq_true] at c
        have e : nameB (b :: t) = false := by simp [nameB, c]
        rw [e]; exact Ev.now _
theorem segs_len : ∀ (l acc : List UInt8) (x : List UInt8), x ∈ segs acc l → x.length ≤ acc.length + l.length
  | [], acc, x, h => by simp [segs] at h; subst h; simp
  | b :: t, acc, x, h => by
    rw [segs] at h
    by_cases c : b = 47
    · rw [if_pos c] at h
      rcases List.mem_cons.1 h with h | h
      · subst h; simp
      · have := segs_len t [] x h; simp at this ⊢; omega
    · rw [if_neg c] at h
      have := segs_len t _ x h
      simp at this ⊢; omega
def stepsV (deep : Bool) (out : List ByteArray) (L : List (List UInt8)) : List ByteArray × Bool × Bool :=
  if L.all nameB = true then (out ++ L.map mkB, deep, decide (((out ++ L.map mkB).length : Int) ≤ 6)) else ([], false, false)
theorem stepsV_cons (deep : Bool) (out : List ByteArray) (x : ByteArray) (L : List (List UInt8)) (h : nameB x.data.toList = true) : stepsV deep out (x.data.toList :: L) = stepsV deep (out ++ [x]) L := by
  unfold stepsV
  rw [List.all_cons, h, Bool.true_and, List.map_cons, mkB_of]
  simp only [List.append_assoc, List.singleton_append]
theorem stepsV_bad (deep : Bool) (out : List ByteArray) (x : List UInt8) (L : List (List UInt8)) (h : nameB x = false) : stepsV deep out (x :: L) = ([], false, false) := by
  unfold stepsV
  rw [List.all_cons, h, Bool.false_and, if_neg (by decide)]
theorem ex1 (s : ByteArray) (i : Nat) (h : i < s.data.toList.length) : (s.extract i (i + 1)).data.toList = [s.data.toList[i]] := by
  rw [ByteArray.data_extract, Array.toList_extract]
  simp only [List.extract_eq_take_drop, Nat.add_sub_cancel_left]
  rw [List.drop_eq_getElem_cons h]
  rfl
theorem w47 (b : UInt8) : ((b.toNat : Int) != 47) = !(decide (b = 47)) := by
  have := byte_is b 47 (by decide)
  by_cases c : b = 47
  · subst c; rfl
  · have h2 : ¬ (b.toNat : Int) = 47 := fun h => c (this.1 h)
    simp [c, h2]
theorem spec_steps_l0 (p : ByteArray) (hp : p.data.toList.length ≤ 1048576) (deep : Bool) : ∀ (n i : Nat) (out : List ByteArray) (x : ByteArray), i + n = p.data.toList.length → out.length ≤ i → x.data.toList.length ≤ i →
    Ev (fun k => spec_l11Steps.l0 k p deep out x (i : Int)) (stepsV deep out (segs x.data.toList (p.data.toList.drop i))) := by
  have hend : ∀ (i : Nat) (out : List ByteArray) (x : ByteArray), p.data.toList.length < i → Ev (fun k => spec_l11Steps.l0 k p deep out x (i : Int)) (out, deep, decide ((out.length : Int) ≤ 6)) := by
    intro i out x hi
    refine Ev.step (f := fun _ => some (out, deep, decide ((out.length : Int) ≤ 6))) (fun k => ?_) (Ev.now _)
    unfold spec_l11Steps.l0
    rw [if_neg (by rw [sz]; omega)]
  intro n
  induction n with
  | zero =>
    intro i out x hi ho hx
    rw [List.drop_of_length_le (by omega), segs]
    refine Ev.step (f := fun k => spec_l11Steps.j3 k p deep out x (i : Int) false) (fun k => ?_) ?_
    · conv => lhs; unfold spec_l11Steps.l0
      rw [if_pos (by rw [sz]; omega), if_neg (by rw [sz]; omega)]
    · refine Ev.step (f := fun k => (spec_NameOk.f k x).bind fun t108 => (if t108 = true then (spec_l11Steps.l0 k p deep (out ++ [x]) (⟨#[]⟩ : ByteArray) ((i + 1 : Nat) : Int)) else (some (([] : List ByteArray), false, false)))) (fun k => ?_) ?_
      · have w : wrap64 ((i : Int) + 1) = ((i + 1 : Nat) : Int) := by rw [w64] <;> omega
        conv => lhs; unfold spec_l11Steps.j3
        rw [if_neg (by decide), w]
        simp only [if_pos (show out.length < 8796093022208 by omega)]
      · refine Ev.bind (spec_name x) ?_
        by_cases c : nameB x.data.toList = true
        · rw [stepsV_cons _ _ _ _ c]
          simp only [c, if_true]
          have := hend (i + 1) (out ++ [x]) ⟨#[]⟩ (by omega)
          simpa [stepsV] using this
        · rw [Bool.not_eq_true] at c
          rw [stepsV_bad _ _ _ _ c]
          simp only [c, Bool.false_eq_true, if_false]
          exact Ev.now _
  | succ n ih =>
    intro i out x hi ho hx
    have hlt : i < p.data.toList.length := by omega
    have hd : p.data.toList.drop i = p.data.toList[i] :: p.data.toList.drop (i + 1) := List.drop_eq_getElem_cons hlt
    have w : wrap64 ((i : Int) + 1) = ((i + 1 : Nat) : Int) := by rw [w64] <;> omega
    refine Ev.step (f := fun k => spec_l11Steps.j3 k p deep out x (i : Int) (!(decide (p.data.toList[i] = 47)))) (fun k => ?_) ?_
    · conv => lhs; unfold spec_l11Steps.l0
      rw [if_pos (by rw [sz]; omega), if_pos (by rw [sz]; omega), if_pos (by omega), bt_nat p i hlt, w47]
    · rw [hd, segs]
      by_cases c : p.data.toList[i] = 47
      · rw [if_pos c]
        refine Ev.step (f := fun k => (spec_NameOk.f k x).bind fun t108 => (if t108 = true then (spec_l11Steps.l0 k p deep (out ++ [x]) (⟨#[]⟩ : ByteArray) ((i + 1 : Nat) : Int)) else (some (([] : List ByteArray), false, false)))) (fun k => ?_) ?_
        · conv => lhs; unfold spec_l11Steps.j3
          rw [if_neg (by rw [decide_eq_true c]; decide), w]
          simp only [if_pos (show out.length < 8796093022208 by omega)]
        · refine Ev.bind (spec_name x) ?_
          by_cases d : nameB x.data.toList = true
          · rw [stepsV_cons _ _ _ _ d]
            simp only [d, if_true]
            exact ih (i + 1) (out ++ [x]) ⟨#[]⟩ (by omega) (by simp; omega) (by simp)
          · rw [Bool.not_eq_true] at d
            rw [stepsV_bad _ _ _ _ d]
            simp only [d, Bool.false_eq_true, if_false]
            exact Ev.now _
      · rw [if_neg c]
        have hx2 : (x ++ p.extract i (i + 1)).data.toList = x.data.toList ++ [p.data.toList[i]] := by rw [ba_app, ex1 p i hlt]
        have hz : (p.extract i (i + 1)).size = 1 := by rw [sz, ex1 p i hlt]; rfl
        refine Ev.step (f := fun k => spec_l11Steps.l0 k p deep out (x ++ p.extract i (i + 1)) ((i + 1 : Nat) : Int)) (fun k => ?_) ?_
        · conv => lhs; unfold spec_l11Steps.j3
          have e1 : ((i : Int)).toNat = i := by omega
          have e2 : (((i + 1 : Nat) : Int)).toNat = i + 1 := by omega
          rw [if_pos (by rw [decide_eq_false c]; rfl), if_pos (by omega), w, if_pos (show (i : Int) ≤ ((i + 1 : Nat) : Int) by omega), if_pos (show ((i + 1 : Nat) : Int) ≤ (p.size : Int) by rw [sz]; omega), e1, e2, if_pos (show x.size + (p.extract i (i + 1)).size ≤ 9223372036854775807 by rw [hz, sz x]; omega)]
        · have := ih (i + 1) out (x ++ p.extract i (i + 1)) (by omega) (by omega) (by rw [hx2, List.length_append, List.length_singleton]; omega)
          rw [hx2] at this
          exact this

/-- Whether two strokes stand ahead, and the rest. -/
def twoB : List UInt8 → Bool
  | a :: b :: _ => decide (a = 47) && decide (b = 47)
  | _ => false
theorem two_iff (l : List UInt8) : twoB l = (l.take 2 == [47, 47]) := by
  match l with
  | [] => rfl
  | [a] => simp [twoB]
  | a :: b :: t =>
    simp only [twoB, List.take_succ_cons, List.take_zero]
    by_cases h1 : a = 47 <;> by_cases h2 : b = 47 <;> simp [h1, h2]
theorem two_len (l : List UInt8) (h : twoB l = true) : 2 ≤ l.length := by
  match l, h with
  | a :: b :: t, _ => simp
theorem ex_take (s : ByteArray) (n : Nat) : (s.extract 0 n).data.toList = s.data.toList.take n := by
  rw [ByteArray.data_extract, Array.toList_extract]
  simp [List.extract_eq_take_drop]
def deepS (l : List UInt8) : Bool := decide (2 < l.length) && twoB l
def specSteps (l : List UInt8) : List ByteArray × Bool × Bool := stepsV (deepS l) [] (segs [] (if deepS l = true then l.drop 2 else l))
theorem spec_steps (s : ByteArray) (hs : s.data.toList.length ≤ 1048576) : Ev (fun k => spec_l11Steps.f k s) (specSteps s.data.toList) := by
  refine Ev.congr (f := fun k => spec_l11Steps.j0 k s (deepS s.data.toList)) (fun k => ?_) ?_
  · unfold spec_l11Steps.f deepS
    by_cases c : 2 < s.data.toList.length
    · rw [if_pos (by rw [sz]; omega), if_pos (by omega), if_pos (by rw [sz]; omega), Lib.toList_data, ex_take, two_iff, decide_eq_true c, Bool.true_and]
    · rw [if_neg (by rw [sz]; omega), decide_eq_false c, Bool.false_and]
  · cases hd : deepS s.data.toList with
    | true =>
      have h2 : 2 ≤ s.data.toList.length := by
        unfold deepS at hd
        simp only [Bool.and_eq_true, decide_eq_true_eq] at hd
        omega
      refine Ev.step (f := fun k => spec_l11Steps.j1 k (s.extract 2 s.size) true) (fun k => ?_) ?_
      · have e : spec_l11Steps.j0 (k + 1) s true = (if 2 ≤ (s.size : Int) then spec_l11Steps.j1 k (s.extract 2 s.size) true else none) := rfl
        rw [e, if_pos (by rw [sz]; omega)]
      · refine Ev.step (f := fun k => spec_l11Steps.l0 k (s.extract 2 s.size) true [] (⟨#[]⟩ : ByteArray) ((0 : Nat) : Int)) (fun k => ?_) ?_
        · rfl
        · have e : (s.extract 2 s.size).data.toList = s.data.toList.drop 2 := Lib.extract_to_end s 2
          have := spec_steps_l0 (s.extract 2 s.size) (by rw [e, List.length_drop]; omega) true _ 0 [] ⟨#[]⟩ (by rw [Nat.zero_add]) (by simp) (by simp)
          rw [e] at this
          unfold specSteps
          rw [hd]
          simpa using this
    | false =>
      refine Ev.step (f := fun k => spec_l11Steps.j1 k s false) (fun k => ?_) ?_
      · rfl
      · refine Ev.step (f := fun k => spec_l11Steps.l0 k s false [] (⟨#[]⟩ : ByteArray) ((0 : Nat) : Int)) (fun k => ?_) ?_
        · rfl
        · have := spec_steps_l0 s hs false _ 0 [] ⟨#[]⟩ (by rw [Nat.zero_add]) (by simp) (by simp)
          unfold specSteps
          rw [hd]
          simpa using this

/-- What the program's reader of paths answers. -/
def implSteps (s : ByteArray) : List ByteArray × Bool × Bool :=
  if 20000 < s.data.toList.length then ([], false, false)
  else if 6 < (segs [] (if twoB s.data.toList = true then s.data.toList.drop 2 else s.data.toList)).length then ([], false, false)
  else if (segs [] (if twoB s.data.toList = true then s.data.toList.drop 2 else s.data.toList)).all nameB = true then
    ((segs [] (if twoB s.data.toList = true then s.data.toList.drop 2 else s.data.toList)).map mkB, twoB s.data.toList, true)
  else ([], false, false)
theorem cut_two (s : ByteArray) : strings_CutPrefix.f s ⟨#[47, 47]⟩ = some (if twoB s.data.toList = true then s.extract 2 s.size else s, twoB s.data.toList) := by
  have e2 : (((⟨#[47, 47]⟩ : ByteArray).size : Nat) : Int) = 2 := rfl
  have e3 : (⟨#[47, 47]⟩ : ByteArray).toList = [47, 47] := by rw [Lib.toList_data]
  unfold strings_CutPrefix.f stringslite_CutPrefix.f stringslite_HasPrefix.f
  rw [e2, e3]
  by_cases c : 2 ≤ s.data.toList.length
  · rw [if_pos (by rw [sz]; omega), if_pos (by omega), if_pos (by rw [sz]; omega)]
    have e4 : (s.extract 0 ((2 : Int)).toNat).toList = s.data.toList.take 2 := by
      rw [Lib.toList_data]; exact ex_take s 2
    rw [e4, ← two_iff]
    simp only [Option.bind_some]
    cases ht : twoB s.data.toList with
    | true =>
      simp only [if_true]
      rw [if_pos (by omega), if_pos (by rw [sz]; omega)]
      rfl
    | false => rfl
  · have ht : twoB s.data.toList = false := by
      cases hh : twoB s.data.toList with
      | true => exact absurd (two_len _ hh) c
      | false => rfl
    rw [if_neg (by rw [sz]; omega), ht]
    rfl
theorem names_all (hb : Nat) (hbb : hb ≤ 9223372036854775806) : ∀ L : List ByteArray, (∀ x ∈ L, x.data.toList.length ≤ hb) → ∃ K, ∀ k, K ≤ k → ∀ x ∈ L, impl_NameOk.f k x = some (nameB x.data.toList)
  | [], _ => ⟨0, fun _ _ _ h => by cases h⟩
  | x :: L, h => by
    obtain ⟨K1, h1⟩ := impl_name x (Nat.le_trans (h x (by simp)) hbb)
    obtain ⟨K2, h2⟩ := names_all hb hbb L fun y hy => h y (by simp [hy])
    refine ⟨max K1 K2, fun k hk y hy => ?_⟩
    rcases List.mem_cons.1 hy with e | hy
    · subst e; exact h1 k (by omega)
    · exact h2 k (by omega) y hy
theorem any_same {α : Type} {f g : α → Bool} : ∀ L : List α, (∀ x ∈ L, f x = g x) → L.any f = L.any g
  | [], _ => rfl
  | x :: L, h => by
    rw [List.any_cons, List.any_cons, h x (by simp), any_same L fun y hy => h y (by simp [hy])]
theorem impl_steps (s : ByteArray) (hs : s.data.toList.length ≤ 1048576) : Ev (fun k => impl_stepsOf.f k s) (implSteps s) := by
  obtain ⟨t, ht⟩ : ∃ t, (if twoB s.data.toList = true then s.extract 2 s.size else s) = t := ⟨_, rfl⟩
  have htl : t.data.toList = (if twoB s.data.toList = true then s.data.toList.drop 2 else s.data.toList) := by
    rw [← ht]
    split
    · exact Lib.extract_to_end s 2
    · rfl
  have htn : t.data.toList.length ≤ 1048576 := by
    rw [htl]; split
    · rw [List.length_drop]; omega
    · exact hs
  have hno := names_of t
  have hlen : (namesOf t).length = (segs [] t.data.toList).length := by rw [← hno, List.length_map]
  have hmost := names_most t
  have hsmall : ∀ x ∈ namesOf t, x.data.toList.length ≤ 1048576 := by
    intro x hx
    have : x.data.toList ∈ segs [] t.data.toList := by rw [← hno]; exact List.mem_map_of_mem hx
    have := segs_len _ _ _ this
    simp at this ⊢
    simp at htn
    omega
  obtain ⟨K, hK⟩ := names_all 1048576 (by decide) (namesOf t) hsmall
  refine ⟨K, fun k hk => ?_⟩
  show impl_stepsOf.f k s = _
  unfold impl_stepsOf.f
  rw [cut_two, ht]
  simp only [Option.bind_some]
  rw [if_pos ⟨by rw [sz]; omega, names_len t, by rw [sz] at hmost; omega⟩]
  unfold implSteps
  rw [← htl, ← hlen]
  by_cases c1 : 20000 < s.data.toList.length
  · rw [if_pos (by rw [sz]; omega), if_pos c1]
  · rw [if_neg (by rw [sz]; omega), if_neg c1]
    by_cases c2 : 6 < (namesOf t).length
    · rw [if_pos (by omega), if_pos c2]
    · rw [if_neg (by omega), if_neg c2]
      have hall : (namesOf t).all (fun s => (impl_NameOk.f k s).isSome) = true := by
        rw [List.all_eq_true]; intro x hx; rw [hK k hk x hx]; rfl
      rw [if_pos hall]
      have hq : (namesOf t).any (fun s => !nameK k s) = !((segs [] t.data.toList).all nameB) := by
        rw [← hno, List.all_map, List.not_all_eq_any_not]
        refine any_same _ fun x hx => ?_
        unfold nameK
        rw [hK k hk x hx]
        rfl
      rw [hq]
      cases ha : (segs [] t.data.toList).all nameB with
      | true =>
        simp only [Bool.not_true, Bool.false_eq_true, if_false, if_true]
        congr 2
        rw [← hno, List.map_map]
        conv => lhs; rw [← List.map_id (namesOf t)]
        refine List.map_congr_left fun x _ => ?_
        exact (mkB_of x).symm
      | false => simp
theorem dec_low (s : ByteArray) (pos : Nat) (h : (s.data.toList.getD pos 0).toNat < 128) : Utf8.decode s pos = ((s.data.toList.getD pos 0).toNat, 1) := by
  rw [Lib.decode_N]
  unfold Lib.decodeN
  rw [if_pos h]
theorem dec_high (s : ByteArray) (pos : Nat) (hp : pos < s.data.toList.length) (h : ¬ (s.data.toList.getD pos 0).toNat < 128) :
    128 ≤ (Utf8.decode s pos).1 ∧ 1 ≤ (Utf8.decode s pos).2 ∧ pos + (Utf8.decode s pos).2 ≤ s.data.toList.length ∧ ∀ j, j < (Utf8.decode s pos).2 → 128 ≤ (s.data.toList.getD (pos + j) 0).toNat := by
  rw [Lib.decode_N]
  rcases Lib.decodeN_shape (s.data.toList.length - pos) (s.data.toList.getD pos 0).toNat (s.data.toList.getD (pos + 1) 0).toNat (s.data.toList.getD (pos + 2) 0).toNat (s.data.toList.getD (pos + 3) 0).toNat with ⟨a, _⟩ | ⟨a, b, c, d, e⟩ | ⟨a, b, c, c2, d, d2, e⟩ | ⟨a, b, c, c2, c3, d, d2, e⟩ | e
  · exact absurd a h
  · rw [e]
    refine ⟨d, by simp only; omega, by simp only; omega, fun j hj => ?_⟩
    simp only at hj
    match j, hj with
    | 0, _ => rw [Nat.add_zero]; omega
    | 1, _ => omega
  · rw [e]
    refine ⟨by simp only; omega, by simp only; omega, by simp only; omega, fun j hj => ?_⟩
    simp only at hj
    match j, hj with
    | 0, _ => rw [Nat.add_zero]; omega
    | 1, _ => omega
    | 2, _ => omega
  · rw [e]
    refine ⟨by simp only; omega, by simp only; omega, by simp only; omega, fun j hj => ?_⟩
    simp only at hj
    match j, hj with
    | 0, _ => rw [Nat.add_zero]; omega
    | 1, _ => omega
    | 2, _ => omega
    | 3, _ => omega
  · rw [e]
    refine ⟨by decide, by decide, by simp only; omega, fun j hj => ?_⟩
    simp only at hj
    match j, hj with
    | 0, _ => rw [Nat.add_zero]; omega
theorem blank_high {n : Nat} (h : 128 ≤ n) : blankN n = false := by
  have h1 : ¬ n = 32 := by omega
  have h2 : ¬ n = 9 := by omega
  have h3 : ¬ n = 10 := by omega
  have h4 : ¬ n = 13 := by omega
  simp [blankN, h1, h2, h3, h4]
/-- The spans, byte by byte. -/
def scan (l : List UInt8) : Nat → Nat → Option Nat → List (Nat × Nat) → List (Nat × Nat) × Option Nat
  | 0, _, st, acc => (acc, st)
  | f + 1, pos, st, acc =>
    if blankN (l.getD pos 0).toNat = true then
      (match st with
       | some a => scan l f (pos + 1) none (acc ++ [(a, pos)])
       | none => scan l f (pos + 1) none acc)
    else scan l f (pos + 1) (some (st.getD pos)) acc
theorem scan_s (l : List UInt8) (f pos : Nat) (st : Option Nat) (acc : List (Nat × Nat)) : scan l (f + 1) pos st acc = if blankN (l.getD pos 0).toNat = true then (match st with | some a => scan l f (pos + 1) none (acc ++ [(a, pos)]) | none => scan l f (pos + 1) none acc) else scan l f (pos + 1) (some (st.getD pos)) acc := rfl
theorem spans_s (s : ByteArray) (f pos : Nat) (st : Option Nat) (acc : List (Nat × Nat)) : Lib.spansFromP blankN s (f + 1) pos st acc = if pos < s.size then (if blankN (Utf8.decode s pos).1 = true then (match st with | some a => Lib.spansFromP blankN s f (pos + (Utf8.decode s pos).2) none (acc ++ [(a, pos)]) | none => Lib.spansFromP blankN s f (pos + (Utf8.decode s pos).2) none acc) else (match st with | some a => Lib.spansFromP blankN s f (pos + (Utf8.decode s pos).2) (some a) acc | none => Lib.spansFromP blankN s f (pos + (Utf8.decode s pos).2) (some pos) acc)) else (acc, st) := rfl
theorem scan_skip (l : List UInt8) : ∀ (w m pos : Nat) (st : Option Nat) (acc : List (Nat × Nat)), (∀ j, j < w + 1 → blankN (l.getD (pos + j) 0).toNat = false) → scan l (m + (w + 1)) pos st acc = scan l m (pos + (w + 1)) (some (st.getD pos)) acc
  | 0, m, pos, st, acc, h => by
    have h0 := h 0 (by omega)
    rw [Nat.add_zero] at h0
    rw [show m + (0 + 1) = m + 1 by omega, scan_s, if_neg (by rw [h0]; decide)]
  | w + 1, m, pos, st, acc, h => by
    have h0 := h 0 (by omega)
    rw [Nat.add_zero] at h0
    rw [show m + (w + 1 + 1) = (m + (w + 1)) + 1 by omega, scan_s, if_neg (by rw [h0]; decide), scan_skip l w m (pos + 1) _ acc (fun j hj => by
      have := h (j + 1) (by omega)
      rwa [show pos + (j + 1) = pos + 1 + j by omega] at this), show pos + 1 + (w + 1) = pos + (w + 1 + 1) by omega]
    rfl
theorem spans_scan (s : ByteArray) : ∀ (n pos f : Nat) (st : Option Nat) (acc : List (Nat × Nat)), pos + n = s.data.toList.length → n ≤ f → Lib.spansFromP blankN s f pos st acc = scan s.data.toList n pos st acc := by
  intro n
  induction n using Nat.strongRecOn with
  | _ n ih =>
  intro pos f st acc hp hf
  cases n with
  | zero => rw [Lib.spansFromP_end _ _ _ _ _ _ (by rw [sz]; omega), scan]
  | succ n =>
    obtain ⟨f, rfl⟩ : ∃ g, f = g + 1 := ⟨f - 1, by omega⟩
    rw [spans_s, if_pos (by rw [sz]; omega)]
    by_cases hlow : (s.data.toList.getD pos 0).toNat < 128
    · rw [dec_low s pos hlow, scan_s]
      simp only
      by_cases hb : blankN (s.data.toList.getD pos 0).toNat = true
      · rw [if_pos hb, if_pos hb]
        cases st with
        | some a => exact ih n (by omega) (pos + 1) f _ _ (by omega) (by omega)
        | none => exact ih n (by omega) (pos + 1) f _ _ (by omega) (by omega)
      · rw [if_neg hb, if_neg hb]
        cases st with
        | some a => exact ih n (by omega) (pos + 1) f _ _ (by omega) (by omega)
        | none => exact ih n (by omega) (pos + 1) f _ _ (by omega) (by omega)
    · obtain ⟨d1, d2, d3, d4⟩ := dec_high s pos (by omega) hlow
      rw [if_neg (by rw [blank_high d1]; decide)]
      generalize (Utf8.decode s pos).2 = w at d2 d3 d4
      obtain ⟨w, rfl⟩ : ∃ v, w = v + 1 := ⟨w - 1, by omega⟩
      have hsk := scan_skip s.data.toList w (n - w) pos st acc (fun j hj => blank_high (d4 j hj))
      rw [show n + 1 = n - w + (w + 1) by omega, hsk]
      cases st with
      | some a => exact ih (n - w) (by omega) (pos + (w + 1)) f _ _ (by omega) (by omega)
      | none => exact ih (n - w) (by omega) (pos + (w + 1)) f _ _ (by omega) (by omega)
def pieces (s : ByteArray) (L : List (Nat × Nat)) : List ByteArray := L.map fun x => s.extract x.1 x.2
theorem words_scan (s : ByteArray) : wordsV s = pieces s (Lib.closeSpans s (scan s.data.toList s.data.toList.length 0 none [])) := by
  unfold wordsV Lib.goFieldsP Lib.spansOfP pieces
  rw [spans_scan s s.data.toList.length 0 s.size none [] (by omega) (by rw [sz]; omega)]
theorem blank_spec (n : Nat) : spec_l7Blank.f (n : Int) = some (blankN n) := by
  unfold spec_l7Blank.f blankN
  by_cases h1 : n = 32
  · subst h1; rfl
  rw [if_neg (by omega)]
  by_cases h2 : n = 9
  · subst h2; rfl
  rw [if_neg (by omega)]
  by_cases h3 : n = 10
  · subst h3; rfl
  rw [if_neg (by omega)]
  by_cases h4 : n = 13
  · subst h4; rfl
  have h5 : ((n : Int) == 13) = false := beq_eq_false_iff_ne.2 (by omega)
  rw [h5]
  simp [h1, h2, h3, h4]
def curV (s : ByteArray) (st : Option Nat) (i : Nat) : ByteArray := match st with | some a => s.extract a i | none => ⟨#[]⟩
theorem ext_next (s : ByteArray) (a i : Nat) (ha : a ≤ i) (hi : i < s.data.toList.length) : s.extract a i ++ s.extract i (i + 1) = s.extract a (i + 1) := by
  apply ba_ext
  rw [ba_app, ex1 s i hi]
  rw [ByteArray.data_extract, Array.toList_extract, ByteArray.data_extract, Array.toList_extract]
  simp only [List.extract_eq_take_drop]
  rw [show i + 1 - a = (i - a) + 1 by omega, List.take_succ_eq_append_getElem (by rw [List.length_drop]; omega)]
  congr 1
  simp only [List.getElem_drop]
  congr 2
  omega
theorem curV_size (s : ByteArray) (st : Option Nat) (i : Nat) : (curV s st i).data.toList.length ≤ s.data.toList.length := by
  unfold curV
  cases st with
  | some a =>
    rw [ByteArray.data_extract, Array.toList_extract]
    simp only [List.extract_eq_take_drop, List.length_take, List.length_drop]
    omega
  | none => simp
theorem curV_ne (s : ByteArray) (a i : Nat) (ha : a < i) (hi : i ≤ s.data.toList.length) : s.extract a i ≠ ⟨#[]⟩ := by
  intro e
  have := congrArg (fun x : ByteArray => x.data.toList.length) e
  simp only at this
  rw [ByteArray.data_extract, Array.toList_extract] at this
  simp only [List.extract_eq_take_drop, List.length_take, List.length_drop] at this
  have h0 : ((⟨#[]⟩ : ByteArray).data.toList.length) = 0 := rfl
  rw [h0] at this
  omega
theorem toList_nil {x : ByteArray} : x.toList = ([] : List UInt8) ↔ x = ⟨#[]⟩ := by
  rw [Lib.toList_data]
  exact ⟨fun h => ba_ext (by rw [h]), fun h => by rw [h]⟩
theorem spec_words_l0 (s : ByteArray) (hs : s.data.toList.length ≤ 1048576) : ∀ (n i : Nat) (st : Option Nat) (acc : List (Nat × Nat)), i + n = s.data.toList.length → (∀ a, st = some a → a < i) → acc.length ≤ i →
    Ev (fun k => spec_l7Words.l0 k s (pieces s acc) (curV s st i) (i : Int)) (pieces s (Lib.closeSpans s (scan s.data.toList n i st acc))) := by
  intro n
  induction n with
  | zero =>
    intro i st acc hi hst hacc
    have hlen : (pieces s acc).length < 8796093022208 := by unfold pieces; rw [List.length_map]; omega
    have hend : ∀ L : List ByteArray, Ev (fun k => spec_l7Words.l0 k s L (⟨#[]⟩ : ByteArray) ((i + 1 : Nat) : Int)) L := fun L => by
      refine Ev.step (f := fun _ => some L) (fun k => ?_) (Ev.now _)
      conv => lhs; unfold spec_l7Words.l0
      rw [if_neg (by rw [sz]; omega)]
    have hw : wrap64 ((i : Int) + 1) = ((i + 1 : Nat) : Int) := by rw [w64] <;> omega
    rw [scan]
    unfold Lib.closeSpans
    cases st with
    | none =>
      refine Ev.step (f := fun k => spec_l7Words.j1 k s (pieces s acc) (curV s none i) (i : Int) false) (fun k => ?_) ?_
      · conv => lhs; unfold spec_l7Words.l0
        rw [if_pos (by rw [sz]; omega), if_neg (by rw [sz]; omega)]
      · refine Ev.step (fun k => ?_) (hend (pieces s acc))
        conv => lhs; unfold spec_l7Words.j1
        rw [if_neg (by decide), show curV s none i = ⟨#[]⟩ from rfl, if_pos (toList_nil.2 rfl), hw]
    | some a =>
      have ha := hst a rfl
      have hne := curV_ne s a i ha (by omega)
      have hp : pieces s acc ++ [s.extract a i] = pieces s (acc ++ [(a, s.size)]) := by
        unfold pieces
        rw [List.map_append, show i = s.size by rw [sz]; omega]
        rfl
      have he := hend (pieces s acc ++ [s.extract a i])
      refine Ev.step (f := fun k => spec_l7Words.j1 k s (pieces s acc) (curV s (some a) i) (i : Int) false) (fun k => ?_) ?_
      · conv => lhs; unfold spec_l7Words.l0
        rw [if_pos (by rw [sz]; omega), if_neg (by rw [sz]; omega)]
      · simp only
        rw [← hp]
        refine Ev.step (fun k => ?_) he
        conv => lhs; unfold spec_l7Words.j1
        rw [if_neg (by decide), show curV s (some a) i = s.extract a i from rfl, if_neg (fun h => hne (toList_nil.1 h)), if_pos hlen, hw]
  | succ n ih =>
    intro i st acc hi hst hacc
    have hlt : i < s.data.toList.length := by omega
    have hlen : (pieces s acc).length < 8796093022208 := by unfold pieces; rw [List.length_map]; omega
    have hw : wrap64 ((i : Int) + 1) = ((i + 1 : Nat) : Int) := by rw [w64] <;> omega
    have hgd : s.data.toList.getD i 0 = s.data.toList[i] := by rw [List.getD_eq_getElem?_getD, List.getElem?_eq_getElem hlt]; rfl
    have hbl := blank_spec (s.data.toList[i]).toNat
    rw [scan_s, hgd]
    refine Ev.step (f := fun k => spec_l7Words.j1 k s (pieces s acc) (curV s st i) (i : Int) (!(blankN (s.data.toList[i]).toNat))) (fun k => ?_) ?_
    · conv => lhs; unfold spec_l7Words.l0
      rw [if_pos (by rw [sz]; omega), if_pos (by rw [sz]; omega), if_pos (by omega), bt_nat s i hlt, hbl, Option.bind_some]
    · cases hb : blankN (s.data.toList[i]).toNat with
      | true =>
        simp only [if_true, Bool.not_true]
        cases st with
        | none =>
          refine Ev.step (fun k => ?_) (ih (i + 1) none acc (by omega) (fun a h => by cases h) (by omega))
          conv => lhs; unfold spec_l7Words.j1
          rw [if_neg (by decide), show curV s none i = ⟨#[]⟩ from rfl, if_pos (toList_nil.2 rfl), hw]
          rfl
        | some a =>
          have ha := hst a rfl
          have hne := curV_ne s a i ha (by omega)
          have hp : pieces s acc ++ [s.extract a i] = pieces s (acc ++ [(a, i)]) := by
            unfold pieces
            rw [List.map_append]
            rfl
          have he := ih (i + 1) none (acc ++ [(a, i)]) (by omega) (fun a h => by cases h) (by rw [List.length_append, List.length_cons, List.length_nil]; omega)
          rw [← hp] at he
          refine Ev.step (fun k => ?_) he
          conv => lhs; unfold spec_l7Words.j1
          rw [if_neg (by decide), show curV s (some a) i = s.extract a i from rfl, if_neg (fun h => hne (toList_nil.1 h)), if_pos hlen, hw]
          rfl
      | false =>
        simp only [Bool.false_eq_true, if_false, Bool.not_false]
        have hc : curV s st i ++ s.extract i (i + 1) = curV s (some (st.getD i)) (i + 1) := by
          cases st with
          | none =>
            show (⟨#[]⟩ : ByteArray) ++ s.extract i (i + 1) = s.extract i (i + 1)
            apply ba_ext
            rw [ba_app]
            rfl
          | some a => exact ext_next s a i (by have := hst a rfl; omega) hlt
        have hsz1 : (s.extract i (i + 1)).size = 1 := by rw [sz, ex1 s i hlt]; rfl
        have hcs := curV_size s st i
        have he := ih (i + 1) (some (st.getD i)) acc (by omega) (fun a h => by
          cases h
          cases st with
          | none => show i < i + 1; omega
          | some b => have := hst b rfl; show b < i + 1; omega) (by omega)
        refine Ev.step (fun k => ?_) he
        conv => lhs; unfold spec_l7Words.j1
        rw [if_pos rfl, if_pos (by omega), hw, if_pos (by omega), if_pos (by rw [sz]; omega), Int.toNat_natCast, Int.toNat_natCast, if_pos (by rw [hsz1, sz]; omega), hc]
theorem spec_words (s : ByteArray) (hs : s.data.toList.length ≤ 1048576) : Ev (fun k => spec_l7Words.f k s) (wordsV s) := by
  rw [words_scan]
  exact Ev.congr (fun k => rfl) (spec_words_l0 s hs s.data.toList.length 0 none [] (by omega) (fun a h => by cases h) (by simp))
theorem rdB {l : List ByteArray} {i : Nat} (h : i < l.length) : rdOf ByteArray.empty l (i : Int) = l[i] := by
  unfold rdOf
  simp [h]
theorem spec_join_l0 (xs : List ByteArray) (hn : xs.length ≤ 1048577) (hb : sumB xs ≤ 4398046511104) : ∀ (n i : Nat), i + n = xs.length → Ev (fun k => spec_l7Join.l0 k xs (mkB (joinV (xs.take i))) (i : Int)) (mkB (joinV xs)) := by
  intro n
  induction n with
  | zero =>
    intro i hi
    rw [List.take_of_length_le (by omega)]
    refine Ev.step (f := fun _ => some (mkB (joinV xs))) (fun k => ?_) (Ev.now _)
    conv => lhs; unfold spec_l7Join.l0
    rw [if_neg (by omega)]
  | succ n ih =>
    intro i hi
    have hlt : i < xs.length := by omega
    have hw : wrap64 ((i : Int) + 1) = ((i + 1 : Nat) : Int) := by rw [w64] <;> omega
    have h1 := joinV_len (xs.take i)
    have h2 := sumB_le xs (i + 1)
    have h3 := sumB_take hlt
    have h4 : (xs.take i).length ≤ xs.length := by rw [List.length_take]; omega
    have hsz : (mkB (joinV (xs.take i))).size = (joinV (xs.take i)).length := by rw [sz, mkB_list]
    refine Ev.step (fun k => ?_) (ih (i + 1) (by omega))
    conv => lhs; unfold spec_l7Join.l0
    cases i with
    | zero =>
      have e : mkB (joinV (xs.take 0)) ++ xs[0] = mkB (joinV (xs.take 1)) := by
        apply ba_ext
        rw [ba_app, mkB_list, mkB_list]
        cases xs with
        | nil => cases hlt
        | cons x r => simp [joinV]
      rw [if_pos (by omega), if_neg (by omega), if_pos (by omega), rdB hlt, if_pos (by omega), e, hw]
    | succ i =>
      have e : mkB (joinV (xs.take (i + 1))) ++ (⟨#[32]⟩ : ByteArray) ++ xs[i + 1] = mkB (joinV (xs.take (i + 2))) := by
        apply ba_ext
        rw [ba_app, ba_app, mkB_list, mkB_list, joinV_step hlt]
        simp
      have hs1 : (mkB (joinV (xs.take (i + 1))) ++ (⟨#[32]⟩ : ByteArray)).size = (joinV (xs.take (i + 1))).length + 1 := by
        rw [sz, ba_app, mkB_list, List.length_append]
        rfl
      rw [if_pos (by omega), if_pos (by omega), if_pos (by omega), if_pos (by omega), rdB hlt, if_pos (by rw [hs1]; omega), e, hw]
def whiteV (s : ByteArray) : ByteArray := mkB (joinV (wordsV s))
theorem spec_white (s : ByteArray) (hs : s.data.toList.length ≤ 1048576) : Ev (fun k => spec_White.f k s 2) (whiteV s) := by
  have h1 := words_count s
  have h2 := sumB_bound (wordsV s) (words_size s)
  have h3 : sumB (wordsV s) ≤ 4398046511104 := by
    have : (wordsV s).length * s.size ≤ 1048577 * 1048576 := Nat.mul_le_mul (by rw [sz] at h1; omega) (by rw [sz]; exact hs)
    omega
  have hj := spec_join_l0 (wordsV s) (by rw [sz] at h1; omega) h3 (wordsV s).length 0 (by omega)
  have : Ev (fun k => spec_l7Join.f k (wordsV s)) (whiteV s) := Ev.congr (fun k => rfl) hj
  refine Ev.congr (f := fun k => (spec_l7Words.f k s).bind fun t => (spec_l7Join.f k t)) (fun k => ?_) (Ev.bind (spec_words s hs) this)
  unfold spec_White.f
  rw [if_pos rfl]
theorem impl_white (s : ByteArray) (hs : s.data.toList.length ≤ 1048576) : impl_White.f s 2 = some (whiteV s) := by
  unfold impl_White.f
  rw [if_pos ⟨rfl, by rw [sz]; exact hs⟩]
  rfl
/-- The words of a text, behind what has been begun. -/
def wl : List UInt8 → List UInt8 → List (List UInt8)
  | cur, [] => if cur = [] then [] else [cur]
  | cur, b :: t => if blankN b.toNat = true then (if cur = [] then wl [] t else cur :: wl [] t) else wl (cur ++ [b]) t
def tl (x : ByteArray) : List UInt8 := x.data.toList
theorem scan_wl (s : ByteArray) : ∀ (n i : Nat) (st : Option Nat) (acc : List (Nat × Nat)), i + n = s.data.toList.length → (∀ a, st = some a → a < i) →
    (pieces s (Lib.closeSpans s (scan s.data.toList n i st acc))).map tl = (pieces s acc).map tl ++ wl (tl (curV s st i)) (s.data.toList.drop i) := by
  intro n
  induction n with
  | zero =>
    intro i st acc hi hst
    rw [List.drop_eq_nil_of_le (by omega), scan]
    unfold Lib.closeSpans
    cases st with
    | none =>
      show (pieces s acc).map tl = _
      rw [show tl (curV s none i) = [] from rfl, wl, if_pos rfl, List.append_nil]
    | some a =>
      have ha := hst a rfl
      have hne := curV_ne s a i ha (by omega)
      have hne2 : tl (s.extract a i) ≠ [] := fun e => hne (ba_ext e)
      show (pieces s (acc ++ [(a, s.size)])).map tl = _
      rw [show curV s (some a) i = s.extract a i from rfl, wl, if_neg hne2]
      unfold pieces
      rw [List.map_append, List.map_append, show s.size = i by rw [sz]; omega]
      rfl
  | succ n ih =>
    intro i st acc hi hst
    have hlt : i < s.data.toList.length := by omega
    have hgd : s.data.toList.getD i 0 = s.data.toList[i] := by rw [List.getD_eq_getElem?_getD, List.getElem?_eq_getElem hlt]; rfl
    rw [scan_s, hgd, List.drop_eq_getElem_cons hlt, wl]
    by_cases hb : blankN (s.data.toList[i]).toNat = true
    · rw [if_pos hb, if_pos hb]
      cases st with
      | none =>
        rw [show tl (curV s none i) = [] from rfl, if_pos rfl]
        exact ih (i + 1) none acc (by omega) (fun a h => by cases h)
      | some a =>
        have ha := hst a rfl
        have hne := curV_ne s a i ha (by omega)
        have hne2 : tl (s.extract a i) ≠ [] := fun e => hne (ba_ext e)
        rw [show curV s (some a) i = s.extract a i from rfl, if_neg hne2]
        have := ih (i + 1) none (acc ++ [(a, i)]) (by omega) (fun a h => by cases h)
        simp only
        rw [this]
        unfold pieces
        rw [List.map_append, List.map_append, List.append_assoc]
        rfl
    · rw [if_neg hb, if_neg hb]
      have hc : curV s st i ++ s.extract i (i + 1) = curV s (some (st.getD i)) (i + 1) := by
        cases st with
        | none =>
          show (⟨#[]⟩ : ByteArray) ++ s.extract i (i + 1) = s.extract i (i + 1)
          apply ba_ext
          rw [ba_app]
          rfl
        | some a => exact ext_next s a i (by have := hst a rfl; omega) hlt
      have he := ih (i + 1) (some (st.getD i)) acc (by omega) (fun a h => by
        cases h
        cases st with
        | none => show i < i + 1; omega
        | some b => have := hst b rfl; show b < i + 1; omega)
      rw [he, ← hc]
      congr 2
      unfold tl
      rw [ba_app, ex1 s i hlt]
theorem words_wl (s : ByteArray) : (wordsV s).map tl = wl [] s.data.toList := by
  rw [words_scan, scan_wl s s.data.toList.length 0 none [] (by omega) (fun a h => by cases h), List.drop_zero]
  rfl
theorem wl_good : ∀ (l cur : List UInt8), (∀ b ∈ cur, blankN b.toNat = false) → ∀ w ∈ wl cur l, w ≠ [] ∧ ∀ b ∈ w, blankN b.toNat = false
  | [], cur, h, w, hw => by
    rw [wl] at hw
    by_cases c : cur = []
    · rw [if_pos c] at hw; cases hw
    · rw [if_neg c, List.mem_singleton] at hw
      subst hw
      exact ⟨c, h⟩
  | b :: t, cur, h, w, hw => by
    rw [wl] at hw
    by_cases hb : blankN b.toNat = true
    · rw [if_pos hb] at hw
      by_cases c : cur = []
      · rw [if_pos c] at hw
        exact wl_good t [] (fun b hb => by cases hb) w hw
      · rw [if_neg c] at hw
        rcases List.mem_cons.1 hw with e | hw
        · subst e
          exact ⟨c, h⟩
        · exact wl_good t [] (fun b hb => by cases hb) w hw
    · rw [if_neg hb] at hw
      refine wl_good t (cur ++ [b]) (fun x hx => ?_) w hw
      rcases List.mem_append.1 hx with h1 | h1
      · exact h x h1
      · rw [List.mem_singleton] at h1
        rw [h1]
        exact Bool.eq_false_iff.2 hb
theorem wl_word : ∀ (w cur rest : List UInt8), (∀ b ∈ w, blankN b.toNat = false) → wl cur (w ++ rest) = wl (cur ++ w) rest
  | [], cur, rest, _ => by simp
  | b :: w, cur, rest, h => by
    rw [List.cons_append, wl, if_neg (by rw [h b (by simp)]; decide), wl_word w (cur ++ [b]) rest (fun x hx => h x (by simp [hx]))]
    simp
def joinL : List (List UInt8) → List UInt8
  | [] => []
  | x :: r => x ++ r.flatMap fun y => 32 :: y
theorem wl_tail : ∀ (r : List (List UInt8)) (x : List UInt8), x ≠ [] → (∀ w ∈ r, w ≠ [] ∧ ∀ b ∈ w, blankN b.toNat = false) → wl x (r.flatMap fun y => 32 :: y) = x :: r
  | [], x, hx, _ => by
    show wl x [] = [x]
    rw [wl, if_neg hx]
  | y :: r, x, hx, h => by
    obtain ⟨h1, h2⟩ := h y (by simp)
    rw [List.flatMap_cons, List.cons_append, wl, if_pos (by decide), if_neg hx, wl_word y [] _ h2, List.nil_append, wl_tail r y h1 (fun w hw => h w (by simp [hw]))]
theorem wl_join (ws : List (List UInt8)) (h : ∀ w ∈ ws, w ≠ [] ∧ ∀ b ∈ w, blankN b.toNat = false) : wl [] (joinL ws) = ws := by
  cases ws with
  | nil => rfl
  | cons x r =>
    obtain ⟨h1, h2⟩ := h x (by simp)
    show wl [] (x ++ _) = _
    rw [wl_word x [] _ h2, List.nil_append, wl_tail r x h1 (fun w hw => h w (by simp [hw]))]
theorem joinV_L : ∀ xs : List ByteArray, joinV xs = joinL (xs.map tl)
  | [] => rfl
  | x :: r => by
    show x.data.toList ++ _ = tl x ++ _
    rw [List.flatMap_map]
    rfl
theorem tl_inj : ∀ {a b : List ByteArray}, a.map tl = b.map tl → a = b
  | [], [], _ => rfl
  | [], _ :: _, h => by cases h
  | _ :: _, [], h => by cases h
  | x :: a, y :: b, h => by
    rw [List.map_cons, List.map_cons] at h
    injection h with h1 h2
    rw [ba_ext h1, tl_inj h2]
theorem words_white (s : ByteArray) : wordsV (whiteV s) = wordsV s := by
  apply tl_inj
  have hg : ∀ w ∈ wl [] s.data.toList, w ≠ [] ∧ ∀ b ∈ w, blankN b.toNat = false := wl_good s.data.toList [] (fun b hb => by cases hb)
  rw [words_wl (whiteV s), words_wl s]
  unfold whiteV
  rw [mkB_list, joinV_L, words_wl, wl_join _ hg]
theorem white_white (s : ByteArray) : whiteV (whiteV s) = whiteV s := by
  show mkB (joinV (wordsV (whiteV s))) = mkB (joinV (wordsV s))
  rw [words_white]
theorem joinL_le (l cur : List UInt8) : (joinL (wl cur l)).length ≤ cur.length + l.length := by
  induction l generalizing cur with
  | nil =>
    rw [wl]
    by_cases c : cur = []
    · rw [if_pos c]; simp [joinL]
    · rw [if_neg c]; simp [joinL]
  | cons b t ih =>
    rw [wl]
    have hj : ∀ ws : List (List UInt8), (ws.flatMap fun y => 32 :: y).length ≤ (joinL ws).length + 1 := by
      intro ws
      cases ws with
      | nil => simp
      | cons x r =>
        rw [List.flatMap_cons, show joinL (x :: r) = x ++ r.flatMap (fun y => 32 :: y) from rfl]
        simp only [List.length_append, List.length_cons]
        omega
    by_cases hb : blankN b.toNat = true
    · rw [if_pos hb]
      have h1 := ih []
      by_cases c : cur = []
      · rw [if_pos c, c]
        simp only [List.length_nil, List.length_cons] at h1 ⊢
        omega
      · rw [if_neg c]
        show (cur ++ _).length ≤ _
        have := hj (wl [] t)
        simp only [List.length_append, List.length_cons, List.length_nil] at h1 ⊢
        omega
    · rw [if_neg hb]
      have h1 := ih (cur ++ [b])
      simp only [List.length_append, List.length_cons, List.length_nil] at h1 ⊢
      omega
theorem white_size (s : ByteArray) : (whiteV s).data.toList.length ≤ s.data.toList.length := by
  unfold whiteV
  rw [mkB_list, joinV_L, words_wl]
  have := joinL_le s.data.toList []
  simpa using this
def B (s : ByteArray) (i : Nat) : Nat := (s.get! i).toNat
theorem B_lt (s : ByteArray) (i : Nat) : B s i < 256 := (s.get! i).toNat_lt
theorem bt_B (s : ByteArray) (i : Nat) (h : i < s.size) : bt s (i : Int) = (B s i : Int) := by
  have hl : i < s.data.toList.length := by rw [← sz]; exact h
  rw [bt_nat s i hl]
  have h2 : i < s.data.size := by simpa using hl
  have e : s.get! i = s.data[i] := by unfold ByteArray.get!; exact getElem!_pos s.data i h2
  unfold B
  rw [e]
  simp
theorem tm (b m : Nat) : Int.tmod (b : Int) (m : Int) = ((b % m : Nat) : Int) := (Int.ofNat_tmod b m).symm
def charB (x : Nat) : Bool := decide (x ≤ 55295) || (decide (57344 ≤ x) && decide (x ≤ 1114111))
theorem char_f (x : Nat) : spec_l1Char.f (x : Int) = some (charB x) := by
  unfold spec_l1Char.f spec_l1In.f charB
  by_cases h1 : x ≤ 55295
  · rw [if_pos (by omega)]
    have : decide ((x : Int) ≤ 55295) = true := decide_eq_true (by omega)
    rw [this]
    simp [h1]
  · rw [if_pos (by omega)]
    have : decide ((x : Int) ≤ 55295) = false := decide_eq_false (by omega)
    rw [this]
    simp only [Option.bind_some, Bool.false_eq_true, if_false]
    by_cases h2 : 57344 ≤ x
    · rw [if_pos (by omega)]
      have e : decide ((x : Int) ≤ 1114111) = decide (x ≤ 1114111) := by simp only [decide_eq_decide]; omega
      simp [h1, h2, e]
    · rw [if_neg (by omega)]
      simp [h1, h2]
def finV (x n low : Nat) : Int × Int := if x < low then (0, 0) else if charB x = true then ((x : Int), (n : Int)) else (0, 0)
theorem l0_end (s : ByteArray) (x n low : Nat) : Ev (fun k => spec_l1Rune.l0 k s (x : Int) (n : Int) (low : Int) (n : Int)) (finV x n low) := by
  refine Ev.step (f := fun _ => some (finV x n low)) (fun k => ?_) (Ev.now _)
  conv => lhs; unfold spec_l1Rune.l0
  rw [if_neg (by omega), char_f]
  unfold finV
  by_cases h : x < low
  · rw [if_pos (by omega), if_pos h]
  · rw [if_neg (by omega), if_neg h]
    simp only [Option.bind_some]
    cases charB x <;> rfl
theorem l0_go (s : ByteArray) (x n low i : Nat) (hi : i < n) (hs : i < s.size) (hn : n ≤ 4) (hx : x < 4194304) (hc : B s i / 64 = 2) (r : Int × Int)
    (h : Ev (fun k => spec_l1Rune.l0 k s ((64 * x + B s i % 64 : Nat) : Int) (n : Int) (low : Int) ((i + 1 : Nat) : Int)) r) : Ev (fun k => spec_l1Rune.l0 k s (x : Int) (n : Int) (low : Int) (i : Int)) r := by
  have hb := B_lt s i
  refine Ev.step (fun k => ?_) h
  conv => lhs; unfold spec_l1Rune.l0
  have e1 : wrap64 (64 * (x : Int)) = ((64 * x : Nat) : Int) := by rw [w64] <;> omega
  have e2 : wrap64 (Int.tmod (B s i : Int) 64) = ((B s i % 64 : Nat) : Int) := by
    have := tm (B s i) 64
    rw [show ((64 : Nat) : Int) = 64 from rfl] at this
    rw [this, w64] <;> omega
  have e3 : wrap64 (((64 * x : Nat) : Int) + ((B s i % 64 : Nat) : Int)) = ((64 * x + B s i % 64 : Nat) : Int) := by rw [w64] <;> omega
  have e4 : wrap64 ((i : Int) + 1) = ((i + 1 : Nat) : Int) := by rw [w64] <;> omega
  rw [if_pos (by omega), if_pos (by omega), if_pos (by omega), bt_B s i hs, if_neg (by omega), if_neg (by omega), e1, e2, e3, e4]
theorem l0_no (s : ByteArray) (x n low i : Nat) (hi : i < n) (hs : i < s.size) (hc : ¬ B s i / 64 = 2) : Ev (fun k => spec_l1Rune.l0 k s (x : Int) (n : Int) (low : Int) (i : Int)) (0, 0) := by
  have hb := B_lt s i
  refine Ev.step (f := fun _ => some (0, 0)) (fun k => ?_) (Ev.now _)
  conv => lhs; unfold spec_l1Rune.l0
  rw [if_pos (by omega), if_pos (by omega), if_pos (by omega), bt_B s i hs]
  by_cases h : B s i < 128
  · rw [if_pos (by omega)]
  · rw [if_neg (by omega), if_pos (by omega)]
/-- What the reference says of the first character: the model's decoding, 0 bytes where that fails. -/
def runeV (s : ByteArray) : Int × Int := if (Utf8.decode s 0).1 = 65533 ∧ (Utf8.decode s 0).2 = 1 then (0, 0) else (((Utf8.decode s 0).1 : Int), ((Utf8.decode s 0).2 : Int))
def runeN (n b0 b1 b2 b3 : Nat) : Int × Int := if (Lib.decodeN n b0 b1 b2 b3).1 = 65533 ∧ (Lib.decodeN n b0 b1 b2 b3).2 = 1 then (0, 0) else (((Lib.decodeN n b0 b1 b2 b3).1 : Int), ((Lib.decodeN n b0 b1 b2 b3).2 : Int))
theorem runeV_N (s : ByteArray) : runeV s = runeN s.size (B s 0) (B s 1) (B s 2) (B s 3) := by
  unfold runeV runeN B
  rw [Lib.decode_at s 0]
  simp only [Nat.sub_zero, Nat.zero_add]
theorem j2_few (s : ByteArray) (x n low : Nat) (h : s.size < n) : Ev (fun k => spec_l1Rune.j2 k s (x : Int) (n : Int) (low : Int)) (0, 0) := by
  refine Ev.step (f := fun _ => some (0, 0)) (fun k => ?_) (Ev.now _)
  have e : spec_l1Rune.j2 (k + 1) s (x : Int) (n : Int) (low : Int) = (if (s.size : Int) < (n : Int) then some (0, 0) else spec_l1Rune.l0 k s (x : Int) (n : Int) (low : Int) 1) := rfl
  rw [e, if_pos (by omega)]
theorem j2_go (s : ByteArray) (x n low : Nat) (h : n ≤ s.size) (r : Int × Int) (hr : Ev (fun k => spec_l1Rune.l0 k s (x : Int) (n : Int) (low : Int) ((1 : Nat) : Int)) r) : Ev (fun k => spec_l1Rune.j2 k s (x : Int) (n : Int) (low : Int)) r := by
  refine Ev.step (f := fun k => spec_l1Rune.l0 k s (x : Int) (n : Int) (low : Int) ((1 : Nat) : Int)) (fun k => ?_) hr
  have e : spec_l1Rune.j2 (k + 1) s (x : Int) (n : Int) (low : Int) = (if (s.size : Int) < (n : Int) then some (0, 0) else spec_l1Rune.l0 k s (x : Int) (n : Int) (low : Int) 1) := rfl
  rw [e, if_neg (by omega)]
  rfl
theorem bad_N {n b0 b1 b2 b3 : Nat} (h : Lib.decodeN n b0 b1 b2 b3 = (65533, 1)) : runeN n b0 b1 b2 b3 = (0, 0) := by
  unfold runeN; rw [h]; rfl
theorem two_rune (s : ByteArray) (h0 : B s 0 / 32 = 6) : Ev (fun k => spec_l1Rune.j2 k s ((B s 0 % 32 : Nat) : Int) ((2 : Nat) : Int) ((128 : Nat) : Int)) (runeN s.size (B s 0) (B s 1) (B s 2) (B s 3)) := by
  have hb := B_lt s 0
  by_cases hz : s.size < 2
  · rw [bad_N]
    · exact j2_few s _ 2 128 hz
    · unfold Lib.decodeN
      rw [if_neg (by omega), if_neg (by omega), if_neg (by omega), if_neg (by omega)]
  · refine j2_go s _ 2 128 (by omega) _ ?_
    by_cases c1 : B s 1 / 64 = 2
    · refine l0_go s _ 2 128 1 (by omega) (by omega) (by omega) (by omega) c1 _ ?_
      have e : runeN s.size (B s 0) (B s 1) (B s 2) (B s 3) = finV (64 * (B s 0 % 32) + B s 1 % 64) 2 128 := by
        unfold runeN Lib.decodeN finV charB
        rw [if_neg (show ¬ B s 0 < 128 by omega), if_pos (show B s 0 / 32 = 6 ∧ (1 < s.size ∧ B s 1 / 64 = 2) from ⟨h0, by omega, c1⟩)]
        by_cases c : B s 0 % 32 * 64 + B s 1 % 64 ≥ 128
        · rw [if_pos c, if_neg (show ¬ (64 * (B s 0 % 32) + B s 1 % 64) < 128 by omega)]
          rw [decide_eq_true (show 64 * (B s 0 % 32) + B s 1 % 64 ≤ 55295 by omega)]
          simp only [Bool.true_or, if_true]
          rw [if_neg (show ¬ (B s 0 % 32 * 64 + B s 1 % 64 = 65533 ∧ (2 : Nat) = 1) by omega)]
          congr 1
          omega
        · rw [if_neg c, if_pos (show (64 * (B s 0 % 32) + B s 1 % 64) < 128 by omega)]
          rfl
      rw [e]
      exact l0_end s _ 2 128
    · rw [bad_N]
      · exact l0_no s _ 2 128 1 (by omega) (by omega) c1
      · unfold Lib.decodeN
        rw [if_neg (by omega), if_neg (by omega), if_neg (by omega), if_neg (by omega)]
theorem three_rune (s : ByteArray) (h0 : B s 0 / 16 = 14) : Ev (fun k => spec_l1Rune.j2 k s ((B s 0 % 16 : Nat) : Int) ((3 : Nat) : Int) ((2048 : Nat) : Int)) (runeN s.size (B s 0) (B s 1) (B s 2) (B s 3)) := by
  have hb := B_lt s 0
  by_cases hz : s.size < 3
  · rw [bad_N]
    · exact j2_few s _ 3 2048 hz
    · unfold Lib.decodeN
      rw [if_neg (by omega), if_neg (by omega), if_neg (by omega), if_neg (by omega)]
  · refine j2_go s _ 3 2048 (by omega) _ ?_
    by_cases c1 : B s 1 / 64 = 2
    · refine l0_go s _ 3 2048 1 (by omega) (by omega) (by omega) (by omega) c1 _ ?_
      by_cases c2 : B s 2 / 64 = 2
      · refine l0_go s _ 3 2048 2 (by omega) (by omega) (by omega) (by omega) c2 _ ?_
        have e : runeN s.size (B s 0) (B s 1) (B s 2) (B s 3) = finV (64 * (64 * (B s 0 % 16) + B s 1 % 64) + B s 2 % 64) 3 2048 := by
          obtain ⟨y, hy⟩ : ∃ y, 64 * (64 * (B s 0 % 16) + B s 1 % 64) + B s 2 % 64 = y := ⟨_, rfl⟩
          have hy2 : B s 0 % 16 * 4096 + B s 1 % 64 * 64 + B s 2 % 64 = y := by omega
          unfold runeN Lib.decodeN
          rw [hy, hy2, if_neg (show ¬ B s 0 < 128 by omega), if_neg (show ¬ (B s 0 / 32 = 6 ∧ (1 < s.size ∧ B s 1 / 64 = 2)) by omega), if_pos (show B s 0 / 16 = 14 ∧ (1 < s.size ∧ B s 1 / 64 = 2) ∧ (2 < s.size ∧ B s 2 / 64 = 2) from ⟨h0, ⟨by omega, c1⟩, by omega, c2⟩)]
          clear hy hy2
          unfold finV charB
          by_cases d : y < 2048
          · rw [if_neg (show ¬ (y ≥ 2048 ∧ (y < 55296 ∨ (57344 ≤ y ∧ y ≤ 1114111))) by omega), if_pos d]; rfl
          · by_cases d2 : y < 55296 ∨ (57344 ≤ y ∧ y ≤ 1114111)
            · rw [if_pos (show y ≥ 2048 ∧ (y < 55296 ∨ (57344 ≤ y ∧ y ≤ 1114111)) from ⟨by omega, d2⟩), if_neg (show ¬ (((y, 3) : Nat × Nat).1 = 65533 ∧ ((y, 3) : Nat × Nat).2 = 1) from fun h => by cases h.2), if_neg d, if_pos (show (decide (y ≤ 55295) || (decide (57344 ≤ y) && decide (y ≤ 1114111))) = true by simp only [Bool.or_eq_true, Bool.and_eq_true, decide_eq_true_eq]; omega)]
            · rw [if_neg (show ¬ (y ≥ 2048 ∧ (y < 55296 ∨ (57344 ≤ y ∧ y ≤ 1114111))) by omega), if_neg d, if_neg (show ¬ ((decide (y ≤ 55295) || (decide (57344 ≤ y) && decide (y ≤ 1114111))) = true) by simp only [Bool.or_eq_true, Bool.and_eq_true, decide_eq_true_eq]; omega)]; rfl
        rw [e]
        exact l0_end s _ 3 2048
      · rw [bad_N]
        · exact l0_no s _ 3 2048 2 (by omega) (by omega) c2
        · unfold Lib.decodeN
          rw [if_neg (by omega), if_neg (by omega), if_neg (by omega), if_neg (by omega)]
    · rw [bad_N]
      · exact l0_no s _ 3 2048 1 (by omega) (by omega) c1
      · unfold Lib.decodeN
        rw [if_neg (by omega), if_neg (by omega), if_neg (by omega), if_neg (by omega)]
theorem four_rune (s : ByteArray) (h0 : B s 0 / 8 = 30) : Ev (fun k => spec_l1Rune.j2 k s ((B s 0 % 8 : Nat) : Int) ((4 : Nat) : Int) ((65536 : Nat) : Int)) (runeN s.size (B s 0) (B s 1) (B s 2) (B s 3)) := by
  have hb := B_lt s 0
  by_cases hz : s.size < 4
  · rw [bad_N]
    · exact j2_few s _ 4 65536 hz
    · unfold Lib.decodeN
      rw [if_neg (by omega), if_neg (by omega), if_neg (by omega), if_neg (by omega)]
  · refine j2_go s _ 4 65536 (by omega) _ ?_
    by_cases c1 : B s 1 / 64 = 2
    · refine l0_go s _ 4 65536 1 (by omega) (by omega) (by omega) (by omega) c1 _ ?_
      by_cases c2 : B s 2 / 64 = 2
      · refine l0_go s _ 4 65536 2 (by omega) (by omega) (by omega) (by omega) c2 _ ?_
        by_cases c3 : B s 3 / 64 = 2
        · refine l0_go s _ 4 65536 3 (by omega) (by omega) (by omega) (by omega) c3 _ ?_
          have e : runeN s.size (B s 0) (B s 1) (B s 2) (B s 3) = finV (64 * (64 * (64 * (B s 0 % 8) + B s 1 % 64) + B s 2 % 64) + B s 3 % 64) 4 65536 := by
            obtain ⟨y, hy⟩ : ∃ y, 64 * (64 * (64 * (B s 0 % 8) + B s 1 % 64) + B s 2 % 64) + B s 3 % 64 = y := ⟨_, rfl⟩
            have hy2 : B s 0 % 8 * 262144 + B s 1 % 64 * 4096 + B s 2 % 64 * 64 + B s 3 % 64 = y := by omega
            unfold runeN Lib.decodeN
            rw [hy, hy2, if_neg (show ¬ B s 0 < 128 by omega), if_neg (show ¬ (B s 0 / 32 = 6 ∧ (1 < s.size ∧ B s 1 / 64 = 2)) by omega), if_neg (show ¬ (B s 0 / 16 = 14 ∧ (1 < s.size ∧ B s 1 / 64 = 2) ∧ (2 < s.size ∧ B s 2 / 64 = 2)) by omega), if_pos (show B s 0 / 8 = 30 ∧ (1 < s.size ∧ B s 1 / 64 = 2) ∧ (2 < s.size ∧ B s 2 / 64 = 2) ∧ (3 < s.size ∧ B s 3 / 64 = 2) from ⟨h0, ⟨by omega, c1⟩, ⟨by omega, c2⟩, by omega, c3⟩)]
            clear hy hy2
            unfold finV charB
            by_cases d : y < 65536
            · rw [if_neg (show ¬ (y ≥ 65536 ∧ (y < 55296 ∨ (57344 ≤ y ∧ y ≤ 1114111))) by omega), if_pos d]; rfl
            · by_cases d2 : y < 55296 ∨ (57344 ≤ y ∧ y ≤ 1114111)
              · rw [if_pos (show y ≥ 65536 ∧ (y < 55296 ∨ (57344 ≤ y ∧ y ≤ 1114111)) from ⟨by omega, d2⟩), if_neg (show ¬ (((y, 4) : Nat × Nat).1 = 65533 ∧ ((y, 4) : Nat × Nat).2 = 1) from fun h => by cases h.2), if_neg d, if_pos (show (decide (y ≤ 55295) || (decide (57344 ≤ y) && decide (y ≤ 1114111))) = true by simp only [Bool.or_eq_true, Bool.and_eq_true, decide_eq_true_eq]; omega)]
              · rw [if_neg (show ¬ (y ≥ 65536 ∧ (y < 55296 ∨ (57344 ≤ y ∧ y ≤ 1114111))) by omega), if_neg d, if_neg (show ¬ ((decide (y ≤ 55295) || (decide (57344 ≤ y) && decide (y ≤ 1114111))) = true) by simp only [Bool.or_eq_true, Bool.and_eq_true, decide_eq_true_eq]; omega)]; rfl
          rw [e]
          exact l0_end s _ 4 65536
        · rw [bad_N]
          · exact l0_no s _ 4 65536 3 (by omega) (by omega) c3
          · unfold Lib.decodeN
            rw [if_neg (by omega), if_neg (by omega), if_neg (by omega), if_neg (by omega)]
      · rw [bad_N]
        · exact l0_no s _ 4 65536 2 (by omega) (by omega) c2
        · unfold Lib.decodeN
          rw [if_neg (by omega), if_neg (by omega), if_neg (by omega), if_neg (by omega)]
    · rw [bad_N]
      · exact l0_no s _ 4 65536 1 (by omega) (by omega) c1
      · unfold Lib.decodeN
        rw [if_neg (by omega), if_neg (by omega), if_neg (by omega), if_neg (by omega)]
theorem tmod_of (b m : Nat) : Int.tmod (b : Int) (m : Int) = ((b % m : Nat) : Int) := tm b m
theorem j0_true (k : Nat) (s : ByteArray) (x : Int) : spec_l1Rune.j0 (k + 1) s x true = spec_l1Rune.j2 k s (Int.tmod x 32) 2 128 := rfl
theorem j0_false (k : Nat) (s : ByteArray) (x : Int) : spec_l1Rune.j0 (k + 1) s x false = (if x ≥ 224 then (spec_l1Rune.j1 k s x (decide (x < 240))) else (spec_l1Rune.j1 k s x false)) := rfl
theorem j1_true (k : Nat) (s : ByteArray) (x : Int) : spec_l1Rune.j1 (k + 1) s x true = spec_l1Rune.j2 k s (Int.tmod x 16) 3 2048 := rfl
theorem j1_false (k : Nat) (s : ByteArray) (x : Int) : spec_l1Rune.j1 (k + 1) s x false = (if x ≥ 240 then (if x < 248 then (spec_l1Rune.j2 k s (Int.tmod x 8) 4 65536) else (some (0, 0))) else (some (0, 0))) := rfl
theorem rune_f (s : ByteArray) (hne : 0 < s.size) : Ev (fun k => spec_l1Rune.f k s) (runeV s) := by
  rw [runeV_N]
  have hb := B_lt s 0
  have hnil : ¬ s.toList = ([] : List UInt8) := by
    rw [Lib.toList_data]
    intro e
    rw [sz, e] at hne
    simp at hne
  have hw : wrap64 (bt s 0) = (B s 0 : Int) := by
    have := bt_B s 0 hne
    rw [show ((0 : Nat) : Int) = 0 from rfl] at this
    rw [this, w64] <;> omega
  by_cases a : B s 0 < 128
  · refine Ev.congr (f := fun _ => some ((B s 0 : Int), 1)) (fun k => ?_) ?_
    · unfold spec_l1Rune.f
      rw [if_neg hnil, if_pos (by omega), hw, if_pos (by omega)]
    · have : runeN s.size (B s 0) (B s 1) (B s 2) (B s 3) = ((B s 0 : Int), 1) := by
        unfold runeN Lib.decodeN
        rw [if_pos a, if_neg (show ¬ (B s 0 = 65533 ∧ (1 : Nat) = 1) by omega)]
        rfl
      rw [this]
      exact Ev.now _
  · have hf : ∀ k, spec_l1Rune.f k s = if (B s 0 : Int) ≥ 192 then (spec_l1Rune.j0 k s (B s 0 : Int) (decide ((B s 0 : Int) < 224))) else (spec_l1Rune.j0 k s (B s 0 : Int) false) := by
      intro k
      unfold spec_l1Rune.f
      rw [if_neg hnil, if_pos (by omega), hw, if_neg (by omega)]
    by_cases c2 : B s 0 / 32 = 6
    · refine Ev.congr (f := fun k => spec_l1Rune.j0 k s (B s 0 : Int) true) (fun k => ?_) ?_
      · rw [hf, if_pos (by omega), decide_eq_true (by omega)]
      · refine Ev.step (f := fun k => spec_l1Rune.j2 k s ((B s 0 % 32 : Nat) : Int) ((2 : Nat) : Int) ((128 : Nat) : Int)) (fun k => ?_) (two_rune s c2)
        rw [j0_true, ← tmod_of]
        rfl
    · have hj1 : ∀ r, Ev (fun k => if (B s 0 : Int) ≥ 224 then (spec_l1Rune.j1 k s (B s 0 : Int) (decide ((B s 0 : Int) < 240))) else (spec_l1Rune.j1 k s (B s 0 : Int) false)) r → Ev (fun k => spec_l1Rune.f k s) r := by
        intro r hr
        refine Ev.congr (f := fun k => spec_l1Rune.j0 k s (B s 0 : Int) false) (fun k => ?_) ?_
        · rw [hf]
          by_cases d : (B s 0 : Int) ≥ 192
          · rw [if_pos d, decide_eq_false (by omega)]
          · rw [if_neg d]
        · exact Ev.step (fun k => j0_false k s _) hr
      by_cases c3 : B s 0 / 16 = 14
      · refine hj1 _ ?_
        refine Ev.congr (f := fun k => spec_l1Rune.j1 k s (B s 0 : Int) true) (fun k => ?_) ?_
        · rw [if_pos (by omega), decide_eq_true (by omega)]
        · refine Ev.step (f := fun k => spec_l1Rune.j2 k s ((B s 0 % 16 : Nat) : Int) ((3 : Nat) : Int) ((2048 : Nat) : Int)) (fun k => ?_) (three_rune s c3)
          rw [j1_true, ← tmod_of]
          rfl
      · have hj1f : ∀ r, Ev (fun k => if (B s 0 : Int) ≥ 240 then (if (B s 0 : Int) < 248 then (spec_l1Rune.j2 k s (Int.tmod (B s 0 : Int) 8) 4 65536) else (some (0, 0))) else (some (0, 0))) r → Ev (fun k => spec_l1Rune.f k s) r := by
          intro r hr
          refine hj1 _ ?_
          refine Ev.congr (f := fun k => spec_l1Rune.j1 k s (B s 0 : Int) false) (fun k => ?_) ?_
          · by_cases d : (B s 0 : Int) ≥ 224
            · rw [if_pos d, decide_eq_false (by omega)]
            · rw [if_neg d]
          · exact Ev.step (fun k => j1_false k s _) hr
        refine hj1f _ ?_
        by_cases c4 : B s 0 / 8 = 30
        · refine Ev.congr (f := fun k => spec_l1Rune.j2 k s ((B s 0 % 8 : Nat) : Int) ((4 : Nat) : Int) ((65536 : Nat) : Int)) (fun k => ?_) (four_rune s c4)
          rw [if_pos (by omega), if_pos (by omega), ← tmod_of]
          rfl
        · rw [bad_N]
          · refine Ev.congr (f := fun _ => some (0, 0)) (fun k => ?_) (Ev.now _)
            by_cases d : (B s 0 : Int) ≥ 240
            · rw [if_pos d, if_neg (by omega)]
            · rw [if_neg d]
          · unfold Lib.decodeN
            rw [if_neg (by omega), if_neg (by omega), if_neg (by omega), if_neg (by omega)]
def runesV (s : ByteArray) : List Int × Bool := if 20000 < s.size then ([], false) else if Lib.validD s.data.toList = true then (runesOf s, true) else ([], false)
theorem impl_runes (s : ByteArray) (hs : s.size ≤ 9223372036854775807) : impl_Runes.f s = some (runesV s) := by
  unfold impl_Runes.f runesV
  rw [if_pos hs]
  split
  · rfl
  · split <;> rfl
theorem spec_runes_l0 (s : ByteArray) (hs : s.size ≤ 20000) : ∀ (fuel pos : Nat) (acc : List Int), s.size ≤ pos + fuel → pos ≤ s.size → acc.length ≤ pos →
    Ev (fun k => spec_Runes.l0 k (s.extract pos s.size) acc) (if Lib.validD (s.data.toList.drop pos) = true then (acc ++ runesFrom s fuel pos, true) else ([], false)) := by
  intro fuel
  have hend : ∀ (fuel pos : Nat) (acc : List Int), pos = s.size → Ev (fun k => spec_Runes.l0 k (s.extract pos s.size) acc) (if Lib.validD (s.data.toList.drop pos) = true then (acc ++ runesFrom s fuel pos, true) else ([], false)) := by
    intro fuel pos acc e
    have hd : s.data.toList.drop pos = [] := List.drop_of_length_le (by rw [← sz]; omega)
    rw [runesFrom_end s fuel pos (by omega), hd, Lib.validD_nil, if_pos rfl, List.append_nil]
    refine Ev.step (f := fun _ => some (acc, true)) (fun k => ?_) (Ev.now _)
    conv => lhs; unfold spec_Runes.l0
    rw [if_pos (by rw [Lib.toList_data, Lib.extract_to_end, hd])]
  induction fuel with
  | zero =>
    intro pos acc h1 h2 h3
    exact hend 0 pos acc (by omega)
  | succ f ih =>
    intro pos acc h1 h2 h3
    by_cases he : pos = s.size
    · exact hend (f + 1) pos acc he
    · obtain ⟨t, ht⟩ : ∃ t, s.extract pos s.size = t := ⟨_, rfl⟩
      have htl : t.data.toList = s.data.toList.drop pos := by rw [← ht]; exact Lib.extract_to_end s pos
      have htz : t.size = s.size - pos := by rw [sz t, htl, List.length_drop, ← sz]
      have hne : s.data.toList.drop pos ≠ [] := by
        intro e
        have := congrArg List.length e
        rw [List.length_drop, ← sz] at this
        simp at this
        omega
      have hdec : Utf8.decode t 0 = Utf8.decode s pos := by
        have e1 := Lib.decodeL_drop t 0
        have e2 := Lib.decodeL_drop s pos
        rw [List.drop_zero, htl] at e1
        rw [← e1, e2]
      have hdl := Lib.decodeL_drop s pos
      have hstep := Lib.validD_step (s.data.toList.drop pos) hne
      have hle := Lib.decodeL_le (s.data.toList.drop pos) hne
      rw [hdl] at hstep hle
      rw [List.length_drop, ← sz] at hle
      have hw := rune_width s pos (by omega)
      have hr := rune_f t (by omega)
      have hV : runeV t = if (Utf8.decode s pos).1 = 65533 ∧ (Utf8.decode s pos).2 = 1 then (0, 0) else (((Utf8.decode s pos).1 : Int), ((Utf8.decode s pos).2 : Int)) := by
        unfold runeV
        rw [hdec]
      have hnil : ¬ t.toList = ([] : List UInt8) := by rw [Lib.toList_data, htl]; exact hne
      rw [ht]
      have hf : ∀ k, spec_Runes.l0 (k + 1) t acc = (spec_l1Rune.f k t).bind fun bt111 => (if bt111.2 = 0 then (some (([] : List Int), false)) else (if acc.length < 17592186044416 then (if 0 ≤ bt111.2 then (if bt111.2 ≤ (t.size : Int) then (spec_Runes.l0 k (t.extract (bt111.2 : Int).toNat t.size) (acc ++ [bt111.1])) else (none)) else (none)) else (none))) := by
        intro k
        conv => lhs; unfold spec_Runes.l0
        rw [if_neg hnil]
      refine Ev.step hf (Ev.bind hr ?_)
      rw [hV, hstep]
      by_cases hb : (Utf8.decode s pos).1 = 65533 ∧ (Utf8.decode s pos).2 = 1
      · rw [if_pos hb, if_pos hb, if_neg (by decide)]
        simp only [if_true]
        exact Ev.now _
      · rw [if_neg hb, if_neg hb]
        have hx : t.extract (Utf8.decode s pos).2 t.size = s.extract (pos + (Utf8.decode s pos).2) s.size := by
          apply ba_ext
          rw [Lib.extract_to_end, htl, Lib.extract_to_end, List.drop_drop]
        have hih := ih (pos + (Utf8.decode s pos).2) (acc ++ [((Utf8.decode s pos).1 : Int)]) (by omega) (by omega) (by simp; omega)
        rw [List.drop_drop]
        have hrf : runesFrom s (f + 1) pos = ((Utf8.decode s pos).1 : Int) :: runesFrom s f (pos + (Utf8.decode s pos).2) := by
          simp [runesFrom, show pos < s.size by omega]
        rw [hrf, ← hx] at *
        simp only [if_neg (show ¬ ((Utf8.decode s pos).2 : Int) = 0 by omega), if_pos (show acc.length < 17592186044416 by omega), if_pos (show (0 : Int) ≤ ((Utf8.decode s pos).2 : Int) by omega), if_pos (show ((Utf8.decode s pos).2 : Int) ≤ (t.size : Int) by omega), Int.toNat_natCast]
        simpa using hih
theorem spec_runes (s : ByteArray) : Ev (fun k => spec_Runes.f k s) (runesV s) := by
  unfold runesV
  by_cases c : 20000 < s.size
  · rw [if_pos c]
    refine Ev.congr (f := fun _ => some (([] : List Int), false)) (fun k => ?_) (Ev.now _)
    unfold spec_Runes.f
    rw [if_pos (by omega)]
  · rw [if_neg c]
    have h := spec_runes_l0 s (by omega) s.size 0 [] (by omega) (by omega) (by simp)
    have e : s.extract 0 s.size = s := by apply ba_ext; rw [Lib.extract_to_end, List.drop_zero]
    rw [e, List.drop_zero, List.nil_append] at h
    refine Ev.congr (f := fun k => spec_Runes.l0 k s []) (fun k => ?_) h
    unfold spec_Runes.f
    rw [if_neg (by omega)]
theorem Ev.step2' {α : Type} {g f : Nat → Option α} {r : α} (h : ∀ k, g (k + 1 + 1) = f k) (k : Ev f r) : Ev g r := Ev.step (f := fun k => g (k + 1)) (fun _ => rfl) (Ev.step h k)
theorem w1n {i m : Nat} (h : i < m) (hm : m ≤ 9223372036854775807) : wrap64 ((i : Int) + 1) = ((i + 1 : Nat) : Int) := by rw [w64] <;> omega
theorem idx_is {l : List UInt8} {c : UInt8} {i : Nat} (h1 : l[i]? = some c) (h2 : ∀ k : Nat, k < i → l[k]? ≠ some c) : Lib.indexByte l c = (i : Int) := by
  have hge := Lib.indexByte_ge l c
  by_cases e : Lib.indexByte l c = -1
  · exact absurd h1 (Lib.indexByte_none e i)
  · obtain ⟨o, ho⟩ := Int.eq_ofNat_of_zero_le (show 0 ≤ Lib.indexByte l c by omega)
    obtain ⟨h3, h4⟩ := Lib.indexByte_some ho
    rw [ho]
    rcases Nat.lt_trichotomy o i with h | h | h
    · exact absurd h3 (h2 o h)
    · rw [h]
    · exact absurd h1 (h4 i h)
theorem idx_no {l : List UInt8} {c : UInt8} (h : ∀ k : Nat, l[k]? ≠ some c) : Lib.indexByte l c = -1 := by
  have hge := Lib.indexByte_ge l c
  by_cases e : Lib.indexByte l c = -1
  · exact e
  · obtain ⟨o, ho⟩ := Int.eq_ofNat_of_zero_le (show 0 ≤ Lib.indexByte l c by omega)
    exact absurd (Lib.indexByte_some ho).1 (h o)
def noB : ByteArray := ⟨#[]⟩
/-- A name: its prefix, and what stands behind it. -/
def splitV (s : ByteArray) : ByteArray × ByteArray × Bool :=
  if 0 ≤ Lib.indexByte s.data.toList 58 then (if nameB (s.data.toList.take (Lib.indexByte s.data.toList 58).toNat) = true then (if nameB (s.data.toList.drop ((Lib.indexByte s.data.toList 58).toNat + 1)) = true then (s.extract 0 (Lib.indexByte s.data.toList 58).toNat, s.extract ((Lib.indexByte s.data.toList 58).toNat + 1) s.size, true) else (noB, noB, false)) else (noB, noB, false))
  else if nameB s.data.toList = true then (noB, s, true) else (noB, noB, false)
theorem ex_to (s : ByteArray) (n : Nat) : (s.extract 0 n).data.toList = s.data.toList.take n := by
  simp [ByteArray.data_extract]
theorem ex_from (s : ByteArray) (n : Nat) : (s.extract n s.size).data.toList = s.data.toList.drop n := Lib.extract_to_end s n
theorem impl_split (s : ByteArray) (hs : s.data.toList.length ≤ 9223372036854775806) : Ev (fun k => impl_Split.f k s) (splitV s) := by
  have hc : strings_Cut.f s ⟨#[58]⟩ = some (if 0 ≤ Lib.indexByte s.data.toList 58 then (s.extract 0 (Lib.indexByte s.data.toList 58).toNat, s.extract ((Lib.indexByte s.data.toList 58).toNat + 1) s.size, true) else (s, ⟨#[]⟩, false)) := by
    unfold strings_Cut.f
    simp only
    rw [if_pos (by rw [sz]; omega)]
    split <;> rfl
  unfold splitV
  by_cases h : 0 ≤ Lib.indexByte s.data.toList 58
  · rw [if_pos h] at hc ⊢
    have n1 := impl_name (s.extract 0 (Lib.indexByte s.data.toList 58).toNat) (by rw [ex_to, List.length_take]; omega)
    have n2 := impl_name (s.extract ((Lib.indexByte s.data.toList 58).toNat + 1) s.size) (by rw [ex_from, List.length_drop]; omega)
    rw [ex_to] at n1
    rw [ex_from] at n2
    generalize Lib.indexByte s.data.toList 58 = i at *
    refine Ev.congr (f := fun k => impl_Split.j0 k s (s.extract 0 i.toNat) (s.extract (i.toNat + 1) s.size) true false) (fun k => ?_) ?_
    · unfold impl_Split.f
      rw [hc, Option.bind_some]
      simp only [if_true]
    · refine Ev.step (f := fun k => (impl_NameOk.f k (s.extract 0 i.toNat)).bind fun t320 => (if t320 = true then ((impl_NameOk.f k (s.extract (i.toNat + 1) s.size)).bind fun t321 => (if t321 = true then (some (s.extract 0 i.toNat, s.extract (i.toNat + 1) s.size, true)) else (some (noB, noB, false)))) else (some (noB, noB, false)))) (fun k => ?_) (Ev.bind n1 ?_)
      · conv => lhs; unfold impl_Split.j0
        simp only [Bool.false_eq_true, if_false, if_true]
        rfl
      · cases nameB (s.data.toList.take i.toNat) with
        | false => exact Ev.now _
        | true =>
          simp only [if_true]
          refine Ev.bind n2 ?_
          cases nameB (s.data.toList.drop (i.toNat + 1)) <;> exact Ev.now _
  · rw [if_neg h] at hc ⊢
    have n1 := impl_name s hs
    refine Ev.congr (f := fun k => (impl_NameOk.f k s).bind fun t319 => impl_Split.j0 k s s ⟨#[]⟩ false t319) (fun k => ?_) (Ev.bind n1 ?_)
    · unfold impl_Split.f
      rw [hc, Option.bind_some]
      simp only [Bool.false_eq_true, if_false]
    · cases nameB s.data.toList with
      | false =>
        refine Ev.step (f := fun _ => some (noB, noB, false)) (fun k => ?_) (Ev.now _)
        conv => lhs; unfold impl_Split.j0
        simp only [Bool.false_eq_true, if_false]
        rfl
      | true =>
        refine Ev.step (f := fun _ => some (noB, s, true)) (fun k => ?_) (Ev.now _)
        conv => lhs; unfold impl_Split.j0
        simp only [if_true]
        rfl
theorem spec_split_l0 (s : ByteArray) (hs : s.data.toList.length ≤ 9223372036854775806) : ∀ (n i : Nat), i + n = s.data.toList.length → (∀ k : Nat, k < i → s.data.toList[k]? ≠ some 58) →
    Ev (fun k => spec_Split.l0 k s (-1) (i : Int)) (splitV s) := by
  intro n
  induction n with
  | zero =>
    intro i hi hno
    have hidx : Lib.indexByte s.data.toList 58 = -1 := idx_no (fun k => by
      by_cases hk : k < i
      · exact hno k hk
      · rw [List.getElem?_eq_none (by omega)]; simp)
    unfold splitV
    rw [if_neg (by rw [hidx]; decide)]
    refine Ev.step2' (f := fun k => (spec_NameOk.f k s).bind fun t134 => (if t134 = true then (some (noB, s, true)) else (some (noB, noB, false)))) (fun k => ?_) (Ev.bind (spec_name s) ?_)
    · conv => lhs; unfold spec_Split.l0
      rw [if_neg (by rw [sz]; omega)]
      conv => lhs; unfold spec_Split.j1
      rw [if_neg (by decide), if_pos (by decide)]
      rfl
    · cases nameB s.data.toList <;> exact Ev.now _
  | succ n ih =>
    intro i hi hno
    have hlt : i < s.data.toList.length := by omega
    have hw : wrap64 ((i : Int) + 1) = ((i + 1 : Nat) : Int) := w1n hlt (by omega)
    by_cases c : s.data.toList[i] = 58
    · have h58 : s.data.toList[i]? = some 58 := by rw [List.getElem?_eq_getElem hlt, c]
      have hidx := idx_is h58 hno
      have hb : bt s (i : Int) = 58 := by rw [bt_nat s i hlt, c]; rfl
      unfold splitV
      rw [hidx, if_pos (by omega), Int.toNat_natCast]
      have n1 := spec_name (s.extract 0 i)
      have n2 := spec_name (s.extract (i + 1) s.size)
      rw [ex_to] at n1
      rw [ex_from] at n2
      have hw2 : 0 ≤ ((i + 1 : Nat) : Int) := by omega
      have goal : Ev (fun k => spec_Split.j1 k s (i : Int) ((i + 1 : Nat) : Int) false) (if nameB (s.data.toList.take i) = true then (if nameB (s.data.toList.drop (i + 1)) = true then (s.extract 0 i, s.extract (i + 1) s.size, true) else (noB, noB, false)) else (noB, noB, false)) := by
        refine Ev.step (f := fun k => (spec_NameOk.f k (s.extract 0 i)).bind fun t135 => (if t135 = true then ((spec_NameOk.f k (s.extract (i + 1) s.size)).bind fun t136 => (if t136 = true then (some (s.extract 0 i, s.extract (i + 1) s.size, true)) else (some (noB, noB, false)))) else (some (noB, noB, false)))) (fun k => ?_) (Ev.bind n1 ?_)
        · conv => lhs; unfold spec_Split.j1
          rw [if_neg (by decide), if_neg (by omega), if_pos (by omega), if_pos (by rw [sz]; omega), hw]
          simp only [Int.toNat_natCast, if_pos hw2, if_pos (show ((i + 1 : Nat) : Int) ≤ (s.size : Int) by rw [sz]; omega)]
          rfl
        · cases nameB (s.data.toList.take i) with
          | false => exact Ev.now _
          | true =>
            simp only [if_true]
            refine Ev.bind n2 ?_
            cases nameB (s.data.toList.drop (i + 1)) <;> exact Ev.now _
      have step2 : Ev (fun k => spec_Split.l0 k s (i : Int) ((i + 1 : Nat) : Int)) (if nameB (s.data.toList.take i) = true then (if nameB (s.data.toList.drop (i + 1)) = true then (s.extract 0 i, s.extract (i + 1) s.size, true) else (noB, noB, false)) else (noB, noB, false)) := by
        refine Ev.step (fun k => ?_) goal
        conv => lhs; unfold spec_Split.l0
        split
        · rw [decide_eq_false (by omega)]
        · rfl
      refine Ev.step2' (fun k => ?_) step2
      conv => lhs; unfold spec_Split.l0
      rw [if_pos (by rw [sz]; omega), decide_eq_true (by omega)]
      conv => lhs; unfold spec_Split.j1
      rw [if_pos rfl, if_pos (by omega), if_pos (by rw [sz]; omega), if_pos hb, hw]
    · have hb : ¬ bt s (i : Int) = 58 := by
        rw [bt_nat s i hlt]
        exact fun h => c ((byte_is s.data.toList[i] 58 (by decide)).1 h)
      refine Ev.step2' (fun k => ?_) (ih (i + 1) (by omega) (fun k hk => ?_))
      · conv => lhs; unfold spec_Split.l0
        rw [if_pos (by rw [sz]; omega), decide_eq_true (by omega)]
        conv => lhs; unfold spec_Split.j1
        rw [if_pos rfl, if_pos (by omega), if_pos (by rw [sz]; omega), if_neg hb, hw]
      · by_cases e : k = i
        · subst e
          rw [List.getElem?_eq_getElem hlt]
          simpa using c
        · exact hno k (by omega)
theorem spec_split (s : ByteArray) (hs : s.data.toList.length ≤ 9223372036854775806) : Ev (fun k => spec_Split.f k s) (splitV s) := by
  refine Ev.congr (fun k => ?_) (spec_split_l0 s hs s.data.toList.length 0 (by omega) (fun k hk => by omega))
  rfl
def qualV (s : ByteArray) : Bool := (splitV s).2.2
theorem impl_qual (s : ByteArray) (hs : s.data.toList.length ≤ 9223372036854775806) : Ev (fun k => impl_isQualified.f k s) (qualV s) := by
  refine Ev.congr (f := fun k => (impl_Split.f k s).bind fun bt322 => (some bt322.2.2)) (fun k => rfl) (Ev.bind (impl_split s hs) (Ev.now _))
theorem spec_qual (s : ByteArray) (hs : s.data.toList.length ≤ 9223372036854775806) : Ev (fun k => spec_l1Qual.f k s) (qualV s) := by
  refine Ev.congr (f := fun k => (spec_Split.f k s).bind fun bt322 => (some bt322.2.2)) (fun k => rfl) (Ev.bind (spec_split s hs) (Ev.now _))
/-! plain texts -/
def inZ (n a b : Int) : Bool := decide (a ≤ n) && decide (n ≤ b)
def charZ (n : Int) : Bool := decide (n = 9) || decide (n = 10) || decide (n = 13) || inZ n 32 55295 || inZ n 57344 65533 || inZ n 65536 1114111
theorem impl_in' (n a b : Int) : impl_in.f n a b = some (inZ n a b) := by
  unfold impl_in.f inZ
  split
  · rename_i h; have h' : a ≤ n := by omega
    simp [h']
  · rename_i h; have h' : ¬ a ≤ n := by omega
    simp [h']
theorem spec_in' (n a b : Int) : spec_l1In.f n a b = some (inZ n a b) := by
  unfold spec_l1In.f inZ
  split
  · rename_i h; have h' : a ≤ n := by omega
    simp [h']
  · rename_i h; have h' : ¬ a ≤ n := by omega
    simp [h']
theorem impl_char (n : Int) : impl_CharOk.f n = some (charZ n) := by
  unfold impl_CharOk.f charZ
  simp only [impl_in', Option.bind_some]
  by_cases h1 : n = 9
  · simp [h1]
  by_cases h2 : n = 10
  · simp [h2]
  by_cases h3 : n = 13
  · simp [h3]
  rw [if_neg h1, if_neg h2, if_neg h3, decide_eq_false h1, decide_eq_false h2, decide_eq_false h3]
  cases inZ n 32 55295 <;> cases inZ n 57344 65533 <;> rfl
theorem spec_char (n : Int) : spec_CharOk.f n = some (charZ n) := by
  unfold spec_CharOk.f charZ
  simp only [spec_in', Option.bind_some]
  by_cases h1 : n = 9
  · simp [h1]
  by_cases h2 : n = 10
  · simp [h2]
  by_cases h3 : n = 13
  · simp [h3]
  rw [if_neg h1, if_neg h2, if_neg h3, decide_eq_false h1, decide_eq_false h2, decide_eq_false h3]
  cases inZ n 32 55295 <;> cases inZ n 57344 65533 <;> rfl
def plainV (s : ByteArray) : Bool := (runesV s).2 && (runesV s).1.all charZ
theorem rdZ (l : List Int) (i : Nat) (h : i < l.length) : rd l (i : Int) = l[i] := by
  unfold rd
  simp [h]
theorem impl_plain_l0 (l : List Int) (hl : l.length ≤ 9223372036854775807) : ∀ (n i : Nat) (b : Bool), i + n = l.length → Ev (fun k => impl_isPlain.l0 k b l (l.length : Int) (i : Int)) (b && (l.drop i).all charZ) := by
  intro n
  induction n with
  | zero =>
    intro i b hi
    rw [List.drop_of_length_le (by omega), List.all_nil, Bool.and_true]
    refine Ev.step (f := fun _ => some b) (fun k => ?_) (Ev.now _)
    conv => lhs; unfold impl_isPlain.l0
    rw [if_neg (by omega)]
  | succ n ih =>
    intro i b hi
    have hlt : i < l.length := by omega
    rw [List.drop_eq_getElem_cons hlt, List.all_cons]
    have hw := w1n hlt hl
    cases b with
    | false =>
      refine Ev.step (fun k => ?_) (ih (i + 1) false (by omega))
      conv => lhs; unfold impl_isPlain.l0
      rw [if_pos (by omega), if_pos (by omega), if_pos (by omega), if_neg (by decide), hw]
    | true =>
      rw [Bool.true_and]
      refine Ev.step (fun k => ?_) (ih (i + 1) (charZ l[i]) (by omega))
      conv => lhs; unfold impl_isPlain.l0
      rw [if_pos (by omega), if_pos (by omega), if_pos (by omega), if_pos rfl, rdZ l i hlt, impl_char, Option.bind_some, hw]
theorem runes_len (s : ByteArray) : (runesV s).1.length ≤ s.size := by
  have h : ∀ (f p : Nat), (runesFrom s f p).length ≤ f := by
    intro f
    induction f with
    | zero => intro p; exact Nat.le_refl _
    | succ f ih =>
      intro p
      unfold runesFrom
      split
      · rw [List.length_cons]; have := ih (p + (Utf8.decode s p).2); omega
      · simp
  unfold runesV runesOf
  split
  · simp
  · split
    · exact h _ _
    · simp
theorem impl_plain (s : ByteArray) (hs : s.size ≤ 9223372036854775807) : Ev (fun k => impl_isPlain.f k s) (plainV s) := by
  refine Ev.congr (fun k => ?_) (impl_plain_l0 (runesV s).1 (by have := runes_len s; omega) (runesV s).1.length 0 (runesV s).2 (by omega))
  unfold impl_isPlain.f
  rw [impl_runes s hs]
  rfl
theorem spec_text_l0 (l : List Int) (hl : l.length ≤ 9223372036854775807) : ∀ (n i : Nat), i + n = l.length → Ev (fun k => spec_l1Text.l0 k l (i : Int)) ((l.drop i).all charZ) := by
  intro n
  induction n with
  | zero =>
    intro i hi
    rw [List.drop_of_length_le (by omega), List.all_nil]
    refine Ev.step (f := fun _ => some true) (fun k => ?_) (Ev.now _)
    conv => lhs; unfold spec_l1Text.l0
    rw [if_neg (by omega)]
  | succ n ih =>
    intro i hi
    have hlt : i < l.length := by omega
    rw [List.drop_eq_getElem_cons hlt, List.all_cons]
    have hw := w1n hlt hl
    cases hc : charZ l[i] with
    | false =>
      refine Ev.step (f := fun _ => some false) (fun k => ?_) (Ev.now _)
      conv => lhs; unfold spec_l1Text.l0
      rw [if_pos (by omega), if_pos (by omega), rdZ l i hlt, spec_char, Option.bind_some, hc, if_neg (by decide)]
    | true =>
      rw [Bool.true_and]
      refine Ev.step (fun k => ?_) (ih (i + 1) (by omega))
      conv => lhs; unfold spec_l1Text.l0
      rw [if_pos (by omega), if_pos (by omega), rdZ l i hlt, spec_char, Option.bind_some, hc, if_pos rfl, hw]
theorem spec_text (s : ByteArray) (hs : s.size ≤ 9223372036854775807) : Ev (fun k => spec_l1Text.f k s) (plainV s) := by
  refine Ev.congr (f := fun k => (spec_Runes.f k s).bind fun bt124 => (if bt124.2 = true then (spec_l1Text.l0 k bt124.1 0) else (some false))) (fun k => rfl) (Ev.bind (spec_runes s) ?_)
  unfold plainV
  have hl := runes_len s
  generalize runesV s = p at *
  obtain ⟨l, ok⟩ := p
  cases ok with
  | false => exact Ev.now _
  | true =>
    simp only [if_true, Bool.true_and]
    exact spec_text_l0 l (by simp only at hl; omega) l.length 0 (by omega)
end Go.Proofs.YtpmjpbaeecnpiaaGreatDoor.Pure
