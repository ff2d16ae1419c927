/- Words and contracts for the row RowFnDecs: what the Go functions answer that it calls; printed by programs of the kit and of this session, and merged. -/
import Derived.Test.YtilmhfkbpnejeaaDoorQd3
namespace Go.Proofs.YtilmhfkbpnejeaaDoor.L
open Go.RowKit Go.Proofs.YtilmhfkbpnejeaaDoorW.PrintWords Go.Proofs.YtilmhfkbpnejeaaDoorW.PrintLast Go.Proofs.YtilmhfkbpnejeaaDoorW.PrintMore
attribute [local go_sem] max2_int min2_int max_two min_two max_three min_three max_four min_four   -- for this text's walks alone
attribute [local go_sem] Go.Proofs.YtilmhfkbpnejeaaDoor.H.str_leq Go.Proofs.YtilmhfkbpnejeaaDoor.H.str_gtr Go.Proofs.YtilmhfkbpnejeaaDoor.H.str_geq
set_option linter.unusedVariables false
set_option linter.unusedSimpArgs false

attribute [local go_sem high] eqA26
/-! ### laws_FnDecs: function 7 -/
def laws_FnDecs.j0 : Nat → List Int → Bool → Option (Bool)
  | 0, _, _ => none
  | k + 1, x0, x49 => if x49 = true then (some false) else ((spec_DrawReadDec.f k x0).bind fun t555 => ((impl_ReadDec.f k t555).bind fun bt556 => ((spec_ReadDec.f k t555).bind fun bt561 => ((impl_DecText.f k bt556.1 bt556.2.1 bt556.2.2.1).bind fun t566 => ((impl_ReadDec.f k t566).bind fun bt567 => (if (bt556.2.2.2 == bt561.2.2.2) = true then (if bt556.2.2.2 = true then (if bt567.2.2.2 = true then (some (bt567.1 == bt556.1 && (bt567.2.1.toList == bt556.2.1.toList && (bt567.2.2.1 == bt556.2.2.1)))) else (some false)) else (some true)) else (some false)))))))
def laws_FnDecs.f (k : Nat) (l0 : List Int) : Option (Bool) := (laws_big.f l0).bind fun t538 => (if t538 = true then (some true) else ((spec_DrawDecText.f k l0).bind fun bt539 => ((impl_DecText.f k bt539.1 bt539.2.1 bt539.2.2).bind fun t543 => ((impl_ReadDec.f k t543).bind fun bt544 => ((spec_DecText.f k bt539.1 bt539.2.1 bt539.2.2).bind fun t549 => (if t543.toList = t549.toList then ((impl_DecOk.f bt539.1 bt539.2.1 bt539.2.2).bind fun t550 => (if (bt544.2.2.2 != t550) = true then (laws_FnDecs.j0 k l0 true) else (if bt544.2.2.2 = true then (if (!(bt544.1 == bt539.1) || (!(bt544.2.1.toList == bt539.2.1.toList) || (!(bt544.2.2.1 == bt539.2.2)))) = true then (laws_FnDecs.j0 k l0 true) else ((impl_TotalDigits.f bt539.1 bt539.2.1 bt539.2.2).bind fun t551 => ((spec_TotalDigits.f k bt539.1 bt539.2.1 bt539.2.2).bind fun t552 => (laws_FnDecs.j0 k l0 (t551 != t552))))) else ((impl_TotalDigits.f bt539.1 bt539.2.1 bt539.2.2).bind fun t553 => ((spec_TotalDigits.f k bt539.1 bt539.2.1 bt539.2.2).bind fun t554 => (laws_FnDecs.j0 k l0 (t553 != t554))))))) else (laws_FnDecs.j0 k l0 true)))))))
theorem laws_FnDecs.mono_l : ∀ k, (∀ y0 y1, LeO (laws_FnDecs.j0 k y0 y1) (laws_FnDecs.j0 (k + 1) y0 y1))
  | 0 => fun _ _ r h => by simp [laws_FnDecs.j0] at h
  | k + 1 => by
    have ih0 := laws_FnDecs.mono_l k
    · intro y0 y1
      unfold laws_FnDecs.j0
      repeat' first
      | (with_reducible exact ih0 _ _)
      | (with_reducible exact impl_DecText.mono _ _ _ _)
      | (with_reducible exact impl_ReadDec.mono _ _)
      | (with_reducible exact spec_DecText.mono _ _ _ _)
      | (with_reducible exact spec_DrawDecText.mono _ _)
      | (with_reducible exact spec_DrawReadDec.mono _ _)
      | (with_reducible exact spec_ReadDec.mono _ _)
      | (with_reducible exact spec_TotalDigits.mono _ _ _ _)
      | (with_reducible exact LeO.refl _)
      | (with_reducible exact LeO.none _)
      | (with_reducible refine LeO.ite ?_ ?_)
      | (with_reducible refine LeO.bind ?_ (fun _ => ?_))
      | exact ih0 _ _
      | exact impl_DecText.mono _ _ _ _
      | exact impl_ReadDec.mono _ _
      | exact spec_DecText.mono _ _ _ _
      | exact spec_DrawDecText.mono _ _
      | exact spec_DrawReadDec.mono _ _
      | exact spec_ReadDec.mono _ _
      | exact spec_TotalDigits.mono _ _ _ _
      | exact LeO.none _
      | refine LeO.ite ?_ ?_
      | refine LeO.bind ?_ (fun _ => ?_)
theorem laws_FnDecs.mono : ∀ a0 k, LeO (laws_FnDecs.f k a0) (laws_FnDecs.f (k + 1) a0) := by
  intro a0 k
  have ih0 := laws_FnDecs.mono_l k
  unfold laws_FnDecs.f
  repeat' first
      | (with_reducible exact ih0 _ _)
      | (with_reducible exact impl_DecText.mono _ _ _ _)
      | (with_reducible exact impl_ReadDec.mono _ _)
      | (with_reducible exact spec_DecText.mono _ _ _ _)
      | (with_reducible exact spec_DrawDecText.mono _ _)
      | (with_reducible exact spec_DrawReadDec.mono _ _)
      | (with_reducible exact spec_ReadDec.mono _ _)
      | (with_reducible exact spec_TotalDigits.mono _ _ _ _)
      | (with_reducible exact LeO.refl _)
      | (with_reducible exact LeO.none _)
      | (with_reducible refine LeO.ite ?_ ?_)
      | (with_reducible refine LeO.bind ?_ (fun _ => ?_))
      | exact ih0 _ _
      | exact impl_DecText.mono _ _ _ _
      | exact impl_ReadDec.mono _ _
      | exact spec_DecText.mono _ _ _ _
      | exact spec_DrawDecText.mono _ _
      | exact spec_DrawReadDec.mono _ _
      | exact spec_ReadDec.mono _ _
      | exact spec_TotalDigits.mono _ _ _ _
      | exact LeO.none _
      | refine LeO.ite ?_ ?_
      | refine LeO.bind ?_ (fun _ => ?_)
def laws_FnDecs.T6 : Bool × List (List Nat × List Nat) := (true, [([], []), ([], []), ([1], [1]), ([0, 2], [0, 2]), ([3, 2], [3]), ([4], [4]), ([4], [4]), ([6, 4, 4], [4, 6]), ([5, 7, 4], [4, 5, 7]), ([4, 8], [4, 8]), ([9, 7], [9]), ([10], [10]), ([11, 10, 10], [10, 11]), ([12], [12]), ([12], [12]), ([13, 14, 12], [12, 13, 14]), ([12, 15, 10], [10, 12, 15]), ([10, 16], [10, 16]), ([17, 12], [17]), ([18], [18]), ([19, 18, 18], [18, 19]), ([18], [18]), ([21, 20, 18], [18, 21]), ([20, 22, 18], [18, 20, 22]), ([18, 23], [18, 23])])
def laws_FnDecs.B6 : List Nat := [0, 0, 2, 7, 15, 31, 31, 95, 255, 511, 1023, 2047, 4095, 8191, 8191, 32767, 65535, 131071, 262143, 524287, 1048575, 524287, 4194303, 8388607, 16777215]
theorem laws_FnDecs.tab6 : rtab .any (opsOf Tryd.f7 6) = laws_FnDecs.T6 := by kernel_rfl
theorem laws_FnDecs.bits6 : waitsOk laws_FnDecs.T6.2 laws_FnDecs.B6 = true := by kernel_rfl
set_option maxHeartbeats 8000000 in
set_option maxRecDepth 100000 in
theorem laws_FnDecs.calls (k : Nat) (A0 : Option Addr) (c0 : Nat) (l0 : List Int) (r : Bool) (w : World) (hr0 : Kd.C (Kd.int .u8) w A0 l0.length l0) (hc0 : l0.length ≤ c0) (h : laws_FnDecs.f k l0 = some r) :
    Calls Tryd.prog 7 #[.slice A0 l0.length c0] w fun e w' => e = .returned (.bool r) ∧ Below w.heap.size w w' := by
  have hu26 := Tryd.underlying26
  have HR0 := Aside0.mk hr0
  have HC0 := Aside0.mk hc0
  clear hr0 hc0
  have HB := Aside0.mk (Below.refl w.heap.size w)
  have H : ((laws_big.f l0).bind fun t538 => (if t538 = true then (some true) else ((spec_DrawDecText.f k l0).bind fun bt539 => ((impl_DecText.f k bt539.1 bt539.2.1 bt539.2.2).bind fun t543 => ((impl_ReadDec.f k t543).bind fun bt544 => ((spec_DecText.f k bt539.1 bt539.2.1 bt539.2.2).bind fun t549 => (if t543.toList = t549.toList then ((impl_DecOk.f bt539.1 bt539.2.1 bt539.2.2).bind fun t550 => (if (bt544.2.2.2 != t550) = true then (laws_FnDecs.j0 k l0 true) else (if bt544.2.2.2 = true then (if (!(bt544.1 == bt539.1) || (!(bt544.2.1.toList == bt539.2.1.toList) || (!(bt544.2.2.1 == bt539.2.2)))) = true then (laws_FnDecs.j0 k l0 true) else ((impl_TotalDigits.f bt539.1 bt539.2.1 bt539.2.2).bind fun t551 => ((spec_TotalDigits.f k bt539.1 bt539.2.1 bt539.2.2).bind fun t552 => (laws_FnDecs.j0 k l0 (t551 != t552))))) else ((impl_TotalDigits.f bt539.1 bt539.2.1 bt539.2.2).bind fun t553 => ((spec_TotalDigits.f k bt539.1 bt539.2.1 bt539.2.2).bind fun t554 => (laws_FnDecs.j0 k l0 (t553 != t554))))))) else (laws_FnDecs.j0 k l0 true)))))))) = some r := h
  clear h
  replace H := Option.bind_eq_some_iff.mp H
  obtain ⟨t538, A20, H⟩ := H
  replace H : (if t538 = true then (some true) else ((spec_DrawDecText.f k l0).bind fun bt539 => ((impl_DecText.f k bt539.1 bt539.2.1 bt539.2.2).bind fun t543 => ((impl_ReadDec.f k t543).bind fun bt544 => ((spec_DecText.f k bt539.1 bt539.2.1 bt539.2.2).bind fun t549 => (if t543.toList = t549.toList then ((impl_DecOk.f bt539.1 bt539.2.1 bt539.2.2).bind fun t550 => (if (bt544.2.2.2 != t550) = true then (laws_FnDecs.j0 k l0 true) else (if bt544.2.2.2 = true then (if (!(bt544.1 == bt539.1) || (!(bt544.2.1.toList == bt539.2.1.toList) || (!(bt544.2.2.1 == bt539.2.2)))) = true then (laws_FnDecs.j0 k l0 true) else ((impl_TotalDigits.f bt539.1 bt539.2.1 bt539.2.2).bind fun t551 => ((spec_TotalDigits.f k bt539.1 bt539.2.1 bt539.2.2).bind fun t552 => (laws_FnDecs.j0 k l0 (t551 != t552))))) else ((impl_TotalDigits.f bt539.1 bt539.2.1 bt539.2.2).bind fun t553 => ((spec_TotalDigits.f k bt539.1 bt539.2.1 bt539.2.2).bind fun t554 => (laws_FnDecs.j0 k l0 (t553 != t554))))))) else (laws_FnDecs.j0 k l0 true))))))) = some r := H
  have A2 := Aside0.mk A20
  clear A20
  by_cases c3 : t538 = true
  · subst c3
    have H1 : (some true) = some r := by rw [if_pos rfl] at H; exact H
    clear H
    have H := H1
    clear H1
    obtain rfl := Option.some.inj H
    go_enter Tryd.func7, Tryd.ntmps7
    go_wp2_with (first | ((with_reducible refine gate_callee (f := 15) rfl ?_); refine goesL_ (some 15) rfl rfl Tryd.func15 (by kernel_rfl) rfl #[.slice A0 l0.length c0] rfl (by (try simp only [List.map_toArray, List.map_cons, List.map_nil]); first | done | rfl | (simp only [List.length_drop, List.length_take]; rfl)) ?_; (with_reducible refine (laws_big.calls _ _ l0 true _ ?side1 ?side2 A2.out).mono ?_); (case side1 => repeat (first | exact HR0.out | (with_reducible refine Kd.C_alloc ?_ _) | (with_reducible refine Kd.C_drewN ?_ _) | (with_reducible refine Kd.C_drew ?_))); (case side2 => exact HC0.out); rintro e w' ⟨rfl, ⟨nd, rfl⟩⟩; refine ⟨_, rfl, ?_⟩))
    go_ret
    exact ⟨by first | rfl | (simp [errW_none, errW_some] <;> rfl) | (simp [*, errW_none, errW_some] <;> rfl), by repeat (first | (with_reducible first | exact HB.out | apply below_alloc | apply pw_below_drewN | apply below_drew1) | exact HB.out)⟩
  · replace c3 := Bool.eq_false_iff.mpr c3
    subst c3
    have H1 : ((spec_DrawDecText.f k l0).bind fun bt539 => ((impl_DecText.f k bt539.1 bt539.2.1 bt539.2.2).bind fun t543 => ((impl_ReadDec.f k t543).bind fun bt544 => ((spec_DecText.f k bt539.1 bt539.2.1 bt539.2.2).bind fun t549 => (if t543.toList = t549.toList then ((impl_DecOk.f bt539.1 bt539.2.1 bt539.2.2).bind fun t550 => (if (bt544.2.2.2 != t550) = true then (laws_FnDecs.j0 k l0 true) else (if bt544.2.2.2 = true then (if (!(bt544.1 == bt539.1) || (!(bt544.2.1.toList == bt539.2.1.toList) || (!(bt544.2.2.1 == bt539.2.2)))) = true then (laws_FnDecs.j0 k l0 true) else ((impl_TotalDigits.f bt539.1 bt539.2.1 bt539.2.2).bind fun t551 => ((spec_TotalDigits.f k bt539.1 bt539.2.1 bt539.2.2).bind fun t552 => (laws_FnDecs.j0 k l0 (t551 != t552))))) else ((impl_TotalDigits.f bt539.1 bt539.2.1 bt539.2.2).bind fun t553 => ((spec_TotalDigits.f k bt539.1 bt539.2.1 bt539.2.2).bind fun t554 => (laws_FnDecs.j0 k l0 (t553 != t554))))))) else (laws_FnDecs.j0 k l0 true)))))) = some r := by rw [if_neg (show ¬ (false = true) by decide)] at H; exact H
    clear H
    have H := H1
    clear H1
    replace H := Option.bind_eq_some_iff.mp H
    obtain ⟨⟨t539, t540, t541⟩, A40, H⟩ := H
    replace H : ((impl_DecText.f k t539 t540 t541).bind fun t543 => ((impl_ReadDec.f k t543).bind fun bt544 => ((spec_DecText.f k t539 t540 t541).bind fun t549 => (if t543.toList = t549.toList then ((impl_DecOk.f t539 t540 t541).bind fun t550 => (if (bt544.2.2.2 != t550) = true then (laws_FnDecs.j0 k l0 true) else (if bt544.2.2.2 = true then (if (!(bt544.1 == t539) || (!(bt544.2.1.toList == t540.toList) || (!(bt544.2.2.1 == t541)))) = true then (laws_FnDecs.j0 k l0 true) else ((impl_TotalDigits.f t539 t540 t541).bind fun t551 => ((spec_TotalDigits.f k t539 t540 t541).bind fun t552 => (laws_FnDecs.j0 k l0 (t551 != t552))))) else ((impl_TotalDigits.f t539 t540 t541).bind fun t553 => ((spec_TotalDigits.f k t539 t540 t541).bind fun t554 => (laws_FnDecs.j0 k l0 (t553 != t554))))))) else (laws_FnDecs.j0 k l0 true))))) = some r := H
    have A4 := Aside0.mk A40
    clear A40
    replace H := Option.bind_eq_some_iff.mp H
    obtain ⟨t543, A50, H⟩ := H
    replace H : ((impl_ReadDec.f k t543).bind fun bt544 => ((spec_DecText.f k t539 t540 t541).bind fun t549 => (if t543.toList = t549.toList then ((impl_DecOk.f t539 t540 t541).bind fun t550 => (if (bt544.2.2.2 != t550) = true then (laws_FnDecs.j0 k l0 true) else (if bt544.2.2.2 = true then (if (!(bt544.1 == t539) || (!(bt544.2.1.toList == t540.toList) || (!(bt544.2.2.1 == t541)))) = true then (laws_FnDecs.j0 k l0 true) else ((impl_TotalDigits.f t539 t540 t541).bind fun t551 => ((spec_TotalDigits.f k t539 t540 t541).bind fun t552 => (laws_FnDecs.j0 k l0 (t551 != t552))))) else ((impl_TotalDigits.f t539 t540 t541).bind fun t553 => ((spec_TotalDigits.f k t539 t540 t541).bind fun t554 => (laws_FnDecs.j0 k l0 (t553 != t554))))))) else (laws_FnDecs.j0 k l0 true)))) = some r := H
    have A5 := Aside0.mk A50
    clear A50
    replace H := Option.bind_eq_some_iff.mp H
    obtain ⟨⟨t544, t545, t546, t547⟩, A60, H⟩ := H
    replace H : ((spec_DecText.f k t539 t540 t541).bind fun t549 => (if t543.toList = t549.toList then ((impl_DecOk.f t539 t540 t541).bind fun t550 => (if (t547 != t550) = true then (laws_FnDecs.j0 k l0 true) else (if t547 = true then (if (!(t544 == t539) || (!(t545.toList == t540.toList) || (!(t546 == t541)))) = true then (laws_FnDecs.j0 k l0 true) else ((impl_TotalDigits.f t539 t540 t541).bind fun t551 => ((spec_TotalDigits.f k t539 t540 t541).bind fun t552 => (laws_FnDecs.j0 k l0 (t551 != t552))))) else ((impl_TotalDigits.f t539 t540 t541).bind fun t553 => ((spec_TotalDigits.f k t539 t540 t541).bind fun t554 => (laws_FnDecs.j0 k l0 (t553 != t554))))))) else (laws_FnDecs.j0 k l0 true))) = some r := H
    have A6 := Aside0.mk A60
    clear A60
    have HC7 := Aside0.mk H
    clear H
    go_enter Tryd.func7, Tryd.ntmps7
    go_upto_region 6 with (first | ((with_reducible refine gate_callee (f := 15) rfl ?_); refine goesL_ (some 15) rfl rfl Tryd.func15 (by kernel_rfl) rfl #[.slice A0 l0.length c0] rfl (by (try simp only [List.map_toArray, List.map_cons, List.map_nil]); first | done | rfl | (simp only [List.length_drop, List.length_take]; rfl)) ?_; (with_reducible refine (laws_big.calls _ _ l0 false _ ?side1 ?side2 A2.out).mono ?_); (case side1 => repeat (first | exact HR0.out | (with_reducible refine Kd.C_alloc ?_ _) | (with_reducible refine Kd.C_drewN ?_ _) | (with_reducible refine Kd.C_drew ?_))); (case side2 => exact HC0.out); rintro e w' ⟨rfl, ⟨nd, rfl⟩⟩; refine ⟨_, rfl, ?_⟩) | ((with_reducible refine gate_callee (f := 19) rfl ?_); refine goesL_ (some 17) rfl rfl Tryd.func19 (by kernel_rfl) rfl #[.slice A0 l0.length c0] rfl (by (try simp only [List.map_toArray, List.map_cons, List.map_nil]); first | done | rfl | (simp only [List.length_drop, List.length_take]; rfl)) ?_; (with_reducible refine (spec_DrawDecText.calls k _ _ l0 t539 t540 t541 _ ?side1 ?side2 A4.out).mono ?_); (case side1 => repeat (first | exact HR0.out | (with_reducible refine Kd.C_alloc ?_ _) | (with_reducible refine Kd.C_drewN ?_ _) | (with_reducible refine Kd.C_drew ?_))); (case side2 => exact HC0.out); rintro e w8 ⟨rfl, hb⟩; refine ⟨_, rfl, ?_⟩; have n0_ := Aside0.mk (below_step (by repeat (first | (with_reducible first | exact HB.out | apply below_alloc | apply pw_below_drewN | apply below_drew1) | exact HB.out)) hb); clear HB; have HB := n0_; clear n0_; (try clear hb); (try clear hb2); (try clear hk); (try clear hi)) | ((with_reducible refine gate_dst (N := 3) rfl ?_); refine box_event ?hg (N := 3) ?hd (cs := #[.bool false, .string (⟨#[]⟩ : ByteArray), .int .i64 0]) (t := 26) ?hr ?_; (case hd => rfl); (case hg => rfl); (case hr => first | (go_simp; done) | (go_simp; rfl)); intro gb542 hg w9 hbox hb; have n0_ := Aside0.mk (below_step (by repeat (first | (with_reducible first | exact HB.out | apply below_alloc | apply pw_below_drewN | apply below_drew1) | exact HB.out)) hb); have n1_ := Aside0.mk (hbox); have n2_ := Aside0.mk ((by rw [hg]; exact (below_size (by repeat (first | (with_reducible first | exact HB.out | apply below_alloc | apply pw_below_drewN | apply below_drew1) | exact HB.out))) : w.heap.size ≤ gb542)); have n3_ := Aside0.mk ((by rw [hg]; exact (below_size (by repeat (first | (with_reducible first | exact HB.out | apply below_alloc | apply pw_below_drewN | apply below_drew1) | exact HB.out))) : w.heap.size ≤ gb542)); clear HB; have HB := n0_; have BK542 := n1_; have GW542 := n2_; have GE542 := n3_; clear n0_ n1_ n2_ n3_; clear hb hbox hg; have hcz10_0 : w9.cell? ⟨gb542, 0, none⟩ = some (.bool false) := (blk_cell BK542.out 0).trans rfl; have hcz10_1 : w9.cell? ⟨gb542, 1, none⟩ = some (.string (⟨#[]⟩ : ByteArray)) := (blk_cell BK542.out 1).trans rfl; have hcz10_2 : w9.cell? ⟨gb542, 2, none⟩ = some (.int .i64 0) := (blk_cell BK542.out 2).trans rfl; have hfz10_0 := blk_frozen BK542.out 0; have hfz10_1 := blk_frozen BK542.out 1; have hfz10_2 := blk_frozen BK542.out 2) | ((with_reducible refine gate_callee (f := 24) rfl ?_); refine goesL_ (some 19) rfl rfl Tryd.func24 (by kernel_rfl) rfl #[.agg #[.bool t539, .string t540, .int .i64 t541]] rfl (by (try simp only [List.map_toArray, List.map_cons, List.map_nil]); first | done | rfl | (simp only [List.length_drop, List.length_take]; rfl)) ?_; (with_reducible refine (impl_DecText.calls k t539 t540 t541 t543 _ A5.out).mono ?_); rintro e w11 ⟨rfl, hb⟩; refine ⟨_, rfl, ?_⟩; have n0_ := Aside0.mk (blk_below (g := gb542) (o := .cells #[.bool t539, .string t540, .int .i64 t541] 26 (0, 0)) (by refine blk_up ?_; refine blk_put (cs := #[.bool t539, .string t540, .int .i64 0]) ?_ 2 _ rfl; refine blk_up ?_; refine blk_put (cs := #[.bool t539, .string (⟨#[]⟩ : ByteArray), .int .i64 0]) ?_ 1 _ rfl; refine blk_up ?_; refine blk_put (cs := #[.bool false, .string (⟨#[]⟩ : ByteArray), .int .i64 0]) ?_ 0 _ rfl; refine blk_up ?_; exact BK542.out) hb); have n1_ := Aside0.mk (below_step (by repeat (first | (with_reducible first | exact HB.out | apply below_alloc | apply pw_below_drewN | apply below_drew1 | refine below_set ?_ GE542.out) | exact HB.out)) hb); clear BK542; clear HB; have BK542 := n0_; have HB := n1_; clear n0_ n1_; (try clear hb); (try clear hb2); (try clear hk); (try clear hi)) | ((with_reducible refine gate_callee (f := 25) rfl ?_); refine goesL_ (some 22) rfl rfl Tryd.func25 (by kernel_rfl) rfl #[.string t543] rfl (by (try simp only [List.map_toArray, List.map_cons, List.map_nil]); first | done | rfl | (simp only [List.length_drop, List.length_take]; rfl)) ?_; (with_reducible refine (impl_ReadDec.calls k t543 t544 t545 t546 t547 _ A6.out).mono ?_); rintro e w12 ⟨rfl, hb⟩; refine ⟨_, rfl, ?_⟩; have n0_ := Aside0.mk (blk_below (g := gb542) (o := .cells #[.bool t539, .string t540, .int .i64 t541] 26 (0, 0)) (by refine blk_up ?_; exact BK542.out) hb); have n1_ := Aside0.mk (below_step (by repeat (first | (with_reducible first | exact HB.out | apply below_alloc | apply pw_below_drewN | apply below_drew1 | refine below_set ?_ GE542.out) | exact HB.out)) hb); clear BK542; clear HB; have BK542 := n0_; have HB := n1_; clear n0_ n1_; (try clear hb); (try clear hb2); (try clear hk); (try clear hi)) | ((with_reducible refine gate_dst (N := 5) rfl ?_); refine box_event ?hg (N := 5) ?hd (cs := #[.bool false, .string (⟨#[]⟩ : ByteArray), .int .i64 0]) (t := 26) ?hr ?_; (case hd => rfl); (case hg => rfl); (case hr => first | (go_simp; done) | (go_simp; rfl)); intro gb548 hg w13 hbox hb; have n0_ := Aside0.mk (blk_below (g := gb542) (o := .cells #[.bool t539, .string t540, .int .i64 t541] 26 (0, 0)) (by refine blk_up ?_; exact BK542.out) hb); have n1_ := Aside0.mk (below_step (by repeat (first | (with_reducible first | exact HB.out | apply below_alloc | apply pw_below_drewN | apply below_drew1 | refine below_set ?_ GE542.out) | exact HB.out)) hb); have n2_ := Aside0.mk (hbox); have n3_ := Aside0.mk ((by rw [hg]; exact (below_size (by repeat (first | (with_reducible first | exact HB.out | apply below_alloc | apply pw_below_drewN | apply below_drew1 | refine below_set ?_ GE542.out) | exact HB.out))) : w.heap.size ≤ gb548)); have n4_ := Aside0.mk ((by rw [hg]; exact (below_size (by repeat (first | (with_reducible first | exact HB.out | apply below_alloc | apply pw_below_drewN | apply below_drew1 | refine below_set ?_ GE542.out) | exact HB.out))) : w.heap.size ≤ gb548)); have n5_ := Aside0.mk ((by rw [hg]; exact Nat.ne_of_lt (blk_lt (g := gb542) (o := .cells #[.bool t539, .string t540, .int .i64 t541] 26 (0, 0)) (by refine blk_up ?_; exact BK542.out)) : gb542 ≠ gb548)); have n6_ := Aside0.mk ((by rw [hg]; exact Nat.ne_of_gt (blk_lt (g := gb542) (o := .cells #[.bool t539, .string t540, .int .i64 t541] 26 (0, 0)) (by refine blk_up ?_; exact BK542.out)) : gb548 ≠ gb542)); clear BK542; clear HB; have BK542 := n0_; have HB := n1_; have BK548 := n2_; have GW548 := n3_; have GE548 := n4_; have NB542_548 := n5_; have NB548_542 := n6_; clear n0_ n1_ n2_ n3_ n4_ n5_ n6_; clear hb hbox hg; have hnb14 := NB548_542.out; have hnc14 := NB542_548.out; have hcz15_0 : w13.cell? ⟨gb548, 0, none⟩ = some (.bool false) := (blk_cell BK548.out 0).trans rfl; have hcz15_1 : w13.cell? ⟨gb548, 1, none⟩ = some (.string (⟨#[]⟩ : ByteArray)) := (blk_cell BK548.out 1).trans rfl; have hcz15_2 : w13.cell? ⟨gb548, 2, none⟩ = some (.int .i64 0) := (blk_cell BK548.out 2).trans rfl; have hfz15_0 := blk_frozen BK548.out 0; have hfz15_1 := blk_frozen BK548.out 1; have hfz15_2 := blk_frozen BK548.out 2))
    (try simp only [Act.put, List.setIfInBounds_toArray, List.set_cons_zero, List.set_cons_succ])
    go_cut [49] (fun v49 wc => ∃ (kq : Nat) (x49_6 : Bool), v49 = .bool x49_6 ∧ Aside0 (laws_FnDecs.j0 kq l0 x49_6 = some r) ∧ Aside0 (kq ≤ k) ∧ Aside0 (wc.heap[gb542]? = some (.cells #[.bool t539, .string t540, .int .i64 t541] 26 (0, 0))) ∧ Aside0 (wc.heap[gb548]? = some (.cells #[.bool t544, .string t545, .int .i64 t546] 26 (0, 0))) ∧ Aside0 (Below w.heap.size w wc))
    case first =>
      have H := HC7.out
      clear HC7
      replace H := Option.bind_eq_some_iff.mp H
      obtain ⟨t549, A160, H⟩ := H
      replace H : (if t543.toList = t549.toList then ((impl_DecOk.f t539 t540 t541).bind fun t550 => (if (t547 != t550) = true then (laws_FnDecs.j0 k l0 true) else (if t547 = true then (if (!(t544 == t539) || (!(t545.toList == t540.toList) || (!(t546 == t541)))) = true then (laws_FnDecs.j0 k l0 true) else ((impl_TotalDigits.f t539 t540 t541).bind fun t551 => ((spec_TotalDigits.f k t539 t540 t541).bind fun t552 => (laws_FnDecs.j0 k l0 (t551 != t552))))) else ((impl_TotalDigits.f t539 t540 t541).bind fun t553 => ((spec_TotalDigits.f k t539 t540 t541).bind fun t554 => (laws_FnDecs.j0 k l0 (t553 != t554))))))) else (laws_FnDecs.j0 k l0 true)) = some r := H
      have A16 := Aside0.mk A160
      clear A160
      by_cases c17 : t543.toList = t549.toList
      · rw [if_pos c17] at H
        have c17b0 : (t543.toList == t549.toList) = true := beq_iff_eq.mpr c17
        have c17b1 : (t543.toList != t549.toList) = false := bne_eq_false_iff_eq.mpr c17
        clear c17
        (first | rw [c17b0] | (simp only [i64_w, i32_w]; rw [c17b0]) | skip)
        replace H := Option.bind_eq_some_iff.mp H
        obtain ⟨t550, A180, H⟩ := H
        replace H : (if (t547 != t550) = true then (laws_FnDecs.j0 k l0 true) else (if t547 = true then (if (!(t544 == t539) || (!(t545.toList == t540.toList) || (!(t546 == t541)))) = true then (laws_FnDecs.j0 k l0 true) else ((impl_TotalDigits.f t539 t540 t541).bind fun t551 => ((spec_TotalDigits.f k t539 t540 t541).bind fun t552 => (laws_FnDecs.j0 k l0 (t551 != t552))))) else ((impl_TotalDigits.f t539 t540 t541).bind fun t553 => ((spec_TotalDigits.f k t539 t540 t541).bind fun t554 => (laws_FnDecs.j0 k l0 (t553 != t554)))))) = some r := H
        have A18 := Aside0.mk A180
        clear A180
        by_cases c19 : (t547 != t550) = true
        · rw [if_pos c19] at H
          have c19b0 : (t547 != t550) = true := c19
          (try (have c19b1 : decide (t547 = t550) = false := by simpa using c19))
          (try (have c19b2 : (t547 == t550) = false := by simpa using c19))
          (try (have c19b3 : ¬ (t547 = t550) := by simpa using c19))
          clear c19
          have H' := Aside0.mk H
          clear H
          try go_wp2
          have n0_ : Aside0 ((((w13.setCell ⟨gb548, 0, none⟩ (.bool t544)).setCell ⟨gb548, 1, none⟩ (.string t545)).setCell ⟨gb548, 2, none⟩ (.int .i64 t546)).heap[gb542]? = some (.cells #[.bool t539, .string t540, .int .i64 t541] 26 (0, 0))) := ⟨by refine blk_up ?_; refine blk_far ?_ NB542_548.out _; refine blk_up ?_; refine blk_far ?_ NB542_548.out _; refine blk_up ?_; refine blk_far ?_ NB542_548.out _; refine blk_up ?_; exact BK542.out⟩
          have n1_ : Aside0 ((((w13.setCell ⟨gb548, 0, none⟩ (.bool t544)).setCell ⟨gb548, 1, none⟩ (.string t545)).setCell ⟨gb548, 2, none⟩ (.int .i64 t546)).heap[gb548]? = some (.cells #[.bool t544, .string t545, .int .i64 t546] 26 (0, 0))) := ⟨by refine blk_up ?_; refine blk_put (cs := #[.bool t544, .string t545, .int .i64 0]) ?_ 2 _ rfl; refine blk_up ?_; refine blk_put (cs := #[.bool t544, .string (⟨#[]⟩ : ByteArray), .int .i64 0]) ?_ 1 _ rfl; refine blk_up ?_; refine blk_put (cs := #[.bool false, .string (⟨#[]⟩ : ByteArray), .int .i64 0]) ?_ 0 _ rfl; refine blk_up ?_; exact BK548.out⟩
          have n2_ : Aside0 (Below w.heap.size w (((w13.setCell ⟨gb548, 0, none⟩ (.bool t544)).setCell ⟨gb548, 1, none⟩ (.string t545)).setCell ⟨gb548, 2, none⟩ (.int .i64 t546))) := ⟨by repeat (first | (with_reducible first | exact HB.out | apply below_alloc | apply pw_below_drewN | apply below_drew1 | refine below_set ?_ GE542.out | refine below_set ?_ GE548.out) | exact HB.out)⟩
          (try clear BK542)
          (try clear BK548)
          (try clear HB)
          generalize (((w13.setCell ⟨gb548, 0, none⟩ (.bool t544)).setCell ⟨gb548, 1, none⟩ (.string t545)).setCell ⟨gb548, 2, none⟩ (.int .i64 t546)) = w20 at n0_ n1_ n2_ ⊢
          have BK542 := n0_
          have BK548 := n1_
          have HB := n2_
          clear n0_ n1_ n2_
          have n0_ := Aside0.mk (blk_drew BK542.out)
          have n1_ := Aside0.mk (blk_drew BK548.out)
          have n2_ := Aside0.mk (below_drew1 HB.out)
          clear BK542
          clear BK548
          clear HB
          have BK542 := n0_
          have BK548 := n1_
          have HB := n2_
          clear n0_ n1_ n2_
          refine start_ (n := 25) (S := fun w' => w'.cell? ⟨gb542, 0, none⟩ = some (.bool t539) ∧ w'.cell? ⟨gb542, 1, none⟩ = some (.string t540) ∧ w'.cell? ⟨gb542, 2, none⟩ = some (.int .i64 t541)) (ds := []) #[false, false, false, false, false, false, false, false, false, false, false, false, false, false, false, false, false, false, false, false, false, false, false, false, false] (by kernel_rfl) rfl rfl ⟨(blk_cell BK542.out 0).trans rfl, (blk_cell BK542.out 1).trans rfl, (blk_cell BK542.out 2).trans rfl⟩ (fun hHeld => ?_); refine with_tabW laws_FnDecs.tab6 laws_FnDecs.bits6 (fun HT_ HW_ => ?_)
          generalize w20.drew = w21 at BK542 BK548 HB hHeld ⊢
          refine pure_ (i := 0) (N := some 25) (v := ?_) (a' := ?_) #[true, false, false, false, false, false, false, false, false, false, false, false, false, false, false, false, false, false, false, false, false, false, false, false, false] rfl rfl (any_of HT_.out (by kernel_rfl)) (fun _ _ _ h => h) (Or.inl ⟨by rfl, ?_⟩) ?_ ?_
          rotate_left
          · intro w'
            go_simp
            with_reducible rfl
          rotate_left
          · simp only [Act.put, List.setIfInBounds_toArray, List.set_cons_zero, List.set_cons_succ, i64_w, i32_w]
            rfl
          refine take_ (i := 1) (N := some 26) (v := ?_) (a' := ?_) #[true, true, false, false, false, false, false, false, false, false, false, false, false, false, false, false, false, false, false, false, false, false, false, false, false] rfl rfl (take_ofW HT_.out HW_.out (by kernel_rfl)) (fun _ _ _ h => h) (Or.inl ⟨by rfl, ?_⟩) hHeld ?_ ?_
          rotate_left
          · rintro w' ⟨s0, s1, s2⟩
            go_simp
            with_reducible rfl
          rotate_left
          · simp only [Act.put, List.setIfInBounds_toArray, List.set_cons_zero, List.set_cons_succ, i64_w, i32_w]
            rfl
          refine one_ (i := 2) (N := some 27) #[true, true, true, false, false, false, false, false, false, false, false, false, false, false, false, false, false, false, false, false, false, false, false, false, false] rfl rfl (one_of HT_.out (by kernel_rfl)) (by decide) (fun K hK => ?_)
          refine goes_ Tryd.func26 (by kernel_rfl) rfl #[.agg #[.bool t539, .string t540, .int .i64 t541]] (by rfl) rfl rfl (by (try simp only [List.map_toArray, List.map_cons, List.map_nil]); first | done | rfl | (simp only [List.length_drop, List.length_take]; rfl)) ?_
          with_reducible refine (spec_DecText.calls k t539 t540 t541 t549 _ A16.out).mono ?_
          rintro e w22 ⟨rfl, hb⟩
          refine ⟨_, rfl, ?_⟩
          have n0_ := Aside0.mk (blk_below (g := gb542) (o := .cells #[.bool t539, .string t540, .int .i64 t541] 26 (0, 0)) (by refine blk_up ?_; exact BK542.out) hb)
          have n1_ := Aside0.mk (blk_below (g := gb548) (o := .cells #[.bool t544, .string t545, .int .i64 t546] 26 (0, 0)) (by refine blk_up ?_; exact BK548.out) hb)
          have n2_ := Aside0.mk (below_step (by repeat (first | (with_reducible first | exact HB.out | apply below_alloc | apply pw_below_drewN | apply below_drew1 | refine below_set ?_ GE542.out | refine below_set ?_ GE548.out) | exact HB.out)) hb)
          clear BK542
          clear BK548
          clear HB
          have BK542 := n0_
          have BK548 := n1_
          have HB := n2_
          clear n0_ n1_ n2_
          (try clear hb)
          (try clear hb2)
          (try clear hk)
          (try clear hi)
          refine hK.out _ _ ⟨(blk_cell BK542.out 0).trans rfl, (blk_cell BK542.out 1).trans rfl, (blk_cell BK542.out 2).trans rfl⟩ (fun hHeld => ?_)
          clear hK K
          refine norm_ (a' := ?_) ?_ ?_
          rotate_left
          · show Act.put _ (some 27) _ = _
            simp only [Act.put, List.setIfInBounds_toArray, List.set_cons_zero, List.set_cons_succ, i64_w, i32_w]
            rfl
          refine pure_ (i := 3) (N := some 28) (v := ?_) (a' := ?_) #[true, true, true, true, false, false, false, false, false, false, false, false, false, false, false, false, false, false, false, false, false, false, false, false, false] rfl rfl (any_of HT_.out (by kernel_rfl)) (fun _ _ _ h => h) (Or.inl ⟨by rfl, ?_⟩) ?_ ?_
          rotate_left
          · intro w'
            go_simp
            with_reducible rfl
          rotate_left
          · simp only [Act.put, List.setIfInBounds_toArray, List.set_cons_zero, List.set_cons_succ, i64_w, i32_w]
            rfl
          refine pure_ (i := 4) (N := some 29) (v := ?_) (a' := ?_) #[true, true, true, true, true, false, false, false, false, false, false, false, false, false, false, false, false, false, false, false, false, false, false, false, false] rfl rfl (any_of HT_.out (by kernel_rfl)) (fun _ _ _ h => h) (Or.inl ⟨by rfl, ?_⟩) ?_ ?_
          rotate_left
          · intro w'
            go_simp
            with_reducible rfl
          rotate_left
          · simp only [Act.put, List.setIfInBounds_toArray, List.set_cons_zero, List.set_cons_succ, i64_w, i32_w]
            rfl
          refine pure_ (i := 5) (N := some 30) (v := ?_) (a' := ?_) #[true, true, true, true, true, true, false, false, false, false, false, false, false, false, false, false, false, false, false, false, false, false, false, false, false] rfl rfl (any_of HT_.out (by kernel_rfl)) (fun _ _ _ h => h) (Or.inl ⟨by rfl, ?_⟩) ?_ ?_
          rotate_left
          · intro w'
            go_simp
            with_reducible rfl
          rotate_left
          · simp only [Act.put, List.setIfInBounds_toArray, List.set_cons_zero, List.set_cons_succ, i64_w, i32_w]
            rfl
          refine take_ (i := 6) (N := some 31) (v := ?_) (a' := ?_) #[true, true, true, true, true, true, true, false, false, false, false, false, false, false, false, false, false, false, false, false, false, false, false, false, false] rfl rfl (take_ofW HT_.out HW_.out (by kernel_rfl)) (fun _ _ _ h => h) (Or.inl ⟨by rfl, ?_⟩) hHeld ?_ ?_
          rotate_left
          · rintro w' ⟨s0, s1, s2⟩
            go_simp
            with_reducible rfl
          rotate_left
          · simp only [Act.put, List.setIfInBounds_toArray, List.set_cons_zero, List.set_cons_succ, i64_w, i32_w]
            rfl
          refine one_ (i := 7) (N := some 32) #[true, true, true, true, true, true, true, true, false, false, false, false, false, false, false, false, false, false, false, false, false, false, false, false, false] rfl rfl (one_of HT_.out (by kernel_rfl)) (by decide) (fun K hK => ?_)
          refine goes_ Tryd.func27 (by kernel_rfl) rfl #[.agg #[.bool t539, .string t540, .int .i64 t541]] (by rfl) rfl rfl (by (try simp only [List.map_toArray, List.map_cons, List.map_nil]); first | done | rfl | (simp only [List.length_drop, List.length_take]; rfl)) ?_
          with_reducible refine (impl_DecOk.calls t539 t540 t541 t550 _ A18.out).mono ?_
          rintro e w23 ⟨rfl, hb⟩
          refine ⟨_, rfl, ?_⟩
          have n0_ := Aside0.mk (blk_below (g := gb542) (o := .cells #[.bool t539, .string t540, .int .i64 t541] 26 (0, 0)) (by refine blk_up ?_; exact BK542.out) hb)
          have n1_ := Aside0.mk (blk_below (g := gb548) (o := .cells #[.bool t544, .string t545, .int .i64 t546] 26 (0, 0)) (by refine blk_up ?_; exact BK548.out) hb)
          have n2_ := Aside0.mk (below_step (by repeat (first | (with_reducible first | exact HB.out | apply below_alloc | apply pw_below_drewN | apply below_drew1 | refine below_set ?_ GE542.out | refine below_set ?_ GE548.out) | exact HB.out)) hb)
          clear BK542
          clear BK548
          clear HB
          have BK542 := n0_
          have BK548 := n1_
          have HB := n2_
          clear n0_ n1_ n2_
          (try clear hb)
          (try clear hb2)
          (try clear hk)
          (try clear hi)
          refine hK.out _ _ ⟨(blk_cell BK542.out 0).trans rfl, (blk_cell BK542.out 1).trans rfl, (blk_cell BK542.out 2).trans rfl⟩ (fun hHeld => ?_)
          clear hK K
          refine norm_ (a' := ?_) ?_ ?_
          rotate_left
          · show Act.put _ (some 32) _ = _
            simp only [Act.put, List.setIfInBounds_toArray, List.set_cons_zero, List.set_cons_succ, i64_w, i32_w]
            rfl
          refine pure_ (i := 8) (N := some 33) (v := ?_) (a' := ?_) #[true, true, true, true, true, true, true, true, true, false, false, false, false, false, false, false, false, false, false, false, false, false, false, false, false] rfl rfl (any_of HT_.out (by kernel_rfl)) (fun _ _ _ h => h) (Or.inl ⟨by rfl, ?_⟩) ?_ ?_
          rotate_left
          · intro w'
            go_simp
            with_reducible rfl
          rotate_left
          · simp only [Act.put, List.setIfInBounds_toArray, List.set_cons_zero, List.set_cons_succ, i64_w, i32_w]
            rfl
          refine pure_ (i := 9) (N := some 34) (v := ?_) (a' := ?_) #[true, true, true, true, true, true, true, true, true, true, false, false, false, false, false, false, false, false, false, false, false, false, false, false, false] rfl rfl (any_of HT_.out (by kernel_rfl)) (fun _ _ _ h => h) (Or.inl ⟨by rfl, ?_⟩) ?_ ?_
          rotate_left
          · intro w'
            go_simp
            with_reducible rfl
          rotate_left
          · simp only [Act.put, List.setIfInBounds_toArray, List.set_cons_zero, List.set_cons_succ, i64_w, i32_w]
            rfl
          refine pure_ (i := 10) (N := some 35) (v := ?_) (a' := ?_) #[true, true, true, true, true, true, true, true, true, true, true, false, false, false, false, false, false, false, false, false, false, false, false, false, false] rfl rfl (any_of HT_.out (by kernel_rfl)) (fun _ _ _ h => h) (Or.inl ⟨by rfl, ?_⟩) ?_ ?_
          rotate_left
          · intro w'
            go_simp
            with_reducible rfl
          rotate_left
          · simp only [Act.put, List.setIfInBounds_toArray, List.set_cons_zero, List.set_cons_succ, i64_w, i32_w]
            rfl
          refine pure_ (i := 11) (N := some 36) (v := undef) (a' := ?_) #[true, true, true, true, true, true, true, true, true, true, true, true, false, false, false, false, false, false, false, false, false, false, false, false, false] rfl rfl (any_of HT_.out (by kernel_rfl)) (fun _ _ _ h => h) (Or.inr ⟨by rfl, rfl⟩) ?_ ?_
          rotate_left
          · simp only [Act.put, List.setIfInBounds_toArray, List.set_cons_zero, List.set_cons_succ, i64_w, i32_w]
            rfl
          refine pure_ (i := 12) (N := some 37) (v := undef) (a' := ?_) #[true, true, true, true, true, true, true, true, true, true, true, true, true, false, false, false, false, false, false, false, false, false, false, false, false] rfl rfl (any_of HT_.out (by kernel_rfl)) (fun _ _ _ h => h) (Or.inr ⟨by rfl, rfl⟩) ?_ ?_
          rotate_left
          · simp only [Act.put, List.setIfInBounds_toArray, List.set_cons_zero, List.set_cons_succ, i64_w, i32_w]
            rfl
          refine pure_ (i := 13) (N := some 38) (v := undef) (a' := ?_) #[true, true, true, true, true, true, true, true, true, true, true, true, true, true, false, false, false, false, false, false, false, false, false, false, false] rfl rfl (any_of HT_.out (by kernel_rfl)) (fun _ _ _ h => h) (Or.inr ⟨by rfl, rfl⟩) ?_ ?_
          rotate_left
          · simp only [Act.put, List.setIfInBounds_toArray, List.set_cons_zero, List.set_cons_succ, i64_w, i32_w]
            rfl
          refine pure_ (i := 14) (N := some 39) (v := undef) (a' := ?_) #[true, true, true, true, true, true, true, true, true, true, true, true, true, true, true, false, false, false, false, false, false, false, false, false, false] rfl rfl (any_of HT_.out (by kernel_rfl)) (fun _ _ _ h => h) (Or.inr ⟨by rfl, rfl⟩) ?_ ?_
          rotate_left
          · simp only [Act.put, List.setIfInBounds_toArray, List.set_cons_zero, List.set_cons_succ, i64_w, i32_w]
            rfl
          refine pure_ (i := 15) (N := some 40) (v := undef) (a' := ?_) #[true, true, true, true, true, true, true, true, true, true, true, true, true, true, true, true, false, false, false, false, false, false, false, false, false] rfl rfl (any_of HT_.out (by kernel_rfl)) (fun _ _ _ h => h) (Or.inr ⟨by rfl, rfl⟩) ?_ ?_
          rotate_left
          · simp only [Act.put, List.setIfInBounds_toArray, List.set_cons_zero, List.set_cons_succ, i64_w, i32_w]
            rfl
          refine pure_ (i := 16) (N := some 41) (v := undef) (a' := ?_) #[true, true, true, true, true, true, true, true, true, true, true, true, true, true, true, true, true, false, false, false, false, false, false, false, false] rfl rfl (any_of HT_.out (by kernel_rfl)) (fun _ _ _ h => h) (Or.inr ⟨by rfl, rfl⟩) ?_ ?_
          rotate_left
          · simp only [Act.put, List.setIfInBounds_toArray, List.set_cons_zero, List.set_cons_succ, i64_w, i32_w]
            rfl
          refine pure_ (i := 17) (N := some 42) (v := ?_) (a' := ?_) #[true, true, true, true, true, true, true, true, true, true, true, true, true, true, true, true, true, true, false, false, false, false, false, false, false] rfl rfl (any_of HT_.out (by kernel_rfl)) (fun _ _ _ h => h) (Or.inl ⟨by rfl, ?_⟩) ?_ ?_
          rotate_left
          · intro w'
            go_simp
            with_reducible rfl
          rotate_left
          · simp only [Act.put, List.setIfInBounds_toArray, List.set_cons_zero, List.set_cons_succ, i64_w, i32_w]
            rfl
          refine pure_ (i := 18) (N := some 43) (v := ?_) (a' := ?_) #[true, true, true, true, true, true, true, true, true, true, true, true, true, true, true, true, true, true, true, false, false, false, false, false, false] rfl rfl (any_of HT_.out (by kernel_rfl)) (fun _ _ _ h => h) (Or.inl ⟨by rfl, ?_⟩) ?_ ?_
          rotate_left
          · intro w'
            go_simp
            with_reducible rfl
          rotate_left
          · simp only [Act.put, List.setIfInBounds_toArray, List.set_cons_zero, List.set_cons_succ, i64_w, i32_w]
            rfl
          refine pure_ (i := 19) (N := some 44) (v := undef) (a' := ?_) #[true, true, true, true, true, true, true, true, true, true, true, true, true, true, true, true, true, true, true, true, false, false, false, false, false] rfl rfl (any_of HT_.out (by kernel_rfl)) (fun _ _ _ h => h) (Or.inr ⟨by rfl, rfl⟩) ?_ ?_
          rotate_left
          · simp only [Act.put, List.setIfInBounds_toArray, List.set_cons_zero, List.set_cons_succ, i64_w, i32_w]
            rfl
          refine pure_ (i := 20) (N := some 45) (v := undef) (a' := ?_) #[true, true, true, true, true, true, true, true, true, true, true, true, true, true, true, true, true, true, true, true, true, false, false, false, false] rfl rfl (any_of HT_.out (by kernel_rfl)) (fun _ _ _ h => h) (Or.inr ⟨by rfl, rfl⟩) ?_ ?_
          rotate_left
          · simp only [Act.put, List.setIfInBounds_toArray, List.set_cons_zero, List.set_cons_succ, i64_w, i32_w]
            rfl
          refine pure_ (i := 21) (N := some 46) (v := undef) (a' := ?_) #[true, true, true, true, true, true, true, true, true, true, true, true, true, true, true, true, true, true, true, true, true, true, false, false, false] rfl rfl (any_of HT_.out (by kernel_rfl)) (fun _ _ _ h => h) (Or.inr ⟨by rfl, rfl⟩) ?_ ?_
          rotate_left
          · simp only [Act.put, List.setIfInBounds_toArray, List.set_cons_zero, List.set_cons_succ, i64_w, i32_w]
            rfl
          refine pure_ (i := 22) (N := some 47) (v := undef) (a' := ?_) #[true, true, true, true, true, true, true, true, true, true, true, true, true, true, true, true, true, true, true, true, true, true, true, false, false] rfl rfl (any_of HT_.out (by kernel_rfl)) (fun _ _ _ h => h) (Or.inr ⟨by rfl, rfl⟩) ?_ ?_
          rotate_left
          · simp only [Act.put, List.setIfInBounds_toArray, List.set_cons_zero, List.set_cons_succ, i64_w, i32_w]
            rfl
          refine pure_ (i := 23) (N := some 48) (v := undef) (a' := ?_) #[true, true, true, true, true, true, true, true, true, true, true, true, true, true, true, true, true, true, true, true, true, true, true, true, false] rfl rfl (any_of HT_.out (by kernel_rfl)) (fun _ _ _ h => h) (Or.inr ⟨by rfl, rfl⟩) ?_ ?_
          rotate_left
          · simp only [Act.put, List.setIfInBounds_toArray, List.set_cons_zero, List.set_cons_succ, i64_w, i32_w]
            rfl
          refine pure_ (i := 24) (N := some 49) (v := ?_) (a' := ?_) #[true, true, true, true, true, true, true, true, true, true, true, true, true, true, true, true, true, true, true, true, true, true, true, true, true] rfl rfl (any_of HT_.out (by kernel_rfl)) (fun _ _ _ h => h) (Or.inl ⟨by rfl, ?_⟩) ?_ ?_
          rotate_left
          · intro w'
            go_simp
            with_reducible rfl
          rotate_left
          · simp only [Act.put, List.setIfInBounds_toArray, List.set_cons_zero, List.set_cons_succ, i64_w, i32_w]
            rfl
          refine done_ (done_of HT_.out (by kernel_rfl)) ?_
          try go_wp2
          go_meet
          case rel => exact ⟨_, (true), (by first | rfl | (simp; done) | (simp [*]; done)), H', ⟨by first | omega | exact Nat.le_refl _⟩, ⟨by refine blk_up ?_; exact BK542.out⟩, ⟨by refine blk_up ?_; exact BK548.out⟩, ⟨by repeat (first | (with_reducible first | exact HB.out | apply below_alloc | apply pw_below_drewN | apply below_drew1 | refine below_set ?_ GE542.out | refine below_set ?_ GE548.out) | exact HB.out)⟩⟩
        · rw [if_neg c19] at H
          have c19b0 : (t547 != t550) = false := by simpa using c19
          (try (have c19b1 : decide (t547 = t550) = true := by simpa using c19))
          (try (have c19b2 : (t547 == t550) = true := by simpa using c19))
          clear c19
          by_cases c24 : t547 = true
          · subst c24
            have H1 : (if (!(t544 == t539) || (!(t545.toList == t540.toList) || (!(t546 == t541)))) = true then (laws_FnDecs.j0 k l0 true) else ((impl_TotalDigits.f t539 t540 t541).bind fun t551 => ((spec_TotalDigits.f k t539 t540 t541).bind fun t552 => (laws_FnDecs.j0 k l0 (t551 != t552))))) = some r := by rw [if_pos rfl] at H; exact H
            clear H
            have H := H1
            clear H1
            by_cases c25 : (!(t544 == t539) || (!(t545.toList == t540.toList) || (!(t546 == t541)))) = true
            · rw [if_pos c25] at H
              have c25b0 : (!(t544 == t539) || (!(t545.toList == t540.toList) || (!(t546 == t541)))) = true := c25
              clear c25
              have H' := Aside0.mk H
              clear H
              try go_wp2
              have n0_ : Aside0 ((((w13.setCell ⟨gb548, 0, none⟩ (.bool t544)).setCell ⟨gb548, 1, none⟩ (.string t545)).setCell ⟨gb548, 2, none⟩ (.int .i64 t546)).heap[gb542]? = some (.cells #[.bool t539, .string t540, .int .i64 t541] 26 (0, 0))) := ⟨by refine blk_up ?_; refine blk_far ?_ NB542_548.out _; refine blk_up ?_; refine blk_far ?_ NB542_548.out _; refine blk_up ?_; refine blk_far ?_ NB542_548.out _; refine blk_up ?_; exact BK542.out⟩
              have n1_ : Aside0 ((((w13.setCell ⟨gb548, 0, none⟩ (.bool t544)).setCell ⟨gb548, 1, none⟩ (.string t545)).setCell ⟨gb548, 2, none⟩ (.int .i64 t546)).heap[gb548]? = some (.cells #[.bool t544, .string t545, .int .i64 t546] 26 (0, 0))) := ⟨by refine blk_up ?_; refine blk_put (cs := #[.bool t544, .string t545, .int .i64 0]) ?_ 2 _ rfl; refine blk_up ?_; refine blk_put (cs := #[.bool t544, .string (⟨#[]⟩ : ByteArray), .int .i64 0]) ?_ 1 _ rfl; refine blk_up ?_; refine blk_put (cs := #[.bool false, .string (⟨#[]⟩ : ByteArray), .int .i64 0]) ?_ 0 _ rfl; refine blk_up ?_; exact BK548.out⟩
              have n2_ : Aside0 (Below w.heap.size w (((w13.setCell ⟨gb548, 0, none⟩ (.bool t544)).setCell ⟨gb548, 1, none⟩ (.string t545)).setCell ⟨gb548, 2, none⟩ (.int .i64 t546))) := ⟨by repeat (first | (with_reducible first | exact HB.out | apply below_alloc | apply pw_below_drewN | apply below_drew1 | refine below_set ?_ GE542.out | refine below_set ?_ GE548.out) | exact HB.out)⟩
              (try clear BK542)
              (try clear BK548)
              (try clear HB)
              generalize (((w13.setCell ⟨gb548, 0, none⟩ (.bool t544)).setCell ⟨gb548, 1, none⟩ (.string t545)).setCell ⟨gb548, 2, none⟩ (.int .i64 t546)) = w26 at n0_ n1_ n2_ ⊢
              have BK542 := n0_
              have BK548 := n1_
              have HB := n2_
              clear n0_ n1_ n2_
              have n0_ := Aside0.mk (blk_drew BK542.out)
              have n1_ := Aside0.mk (blk_drew BK548.out)
              have n2_ := Aside0.mk (below_drew1 HB.out)
              clear BK542
              clear BK548
              clear HB
              have BK542 := n0_
              have BK548 := n1_
              have HB := n2_
              clear n0_ n1_ n2_
              refine start_ (n := 25) (S := fun w' => w'.cell? ⟨gb542, 0, none⟩ = some (.bool t539) ∧ w'.cell? ⟨gb542, 1, none⟩ = some (.string t540) ∧ w'.cell? ⟨gb542, 2, none⟩ = some (.int .i64 t541) ∧ w'.cell? ⟨gb548, 0, none⟩ = some (.bool t544) ∧ w'.cell? ⟨gb548, 1, none⟩ = some (.string t545) ∧ w'.cell? ⟨gb548, 2, none⟩ = some (.int .i64 t546)) (ds := []) #[false, false, false, false, false, false, false, false, false, false, false, false, false, false, false, false, false, false, false, false, false, false, false, false, false] (by kernel_rfl) rfl rfl ⟨(blk_cell BK542.out 0).trans rfl, (blk_cell BK542.out 1).trans rfl, (blk_cell BK542.out 2).trans rfl, (blk_cell BK548.out 0).trans rfl, (blk_cell BK548.out 1).trans rfl, (blk_cell BK548.out 2).trans rfl⟩ (fun hHeld => ?_); refine with_tabW laws_FnDecs.tab6 laws_FnDecs.bits6 (fun HT_ HW_ => ?_)
              generalize w26.drew = w27 at BK542 BK548 HB hHeld ⊢
              refine pure_ (i := 0) (N := some 25) (v := ?_) (a' := ?_) #[true, false, false, false, false, false, false, false, false, false, false, false, false, false, false, false, false, false, false, false, false, false, false, false, false] rfl rfl (any_of HT_.out (by kernel_rfl)) (fun _ _ _ h => h) (Or.inl ⟨by rfl, ?_⟩) ?_ ?_
              rotate_left
              · intro w'
                go_simp
                with_reducible rfl
              rotate_left
              · simp only [Act.put, List.setIfInBounds_toArray, List.set_cons_zero, List.set_cons_succ, i64_w, i32_w]
                rfl
              refine take_ (i := 1) (N := some 26) (v := ?_) (a' := ?_) #[true, true, false, false, false, false, false, false, false, false, false, false, false, false, false, false, false, false, false, false, false, false, false, false, false] rfl rfl (take_ofW HT_.out HW_.out (by kernel_rfl)) (fun _ _ _ h => h) (Or.inl ⟨by rfl, ?_⟩) hHeld ?_ ?_
              rotate_left
              · rintro w' ⟨s0, s1, s2, s3, s4, s5⟩
                go_simp
                with_reducible rfl
              rotate_left
              · simp only [Act.put, List.setIfInBounds_toArray, List.set_cons_zero, List.set_cons_succ, i64_w, i32_w]
                rfl
              refine one_ (i := 2) (N := some 27) #[true, true, true, false, false, false, false, false, false, false, false, false, false, false, false, false, false, false, false, false, false, false, false, false, false] rfl rfl (one_of HT_.out (by kernel_rfl)) (by decide) (fun K hK => ?_)
              refine goes_ Tryd.func26 (by kernel_rfl) rfl #[.agg #[.bool t539, .string t540, .int .i64 t541]] (by rfl) rfl rfl (by (try simp only [List.map_toArray, List.map_cons, List.map_nil]); first | done | rfl | (simp only [List.length_drop, List.length_take]; rfl)) ?_
              with_reducible refine (spec_DecText.calls k t539 t540 t541 t549 _ A16.out).mono ?_
              rintro e w28 ⟨rfl, hb⟩
              refine ⟨_, rfl, ?_⟩
              have n0_ := Aside0.mk (blk_below (g := gb542) (o := .cells #[.bool t539, .string t540, .int .i64 t541] 26 (0, 0)) (by refine blk_up ?_; exact BK542.out) hb)
              have n1_ := Aside0.mk (blk_below (g := gb548) (o := .cells #[.bool t544, .string t545, .int .i64 t546] 26 (0, 0)) (by refine blk_up ?_; exact BK548.out) hb)
              have n2_ := Aside0.mk (below_step (by repeat (first | (with_reducible first | exact HB.out | apply below_alloc | apply pw_below_drewN | apply below_drew1 | refine below_set ?_ GE542.out | refine below_set ?_ GE548.out) | exact HB.out)) hb)
              clear BK542
              clear BK548
              clear HB
              have BK542 := n0_
              have BK548 := n1_
              have HB := n2_
              clear n0_ n1_ n2_
              (try clear hb)
              (try clear hb2)
              (try clear hk)
              (try clear hi)
              refine hK.out _ _ ⟨(blk_cell BK542.out 0).trans rfl, (blk_cell BK542.out 1).trans rfl, (blk_cell BK542.out 2).trans rfl, (blk_cell BK548.out 0).trans rfl, (blk_cell BK548.out 1).trans rfl, (blk_cell BK548.out 2).trans rfl⟩ (fun hHeld => ?_)
              clear hK K
              refine norm_ (a' := ?_) ?_ ?_
              rotate_left
              · show Act.put _ (some 27) _ = _
                simp only [Act.put, List.setIfInBounds_toArray, List.set_cons_zero, List.set_cons_succ, i64_w, i32_w]
                rfl
              refine pure_ (i := 3) (N := some 28) (v := ?_) (a' := ?_) #[true, true, true, true, false, false, false, false, false, false, false, false, false, false, false, false, false, false, false, false, false, false, false, false, false] rfl rfl (any_of HT_.out (by kernel_rfl)) (fun _ _ _ h => h) (Or.inl ⟨by rfl, ?_⟩) ?_ ?_
              rotate_left
              · intro w'
                go_simp
                with_reducible rfl
              rotate_left
              · simp only [Act.put, List.setIfInBounds_toArray, List.set_cons_zero, List.set_cons_succ, i64_w, i32_w]
                rfl
              refine pure_ (i := 4) (N := some 29) (v := ?_) (a' := ?_) #[true, true, true, true, true, false, false, false, false, false, false, false, false, false, false, false, false, false, false, false, false, false, false, false, false] rfl rfl (any_of HT_.out (by kernel_rfl)) (fun _ _ _ h => h) (Or.inl ⟨by rfl, ?_⟩) ?_ ?_
              rotate_left
              · intro w'
                go_simp
                with_reducible rfl
              rotate_left
              · simp only [Act.put, List.setIfInBounds_toArray, List.set_cons_zero, List.set_cons_succ, i64_w, i32_w]
                rfl
              refine pure_ (i := 5) (N := some 30) (v := ?_) (a' := ?_) #[true, true, true, true, true, true, false, false, false, false, false, false, false, false, false, false, false, false, false, false, false, false, false, false, false] rfl rfl (any_of HT_.out (by kernel_rfl)) (fun _ _ _ h => h) (Or.inl ⟨by rfl, ?_⟩) ?_ ?_
              rotate_left
              · intro w'
                go_simp
                with_reducible rfl
              rotate_left
              · simp only [Act.put, List.setIfInBounds_toArray, List.set_cons_zero, List.set_cons_succ, i64_w, i32_w]
                rfl
              refine take_ (i := 6) (N := some 31) (v := ?_) (a' := ?_) #[true, true, true, true, true, true, true, false, false, false, false, false, false, false, false, false, false, false, false, false, false, false, false, false, false] rfl rfl (take_ofW HT_.out HW_.out (by kernel_rfl)) (fun _ _ _ h => h) (Or.inl ⟨by rfl, ?_⟩) hHeld ?_ ?_
              rotate_left
              · rintro w' ⟨s0, s1, s2, s3, s4, s5⟩
                go_simp
                with_reducible rfl
              rotate_left
              · simp only [Act.put, List.setIfInBounds_toArray, List.set_cons_zero, List.set_cons_succ, i64_w, i32_w]
                rfl
              refine one_ (i := 7) (N := some 32) #[true, true, true, true, true, true, true, true, false, false, false, false, false, false, false, false, false, false, false, false, false, false, false, false, false] rfl rfl (one_of HT_.out (by kernel_rfl)) (by decide) (fun K hK => ?_)
              refine goes_ Tryd.func27 (by kernel_rfl) rfl #[.agg #[.bool t539, .string t540, .int .i64 t541]] (by rfl) rfl rfl (by (try simp only [List.map_toArray, List.map_cons, List.map_nil]); first | done | rfl | (simp only [List.length_drop, List.length_take]; rfl)) ?_
              with_reducible refine (impl_DecOk.calls t539 t540 t541 t550 _ A18.out).mono ?_
              rintro e w29 ⟨rfl, hb⟩
              refine ⟨_, rfl, ?_⟩
              have n0_ := Aside0.mk (blk_below (g := gb542) (o := .cells #[.bool t539, .string t540, .int .i64 t541] 26 (0, 0)) (by refine blk_up ?_; exact BK542.out) hb)
              have n1_ := Aside0.mk (blk_below (g := gb548) (o := .cells #[.bool t544, .string t545, .int .i64 t546] 26 (0, 0)) (by refine blk_up ?_; exact BK548.out) hb)
              have n2_ := Aside0.mk (below_step (by repeat (first | (with_reducible first | exact HB.out | apply below_alloc | apply pw_below_drewN | apply below_drew1 | refine below_set ?_ GE542.out | refine below_set ?_ GE548.out) | exact HB.out)) hb)
              clear BK542
              clear BK548
              clear HB
              have BK542 := n0_
              have BK548 := n1_
              have HB := n2_
              clear n0_ n1_ n2_
              (try clear hb)
              (try clear hb2)
              (try clear hk)
              (try clear hi)
              refine hK.out _ _ ⟨(blk_cell BK542.out 0).trans rfl, (blk_cell BK542.out 1).trans rfl, (blk_cell BK542.out 2).trans rfl, (blk_cell BK548.out 0).trans rfl, (blk_cell BK548.out 1).trans rfl, (blk_cell BK548.out 2).trans rfl⟩ (fun hHeld => ?_)
              clear hK K
              refine norm_ (a' := ?_) ?_ ?_
              rotate_left
              · show Act.put _ (some 32) _ = _
                simp only [Act.put, List.setIfInBounds_toArray, List.set_cons_zero, List.set_cons_succ, i64_w, i32_w]
                rfl
              refine pure_ (i := 8) (N := some 33) (v := ?_) (a' := ?_) #[true, true, true, true, true, true, true, true, true, false, false, false, false, false, false, false, false, false, false, false, false, false, false, false, false] rfl rfl (any_of HT_.out (by kernel_rfl)) (fun _ _ _ h => h) (Or.inl ⟨by rfl, ?_⟩) ?_ ?_
              rotate_left
              · intro w'
                go_simp
                with_reducible rfl
              rotate_left
              · simp only [Act.put, List.setIfInBounds_toArray, List.set_cons_zero, List.set_cons_succ, i64_w, i32_w]
                rfl
              refine pure_ (i := 9) (N := some 34) (v := ?_) (a' := ?_) #[true, true, true, true, true, true, true, true, true, true, false, false, false, false, false, false, false, false, false, false, false, false, false, false, false] rfl rfl (any_of HT_.out (by kernel_rfl)) (fun _ _ _ h => h) (Or.inl ⟨by rfl, ?_⟩) ?_ ?_
              rotate_left
              · intro w'
                go_simp
                with_reducible rfl
              rotate_left
              · simp only [Act.put, List.setIfInBounds_toArray, List.set_cons_zero, List.set_cons_succ, i64_w, i32_w]
                rfl
              refine pure_ (i := 10) (N := some 35) (v := ?_) (a' := ?_) #[true, true, true, true, true, true, true, true, true, true, true, false, false, false, false, false, false, false, false, false, false, false, false, false, false] rfl rfl (any_of HT_.out (by kernel_rfl)) (fun _ _ _ h => h) (Or.inl ⟨by rfl, ?_⟩) ?_ ?_
              rotate_left
              · intro w'
                go_simp
                with_reducible rfl
              rotate_left
              · simp only [Act.put, List.setIfInBounds_toArray, List.set_cons_zero, List.set_cons_succ, i64_w, i32_w]
                rfl
              refine pure_ (i := 11) (N := some 36) (v := ?_) (a' := ?_) #[true, true, true, true, true, true, true, true, true, true, true, true, false, false, false, false, false, false, false, false, false, false, false, false, false] rfl rfl (any_of HT_.out (by kernel_rfl)) (fun _ _ _ h => h) (Or.inl ⟨by rfl, ?_⟩) ?_ ?_
              rotate_left
              · intro w'
                go_simp
                with_reducible rfl
              rotate_left
              · simp only [Act.put, List.setIfInBounds_toArray, List.set_cons_zero, List.set_cons_succ, i64_w, i32_w]
                rfl
              refine pure_ (i := 12) (N := some 37) (v := ?_) (a' := ?_) #[true, true, true, true, true, true, true, true, true, true, true, true, true, false, false, false, false, false, false, false, false, false, false, false, false] rfl rfl (any_of HT_.out (by kernel_rfl)) (fun _ _ _ h => h) (Or.inl ⟨by rfl, ?_⟩) ?_ ?_
              rotate_left
              · intro w'
                go_simp
                with_reducible rfl
              rotate_left
              · simp only [Act.put, List.setIfInBounds_toArray, List.set_cons_zero, List.set_cons_succ, i64_w, i32_w]
                rfl
              refine take_ (i := 13) (N := some 38) (v := ?_) (a' := ?_) #[true, true, true, true, true, true, true, true, true, true, true, true, true, true, false, false, false, false, false, false, false, false, false, false, false] rfl rfl (take_ofW HT_.out HW_.out (by kernel_rfl)) (fun _ _ _ h => h) (Or.inl ⟨by rfl, ?_⟩) hHeld ?_ ?_
              rotate_left
              · rintro w' ⟨s0, s1, s2, s3, s4, s5⟩
                go_simp
                with_reducible rfl
              rotate_left
              · simp only [Act.put, List.setIfInBounds_toArray, List.set_cons_zero, List.set_cons_succ, i64_w, i32_w]
                rfl
              refine take_ (i := 14) (N := some 39) (v := ?_) (a' := ?_) #[true, true, true, true, true, true, true, true, true, true, true, true, true, true, true, false, false, false, false, false, false, false, false, false, false] rfl rfl (take_ofW HT_.out HW_.out (by kernel_rfl)) (fun _ _ _ h => h) (Or.inl ⟨by rfl, ?_⟩) hHeld ?_ ?_
              rotate_left
              · rintro w' ⟨s0, s1, s2, s3, s4, s5⟩
                go_simp
                with_reducible rfl
              rotate_left
              · simp only [Act.put, List.setIfInBounds_toArray, List.set_cons_zero, List.set_cons_succ, i64_w, i32_w]
                rfl
              refine pure_ (i := 15) (N := some 40) (v := ?_) (a' := ?_) #[true, true, true, true, true, true, true, true, true, true, true, true, true, true, true, true, false, false, false, false, false, false, false, false, false] rfl rfl (any_of HT_.out (by kernel_rfl)) (fun _ _ _ h => h) (Or.inl ⟨by rfl, ?_⟩) ?_ ?_
              rotate_left
              · intro w'
                go_simp
                with_reducible rfl
              rotate_left
              · simp only [Act.put, List.setIfInBounds_toArray, List.set_cons_zero, List.set_cons_succ, i64_w, i32_w]
                rfl
              refine pure_ (i := 16) (N := some 41) (v := ?_) (a' := ?_) #[true, true, true, true, true, true, true, true, true, true, true, true, true, true, true, true, true, false, false, false, false, false, false, false, false] rfl rfl (any_of HT_.out (by kernel_rfl)) (fun _ _ _ h => h) (Or.inl ⟨by rfl, ?_⟩) ?_ ?_
              rotate_left
              · intro w'
                go_simp
                with_reducible rfl
              rotate_left
              · simp only [Act.put, List.setIfInBounds_toArray, List.set_cons_zero, List.set_cons_succ, i64_w, i32_w]
                rfl
              refine pure_ (i := 17) (N := some 42) (v := ?_) (a' := ?_) #[true, true, true, true, true, true, true, true, true, true, true, true, true, true, true, true, true, true, false, false, false, false, false, false, false] rfl rfl (any_of HT_.out (by kernel_rfl)) (fun _ _ _ h => h) (Or.inl ⟨by rfl, ?_⟩) ?_ ?_
              rotate_left
              · intro w'
                go_simp
                with_reducible rfl
              rotate_left
              · simp only [Act.put, List.setIfInBounds_toArray, List.set_cons_zero, List.set_cons_succ, i64_w, i32_w]
                rfl
              refine pure_ (i := 18) (N := some 43) (v := ?_) (a' := ?_) #[true, true, true, true, true, true, true, true, true, true, true, true, true, true, true, true, true, true, true, false, false, false, false, false, false] rfl rfl (any_of HT_.out (by kernel_rfl)) (fun _ _ _ h => h) (Or.inl ⟨by rfl, ?_⟩) ?_ ?_
              rotate_left
              · intro w'
                go_simp
                with_reducible rfl
              rotate_left
              · simp only [Act.put, List.setIfInBounds_toArray, List.set_cons_zero, List.set_cons_succ, i64_w, i32_w]
                rfl
              refine pure_ (i := 19) (N := some 44) (v := undef) (a' := ?_) #[true, true, true, true, true, true, true, true, true, true, true, true, true, true, true, true, true, true, true, true, false, false, false, false, false] rfl rfl (any_of HT_.out (by kernel_rfl)) (fun _ _ _ h => h) (Or.inr ⟨by rfl, rfl⟩) ?_ ?_
              rotate_left
              · simp only [Act.put, List.setIfInBounds_toArray, List.set_cons_zero, List.set_cons_succ, i64_w, i32_w]
                rfl
              refine pure_ (i := 20) (N := some 45) (v := undef) (a' := ?_) #[true, true, true, true, true, true, true, true, true, true, true, true, true, true, true, true, true, true, true, true, true, false, false, false, false] rfl rfl (any_of HT_.out (by kernel_rfl)) (fun _ _ _ h => h) (Or.inr ⟨by rfl, rfl⟩) ?_ ?_
              rotate_left
              · simp only [Act.put, List.setIfInBounds_toArray, List.set_cons_zero, List.set_cons_succ, i64_w, i32_w]
                rfl
              refine pure_ (i := 21) (N := some 46) (v := undef) (a' := ?_) #[true, true, true, true, true, true, true, true, true, true, true, true, true, true, true, true, true, true, true, true, true, true, false, false, false] rfl rfl (any_of HT_.out (by kernel_rfl)) (fun _ _ _ h => h) (Or.inr ⟨by rfl, rfl⟩) ?_ ?_
              rotate_left
              · simp only [Act.put, List.setIfInBounds_toArray, List.set_cons_zero, List.set_cons_succ, i64_w, i32_w]
                rfl
              refine pure_ (i := 22) (N := some 47) (v := undef) (a' := ?_) #[true, true, true, true, true, true, true, true, true, true, true, true, true, true, true, true, true, true, true, true, true, true, true, false, false] rfl rfl (any_of HT_.out (by kernel_rfl)) (fun _ _ _ h => h) (Or.inr ⟨by rfl, rfl⟩) ?_ ?_
              rotate_left
              · simp only [Act.put, List.setIfInBounds_toArray, List.set_cons_zero, List.set_cons_succ, i64_w, i32_w]
                rfl
              refine pure_ (i := 23) (N := some 48) (v := undef) (a' := ?_) #[true, true, true, true, true, true, true, true, true, true, true, true, true, true, true, true, true, true, true, true, true, true, true, true, false] rfl rfl (any_of HT_.out (by kernel_rfl)) (fun _ _ _ h => h) (Or.inr ⟨by rfl, rfl⟩) ?_ ?_
              rotate_left
              · simp only [Act.put, List.setIfInBounds_toArray, List.set_cons_zero, List.set_cons_succ, i64_w, i32_w]
                rfl
              refine pure_ (i := 24) (N := some 49) (v := ?_) (a' := ?_) #[true, true, true, true, true, true, true, true, true, true, true, true, true, true, true, true, true, true, true, true, true, true, true, true, true] rfl rfl (any_of HT_.out (by kernel_rfl)) (fun _ _ _ h => h) (Or.inl ⟨by rfl, ?_⟩) ?_ ?_
              rotate_left
              · intro w'
                go_simp
                with_reducible rfl
              rotate_left
              · simp only [Act.put, List.setIfInBounds_toArray, List.set_cons_zero, List.set_cons_succ, i64_w, i32_w]
                rfl
              refine done_ (done_of HT_.out (by kernel_rfl)) ?_
              try go_wp2
              go_meet
              case rel => exact ⟨_, (true), (by first | rfl | (simp; done) | (simp [*]; done)), H', ⟨by first | omega | exact Nat.le_refl _⟩, ⟨by refine blk_up ?_; exact BK542.out⟩, ⟨by refine blk_up ?_; exact BK548.out⟩, ⟨by repeat (first | (with_reducible first | exact HB.out | apply below_alloc | apply pw_below_drewN | apply below_drew1 | refine below_set ?_ GE542.out | refine below_set ?_ GE548.out) | exact HB.out)⟩⟩
            · rw [if_neg c25] at H
              have c25b0 : (!(t544 == t539) || (!(t545.toList == t540.toList) || (!(t546 == t541)))) = false := by simpa using c25
              clear c25
              replace H := Option.bind_eq_some_iff.mp H
              obtain ⟨t551, A300, H⟩ := H
              replace H : ((spec_TotalDigits.f k t539 t540 t541).bind fun t552 => (laws_FnDecs.j0 k l0 (t551 != t552))) = some r := H
              have A30 := Aside0.mk A300
              clear A300
              replace H := Option.bind_eq_some_iff.mp H
              obtain ⟨t552, A310, H⟩ := H
              replace H : (laws_FnDecs.j0 k l0 (t551 != t552)) = some r := H
              have A31 := Aside0.mk A310
              clear A310
              have H' := Aside0.mk H
              clear H
              try go_wp2
              have n0_ : Aside0 ((((w13.setCell ⟨gb548, 0, none⟩ (.bool t544)).setCell ⟨gb548, 1, none⟩ (.string t545)).setCell ⟨gb548, 2, none⟩ (.int .i64 t546)).heap[gb542]? = some (.cells #[.bool t539, .string t540, .int .i64 t541] 26 (0, 0))) := ⟨by refine blk_up ?_; refine blk_far ?_ NB542_548.out _; refine blk_up ?_; refine blk_far ?_ NB542_548.out _; refine blk_up ?_; refine blk_far ?_ NB542_548.out _; refine blk_up ?_; exact BK542.out⟩
              have n1_ : Aside0 ((((w13.setCell ⟨gb548, 0, none⟩ (.bool t544)).setCell ⟨gb548, 1, none⟩ (.string t545)).setCell ⟨gb548, 2, none⟩ (.int .i64 t546)).heap[gb548]? = some (.cells #[.bool t544, .string t545, .int .i64 t546] 26 (0, 0))) := ⟨by refine blk_up ?_; refine blk_put (cs := #[.bool t544, .string t545, .int .i64 0]) ?_ 2 _ rfl; refine blk_up ?_; refine blk_put (cs := #[.bool t544, .string (⟨#[]⟩ : ByteArray), .int .i64 0]) ?_ 1 _ rfl; refine blk_up ?_; refine blk_put (cs := #[.bool false, .string (⟨#[]⟩ : ByteArray), .int .i64 0]) ?_ 0 _ rfl; refine blk_up ?_; exact BK548.out⟩
              have n2_ : Aside0 (Below w.heap.size w (((w13.setCell ⟨gb548, 0, none⟩ (.bool t544)).setCell ⟨gb548, 1, none⟩ (.string t545)).setCell ⟨gb548, 2, none⟩ (.int .i64 t546))) := ⟨by repeat (first | (with_reducible first | exact HB.out | apply below_alloc | apply pw_below_drewN | apply below_drew1 | refine below_set ?_ GE542.out | refine below_set ?_ GE548.out) | exact HB.out)⟩
              (try clear BK542)
              (try clear BK548)
              (try clear HB)
              generalize (((w13.setCell ⟨gb548, 0, none⟩ (.bool t544)).setCell ⟨gb548, 1, none⟩ (.string t545)).setCell ⟨gb548, 2, none⟩ (.int .i64 t546)) = w32 at n0_ n1_ n2_ ⊢
              have BK542 := n0_
              have BK548 := n1_
              have HB := n2_
              clear n0_ n1_ n2_
              have n0_ := Aside0.mk (blk_drew BK542.out)
              have n1_ := Aside0.mk (blk_drew BK548.out)
              have n2_ := Aside0.mk (below_drew1 HB.out)
              clear BK542
              clear BK548
              clear HB
              have BK542 := n0_
              have BK548 := n1_
              have HB := n2_
              clear n0_ n1_ n2_
              refine start_ (n := 25) (S := fun w' => w'.cell? ⟨gb542, 0, none⟩ = some (.bool t539) ∧ w'.cell? ⟨gb542, 1, none⟩ = some (.string t540) ∧ w'.cell? ⟨gb542, 2, none⟩ = some (.int .i64 t541) ∧ w'.cell? ⟨gb548, 0, none⟩ = some (.bool t544) ∧ w'.cell? ⟨gb548, 1, none⟩ = some (.string t545) ∧ w'.cell? ⟨gb548, 2, none⟩ = some (.int .i64 t546)) (ds := []) #[false, false, false, false, false, false, false, false, false, false, false, false, false, false, false, false, false, false, false, false, false, false, false, false, false] (by kernel_rfl) rfl rfl ⟨(blk_cell BK542.out 0).trans rfl, (blk_cell BK542.out 1).trans rfl, (blk_cell BK542.out 2).trans rfl, (blk_cell BK548.out 0).trans rfl, (blk_cell BK548.out 1).trans rfl, (blk_cell BK548.out 2).trans rfl⟩ (fun hHeld => ?_); refine with_tabW laws_FnDecs.tab6 laws_FnDecs.bits6 (fun HT_ HW_ => ?_)
              generalize w32.drew = w33 at BK542 BK548 HB hHeld ⊢
              refine pure_ (i := 0) (N := some 25) (v := ?_) (a' := ?_) #[true, false, false, false, false, false, false, false, false, false, false, false, false, false, false, false, false, false, false, false, false, false, false, false, false] rfl rfl (any_of HT_.out (by kernel_rfl)) (fun _ _ _ h => h) (Or.inl ⟨by rfl, ?_⟩) ?_ ?_
              rotate_left
              · intro w'
                go_simp
                with_reducible rfl
              rotate_left
              · simp only [Act.put, List.setIfInBounds_toArray, List.set_cons_zero, List.set_cons_succ, i64_w, i32_w]
                rfl
              refine take_ (i := 1) (N := some 26) (v := ?_) (a' := ?_) #[true, true, false, false, false, false, false, false, false, false, false, false, false, false, false, false, false, false, false, false, false, false, false, false, false] rfl rfl (take_ofW HT_.out HW_.out (by kernel_rfl)) (fun _ _ _ h => h) (Or.inl ⟨by rfl, ?_⟩) hHeld ?_ ?_
              rotate_left
              · rintro w' ⟨s0, s1, s2, s3, s4, s5⟩
                go_simp
                with_reducible rfl
              rotate_left
              · simp only [Act.put, List.setIfInBounds_toArray, List.set_cons_zero, List.set_cons_succ, i64_w, i32_w]
                rfl
              refine one_ (i := 2) (N := some 27) #[true, true, true, false, false, false, false, false, false, false, false, false, false, false, false, false, false, false, false, false, false, false, false, false, false] rfl rfl (one_of HT_.out (by kernel_rfl)) (by decide) (fun K hK => ?_)
              refine goes_ Tryd.func26 (by kernel_rfl) rfl #[.agg #[.bool t539, .string t540, .int .i64 t541]] (by rfl) rfl rfl (by (try simp only [List.map_toArray, List.map_cons, List.map_nil]); first | done | rfl | (simp only [List.length_drop, List.length_take]; rfl)) ?_
              with_reducible refine (spec_DecText.calls k t539 t540 t541 t549 _ A16.out).mono ?_
              rintro e w34 ⟨rfl, hb⟩
              refine ⟨_, rfl, ?_⟩
              have n0_ := Aside0.mk (blk_below (g := gb542) (o := .cells #[.bool t539, .string t540, .int .i64 t541] 26 (0, 0)) (by refine blk_up ?_; exact BK542.out) hb)
              have n1_ := Aside0.mk (blk_below (g := gb548) (o := .cells #[.bool t544, .string t545, .int .i64 t546] 26 (0, 0)) (by refine blk_up ?_; exact BK548.out) hb)
              have n2_ := Aside0.mk (below_step (by repeat (first | (with_reducible first | exact HB.out | apply below_alloc | apply pw_below_drewN | apply below_drew1 | refine below_set ?_ GE542.out | refine below_set ?_ GE548.out) | exact HB.out)) hb)
              clear BK542
              clear BK548
              clear HB
              have BK542 := n0_
              have BK548 := n1_
              have HB := n2_
              clear n0_ n1_ n2_
              (try clear hb)
              (try clear hb2)
              (try clear hk)
              (try clear hi)
              refine hK.out _ _ ⟨(blk_cell BK542.out 0).trans rfl, (blk_cell BK542.out 1).trans rfl, (blk_cell BK542.out 2).trans rfl, (blk_cell BK548.out 0).trans rfl, (blk_cell BK548.out 1).trans rfl, (blk_cell BK548.out 2).trans rfl⟩ (fun hHeld => ?_)
              clear hK K
              refine norm_ (a' := ?_) ?_ ?_
              rotate_left
              · show Act.put _ (some 27) _ = _
                simp only [Act.put, List.setIfInBounds_toArray, List.set_cons_zero, List.set_cons_succ, i64_w, i32_w]
                rfl
              refine pure_ (i := 3) (N := some 28) (v := ?_) (a' := ?_) #[true, true, true, true, false, false, false, false, false, false, false, false, false, false, false, false, false, false, false, false, false, false, false, false, false] rfl rfl (any_of HT_.out (by kernel_rfl)) (fun _ _ _ h => h) (Or.inl ⟨by rfl, ?_⟩) ?_ ?_
              rotate_left
              · intro w'
                go_simp
                with_reducible rfl
              rotate_left
              · simp only [Act.put, List.setIfInBounds_toArray, List.set_cons_zero, List.set_cons_succ, i64_w, i32_w]
                rfl
              refine pure_ (i := 4) (N := some 29) (v := ?_) (a' := ?_) #[true, true, true, true, true, false, false, false, false, false, false, false, false, false, false, false, false, false, false, false, false, false, false, false, false] rfl rfl (any_of HT_.out (by kernel_rfl)) (fun _ _ _ h => h) (Or.inl ⟨by rfl, ?_⟩) ?_ ?_
              rotate_left
              · intro w'
                go_simp
                with_reducible rfl
              rotate_left
              · simp only [Act.put, List.setIfInBounds_toArray, List.set_cons_zero, List.set_cons_succ, i64_w, i32_w]
                rfl
              refine pure_ (i := 5) (N := some 30) (v := ?_) (a' := ?_) #[true, true, true, true, true, true, false, false, false, false, false, false, false, false, false, false, false, false, false, false, false, false, false, false, false] rfl rfl (any_of HT_.out (by kernel_rfl)) (fun _ _ _ h => h) (Or.inl ⟨by rfl, ?_⟩) ?_ ?_
              rotate_left
              · intro w'
                go_simp
                with_reducible rfl
              rotate_left
              · simp only [Act.put, List.setIfInBounds_toArray, List.set_cons_zero, List.set_cons_succ, i64_w, i32_w]
                rfl
              refine take_ (i := 6) (N := some 31) (v := ?_) (a' := ?_) #[true, true, true, true, true, true, true, false, false, false, false, false, false, false, false, false, false, false, false, false, false, false, false, false, false] rfl rfl (take_ofW HT_.out HW_.out (by kernel_rfl)) (fun _ _ _ h => h) (Or.inl ⟨by rfl, ?_⟩) hHeld ?_ ?_
              rotate_left
              · rintro w' ⟨s0, s1, s2, s3, s4, s5⟩
                go_simp
                with_reducible rfl
              rotate_left
              · simp only [Act.put, List.setIfInBounds_toArray, List.set_cons_zero, List.set_cons_succ, i64_w, i32_w]
                rfl
              refine one_ (i := 7) (N := some 32) #[true, true, true, true, true, true, true, true, false, false, false, false, false, false, false, false, false, false, false, false, false, false, false, false, false] rfl rfl (one_of HT_.out (by kernel_rfl)) (by decide) (fun K hK => ?_)
              refine goes_ Tryd.func27 (by kernel_rfl) rfl #[.agg #[.bool t539, .string t540, .int .i64 t541]] (by rfl) rfl rfl (by (try simp only [List.map_toArray, List.map_cons, List.map_nil]); first | done | rfl | (simp only [List.length_drop, List.length_take]; rfl)) ?_
              with_reducible refine (impl_DecOk.calls t539 t540 t541 t550 _ A18.out).mono ?_
              rintro e w35 ⟨rfl, hb⟩
              refine ⟨_, rfl, ?_⟩
              have n0_ := Aside0.mk (blk_below (g := gb542) (o := .cells #[.bool t539, .string t540, .int .i64 t541] 26 (0, 0)) (by refine blk_up ?_; exact BK542.out) hb)
              have n1_ := Aside0.mk (blk_below (g := gb548) (o := .cells #[.bool t544, .string t545, .int .i64 t546] 26 (0, 0)) (by refine blk_up ?_; exact BK548.out) hb)
              have n2_ := Aside0.mk (below_step (by repeat (first | (with_reducible first | exact HB.out | apply below_alloc | apply pw_below_drewN | apply below_drew1 | refine below_set ?_ GE542.out | refine below_set ?_ GE548.out) | exact HB.out)) hb)
              clear BK542
              clear BK548
              clear HB
              have BK542 := n0_
              have BK548 := n1_
              have HB := n2_
              clear n0_ n1_ n2_
              (try clear hb)
              (try clear hb2)
              (try clear hk)
              (try clear hi)
              refine hK.out _ _ ⟨(blk_cell BK542.out 0).trans rfl, (blk_cell BK542.out 1).trans rfl, (blk_cell BK542.out 2).trans rfl, (blk_cell BK548.out 0).trans rfl, (blk_cell BK548.out 1).trans rfl, (blk_cell BK548.out 2).trans rfl⟩ (fun hHeld => ?_)
              clear hK K
              refine norm_ (a' := ?_) ?_ ?_
              rotate_left
              · show Act.put _ (some 32) _ = _
                simp only [Act.put, List.setIfInBounds_toArray, List.set_cons_zero, List.set_cons_succ, i64_w, i32_w]
                rfl
              refine pure_ (i := 8) (N := some 33) (v := ?_) (a' := ?_) #[true, true, true, true, true, true, true, true, true, false, false, false, false, false, false, false, false, false, false, false, false, false, false, false, false] rfl rfl (any_of HT_.out (by kernel_rfl)) (fun _ _ _ h => h) (Or.inl ⟨by rfl, ?_⟩) ?_ ?_
              rotate_left
              · intro w'
                go_simp
                with_reducible rfl
              rotate_left
              · simp only [Act.put, List.setIfInBounds_toArray, List.set_cons_zero, List.set_cons_succ, i64_w, i32_w]
                rfl
              refine pure_ (i := 9) (N := some 34) (v := ?_) (a' := ?_) #[true, true, true, true, true, true, true, true, true, true, false, false, false, false, false, false, false, false, false, false, false, false, false, false, false] rfl rfl (any_of HT_.out (by kernel_rfl)) (fun _ _ _ h => h) (Or.inl ⟨by rfl, ?_⟩) ?_ ?_
              rotate_left
              · intro w'
                go_simp
                with_reducible rfl
              rotate_left
              · simp only [Act.put, List.setIfInBounds_toArray, List.set_cons_zero, List.set_cons_succ, i64_w, i32_w]
                rfl
              refine pure_ (i := 10) (N := some 35) (v := ?_) (a' := ?_) #[true, true, true, true, true, true, true, true, true, true, true, false, false, false, false, false, false, false, false, false, false, false, false, false, false] rfl rfl (any_of HT_.out (by kernel_rfl)) (fun _ _ _ h => h) (Or.inl ⟨by rfl, ?_⟩) ?_ ?_
              rotate_left
              · intro w'
                go_simp
                with_reducible rfl
              rotate_left
              · simp only [Act.put, List.setIfInBounds_toArray, List.set_cons_zero, List.set_cons_succ, i64_w, i32_w]
                rfl
              refine pure_ (i := 11) (N := some 36) (v := ?_) (a' := ?_) #[true, true, true, true, true, true, true, true, true, true, true, true, false, false, false, false, false, false, false, false, false, false, false, false, false] rfl rfl (any_of HT_.out (by kernel_rfl)) (fun _ _ _ h => h) (Or.inl ⟨by rfl, ?_⟩) ?_ ?_
              rotate_left
              · intro w'
                go_simp
                with_reducible rfl
              rotate_left
              · simp only [Act.put, List.setIfInBounds_toArray, List.set_cons_zero, List.set_cons_succ, i64_w, i32_w]
                rfl
              refine pure_ (i := 12) (N := some 37) (v := ?_) (a' := ?_) #[true, true, true, true, true, true, true, true, true, true, true, true, true, false, false, false, false, false, false, false, false, false, false, false, false] rfl rfl (any_of HT_.out (by kernel_rfl)) (fun _ _ _ h => h) (Or.inl ⟨by rfl, ?_⟩) ?_ ?_
              rotate_left
              · intro w'
                go_simp
                with_reducible rfl
              rotate_left
              · simp only [Act.put, List.setIfInBounds_toArray, List.set_cons_zero, List.set_cons_succ, i64_w, i32_w]
                rfl
              refine take_ (i := 13) (N := some 38) (v := ?_) (a' := ?_) #[true, true, true, true, true, true, true, true, true, true, true, true, true, true, false, false, false, false, false, false, false, false, false, false, false] rfl rfl (take_ofW HT_.out HW_.out (by kernel_rfl)) (fun _ _ _ h => h) (Or.inl ⟨by rfl, ?_⟩) hHeld ?_ ?_
              rotate_left
              · rintro w' ⟨s0, s1, s2, s3, s4, s5⟩
                go_simp
                with_reducible rfl
              rotate_left
              · simp only [Act.put, List.setIfInBounds_toArray, List.set_cons_zero, List.set_cons_succ, i64_w, i32_w]
                rfl
              refine take_ (i := 14) (N := some 39) (v := ?_) (a' := ?_) #[true, true, true, true, true, true, true, true, true, true, true, true, true, true, true, false, false, false, false, false, false, false, false, false, false] rfl rfl (take_ofW HT_.out HW_.out (by kernel_rfl)) (fun _ _ _ h => h) (Or.inl ⟨by rfl, ?_⟩) hHeld ?_ ?_
              rotate_left
              · rintro w' ⟨s0, s1, s2, s3, s4, s5⟩
                go_simp
                with_reducible rfl
              rotate_left
              · simp only [Act.put, List.setIfInBounds_toArray, List.set_cons_zero, List.set_cons_succ, i64_w, i32_w]
                rfl
              refine pure_ (i := 15) (N := some 40) (v := ?_) (a' := ?_) #[true, true, true, true, true, true, true, true, true, true, true, true, true, true, true, true, false, false, false, false, false, false, false, false, false] rfl rfl (any_of HT_.out (by kernel_rfl)) (fun _ _ _ h => h) (Or.inl ⟨by rfl, ?_⟩) ?_ ?_
              rotate_left
              · intro w'
                go_simp
                with_reducible rfl
              rotate_left
              · simp only [Act.put, List.setIfInBounds_toArray, List.set_cons_zero, List.set_cons_succ, i64_w, i32_w]
                rfl
              refine pure_ (i := 16) (N := some 41) (v := ?_) (a' := ?_) #[true, true, true, true, true, true, true, true, true, true, true, true, true, true, true, true, true, false, false, false, false, false, false, false, false] rfl rfl (any_of HT_.out (by kernel_rfl)) (fun _ _ _ h => h) (Or.inl ⟨by rfl, ?_⟩) ?_ ?_
              rotate_left
              · intro w'
                go_simp
                with_reducible rfl
              rotate_left
              · simp only [Act.put, List.setIfInBounds_toArray, List.set_cons_zero, List.set_cons_succ, i64_w, i32_w]
                rfl
              refine pure_ (i := 17) (N := some 42) (v := ?_) (a' := ?_) #[true, true, true, true, true, true, true, true, true, true, true, true, true, true, true, true, true, true, false, false, false, false, false, false, false] rfl rfl (any_of HT_.out (by kernel_rfl)) (fun _ _ _ h => h) (Or.inl ⟨by rfl, ?_⟩) ?_ ?_
              rotate_left
              · intro w'
                go_simp
                with_reducible rfl
              rotate_left
              · simp only [Act.put, List.setIfInBounds_toArray, List.set_cons_zero, List.set_cons_succ, i64_w, i32_w]
                rfl
              refine pure_ (i := 18) (N := some 43) (v := ?_) (a' := ?_) #[true, true, true, true, true, true, true, true, true, true, true, true, true, true, true, true, true, true, true, false, false, false, false, false, false] rfl rfl (any_of HT_.out (by kernel_rfl)) (fun _ _ _ h => h) (Or.inl ⟨by rfl, ?_⟩) ?_ ?_
              rotate_left
              · intro w'
                go_simp
                with_reducible rfl
              rotate_left
              · simp only [Act.put, List.setIfInBounds_toArray, List.set_cons_zero, List.set_cons_succ, i64_w, i32_w]
                rfl
              refine take_ (i := 19) (N := some 44) (v := ?_) (a' := ?_) #[true, true, true, true, true, true, true, true, true, true, true, true, true, true, true, true, true, true, true, true, false, false, false, false, false] rfl rfl (take_ofW HT_.out HW_.out (by kernel_rfl)) (fun _ _ _ h => h) (Or.inl ⟨by rfl, ?_⟩) hHeld ?_ ?_
              rotate_left
              · rintro w' ⟨s0, s1, s2, s3, s4, s5⟩
                go_simp
                with_reducible rfl
              rotate_left
              · simp only [Act.put, List.setIfInBounds_toArray, List.set_cons_zero, List.set_cons_succ, i64_w, i32_w]
                rfl
              refine take_ (i := 21) (N := some 46) (v := ?_) (a' := ?_) #[true, true, true, true, true, true, true, true, true, true, true, true, true, true, true, true, true, true, true, true, false, true, false, false, false] rfl rfl (take_ofW HT_.out HW_.out (by kernel_rfl)) (fun _ _ _ h => h) (Or.inl ⟨by rfl, ?_⟩) hHeld ?_ ?_
              rotate_left
              · rintro w' ⟨s0, s1, s2, s3, s4, s5⟩
                go_simp
                with_reducible rfl
              rotate_left
              · simp only [Act.put, List.setIfInBounds_toArray, List.set_cons_zero, List.set_cons_succ, i64_w, i32_w]
                rfl
              refine one_ (i := 20) (N := some 45) #[true, true, true, true, true, true, true, true, true, true, true, true, true, true, true, true, true, true, true, true, true, true, false, false, false] rfl rfl (one_of HT_.out (by kernel_rfl)) (by decide) (fun K hK => ?_)
              refine goes_ Tryd.func28 (by kernel_rfl) rfl #[.agg #[.bool t539, .string t540, .int .i64 t541]] (by rfl) rfl rfl (by (try simp only [List.map_toArray, List.map_cons, List.map_nil]); first | done | rfl | (simp only [List.length_drop, List.length_take]; rfl)) ?_
              with_reducible refine (impl_TotalDigits.calls t539 t540 t541 t551 _ A30.out).mono ?_
              rintro e w36 ⟨rfl, hb⟩
              refine ⟨_, rfl, ?_⟩
              have n0_ := Aside0.mk (blk_below (g := gb542) (o := .cells #[.bool t539, .string t540, .int .i64 t541] 26 (0, 0)) (by refine blk_up ?_; exact BK542.out) hb)
              have n1_ := Aside0.mk (blk_below (g := gb548) (o := .cells #[.bool t544, .string t545, .int .i64 t546] 26 (0, 0)) (by refine blk_up ?_; exact BK548.out) hb)
              have n2_ := Aside0.mk (below_step (by repeat (first | (with_reducible first | exact HB.out | apply below_alloc | apply pw_below_drewN | apply below_drew1 | refine below_set ?_ GE542.out | refine below_set ?_ GE548.out) | exact HB.out)) hb)
              clear BK542
              clear BK548
              clear HB
              have BK542 := n0_
              have BK548 := n1_
              have HB := n2_
              clear n0_ n1_ n2_
              (try clear hb)
              (try clear hb2)
              (try clear hk)
              (try clear hi)
              refine hK.out _ _ ⟨(blk_cell BK542.out 0).trans rfl, (blk_cell BK542.out 1).trans rfl, (blk_cell BK542.out 2).trans rfl, (blk_cell BK548.out 0).trans rfl, (blk_cell BK548.out 1).trans rfl, (blk_cell BK548.out 2).trans rfl⟩ (fun hHeld => ?_)
              clear hK K
              refine norm_ (a' := ?_) ?_ ?_
              rotate_left
              · show Act.put _ (some 45) _ = _
                simp only [Act.put, List.setIfInBounds_toArray, List.set_cons_zero, List.set_cons_succ, i64_w, i32_w]
                rfl
              refine one_ (i := 22) (N := some 47) #[true, true, true, true, true, true, true, true, true, true, true, true, true, true, true, true, true, true, true, true, true, true, true, false, false] rfl rfl (one_of HT_.out (by kernel_rfl)) (by decide) (fun K hK => ?_)
              refine goes_ Tryd.func29 (by kernel_rfl) rfl #[.agg #[.bool t539, .string t540, .int .i64 t541]] (by rfl) rfl rfl (by (try simp only [List.map_toArray, List.map_cons, List.map_nil]); first | done | rfl | (simp only [List.length_drop, List.length_take]; rfl)) ?_
              with_reducible refine (spec_TotalDigits.calls k t539 t540 t541 t552 _ A31.out).mono ?_
              rintro e w37 ⟨rfl, hb⟩
              refine ⟨_, rfl, ?_⟩
              have n0_ := Aside0.mk (blk_below (g := gb542) (o := .cells #[.bool t539, .string t540, .int .i64 t541] 26 (0, 0)) (by refine blk_up ?_; exact BK542.out) hb)
              have n1_ := Aside0.mk (blk_below (g := gb548) (o := .cells #[.bool t544, .string t545, .int .i64 t546] 26 (0, 0)) (by refine blk_up ?_; exact BK548.out) hb)
              have n2_ := Aside0.mk (below_step (by repeat (first | (with_reducible first | exact HB.out | apply below_alloc | apply pw_below_drewN | apply below_drew1 | refine below_set ?_ GE542.out | refine below_set ?_ GE548.out) | exact HB.out)) hb)
              clear BK542
              clear BK548
              clear HB
              have BK542 := n0_
              have BK548 := n1_
              have HB := n2_
              clear n0_ n1_ n2_
              (try clear hb)
              (try clear hb2)
              (try clear hk)
              (try clear hi)
              refine hK.out _ _ ⟨(blk_cell BK542.out 0).trans rfl, (blk_cell BK542.out 1).trans rfl, (blk_cell BK542.out 2).trans rfl, (blk_cell BK548.out 0).trans rfl, (blk_cell BK548.out 1).trans rfl, (blk_cell BK548.out 2).trans rfl⟩ (fun hHeld => ?_)
              clear hK K
              refine norm_ (a' := ?_) ?_ ?_
              rotate_left
              · show Act.put _ (some 47) _ = _
                simp only [Act.put, List.setIfInBounds_toArray, List.set_cons_zero, List.set_cons_succ, i64_w, i32_w]
                rfl
              refine pure_ (i := 23) (N := some 48) (v := ?_) (a' := ?_) #[true, true, true, true, true, true, true, true, true, true, true, true, true, true, true, true, true, true, true, true, true, true, true, true, false] rfl rfl (any_of HT_.out (by kernel_rfl)) (fun _ _ _ h => h) (Or.inl ⟨by rfl, ?_⟩) ?_ ?_
              rotate_left
              · intro w'
                go_simp
                with_reducible rfl
              rotate_left
              · simp only [Act.put, List.setIfInBounds_toArray, List.set_cons_zero, List.set_cons_succ, i64_w, i32_w]
                rfl
              refine pure_ (i := 24) (N := some 49) (v := ?_) (a' := ?_) #[true, true, true, true, true, true, true, true, true, true, true, true, true, true, true, true, true, true, true, true, true, true, true, true, true] rfl rfl (any_of HT_.out (by kernel_rfl)) (fun _ _ _ h => h) (Or.inl ⟨by rfl, ?_⟩) ?_ ?_
              rotate_left
              · intro w'
                go_simp
                with_reducible rfl
              rotate_left
              · simp only [Act.put, List.setIfInBounds_toArray, List.set_cons_zero, List.set_cons_succ, i64_w, i32_w]
                rfl
              refine done_ (done_of HT_.out (by kernel_rfl)) ?_
              try go_wp2
              go_meet
              case rel => exact ⟨_, ((t551 != t552)), (by first | rfl | (simp; done) | (simp [*]; done)), H', ⟨by first | omega | exact Nat.le_refl _⟩, ⟨by refine blk_up ?_; exact BK542.out⟩, ⟨by refine blk_up ?_; exact BK548.out⟩, ⟨by repeat (first | (with_reducible first | exact HB.out | apply below_alloc | apply pw_below_drewN | apply below_drew1 | refine below_set ?_ GE542.out | refine below_set ?_ GE548.out) | exact HB.out)⟩⟩
          · replace c24 := Bool.eq_false_iff.mpr c24
            subst c24
            have H1 : ((impl_TotalDigits.f t539 t540 t541).bind fun t553 => ((spec_TotalDigits.f k t539 t540 t541).bind fun t554 => (laws_FnDecs.j0 k l0 (t553 != t554)))) = some r := by rw [if_neg (show ¬ (false = true) by decide)] at H; exact H
            clear H
            have H := H1
            clear H1
            replace H := Option.bind_eq_some_iff.mp H
            obtain ⟨t553, A380, H⟩ := H
            replace H : ((spec_TotalDigits.f k t539 t540 t541).bind fun t554 => (laws_FnDecs.j0 k l0 (t553 != t554))) = some r := H
            have A38 := Aside0.mk A380
            clear A380
            replace H := Option.bind_eq_some_iff.mp H
            obtain ⟨t554, A390, H⟩ := H
            replace H : (laws_FnDecs.j0 k l0 (t553 != t554)) = some r := H
            have A39 := Aside0.mk A390
            clear A390
            have H' := Aside0.mk H
            clear H
            try go_wp2
            have n0_ : Aside0 ((((w13.setCell ⟨gb548, 0, none⟩ (.bool t544)).setCell ⟨gb548, 1, none⟩ (.string t545)).setCell ⟨gb548, 2, none⟩ (.int .i64 t546)).heap[gb542]? = some (.cells #[.bool t539, .string t540, .int .i64 t541] 26 (0, 0))) := ⟨by refine blk_up ?_; refine blk_far ?_ NB542_548.out _; refine blk_up ?_; refine blk_far ?_ NB542_548.out _; refine blk_up ?_; refine blk_far ?_ NB542_548.out _; refine blk_up ?_; exact BK542.out⟩
            have n1_ : Aside0 ((((w13.setCell ⟨gb548, 0, none⟩ (.bool t544)).setCell ⟨gb548, 1, none⟩ (.string t545)).setCell ⟨gb548, 2, none⟩ (.int .i64 t546)).heap[gb548]? = some (.cells #[.bool t544, .string t545, .int .i64 t546] 26 (0, 0))) := ⟨by refine blk_up ?_; refine blk_put (cs := #[.bool t544, .string t545, .int .i64 0]) ?_ 2 _ rfl; refine blk_up ?_; refine blk_put (cs := #[.bool t544, .string (⟨#[]⟩ : ByteArray), .int .i64 0]) ?_ 1 _ rfl; refine blk_up ?_; refine blk_put (cs := #[.bool false, .string (⟨#[]⟩ : ByteArray), .int .i64 0]) ?_ 0 _ rfl; refine blk_up ?_; exact BK548.out⟩
            have n2_ : Aside0 (Below w.heap.size w (((w13.setCell ⟨gb548, 0, none⟩ (.bool t544)).setCell ⟨gb548, 1, none⟩ (.string t545)).setCell ⟨gb548, 2, none⟩ (.int .i64 t546))) := ⟨by repeat (first | (with_reducible first | exact HB.out | apply below_alloc | apply pw_below_drewN | apply below_drew1 | refine below_set ?_ GE542.out | refine below_set ?_ GE548.out) | exact HB.out)⟩
            (try clear BK542)
            (try clear BK548)
            (try clear HB)
            generalize (((w13.setCell ⟨gb548, 0, none⟩ (.bool t544)).setCell ⟨gb548, 1, none⟩ (.string t545)).setCell ⟨gb548, 2, none⟩ (.int .i64 t546)) = w40 at n0_ n1_ n2_ ⊢
            have BK542 := n0_
            have BK548 := n1_
            have HB := n2_
            clear n0_ n1_ n2_
            have n0_ := Aside0.mk (blk_drew BK542.out)
            have n1_ := Aside0.mk (blk_drew BK548.out)
            have n2_ := Aside0.mk (below_drew1 HB.out)
            clear BK542
            clear BK548
            clear HB
            have BK542 := n0_
            have BK548 := n1_
            have HB := n2_
            clear n0_ n1_ n2_
            refine start_ (n := 25) (S := fun w' => w'.cell? ⟨gb542, 0, none⟩ = some (.bool t539) ∧ w'.cell? ⟨gb542, 1, none⟩ = some (.string t540) ∧ w'.cell? ⟨gb542, 2, none⟩ = some (.int .i64 t541)) (ds := []) #[false, false, false, false, false, false, false, false, false, false, false, false, false, false, false, false, false, false, false, false, false, false, false, false, false] (by kernel_rfl) rfl rfl ⟨(blk_cell BK542.out 0).trans rfl, (blk_cell BK542.out 1).trans rfl, (blk_cell BK542.out 2).trans rfl⟩ (fun hHeld => ?_); refine with_tabW laws_FnDecs.tab6 laws_FnDecs.bits6 (fun HT_ HW_ => ?_)
            generalize w40.drew = w41 at BK542 BK548 HB hHeld ⊢
            refine pure_ (i := 0) (N := some 25) (v := ?_) (a' := ?_) #[true, false, false, false, false, false, false, false, false, false, false, false, false, false, false, false, false, false, false, false, false, false, false, false, false] rfl rfl (any_of HT_.out (by kernel_rfl)) (fun _ _ _ h => h) (Or.inl ⟨by rfl, ?_⟩) ?_ ?_
            rotate_left
            · intro w'
              go_simp
              with_reducible rfl
            rotate_left
            · simp only [Act.put, List.setIfInBounds_toArray, List.set_cons_zero, List.set_cons_succ, i64_w, i32_w]
              rfl
            refine take_ (i := 1) (N := some 26) (v := ?_) (a' := ?_) #[true, true, false, false, false, false, false, false, false, false, false, false, false, false, false, false, false, false, false, false, false, false, false, false, false] rfl rfl (take_ofW HT_.out HW_.out (by kernel_rfl)) (fun _ _ _ h => h) (Or.inl ⟨by rfl, ?_⟩) hHeld ?_ ?_
            rotate_left
            · rintro w' ⟨s0, s1, s2⟩
              go_simp
              with_reducible rfl
            rotate_left
            · simp only [Act.put, List.setIfInBounds_toArray, List.set_cons_zero, List.set_cons_succ, i64_w, i32_w]
              rfl
            refine one_ (i := 2) (N := some 27) #[true, true, true, false, false, false, false, false, false, false, false, false, false, false, false, false, false, false, false, false, false, false, false, false, false] rfl rfl (one_of HT_.out (by kernel_rfl)) (by decide) (fun K hK => ?_)
            refine goes_ Tryd.func26 (by kernel_rfl) rfl #[.agg #[.bool t539, .string t540, .int .i64 t541]] (by rfl) rfl rfl (by (try simp only [List.map_toArray, List.map_cons, List.map_nil]); first | done | rfl | (simp only [List.length_drop, List.length_take]; rfl)) ?_
            with_reducible refine (spec_DecText.calls k t539 t540 t541 t549 _ A16.out).mono ?_
            rintro e w42 ⟨rfl, hb⟩
            refine ⟨_, rfl, ?_⟩
            have n0_ := Aside0.mk (blk_below (g := gb542) (o := .cells #[.bool t539, .string t540, .int .i64 t541] 26 (0, 0)) (by refine blk_up ?_; exact BK542.out) hb)
            have n1_ := Aside0.mk (blk_below (g := gb548) (o := .cells #[.bool t544, .string t545, .int .i64 t546] 26 (0, 0)) (by refine blk_up ?_; exact BK548.out) hb)
            have n2_ := Aside0.mk (below_step (by repeat (first | (with_reducible first | exact HB.out | apply below_alloc | apply pw_below_drewN | apply below_drew1 | refine below_set ?_ GE542.out | refine below_set ?_ GE548.out) | exact HB.out)) hb)
            clear BK542
            clear BK548
            clear HB
            have BK542 := n0_
            have BK548 := n1_
            have HB := n2_
            clear n0_ n1_ n2_
            (try clear hb)
            (try clear hb2)
            (try clear hk)
            (try clear hi)
            refine hK.out _ _ ⟨(blk_cell BK542.out 0).trans rfl, (blk_cell BK542.out 1).trans rfl, (blk_cell BK542.out 2).trans rfl⟩ (fun hHeld => ?_)
            clear hK K
            refine norm_ (a' := ?_) ?_ ?_
            rotate_left
            · show Act.put _ (some 27) _ = _
              simp only [Act.put, List.setIfInBounds_toArray, List.set_cons_zero, List.set_cons_succ, i64_w, i32_w]
              rfl
            refine pure_ (i := 3) (N := some 28) (v := ?_) (a' := ?_) #[true, true, true, true, false, false, false, false, false, false, false, false, false, false, false, false, false, false, false, false, false, false, false, false, false] rfl rfl (any_of HT_.out (by kernel_rfl)) (fun _ _ _ h => h) (Or.inl ⟨by rfl, ?_⟩) ?_ ?_
            rotate_left
            · intro w'
              go_simp
              with_reducible rfl
            rotate_left
            · simp only [Act.put, List.setIfInBounds_toArray, List.set_cons_zero, List.set_cons_succ, i64_w, i32_w]
              rfl
            refine pure_ (i := 4) (N := some 29) (v := ?_) (a' := ?_) #[true, true, true, true, true, false, false, false, false, false, false, false, false, false, false, false, false, false, false, false, false, false, false, false, false] rfl rfl (any_of HT_.out (by kernel_rfl)) (fun _ _ _ h => h) (Or.inl ⟨by rfl, ?_⟩) ?_ ?_
            rotate_left
            · intro w'
              go_simp
              with_reducible rfl
            rotate_left
            · simp only [Act.put, List.setIfInBounds_toArray, List.set_cons_zero, List.set_cons_succ, i64_w, i32_w]
              rfl
            refine pure_ (i := 5) (N := some 30) (v := ?_) (a' := ?_) #[true, true, true, true, true, true, false, false, false, false, false, false, false, false, false, false, false, false, false, false, false, false, false, false, false] rfl rfl (any_of HT_.out (by kernel_rfl)) (fun _ _ _ h => h) (Or.inl ⟨by rfl, ?_⟩) ?_ ?_
            rotate_left
            · intro w'
              go_simp
              with_reducible rfl
            rotate_left
            · simp only [Act.put, List.setIfInBounds_toArray, List.set_cons_zero, List.set_cons_succ, i64_w, i32_w]
              rfl
            refine take_ (i := 6) (N := some 31) (v := ?_) (a' := ?_) #[true, true, true, true, true, true, true, false, false, false, false, false, false, false, false, false, false, false, false, false, false, false, false, false, false] rfl rfl (take_ofW HT_.out HW_.out (by kernel_rfl)) (fun _ _ _ h => h) (Or.inl ⟨by rfl, ?_⟩) hHeld ?_ ?_
            rotate_left
            · rintro w' ⟨s0, s1, s2⟩
              go_simp
              with_reducible rfl
            rotate_left
            · simp only [Act.put, List.setIfInBounds_toArray, List.set_cons_zero, List.set_cons_succ, i64_w, i32_w]
              rfl
            refine one_ (i := 7) (N := some 32) #[true, true, true, true, true, true, true, true, false, false, false, false, false, false, false, false, false, false, false, false, false, false, false, false, false] rfl rfl (one_of HT_.out (by kernel_rfl)) (by decide) (fun K hK => ?_)
            refine goes_ Tryd.func27 (by kernel_rfl) rfl #[.agg #[.bool t539, .string t540, .int .i64 t541]] (by rfl) rfl rfl (by (try simp only [List.map_toArray, List.map_cons, List.map_nil]); first | done | rfl | (simp only [List.length_drop, List.length_take]; rfl)) ?_
            with_reducible refine (impl_DecOk.calls t539 t540 t541 t550 _ A18.out).mono ?_
            rintro e w43 ⟨rfl, hb⟩
            refine ⟨_, rfl, ?_⟩
            have n0_ := Aside0.mk (blk_below (g := gb542) (o := .cells #[.bool t539, .string t540, .int .i64 t541] 26 (0, 0)) (by refine blk_up ?_; exact BK542.out) hb)
            have n1_ := Aside0.mk (blk_below (g := gb548) (o := .cells #[.bool t544, .string t545, .int .i64 t546] 26 (0, 0)) (by refine blk_up ?_; exact BK548.out) hb)
            have n2_ := Aside0.mk (below_step (by repeat (first | (with_reducible first | exact HB.out | apply below_alloc | apply pw_below_drewN | apply below_drew1 | refine below_set ?_ GE542.out | refine below_set ?_ GE548.out) | exact HB.out)) hb)
            clear BK542
            clear BK548
            clear HB
            have BK542 := n0_
            have BK548 := n1_
            have HB := n2_
            clear n0_ n1_ n2_
            (try clear hb)
            (try clear hb2)
            (try clear hk)
            (try clear hi)
            refine hK.out _ _ ⟨(blk_cell BK542.out 0).trans rfl, (blk_cell BK542.out 1).trans rfl, (blk_cell BK542.out 2).trans rfl⟩ (fun hHeld => ?_)
            clear hK K
            refine norm_ (a' := ?_) ?_ ?_
            rotate_left
            · show Act.put _ (some 32) _ = _
              simp only [Act.put, List.setIfInBounds_toArray, List.set_cons_zero, List.set_cons_succ, i64_w, i32_w]
              rfl
            refine pure_ (i := 8) (N := some 33) (v := ?_) (a' := ?_) #[true, true, true, true, true, true, true, true, true, false, false, false, false, false, false, false, false, false, false, false, false, false, false, false, false] rfl rfl (any_of HT_.out (by kernel_rfl)) (fun _ _ _ h => h) (Or.inl ⟨by rfl, ?_⟩) ?_ ?_
            rotate_left
            · intro w'
              go_simp
              with_reducible rfl
            rotate_left
            · simp only [Act.put, List.setIfInBounds_toArray, List.set_cons_zero, List.set_cons_succ, i64_w, i32_w]
              rfl
            refine pure_ (i := 9) (N := some 34) (v := ?_) (a' := ?_) #[true, true, true, true, true, true, true, true, true, true, false, false, false, false, false, false, false, false, false, false, false, false, false, false, false] rfl rfl (any_of HT_.out (by kernel_rfl)) (fun _ _ _ h => h) (Or.inl ⟨by rfl, ?_⟩) ?_ ?_
            rotate_left
            · intro w'
              go_simp
              with_reducible rfl
            rotate_left
            · simp only [Act.put, List.setIfInBounds_toArray, List.set_cons_zero, List.set_cons_succ, i64_w, i32_w]
              rfl
            refine pure_ (i := 10) (N := some 35) (v := ?_) (a' := ?_) #[true, true, true, true, true, true, true, true, true, true, true, false, false, false, false, false, false, false, false, false, false, false, false, false, false] rfl rfl (any_of HT_.out (by kernel_rfl)) (fun _ _ _ h => h) (Or.inl ⟨by rfl, ?_⟩) ?_ ?_
            rotate_left
            · intro w'
              go_simp
              with_reducible rfl
            rotate_left
            · simp only [Act.put, List.setIfInBounds_toArray, List.set_cons_zero, List.set_cons_succ, i64_w, i32_w]
              rfl
            refine pure_ (i := 11) (N := some 36) (v := ?_) (a' := ?_) #[true, true, true, true, true, true, true, true, true, true, true, true, false, false, false, false, false, false, false, false, false, false, false, false, false] rfl rfl (any_of HT_.out (by kernel_rfl)) (fun _ _ _ h => h) (Or.inl ⟨by rfl, ?_⟩) ?_ ?_
            rotate_left
            · intro w'
              go_simp
              with_reducible rfl
            rotate_left
            · simp only [Act.put, List.setIfInBounds_toArray, List.set_cons_zero, List.set_cons_succ, i64_w, i32_w]
              rfl
            refine pure_ (i := 12) (N := some 37) (v := ?_) (a' := ?_) #[true, true, true, true, true, true, true, true, true, true, true, true, true, false, false, false, false, false, false, false, false, false, false, false, false] rfl rfl (any_of HT_.out (by kernel_rfl)) (fun _ _ _ h => h) (Or.inl ⟨by rfl, ?_⟩) ?_ ?_
            rotate_left
            · intro w'
              go_simp
              with_reducible rfl
            rotate_left
            · simp only [Act.put, List.setIfInBounds_toArray, List.set_cons_zero, List.set_cons_succ, i64_w, i32_w]
              rfl
            refine pure_ (i := 13) (N := some 38) (v := undef) (a' := ?_) #[true, true, true, true, true, true, true, true, true, true, true, true, true, true, false, false, false, false, false, false, false, false, false, false, false] rfl rfl (any_of HT_.out (by kernel_rfl)) (fun _ _ _ h => h) (Or.inr ⟨by rfl, rfl⟩) ?_ ?_
            rotate_left
            · simp only [Act.put, List.setIfInBounds_toArray, List.set_cons_zero, List.set_cons_succ, i64_w, i32_w]
              rfl
            refine pure_ (i := 14) (N := some 39) (v := undef) (a' := ?_) #[true, true, true, true, true, true, true, true, true, true, true, true, true, true, true, false, false, false, false, false, false, false, false, false, false] rfl rfl (any_of HT_.out (by kernel_rfl)) (fun _ _ _ h => h) (Or.inr ⟨by rfl, rfl⟩) ?_ ?_
            rotate_left
            · simp only [Act.put, List.setIfInBounds_toArray, List.set_cons_zero, List.set_cons_succ, i64_w, i32_w]
              rfl
            refine pure_ (i := 15) (N := some 40) (v := undef) (a' := ?_) #[true, true, true, true, true, true, true, true, true, true, true, true, true, true, true, true, false, false, false, false, false, false, false, false, false] rfl rfl (any_of HT_.out (by kernel_rfl)) (fun _ _ _ h => h) (Or.inr ⟨by rfl, rfl⟩) ?_ ?_
            rotate_left
            · simp only [Act.put, List.setIfInBounds_toArray, List.set_cons_zero, List.set_cons_succ, i64_w, i32_w]
              rfl
            refine pure_ (i := 16) (N := some 41) (v := ?_) (a' := ?_) #[true, true, true, true, true, true, true, true, true, true, true, true, true, true, true, true, true, false, false, false, false, false, false, false, false] rfl rfl (any_of HT_.out (by kernel_rfl)) (fun _ _ _ h => h) (Or.inl ⟨by rfl, ?_⟩) ?_ ?_
            rotate_left
            · intro w'
              go_simp
              with_reducible rfl
            rotate_left
            · simp only [Act.put, List.setIfInBounds_toArray, List.set_cons_zero, List.set_cons_succ, i64_w, i32_w]
              rfl
            refine pure_ (i := 17) (N := some 42) (v := ?_) (a' := ?_) #[true, true, true, true, true, true, true, true, true, true, true, true, true, true, true, true, true, true, false, false, false, false, false, false, false] rfl rfl (any_of HT_.out (by kernel_rfl)) (fun _ _ _ h => h) (Or.inl ⟨by rfl, ?_⟩) ?_ ?_
            rotate_left
            · intro w'
              go_simp
              with_reducible rfl
            rotate_left
            · simp only [Act.put, List.setIfInBounds_toArray, List.set_cons_zero, List.set_cons_succ, i64_w, i32_w]
              rfl
            refine pure_ (i := 18) (N := some 43) (v := ?_) (a' := ?_) #[true, true, true, true, true, true, true, true, true, true, true, true, true, true, true, true, true, true, true, false, false, false, false, false, false] rfl rfl (any_of HT_.out (by kernel_rfl)) (fun _ _ _ h => h) (Or.inl ⟨by rfl, ?_⟩) ?_ ?_
            rotate_left
            · intro w'
              go_simp
              with_reducible rfl
            rotate_left
            · simp only [Act.put, List.setIfInBounds_toArray, List.set_cons_zero, List.set_cons_succ, i64_w, i32_w]
              rfl
            refine take_ (i := 19) (N := some 44) (v := ?_) (a' := ?_) #[true, true, true, true, true, true, true, true, true, true, true, true, true, true, true, true, true, true, true, true, false, false, false, false, false] rfl rfl (take_ofW HT_.out HW_.out (by kernel_rfl)) (fun _ _ _ h => h) (Or.inl ⟨by rfl, ?_⟩) hHeld ?_ ?_
            rotate_left
            · rintro w' ⟨s0, s1, s2⟩
              go_simp
              with_reducible rfl
            rotate_left
            · simp only [Act.put, List.setIfInBounds_toArray, List.set_cons_zero, List.set_cons_succ, i64_w, i32_w]
              rfl
            refine take_ (i := 21) (N := some 46) (v := ?_) (a' := ?_) #[true, true, true, true, true, true, true, true, true, true, true, true, true, true, true, true, true, true, true, true, false, true, false, false, false] rfl rfl (take_ofW HT_.out HW_.out (by kernel_rfl)) (fun _ _ _ h => h) (Or.inl ⟨by rfl, ?_⟩) hHeld ?_ ?_
            rotate_left
            · rintro w' ⟨s0, s1, s2⟩
              go_simp
              with_reducible rfl
            rotate_left
            · simp only [Act.put, List.setIfInBounds_toArray, List.set_cons_zero, List.set_cons_succ, i64_w, i32_w]
              rfl
            refine one_ (i := 20) (N := some 45) #[true, true, true, true, true, true, true, true, true, true, true, true, true, true, true, true, true, true, true, true, true, true, false, false, false] rfl rfl (one_of HT_.out (by kernel_rfl)) (by decide) (fun K hK => ?_)
            refine goes_ Tryd.func28 (by kernel_rfl) rfl #[.agg #[.bool t539, .string t540, .int .i64 t541]] (by rfl) rfl rfl (by (try simp only [List.map_toArray, List.map_cons, List.map_nil]); first | done | rfl | (simp only [List.length_drop, List.length_take]; rfl)) ?_
            with_reducible refine (impl_TotalDigits.calls t539 t540 t541 t553 _ A38.out).mono ?_
            rintro e w44 ⟨rfl, hb⟩
            refine ⟨_, rfl, ?_⟩
            have n0_ := Aside0.mk (blk_below (g := gb542) (o := .cells #[.bool t539, .string t540, .int .i64 t541] 26 (0, 0)) (by refine blk_up ?_; exact BK542.out) hb)
            have n1_ := Aside0.mk (blk_below (g := gb548) (o := .cells #[.bool t544, .string t545, .int .i64 t546] 26 (0, 0)) (by refine blk_up ?_; exact BK548.out) hb)
            have n2_ := Aside0.mk (below_step (by repeat (first | (with_reducible first | exact HB.out | apply below_alloc | apply pw_below_drewN | apply below_drew1 | refine below_set ?_ GE542.out | refine below_set ?_ GE548.out) | exact HB.out)) hb)
            clear BK542
            clear BK548
            clear HB
            have BK542 := n0_
            have BK548 := n1_
            have HB := n2_
            clear n0_ n1_ n2_
            (try clear hb)
            (try clear hb2)
            (try clear hk)
            (try clear hi)
            refine hK.out _ _ ⟨(blk_cell BK542.out 0).trans rfl, (blk_cell BK542.out 1).trans rfl, (blk_cell BK542.out 2).trans rfl⟩ (fun hHeld => ?_)
            clear hK K
            refine norm_ (a' := ?_) ?_ ?_
            rotate_left
            · show Act.put _ (some 45) _ = _
              simp only [Act.put, List.setIfInBounds_toArray, List.set_cons_zero, List.set_cons_succ, i64_w, i32_w]
              rfl
            refine one_ (i := 22) (N := some 47) #[true, true, true, true, true, true, true, true, true, true, true, true, true, true, true, true, true, true, true, true, true, true, true, false, false] rfl rfl (one_of HT_.out (by kernel_rfl)) (by decide) (fun K hK => ?_)
            refine goes_ Tryd.func29 (by kernel_rfl) rfl #[.agg #[.bool t539, .string t540, .int .i64 t541]] (by rfl) rfl rfl (by (try simp only [List.map_toArray, List.map_cons, List.map_nil]); first | done | rfl | (simp only [List.length_drop, List.length_take]; rfl)) ?_
            with_reducible refine (spec_TotalDigits.calls k t539 t540 t541 t554 _ A39.out).mono ?_
            rintro e w45 ⟨rfl, hb⟩
            refine ⟨_, rfl, ?_⟩
            have n0_ := Aside0.mk (blk_below (g := gb542) (o := .cells #[.bool t539, .string t540, .int .i64 t541] 26 (0, 0)) (by refine blk_up ?_; exact BK542.out) hb)
            have n1_ := Aside0.mk (blk_below (g := gb548) (o := .cells #[.bool t544, .string t545, .int .i64 t546] 26 (0, 0)) (by refine blk_up ?_; exact BK548.out) hb)
            have n2_ := Aside0.mk (below_step (by repeat (first | (with_reducible first | exact HB.out | apply below_alloc | apply pw_below_drewN | apply below_drew1 | refine below_set ?_ GE542.out | refine below_set ?_ GE548.out) | exact HB.out)) hb)
            clear BK542
            clear BK548
            clear HB
            have BK542 := n0_
            have BK548 := n1_
            have HB := n2_
            clear n0_ n1_ n2_
            (try clear hb)
            (try clear hb2)
            (try clear hk)
            (try clear hi)
            refine hK.out _ _ ⟨(blk_cell BK542.out 0).trans rfl, (blk_cell BK542.out 1).trans rfl, (blk_cell BK542.out 2).trans rfl⟩ (fun hHeld => ?_)
            clear hK K
            refine norm_ (a' := ?_) ?_ ?_
            rotate_left
            · show Act.put _ (some 47) _ = _
              simp only [Act.put, List.setIfInBounds_toArray, List.set_cons_zero, List.set_cons_succ, i64_w, i32_w]
              rfl
            refine pure_ (i := 23) (N := some 48) (v := ?_) (a' := ?_) #[true, true, true, true, true, true, true, true, true, true, true, true, true, true, true, true, true, true, true, true, true, true, true, true, false] rfl rfl (any_of HT_.out (by kernel_rfl)) (fun _ _ _ h => h) (Or.inl ⟨by rfl, ?_⟩) ?_ ?_
            rotate_left
            · intro w'
              go_simp
              with_reducible rfl
            rotate_left
            · simp only [Act.put, List.setIfInBounds_toArray, List.set_cons_zero, List.set_cons_succ, i64_w, i32_w]
              rfl
            refine pure_ (i := 24) (N := some 49) (v := ?_) (a' := ?_) #[true, true, true, true, true, true, true, true, true, true, true, true, true, true, true, true, true, true, true, true, true, true, true, true, true] rfl rfl (any_of HT_.out (by kernel_rfl)) (fun _ _ _ h => h) (Or.inl ⟨by rfl, ?_⟩) ?_ ?_
            rotate_left
            · intro w'
              go_simp
              with_reducible rfl
            rotate_left
            · simp only [Act.put, List.setIfInBounds_toArray, List.set_cons_zero, List.set_cons_succ, i64_w, i32_w]
              rfl
            refine done_ (done_of HT_.out (by kernel_rfl)) ?_
            try go_wp2
            go_meet
            case rel => exact ⟨_, ((t553 != t554)), (by first | rfl | (simp; done) | (simp [*]; done)), H', ⟨by first | omega | exact Nat.le_refl _⟩, ⟨by refine blk_up ?_; exact BK542.out⟩, ⟨by refine blk_up ?_; exact BK548.out⟩, ⟨by repeat (first | (with_reducible first | exact HB.out | apply below_alloc | apply pw_below_drewN | apply below_drew1 | refine below_set ?_ GE542.out | refine below_set ?_ GE548.out) | exact HB.out)⟩⟩
      · rw [if_neg c17] at H
        have c17b0 : (t543.toList == t549.toList) = false := beq_eq_false_iff_ne.mpr c17
        have c17b1 : (t543.toList != t549.toList) = true := bne_iff_ne.mpr c17
        (first | rw [c17b0] | (simp only [i64_w, i32_w]; rw [c17b0]) | skip)
        have H' := Aside0.mk H
        clear H
        try go_wp2
        have n0_ : Aside0 ((((w13.setCell ⟨gb548, 0, none⟩ (.bool t544)).setCell ⟨gb548, 1, none⟩ (.string t545)).setCell ⟨gb548, 2, none⟩ (.int .i64 t546)).heap[gb542]? = some (.cells #[.bool t539, .string t540, .int .i64 t541] 26 (0, 0))) := ⟨by refine blk_up ?_; refine blk_far ?_ NB542_548.out _; refine blk_up ?_; refine blk_far ?_ NB542_548.out _; refine blk_up ?_; refine blk_far ?_ NB542_548.out _; refine blk_up ?_; exact BK542.out⟩
        have n1_ : Aside0 ((((w13.setCell ⟨gb548, 0, none⟩ (.bool t544)).setCell ⟨gb548, 1, none⟩ (.string t545)).setCell ⟨gb548, 2, none⟩ (.int .i64 t546)).heap[gb548]? = some (.cells #[.bool t544, .string t545, .int .i64 t546] 26 (0, 0))) := ⟨by refine blk_up ?_; refine blk_put (cs := #[.bool t544, .string t545, .int .i64 0]) ?_ 2 _ rfl; refine blk_up ?_; refine blk_put (cs := #[.bool t544, .string (⟨#[]⟩ : ByteArray), .int .i64 0]) ?_ 1 _ rfl; refine blk_up ?_; refine blk_put (cs := #[.bool false, .string (⟨#[]⟩ : ByteArray), .int .i64 0]) ?_ 0 _ rfl; refine blk_up ?_; exact BK548.out⟩
        have n2_ : Aside0 (Below w.heap.size w (((w13.setCell ⟨gb548, 0, none⟩ (.bool t544)).setCell ⟨gb548, 1, none⟩ (.string t545)).setCell ⟨gb548, 2, none⟩ (.int .i64 t546))) := ⟨by repeat (first | (with_reducible first | exact HB.out | apply below_alloc | apply pw_below_drewN | apply below_drew1 | refine below_set ?_ GE542.out | refine below_set ?_ GE548.out) | exact HB.out)⟩
        (try clear BK542)
        (try clear BK548)
        (try clear HB)
        generalize (((w13.setCell ⟨gb548, 0, none⟩ (.bool t544)).setCell ⟨gb548, 1, none⟩ (.string t545)).setCell ⟨gb548, 2, none⟩ (.int .i64 t546)) = w46 at n0_ n1_ n2_ ⊢
        have BK542 := n0_
        have BK548 := n1_
        have HB := n2_
        clear n0_ n1_ n2_
        have n0_ := Aside0.mk (blk_drew BK542.out)
        have n1_ := Aside0.mk (blk_drew BK548.out)
        have n2_ := Aside0.mk (below_drew1 HB.out)
        clear BK542
        clear BK548
        clear HB
        have BK542 := n0_
        have BK548 := n1_
        have HB := n2_
        clear n0_ n1_ n2_
        refine start_ (n := 25) (S := fun w' => w'.cell? ⟨gb542, 0, none⟩ = some (.bool t539) ∧ w'.cell? ⟨gb542, 1, none⟩ = some (.string t540) ∧ w'.cell? ⟨gb542, 2, none⟩ = some (.int .i64 t541)) (ds := []) #[false, false, false, false, false, false, false, false, false, false, false, false, false, false, false, false, false, false, false, false, false, false, false, false, false] (by kernel_rfl) rfl rfl ⟨(blk_cell BK542.out 0).trans rfl, (blk_cell BK542.out 1).trans rfl, (blk_cell BK542.out 2).trans rfl⟩ (fun hHeld => ?_); refine with_tabW laws_FnDecs.tab6 laws_FnDecs.bits6 (fun HT_ HW_ => ?_)
        generalize w46.drew = w47 at BK542 BK548 HB hHeld ⊢
        refine pure_ (i := 0) (N := some 25) (v := ?_) (a' := ?_) #[true, false, false, false, false, false, false, false, false, false, false, false, false, false, false, false, false, false, false, false, false, false, false, false, false] rfl rfl (any_of HT_.out (by kernel_rfl)) (fun _ _ _ h => h) (Or.inl ⟨by rfl, ?_⟩) ?_ ?_
        rotate_left
        · intro w'
          go_simp
          with_reducible rfl
        rotate_left
        · simp only [Act.put, List.setIfInBounds_toArray, List.set_cons_zero, List.set_cons_succ, i64_w, i32_w]
          rfl
        refine take_ (i := 1) (N := some 26) (v := ?_) (a' := ?_) #[true, true, false, false, false, false, false, false, false, false, false, false, false, false, false, false, false, false, false, false, false, false, false, false, false] rfl rfl (take_ofW HT_.out HW_.out (by kernel_rfl)) (fun _ _ _ h => h) (Or.inl ⟨by rfl, ?_⟩) hHeld ?_ ?_
        rotate_left
        · rintro w' ⟨s0, s1, s2⟩
          go_simp
          with_reducible rfl
        rotate_left
        · simp only [Act.put, List.setIfInBounds_toArray, List.set_cons_zero, List.set_cons_succ, i64_w, i32_w]
          rfl
        refine one_ (i := 2) (N := some 27) #[true, true, true, false, false, false, false, false, false, false, false, false, false, false, false, false, false, false, false, false, false, false, false, false, false] rfl rfl (one_of HT_.out (by kernel_rfl)) (by decide) (fun K hK => ?_)
        refine goes_ Tryd.func26 (by kernel_rfl) rfl #[.agg #[.bool t539, .string t540, .int .i64 t541]] (by rfl) rfl rfl (by (try simp only [List.map_toArray, List.map_cons, List.map_nil]); first | done | rfl | (simp only [List.length_drop, List.length_take]; rfl)) ?_
        with_reducible refine (spec_DecText.calls k t539 t540 t541 t549 _ A16.out).mono ?_
        rintro e w48 ⟨rfl, hb⟩
        refine ⟨_, rfl, ?_⟩
        have n0_ := Aside0.mk (blk_below (g := gb542) (o := .cells #[.bool t539, .string t540, .int .i64 t541] 26 (0, 0)) (by refine blk_up ?_; exact BK542.out) hb)
        have n1_ := Aside0.mk (blk_below (g := gb548) (o := .cells #[.bool t544, .string t545, .int .i64 t546] 26 (0, 0)) (by refine blk_up ?_; exact BK548.out) hb)
        have n2_ := Aside0.mk (below_step (by repeat (first | (with_reducible first | exact HB.out | apply below_alloc | apply pw_below_drewN | apply below_drew1 | refine below_set ?_ GE542.out | refine below_set ?_ GE548.out) | exact HB.out)) hb)
        clear BK542
        clear BK548
        clear HB
        have BK542 := n0_
        have BK548 := n1_
        have HB := n2_
        clear n0_ n1_ n2_
        (try clear hb)
        (try clear hb2)
        (try clear hk)
        (try clear hi)
        refine hK.out _ _ ⟨(blk_cell BK542.out 0).trans rfl, (blk_cell BK542.out 1).trans rfl, (blk_cell BK542.out 2).trans rfl⟩ (fun hHeld => ?_)
        clear hK K
        refine norm_ (a' := ?_) ?_ ?_
        rotate_left
        · show Act.put _ (some 27) _ = _
          simp only [Act.put, List.setIfInBounds_toArray, List.set_cons_zero, List.set_cons_succ, i64_w, i32_w]
          rfl
        refine pure_ (i := 3) (N := some 28) (v := ?_) (a' := ?_) #[true, true, true, true, false, false, false, false, false, false, false, false, false, false, false, false, false, false, false, false, false, false, false, false, false] rfl rfl (any_of HT_.out (by kernel_rfl)) (fun _ _ _ h => h) (Or.inl ⟨by rfl, ?_⟩) ?_ ?_
        rotate_left
        · intro w'
          go_simp
          with_reducible rfl
        rotate_left
        · simp only [Act.put, List.setIfInBounds_toArray, List.set_cons_zero, List.set_cons_succ, i64_w, i32_w]
          rfl
        refine pure_ (i := 4) (N := some 29) (v := ?_) (a' := ?_) #[true, true, true, true, true, false, false, false, false, false, false, false, false, false, false, false, false, false, false, false, false, false, false, false, false] rfl rfl (any_of HT_.out (by kernel_rfl)) (fun _ _ _ h => h) (Or.inl ⟨by rfl, ?_⟩) ?_ ?_
        rotate_left
        · intro w'
          go_simp
          with_reducible rfl
        rotate_left
        · simp only [Act.put, List.setIfInBounds_toArray, List.set_cons_zero, List.set_cons_succ, i64_w, i32_w]
          rfl
        refine pure_ (i := 5) (N := some 30) (v := undef) (a' := ?_) #[true, true, true, true, true, true, false, false, false, false, false, false, false, false, false, false, false, false, false, false, false, false, false, false, false] rfl rfl (any_of HT_.out (by kernel_rfl)) (fun _ _ _ h => h) (Or.inr ⟨by rfl, rfl⟩) ?_ ?_
        rotate_left
        · simp only [Act.put, List.setIfInBounds_toArray, List.set_cons_zero, List.set_cons_succ, i64_w, i32_w]
          rfl
        refine pure_ (i := 6) (N := some 31) (v := undef) (a' := ?_) #[true, true, true, true, true, true, true, false, false, false, false, false, false, false, false, false, false, false, false, false, false, false, false, false, false] rfl rfl (any_of HT_.out (by kernel_rfl)) (fun _ _ _ h => h) (Or.inr ⟨by rfl, rfl⟩) ?_ ?_
        rotate_left
        · simp only [Act.put, List.setIfInBounds_toArray, List.set_cons_zero, List.set_cons_succ, i64_w, i32_w]
          rfl
        refine pure_ (i := 7) (N := some 32) (v := undef) (a' := ?_) #[true, true, true, true, true, true, true, true, false, false, false, false, false, false, false, false, false, false, false, false, false, false, false, false, false] rfl rfl (any_of HT_.out (by kernel_rfl)) (fun _ _ _ h => h) (Or.inr ⟨by rfl, rfl⟩) ?_ ?_
        rotate_left
        · simp only [Act.put, List.setIfInBounds_toArray, List.set_cons_zero, List.set_cons_succ, i64_w, i32_w]
          rfl
        refine pure_ (i := 8) (N := some 33) (v := undef) (a' := ?_) #[true, true, true, true, true, true, true, true, true, false, false, false, false, false, false, false, false, false, false, false, false, false, false, false, false] rfl rfl (any_of HT_.out (by kernel_rfl)) (fun _ _ _ h => h) (Or.inr ⟨by rfl, rfl⟩) ?_ ?_
        rotate_left
        · simp only [Act.put, List.setIfInBounds_toArray, List.set_cons_zero, List.set_cons_succ, i64_w, i32_w]
          rfl
        refine pure_ (i := 9) (N := some 34) (v := ?_) (a' := ?_) #[true, true, true, true, true, true, true, true, true, true, false, false, false, false, false, false, false, false, false, false, false, false, false, false, false] rfl rfl (any_of HT_.out (by kernel_rfl)) (fun _ _ _ h => h) (Or.inl ⟨by rfl, ?_⟩) ?_ ?_
        rotate_left
        · intro w'
          go_simp
          with_reducible rfl
        rotate_left
        · simp only [Act.put, List.setIfInBounds_toArray, List.set_cons_zero, List.set_cons_succ, i64_w, i32_w]
          rfl
        refine pure_ (i := 10) (N := some 35) (v := ?_) (a' := ?_) #[true, true, true, true, true, true, true, true, true, true, true, false, false, false, false, false, false, false, false, false, false, false, false, false, false] rfl rfl (any_of HT_.out (by kernel_rfl)) (fun _ _ _ h => h) (Or.inl ⟨by rfl, ?_⟩) ?_ ?_
        rotate_left
        · intro w'
          go_simp
          with_reducible rfl
        rotate_left
        · simp only [Act.put, List.setIfInBounds_toArray, List.set_cons_zero, List.set_cons_succ, i64_w, i32_w]
          rfl
        refine pure_ (i := 11) (N := some 36) (v := undef) (a' := ?_) #[true, true, true, true, true, true, true, true, true, true, true, true, false, false, false, false, false, false, false, false, false, false, false, false, false] rfl rfl (any_of HT_.out (by kernel_rfl)) (fun _ _ _ h => h) (Or.inr ⟨by rfl, rfl⟩) ?_ ?_
        rotate_left
        · simp only [Act.put, List.setIfInBounds_toArray, List.set_cons_zero, List.set_cons_succ, i64_w, i32_w]
          rfl
        refine pure_ (i := 12) (N := some 37) (v := undef) (a' := ?_) #[true, true, true, true, true, true, true, true, true, true, true, true, true, false, false, false, false, false, false, false, false, false, false, false, false] rfl rfl (any_of HT_.out (by kernel_rfl)) (fun _ _ _ h => h) (Or.inr ⟨by rfl, rfl⟩) ?_ ?_
        rotate_left
        · simp only [Act.put, List.setIfInBounds_toArray, List.set_cons_zero, List.set_cons_succ, i64_w, i32_w]
          rfl
        refine pure_ (i := 13) (N := some 38) (v := undef) (a' := ?_) #[true, true, true, true, true, true, true, true, true, true, true, true, true, true, false, false, false, false, false, false, false, false, false, false, false] rfl rfl (any_of HT_.out (by kernel_rfl)) (fun _ _ _ h => h) (Or.inr ⟨by rfl, rfl⟩) ?_ ?_
        rotate_left
        · simp only [Act.put, List.setIfInBounds_toArray, List.set_cons_zero, List.set_cons_succ, i64_w, i32_w]
          rfl
        refine pure_ (i := 14) (N := some 39) (v := undef) (a' := ?_) #[true, true, true, true, true, true, true, true, true, true, true, true, true, true, true, false, false, false, false, false, false, false, false, false, false] rfl rfl (any_of HT_.out (by kernel_rfl)) (fun _ _ _ h => h) (Or.inr ⟨by rfl, rfl⟩) ?_ ?_
        rotate_left
        · simp only [Act.put, List.setIfInBounds_toArray, List.set_cons_zero, List.set_cons_succ, i64_w, i32_w]
          rfl
        refine pure_ (i := 15) (N := some 40) (v := undef) (a' := ?_) #[true, true, true, true, true, true, true, true, true, true, true, true, true, true, true, true, false, false, false, false, false, false, false, false, false] rfl rfl (any_of HT_.out (by kernel_rfl)) (fun _ _ _ h => h) (Or.inr ⟨by rfl, rfl⟩) ?_ ?_
        rotate_left
        · simp only [Act.put, List.setIfInBounds_toArray, List.set_cons_zero, List.set_cons_succ, i64_w, i32_w]
          rfl
        refine pure_ (i := 16) (N := some 41) (v := undef) (a' := ?_) #[true, true, true, true, true, true, true, true, true, true, true, true, true, true, true, true, true, false, false, false, false, false, false, false, false] rfl rfl (any_of HT_.out (by kernel_rfl)) (fun _ _ _ h => h) (Or.inr ⟨by rfl, rfl⟩) ?_ ?_
        rotate_left
        · simp only [Act.put, List.setIfInBounds_toArray, List.set_cons_zero, List.set_cons_succ, i64_w, i32_w]
          rfl
        refine pure_ (i := 17) (N := some 42) (v := ?_) (a' := ?_) #[true, true, true, true, true, true, true, true, true, true, true, true, true, true, true, true, true, true, false, false, false, false, false, false, false] rfl rfl (any_of HT_.out (by kernel_rfl)) (fun _ _ _ h => h) (Or.inl ⟨by rfl, ?_⟩) ?_ ?_
        rotate_left
        · intro w'
          go_simp
          with_reducible rfl
        rotate_left
        · simp only [Act.put, List.setIfInBounds_toArray, List.set_cons_zero, List.set_cons_succ, i64_w, i32_w]
          rfl
        refine pure_ (i := 18) (N := some 43) (v := ?_) (a' := ?_) #[true, true, true, true, true, true, true, true, true, true, true, true, true, true, true, true, true, true, true, false, false, false, false, false, false] rfl rfl (any_of HT_.out (by kernel_rfl)) (fun _ _ _ h => h) (Or.inl ⟨by rfl, ?_⟩) ?_ ?_
        rotate_left
        · intro w'
          go_simp
          with_reducible rfl
        rotate_left
        · simp only [Act.put, List.setIfInBounds_toArray, List.set_cons_zero, List.set_cons_succ, i64_w, i32_w]
          rfl
        refine pure_ (i := 19) (N := some 44) (v := undef) (a' := ?_) #[true, true, true, true, true, true, true, true, true, true, true, true, true, true, true, true, true, true, true, true, false, false, false, false, false] rfl rfl (any_of HT_.out (by kernel_rfl)) (fun _ _ _ h => h) (Or.inr ⟨by rfl, rfl⟩) ?_ ?_
        rotate_left
        · simp only [Act.put, List.setIfInBounds_toArray, List.set_cons_zero, List.set_cons_succ, i64_w, i32_w]
          rfl
        refine pure_ (i := 20) (N := some 45) (v := undef) (a' := ?_) #[true, true, true, true, true, true, true, true, true, true, true, true, true, true, true, true, true, true, true, true, true, false, false, false, false] rfl rfl (any_of HT_.out (by kernel_rfl)) (fun _ _ _ h => h) (Or.inr ⟨by rfl, rfl⟩) ?_ ?_
        rotate_left
        · simp only [Act.put, List.setIfInBounds_toArray, List.set_cons_zero, List.set_cons_succ, i64_w, i32_w]
          rfl
        refine pure_ (i := 21) (N := some 46) (v := undef) (a' := ?_) #[true, true, true, true, true, true, true, true, true, true, true, true, true, true, true, true, true, true, true, true, true, true, false, false, false] rfl rfl (any_of HT_.out (by kernel_rfl)) (fun _ _ _ h => h) (Or.inr ⟨by rfl, rfl⟩) ?_ ?_
        rotate_left
        · simp only [Act.put, List.setIfInBounds_toArray, List.set_cons_zero, List.set_cons_succ, i64_w, i32_w]
          rfl
        refine pure_ (i := 22) (N := some 47) (v := undef) (a' := ?_) #[true, true, true, true, true, true, true, true, true, true, true, true, true, true, true, true, true, true, true, true, true, true, true, false, false] rfl rfl (any_of HT_.out (by kernel_rfl)) (fun _ _ _ h => h) (Or.inr ⟨by rfl, rfl⟩) ?_ ?_
        rotate_left
        · simp only [Act.put, List.setIfInBounds_toArray, List.set_cons_zero, List.set_cons_succ, i64_w, i32_w]
          rfl
        refine pure_ (i := 23) (N := some 48) (v := undef) (a' := ?_) #[true, true, true, true, true, true, true, true, true, true, true, true, true, true, true, true, true, true, true, true, true, true, true, true, false] rfl rfl (any_of HT_.out (by kernel_rfl)) (fun _ _ _ h => h) (Or.inr ⟨by rfl, rfl⟩) ?_ ?_
        rotate_left
        · simp only [Act.put, List.setIfInBounds_toArray, List.set_cons_zero, List.set_cons_succ, i64_w, i32_w]
          rfl
        refine pure_ (i := 24) (N := some 49) (v := ?_) (a' := ?_) #[true, true, true, true, true, true, true, true, true, true, true, true, true, true, true, true, true, true, true, true, true, true, true, true, true] rfl rfl (any_of HT_.out (by kernel_rfl)) (fun _ _ _ h => h) (Or.inl ⟨by rfl, ?_⟩) ?_ ?_
        rotate_left
        · intro w'
          go_simp
          with_reducible rfl
        rotate_left
        · simp only [Act.put, List.setIfInBounds_toArray, List.set_cons_zero, List.set_cons_succ, i64_w, i32_w]
          rfl
        refine done_ (done_of HT_.out (by kernel_rfl)) ?_
        try go_wp2
        go_meet
        case rel => exact ⟨_, (true), (by first | rfl | (simp; done) | (simp [*]; done)), H', ⟨by first | omega | exact Nat.le_refl _⟩, ⟨by refine blk_up ?_; exact BK542.out⟩, ⟨by refine blk_up ?_; exact BK548.out⟩, ⟨by repeat (first | (with_reducible first | exact HB.out | apply below_alloc | apply pw_below_drewN | apply below_drew1 | refine below_set ?_ GE542.out | refine below_set ?_ GE548.out) | exact HB.out)⟩⟩
    case rest =>
      clear HC7
      try clear c1
      try clear c2
      try clear p2
      try clear c17
      try clear c17b0
      try clear c17b1
      try clear c24
      try clear c26
      try clear c27
      try clear c28
      try clear c29
      obtain ⟨kq, x49_6, rfl, HA, HJ6, BK542, BK548, HB⟩ := hcut
      cases kq with
      | zero => exact absurd HA.out (by simp [laws_FnDecs.j0])
      | succ kj6 =>
        have H := HA.out
        clear HA
        simp only [laws_FnDecs.j0] at H
        by_cases c49 : x49_6 = true
        · subst c49
          have H1 : (some false) = some r := by rw [if_pos rfl] at H; exact H
          clear H
          have H := H1
          clear H1
          obtain rfl := Option.some.inj H
          go_wp2
          go_ret
          exact ⟨by first | rfl | (simp [errW_none, errW_some] <;> rfl) | (simp [*, errW_none, errW_some] <;> rfl), by repeat (first | (with_reducible first | exact HB.out | apply below_alloc | apply pw_below_drewN | apply below_drew1 | refine below_set ?_ GE542.out | refine below_set ?_ GE548.out) | exact HB.out)⟩
        · replace c49 := Bool.eq_false_iff.mpr c49
          subst c49
          have H1 : ((spec_DrawReadDec.f kj6 l0).bind fun t555 => ((impl_ReadDec.f kj6 t555).bind fun bt556 => ((spec_ReadDec.f kj6 t555).bind fun bt561 => ((impl_DecText.f kj6 bt556.1 bt556.2.1 bt556.2.2.1).bind fun t566 => ((impl_ReadDec.f kj6 t566).bind fun bt567 => (if (bt556.2.2.2 == bt561.2.2.2) = true then (if bt556.2.2.2 = true then (if bt567.2.2.2 = true then (some (bt567.1 == bt556.1 && (bt567.2.1.toList == bt556.2.1.toList && (bt567.2.2.1 == bt556.2.2.1)))) else (some false)) else (some true)) else (some false))))))) = some r := by rw [if_neg (show ¬ (false = true) by decide)] at H; exact H
          clear H
          have H := H1
          clear H1
          replace H := Option.bind_eq_some_iff.mp H
          obtain ⟨t555, A500, H⟩ := H
          replace H : ((impl_ReadDec.f kj6 t555).bind fun bt556 => ((spec_ReadDec.f kj6 t555).bind fun bt561 => ((impl_DecText.f kj6 bt556.1 bt556.2.1 bt556.2.2.1).bind fun t566 => ((impl_ReadDec.f kj6 t566).bind fun bt567 => (if (bt556.2.2.2 == bt561.2.2.2) = true then (if bt556.2.2.2 = true then (if bt567.2.2.2 = true then (some (bt567.1 == bt556.1 && (bt567.2.1.toList == bt556.2.1.toList && (bt567.2.2.1 == bt556.2.2.1)))) else (some false)) else (some true)) else (some false)))))) = some r := H
          have A50 := Aside0.mk A500
          clear A500
          replace H := Option.bind_eq_some_iff.mp H
          obtain ⟨⟨t556, t557, t558, t559⟩, A510, H⟩ := H
          replace H : ((spec_ReadDec.f kj6 t555).bind fun bt561 => ((impl_DecText.f kj6 t556 t557 t558).bind fun t566 => ((impl_ReadDec.f kj6 t566).bind fun bt567 => (if (t559 == bt561.2.2.2) = true then (if t559 = true then (if bt567.2.2.2 = true then (some (bt567.1 == t556 && (bt567.2.1.toList == t557.toList && (bt567.2.2.1 == t558)))) else (some false)) else (some true)) else (some false))))) = some r := H
          have A51 := Aside0.mk A510
          clear A510
          replace H := Option.bind_eq_some_iff.mp H
          obtain ⟨⟨t561, t562, t563, t564⟩, A520, H⟩ := H
          replace H : ((impl_DecText.f kj6 t556 t557 t558).bind fun t566 => ((impl_ReadDec.f kj6 t566).bind fun bt567 => (if (t559 == t564) = true then (if t559 = true then (if bt567.2.2.2 = true then (some (bt567.1 == t556 && (bt567.2.1.toList == t557.toList && (bt567.2.2.1 == t558)))) else (some false)) else (some true)) else (some false)))) = some r := H
          have A52 := Aside0.mk A520
          clear A520
          replace H := Option.bind_eq_some_iff.mp H
          obtain ⟨t566, A530, H⟩ := H
          replace H : ((impl_ReadDec.f kj6 t566).bind fun bt567 => (if (t559 == t564) = true then (if t559 = true then (if bt567.2.2.2 = true then (some (bt567.1 == t556 && (bt567.2.1.toList == t557.toList && (bt567.2.2.1 == t558)))) else (some false)) else (some true)) else (some false))) = some r := H
          have A53 := Aside0.mk A530
          clear A530
          replace H := Option.bind_eq_some_iff.mp H
          obtain ⟨⟨t567, t568, t569, t570⟩, A540, H⟩ := H
          replace H : (if (t559 == t564) = true then (if t559 = true then (if t570 = true then (some (t567 == t556 && (t568.toList == t557.toList && (t569 == t558)))) else (some false)) else (some true)) else (some false)) = some r := H
          have A54 := Aside0.mk A540
          clear A540
          by_cases c55 : (t559 == t564) = true
          · rw [if_pos c55] at H
            have c55b0 : (t559 == t564) = true := c55
            (try (have c55b1 : decide (t559 = t564) = true := by simpa using c55))
            (try (have c55b2 : (t559 == t564) = true := by simpa using c55))
            clear c55
            by_cases c56 : t559 = true
            · subst c56
              have H1 : (if t570 = true then (some (t567 == t556 && (t568.toList == t557.toList && (t569 == t558)))) else (some false)) = some r := by rw [if_pos rfl] at H; exact H
              clear H
              have H := H1
              clear H1
              by_cases c57 : t570 = true
              · subst c57
                have H1 : (some (t567 == t556 && (t568.toList == t557.toList && (t569 == t558)))) = some r := by rw [if_pos rfl] at H; exact H
                clear H
                have H := H1
                clear H1
                obtain rfl := Option.some.inj H
                go_wp2_with (first | ((with_reducible refine gate_callee (f := 30) rfl ?_); refine goesL_ (some 51) rfl rfl Tryd.func30 (by kernel_rfl) rfl #[.slice A0 l0.length c0] rfl (by (try simp only [List.map_toArray, List.map_cons, List.map_nil]); first | done | rfl | (simp only [List.length_drop, List.length_take]; rfl)) ?_; (with_reducible refine (spec_DrawReadDec.calls kj6 _ _ l0 t555 _ ?side1 ?side2 A50.out).mono ?_); (case side1 => repeat (first | exact (Kd.C_below HR0.out HB.out) | (with_reducible refine Kd.C_alloc ?_ _) | (with_reducible refine Kd.C_drewN ?_ _) | (with_reducible refine Kd.C_drew ?_))); (case side2 => exact HC0.out); rintro e w58 ⟨rfl, hb⟩; refine ⟨_, rfl, ?_⟩; have n0_ := Aside0.mk (blk_below (g := gb542) (o := .cells #[.bool t539, .string t540, .int .i64 t541] 26 (0, 0)) (by refine blk_up ?_; exact BK542.out) hb); have n1_ := Aside0.mk (blk_below (g := gb548) (o := .cells #[.bool t544, .string t545, .int .i64 t546] 26 (0, 0)) (by refine blk_up ?_; exact BK548.out) hb); have n2_ := Aside0.mk (below_step (by repeat (first | (with_reducible first | exact HB.out | apply below_alloc | apply pw_below_drewN | apply below_drew1 | refine below_set ?_ GE542.out | refine below_set ?_ GE548.out) | exact HB.out)) hb); clear BK542; clear BK548; clear HB; have BK542 := n0_; have BK548 := n1_; have HB := n2_; clear n0_ n1_ n2_; (try clear hb); (try clear hb2); (try clear hk); (try clear hi)) | ((with_reducible refine gate_callee (f := 25) rfl ?_); refine goesL_ (some 54) rfl rfl Tryd.func25 (by kernel_rfl) rfl #[.string t555] rfl (by (try simp only [List.map_toArray, List.map_cons, List.map_nil]); first | done | rfl | (simp only [List.length_drop, List.length_take]; rfl)) ?_; (with_reducible refine (impl_ReadDec.calls kj6 t555 t556 t557 t558 true _ A51.out).mono ?_); rintro e w59 ⟨rfl, hb⟩; refine ⟨_, rfl, ?_⟩; have n0_ := Aside0.mk (blk_below (g := gb542) (o := .cells #[.bool t539, .string t540, .int .i64 t541] 26 (0, 0)) (by refine blk_up ?_; exact BK542.out) hb); have n1_ := Aside0.mk (blk_below (g := gb548) (o := .cells #[.bool t544, .string t545, .int .i64 t546] 26 (0, 0)) (by refine blk_up ?_; exact BK548.out) hb); have n2_ := Aside0.mk (below_step (by repeat (first | (with_reducible first | exact HB.out | apply below_alloc | apply pw_below_drewN | apply below_drew1 | refine below_set ?_ GE542.out | refine below_set ?_ GE548.out) | exact HB.out)) hb); clear BK542; clear BK548; clear HB; have BK542 := n0_; have BK548 := n1_; have HB := n2_; clear n0_ n1_ n2_; (try clear hb); (try clear hb2); (try clear hk); (try clear hi)) | ((with_reducible refine gate_dst (N := 8) rfl ?_); refine box_event ?hg (N := 8) ?hd (cs := #[.bool false, .string (⟨#[]⟩ : ByteArray), .int .i64 0]) (t := 26) ?hr ?_; (case hd => rfl); (case hg => rfl); (case hr => first | (go_simp; done) | (go_simp; rfl)); intro gb560 hg w60 hbox hb; have n0_ := Aside0.mk (blk_below (g := gb542) (o := .cells #[.bool t539, .string t540, .int .i64 t541] 26 (0, 0)) (by refine blk_up ?_; exact BK542.out) hb); have n1_ := Aside0.mk (blk_below (g := gb548) (o := .cells #[.bool t544, .string t545, .int .i64 t546] 26 (0, 0)) (by refine blk_up ?_; exact BK548.out) hb); have n2_ := Aside0.mk (below_step (by repeat (first | (with_reducible first | exact HB.out | apply below_alloc | apply pw_below_drewN | apply below_drew1 | refine below_set ?_ GE542.out | refine below_set ?_ GE548.out) | exact HB.out)) hb); have n3_ := Aside0.mk (hbox); have n4_ := Aside0.mk ((by rw [hg]; exact (below_size (by repeat (first | (with_reducible first | exact HB.out | apply below_alloc | apply pw_below_drewN | apply below_drew1 | refine below_set ?_ GE542.out | refine below_set ?_ GE548.out) | exact HB.out))) : w.heap.size ≤ gb560)); have n5_ := Aside0.mk ((by rw [hg]; exact (below_size (by repeat (first | (with_reducible first | exact HB.out | apply below_alloc | apply pw_below_drewN | apply below_drew1 | refine below_set ?_ GE542.out | refine below_set ?_ GE548.out) | exact HB.out))) : w.heap.size ≤ gb560)); have n6_ := Aside0.mk ((by rw [hg]; exact Nat.ne_of_lt (blk_lt (g := gb542) (o := .cells #[.bool t539, .string t540, .int .i64 t541] 26 (0, 0)) (by refine blk_up ?_; exact BK542.out)) : gb542 ≠ gb560)); have n7_ := Aside0.mk ((by rw [hg]; exact Nat.ne_of_gt (blk_lt (g := gb542) (o := .cells #[.bool t539, .string t540, .int .i64 t541] 26 (0, 0)) (by refine blk_up ?_; exact BK542.out)) : gb560 ≠ gb542)); have n8_ := Aside0.mk ((by rw [hg]; exact Nat.ne_of_lt (blk_lt (g := gb548) (o := .cells #[.bool t544, .string t545, .int .i64 t546] 26 (0, 0)) (by refine blk_up ?_; exact BK548.out)) : gb548 ≠ gb560)); have n9_ := Aside0.mk ((by rw [hg]; exact Nat.ne_of_gt (blk_lt (g := gb548) (o := .cells #[.bool t544, .string t545, .int .i64 t546] 26 (0, 0)) (by refine blk_up ?_; exact BK548.out)) : gb560 ≠ gb548)); clear BK542; clear BK548; clear HB; have BK542 := n0_; have BK548 := n1_; have HB := n2_; have BK560 := n3_; have GW560 := n4_; have GE560 := n5_; have NB542_560 := n6_; have NB560_542 := n7_; have NB548_560 := n8_; have NB560_548 := n9_; clear n0_ n1_ n2_ n3_ n4_ n5_ n6_ n7_ n8_ n9_; clear hb hbox hg; have hnb61 := NB560_542.out; have hnc61 := NB542_560.out; have hnb62 := NB560_548.out; have hnc62 := NB548_560.out; have hcz63_0 : w60.cell? ⟨gb560, 0, none⟩ = some (.bool false) := (blk_cell BK560.out 0).trans rfl; have hcz63_1 : w60.cell? ⟨gb560, 1, none⟩ = some (.string (⟨#[]⟩ : ByteArray)) := (blk_cell BK560.out 1).trans rfl; have hcz63_2 : w60.cell? ⟨gb560, 2, none⟩ = some (.int .i64 0) := (blk_cell BK560.out 2).trans rfl; have hfz63_0 := blk_frozen BK560.out 0; have hfz63_1 := blk_frozen BK560.out 1; have hfz63_2 := blk_frozen BK560.out 2) | ((with_reducible refine gate_callee (f := 31) rfl ?_); refine goesL_ (some 59) rfl rfl Tryd.func31 (by kernel_rfl) rfl #[.string t555] rfl (by (try simp only [List.map_toArray, List.map_cons, List.map_nil]); first | done | rfl | (simp only [List.length_drop, List.length_take]; rfl)) ?_; (with_reducible refine (spec_ReadDec.calls kj6 t555 t561 t562 t563 t564 _ A52.out).mono ?_); rintro e w64 ⟨rfl, hb⟩; refine ⟨_, rfl, ?_⟩; have n0_ := Aside0.mk (blk_below (g := gb542) (o := .cells #[.bool t539, .string t540, .int .i64 t541] 26 (0, 0)) (by refine blk_up ?_; refine blk_far ?_ NB542_560.out _; refine blk_up ?_; refine blk_far ?_ NB542_560.out _; refine blk_up ?_; refine blk_far ?_ NB542_560.out _; refine blk_up ?_; exact BK542.out) hb); have n1_ := Aside0.mk (blk_below (g := gb548) (o := .cells #[.bool t544, .string t545, .int .i64 t546] 26 (0, 0)) (by refine blk_up ?_; refine blk_far ?_ NB548_560.out _; refine blk_up ?_; refine blk_far ?_ NB548_560.out _; refine blk_up ?_; refine blk_far ?_ NB548_560.out _; refine blk_up ?_; exact BK548.out) hb); have n2_ := Aside0.mk (blk_below (g := gb560) (o := .cells #[.bool t556, .string t557, .int .i64 t558] 26 (0, 0)) (by refine blk_up ?_; refine blk_put (cs := #[.bool t556, .string t557, .int .i64 0]) ?_ 2 _ rfl; refine blk_up ?_; refine blk_put (cs := #[.bool t556, .string (⟨#[]⟩ : ByteArray), .int .i64 0]) ?_ 1 _ rfl; refine blk_up ?_; refine blk_put (cs := #[.bool false, .string (⟨#[]⟩ : ByteArray), .int .i64 0]) ?_ 0 _ rfl; refine blk_up ?_; exact BK560.out) hb); have n3_ := Aside0.mk (below_step (by repeat (first | (with_reducible first | exact HB.out | apply below_alloc | apply pw_below_drewN | apply below_drew1 | refine below_set ?_ GE542.out | refine below_set ?_ GE548.out | refine below_set ?_ GE560.out) | exact HB.out)) hb); clear BK542; clear BK548; clear BK560; clear HB; have BK542 := n0_; have BK548 := n1_; have BK560 := n2_; have HB := n3_; clear n0_ n1_ n2_ n3_; (try clear hb); (try clear hb2); (try clear hk); (try clear hi)) | ((with_reducible refine gate_dst (N := 10) rfl ?_); refine box_event ?hg (N := 10) ?hd (cs := #[.bool false, .string (⟨#[]⟩ : ByteArray), .int .i64 0]) (t := 26) ?hr ?_; (case hd => rfl); (case hg => rfl); (case hr => first | (go_simp; done) | (go_simp; rfl)); intro gb565 hg w65 hbox hb; have n0_ := Aside0.mk (blk_below (g := gb542) (o := .cells #[.bool t539, .string t540, .int .i64 t541] 26 (0, 0)) (by refine blk_up ?_; exact BK542.out) hb); have n1_ := Aside0.mk (blk_below (g := gb548) (o := .cells #[.bool t544, .string t545, .int .i64 t546] 26 (0, 0)) (by refine blk_up ?_; exact BK548.out) hb); have n2_ := Aside0.mk (blk_below (g := gb560) (o := .cells #[.bool t556, .string t557, .int .i64 t558] 26 (0, 0)) (by refine blk_up ?_; exact BK560.out) hb); have n3_ := Aside0.mk (below_step (by repeat (first | (with_reducible first | exact HB.out | apply below_alloc | apply pw_below_drewN | apply below_drew1 | refine below_set ?_ GE542.out | refine below_set ?_ GE548.out | refine below_set ?_ GE560.out) | exact HB.out)) hb); have n4_ := Aside0.mk (hbox); have n5_ := Aside0.mk ((by rw [hg]; exact (below_size (by repeat (first | (with_reducible first | exact HB.out | apply below_alloc | apply pw_below_drewN | apply below_drew1 | refine below_set ?_ GE542.out | refine below_set ?_ GE548.out | refine below_set ?_ GE560.out) | exact HB.out))) : w.heap.size ≤ gb565)); have n6_ := Aside0.mk ((by rw [hg]; exact (below_size (by repeat (first | (with_reducible first | exact HB.out | apply below_alloc | apply pw_below_drewN | apply below_drew1 | refine below_set ?_ GE542.out | refine below_set ?_ GE548.out | refine below_set ?_ GE560.out) | exact HB.out))) : w.heap.size ≤ gb565)); have n7_ := Aside0.mk ((by rw [hg]; exact Nat.ne_of_lt (blk_lt (g := gb542) (o := .cells #[.bool t539, .string t540, .int .i64 t541] 26 (0, 0)) (by refine blk_up ?_; exact BK542.out)) : gb542 ≠ gb565)); have n8_ := Aside0.mk ((by rw [hg]; exact Nat.ne_of_gt (blk_lt (g := gb542) (o := .cells #[.bool t539, .string t540, .int .i64 t541] 26 (0, 0)) (by refine blk_up ?_; exact BK542.out)) : gb565 ≠ gb542)); have n9_ := Aside0.mk ((by rw [hg]; exact Nat.ne_of_lt (blk_lt (g := gb548) (o := .cells #[.bool t544, .string t545, .int .i64 t546] 26 (0, 0)) (by refine blk_up ?_; exact BK548.out)) : gb548 ≠ gb565)); have n10_ := Aside0.mk ((by rw [hg]; exact Nat.ne_of_gt (blk_lt (g := gb548) (o := .cells #[.bool t544, .string t545, .int .i64 t546] 26 (0, 0)) (by refine blk_up ?_; exact BK548.out)) : gb565 ≠ gb548)); have n11_ := Aside0.mk ((by rw [hg]; exact Nat.ne_of_lt (blk_lt (g := gb560) (o := .cells #[.bool t556, .string t557, .int .i64 t558] 26 (0, 0)) (by refine blk_up ?_; exact BK560.out)) : gb560 ≠ gb565)); have n12_ := Aside0.mk ((by rw [hg]; exact Nat.ne_of_gt (blk_lt (g := gb560) (o := .cells #[.bool t556, .string t557, .int .i64 t558] 26 (0, 0)) (by refine blk_up ?_; exact BK560.out)) : gb565 ≠ gb560)); clear BK542; clear BK548; clear BK560; clear HB; have BK542 := n0_; have BK548 := n1_; have BK560 := n2_; have HB := n3_; have BK565 := n4_; have GW565 := n5_; have GE565 := n6_; have NB542_565 := n7_; have NB565_542 := n8_; have NB548_565 := n9_; have NB565_548 := n10_; have NB560_565 := n11_; have NB565_560 := n12_; clear n0_ n1_ n2_ n3_ n4_ n5_ n6_ n7_ n8_ n9_ n10_ n11_ n12_; clear hb hbox hg; have hnb66 := NB565_542.out; have hnc66 := NB542_565.out; have hnb67 := NB565_548.out; have hnc67 := NB548_565.out; have hnb68 := NB565_560.out; have hnc68 := NB560_565.out; have hcz69_0 : w65.cell? ⟨gb565, 0, none⟩ = some (.bool false) := (blk_cell BK565.out 0).trans rfl; have hcz69_1 : w65.cell? ⟨gb565, 1, none⟩ = some (.string (⟨#[]⟩ : ByteArray)) := (blk_cell BK565.out 1).trans rfl; have hcz69_2 : w65.cell? ⟨gb565, 2, none⟩ = some (.int .i64 0) := (blk_cell BK565.out 2).trans rfl; have hfz69_0 := blk_frozen BK565.out 0; have hfz69_1 := blk_frozen BK565.out 1; have hfz69_2 := blk_frozen BK565.out 2; have hcz70_0 : w65.cell? ⟨gb560, 0, none⟩ = some (.bool t556) := (blk_cell BK560.out 0).trans rfl; have hcz70_1 : w65.cell? ⟨gb560, 1, none⟩ = some (.string t557) := (blk_cell BK560.out 1).trans rfl; have hcz70_2 : w65.cell? ⟨gb560, 2, none⟩ = some (.int .i64 t558) := (blk_cell BK560.out 2).trans rfl; have hfz70_0 := blk_frozen BK560.out 0; have hfz70_1 := blk_frozen BK560.out 1; have hfz70_2 := blk_frozen BK560.out 2) | ((with_reducible refine gate_callee (f := 24) rfl ?_); refine goesL_ (some 64) rfl rfl Tryd.func24 (by kernel_rfl) rfl #[.agg #[.bool t556, .string t557, .int .i64 t558]] rfl (by (try simp only [List.map_toArray, List.map_cons, List.map_nil]); first | done | rfl | (simp only [List.length_drop, List.length_take]; rfl)) ?_; (with_reducible refine (impl_DecText.calls kj6 t556 t557 t558 t566 _ A53.out).mono ?_); rintro e w71 ⟨rfl, hb⟩; refine ⟨_, rfl, ?_⟩; have n0_ := Aside0.mk (blk_below (g := gb542) (o := .cells #[.bool t539, .string t540, .int .i64 t541] 26 (0, 0)) (by refine blk_up ?_; refine blk_far ?_ NB542_565.out _; refine blk_up ?_; refine blk_far ?_ NB542_565.out _; refine blk_up ?_; refine blk_far ?_ NB542_565.out _; refine blk_up ?_; exact BK542.out) hb); have n1_ := Aside0.mk (blk_below (g := gb548) (o := .cells #[.bool t544, .string t545, .int .i64 t546] 26 (0, 0)) (by refine blk_up ?_; refine blk_far ?_ NB548_565.out _; refine blk_up ?_; refine blk_far ?_ NB548_565.out _; refine blk_up ?_; refine blk_far ?_ NB548_565.out _; refine blk_up ?_; exact BK548.out) hb); have n2_ := Aside0.mk (blk_below (g := gb560) (o := .cells #[.bool t556, .string t557, .int .i64 t558] 26 (0, 0)) (by refine blk_up ?_; refine blk_far ?_ NB560_565.out _; refine blk_up ?_; refine blk_far ?_ NB560_565.out _; refine blk_up ?_; refine blk_far ?_ NB560_565.out _; refine blk_up ?_; exact BK560.out) hb); have n3_ := Aside0.mk (blk_below (g := gb565) (o := .cells #[.bool t561, .string t562, .int .i64 t563] 26 (0, 0)) (by refine blk_up ?_; refine blk_put (cs := #[.bool t561, .string t562, .int .i64 0]) ?_ 2 _ rfl; refine blk_up ?_; refine blk_put (cs := #[.bool t561, .string (⟨#[]⟩ : ByteArray), .int .i64 0]) ?_ 1 _ rfl; refine blk_up ?_; refine blk_put (cs := #[.bool false, .string (⟨#[]⟩ : ByteArray), .int .i64 0]) ?_ 0 _ rfl; refine blk_up ?_; exact BK565.out) hb); have n4_ := Aside0.mk (below_step (by repeat (first | (with_reducible first | exact HB.out | apply below_alloc | apply pw_below_drewN | apply below_drew1 | refine below_set ?_ GE542.out | refine below_set ?_ GE548.out | refine below_set ?_ GE560.out | refine below_set ?_ GE565.out) | exact HB.out)) hb); clear BK542; clear BK548; clear BK560; clear BK565; clear HB; have BK542 := n0_; have BK548 := n1_; have BK560 := n2_; have BK565 := n3_; have HB := n4_; clear n0_ n1_ n2_ n3_ n4_; (try clear hb); (try clear hb2); (try clear hk); (try clear hi)) | ((with_reducible refine gate_callee (f := 25) rfl ?_); refine goesL_ (some 65) rfl rfl Tryd.func25 (by kernel_rfl) rfl #[.string t566] rfl (by (try simp only [List.map_toArray, List.map_cons, List.map_nil]); first | done | rfl | (simp only [List.length_drop, List.length_take]; rfl)) ?_; (with_reducible refine (impl_ReadDec.calls kj6 t566 t567 t568 t569 true _ A54.out).mono ?_); rintro e w72 ⟨rfl, hb⟩; refine ⟨_, rfl, ?_⟩; have n0_ := Aside0.mk (blk_below (g := gb542) (o := .cells #[.bool t539, .string t540, .int .i64 t541] 26 (0, 0)) (by refine blk_up ?_; exact BK542.out) hb); have n1_ := Aside0.mk (blk_below (g := gb548) (o := .cells #[.bool t544, .string t545, .int .i64 t546] 26 (0, 0)) (by refine blk_up ?_; exact BK548.out) hb); have n2_ := Aside0.mk (blk_below (g := gb560) (o := .cells #[.bool t556, .string t557, .int .i64 t558] 26 (0, 0)) (by refine blk_up ?_; exact BK560.out) hb); have n3_ := Aside0.mk (blk_below (g := gb565) (o := .cells #[.bool t561, .string t562, .int .i64 t563] 26 (0, 0)) (by refine blk_up ?_; exact BK565.out) hb); have n4_ := Aside0.mk (below_step (by repeat (first | (with_reducible first | exact HB.out | apply below_alloc | apply pw_below_drewN | apply below_drew1 | refine below_set ?_ GE542.out | refine below_set ?_ GE548.out | refine below_set ?_ GE560.out | refine below_set ?_ GE565.out) | exact HB.out)) hb); clear BK542; clear BK548; clear BK560; clear BK565; clear HB; have BK542 := n0_; have BK548 := n1_; have BK560 := n2_; have BK565 := n3_; have HB := n4_; clear n0_ n1_ n2_ n3_ n4_; (try clear hb); (try clear hb2); (try clear hk); (try clear hi)) | ((with_reducible refine gate_dst (N := 12) rfl ?_); refine box_event ?hg (N := 12) ?hd (cs := #[.bool false, .string (⟨#[]⟩ : ByteArray), .int .i64 0]) (t := 26) ?hr ?_; (case hd => rfl); (case hg => rfl); (case hr => first | (go_simp; done) | (go_simp; rfl)); intro gb571 hg w73 hbox hb; have n0_ := Aside0.mk (blk_below (g := gb542) (o := .cells #[.bool t539, .string t540, .int .i64 t541] 26 (0, 0)) (by refine blk_up ?_; exact BK542.out) hb); have n1_ := Aside0.mk (blk_below (g := gb548) (o := .cells #[.bool t544, .string t545, .int .i64 t546] 26 (0, 0)) (by refine blk_up ?_; exact BK548.out) hb); have n2_ := Aside0.mk (blk_below (g := gb560) (o := .cells #[.bool t556, .string t557, .int .i64 t558] 26 (0, 0)) (by refine blk_up ?_; exact BK560.out) hb); have n3_ := Aside0.mk (blk_below (g := gb565) (o := .cells #[.bool t561, .string t562, .int .i64 t563] 26 (0, 0)) (by refine blk_up ?_; exact BK565.out) hb); have n4_ := Aside0.mk (below_step (by repeat (first | (with_reducible first | exact HB.out | apply below_alloc | apply pw_below_drewN | apply below_drew1 | refine below_set ?_ GE542.out | refine below_set ?_ GE548.out | refine below_set ?_ GE560.out | refine below_set ?_ GE565.out) | exact HB.out)) hb); have n5_ := Aside0.mk (hbox); have n6_ := Aside0.mk ((by rw [hg]; exact (below_size (by repeat (first | (with_reducible first | exact HB.out | apply below_alloc | apply pw_below_drewN | apply below_drew1 | refine below_set ?_ GE542.out | refine below_set ?_ GE548.out | refine below_set ?_ GE560.out | refine below_set ?_ GE565.out) | exact HB.out))) : w.heap.size ≤ gb571)); have n7_ := Aside0.mk ((by rw [hg]; exact (below_size (by repeat (first | (with_reducible first | exact HB.out | apply below_alloc | apply pw_below_drewN | apply below_drew1 | refine below_set ?_ GE542.out | refine below_set ?_ GE548.out | refine below_set ?_ GE560.out | refine below_set ?_ GE565.out) | exact HB.out))) : w.heap.size ≤ gb571)); have n8_ := Aside0.mk ((by rw [hg]; exact Nat.ne_of_lt (blk_lt (g := gb542) (o := .cells #[.bool t539, .string t540, .int .i64 t541] 26 (0, 0)) (by refine blk_up ?_; exact BK542.out)) : gb542 ≠ gb571)); have n9_ := Aside0.mk ((by rw [hg]; exact Nat.ne_of_gt (blk_lt (g := gb542) (o := .cells #[.bool t539, .string t540, .int .i64 t541] 26 (0, 0)) (by refine blk_up ?_; exact BK542.out)) : gb571 ≠ gb542)); have n10_ := Aside0.mk ((by rw [hg]; exact Nat.ne_of_lt (blk_lt (g := gb548) (o := .cells #[.bool t544, .string t545, .int .i64 t546] 26 (0, 0)) (by refine blk_up ?_; exact BK548.out)) : gb548 ≠ gb571)); have n11_ := Aside0.mk ((by rw [hg]; exact Nat.ne_of_gt (blk_lt (g := gb548) (o := .cells #[.bool t544, .string t545, .int .i64 t546] 26 (0, 0)) (by refine blk_up ?_; exact BK548.out)) : gb571 ≠ gb548)); have n12_ := Aside0.mk ((by rw [hg]; exact Nat.ne_of_lt (blk_lt (g := gb560) (o := .cells #[.bool t556, .string t557, .int .i64 t558] 26 (0, 0)) (by refine blk_up ?_; exact BK560.out)) : gb560 ≠ gb571)); have n13_ := Aside0.mk ((by rw [hg]; exact Nat.ne_of_gt (blk_lt (g := gb560) (o := .cells #[.bool t556, .string t557, .int .i64 t558] 26 (0, 0)) (by refine blk_up ?_; exact BK560.out)) : gb571 ≠ gb560)); have n14_ := Aside0.mk ((by rw [hg]; exact Nat.ne_of_lt (blk_lt (g := gb565) (o := .cells #[.bool t561, .string t562, .int .i64 t563] 26 (0, 0)) (by refine blk_up ?_; exact BK565.out)) : gb565 ≠ gb571)); have n15_ := Aside0.mk ((by rw [hg]; exact Nat.ne_of_gt (blk_lt (g := gb565) (o := .cells #[.bool t561, .string t562, .int .i64 t563] 26 (0, 0)) (by refine blk_up ?_; exact BK565.out)) : gb571 ≠ gb565)); clear BK542; clear BK548; clear BK560; clear BK565; clear HB; have BK542 := n0_; have BK548 := n1_; have BK560 := n2_; have BK565 := n3_; have HB := n4_; have BK571 := n5_; have GW571 := n6_; have GE571 := n7_; have NB542_571 := n8_; have NB571_542 := n9_; have NB548_571 := n10_; have NB571_548 := n11_; have NB560_571 := n12_; have NB571_560 := n13_; have NB565_571 := n14_; have NB571_565 := n15_; clear n0_ n1_ n2_ n3_ n4_ n5_ n6_ n7_ n8_ n9_ n10_ n11_ n12_ n13_ n14_ n15_; clear hb hbox hg; have hnb74 := NB571_542.out; have hnc74 := NB542_571.out; have hnb75 := NB571_548.out; have hnc75 := NB548_571.out; have hnb76 := NB571_560.out; have hnc76 := NB560_571.out; have hnb77 := NB571_565.out; have hnc77 := NB565_571.out; have hcz78_0 : w73.cell? ⟨gb571, 0, none⟩ = some (.bool false) := (blk_cell BK571.out 0).trans rfl; have hcz78_1 : w73.cell? ⟨gb571, 1, none⟩ = some (.string (⟨#[]⟩ : ByteArray)) := (blk_cell BK571.out 1).trans rfl; have hcz78_2 : w73.cell? ⟨gb571, 2, none⟩ = some (.int .i64 0) := (blk_cell BK571.out 2).trans rfl; have hfz78_0 := blk_frozen BK571.out 0; have hfz78_1 := blk_frozen BK571.out 1; have hfz78_2 := blk_frozen BK571.out 2; have hcz79_0 : w73.cell? ⟨gb560, 0, none⟩ = some (.bool t556) := (blk_cell BK560.out 0).trans rfl; have hcz79_1 : w73.cell? ⟨gb560, 1, none⟩ = some (.string t557) := (blk_cell BK560.out 1).trans rfl; have hcz79_2 : w73.cell? ⟨gb560, 2, none⟩ = some (.int .i64 t558) := (blk_cell BK560.out 2).trans rfl; have hfz79_0 := blk_frozen BK560.out 0; have hfz79_1 := blk_frozen BK560.out 1; have hfz79_2 := blk_frozen BK560.out 2))
                go_ret
                exact ⟨by first | rfl | (simp [errW_none, errW_some] <;> rfl) | (simp [*, errW_none, errW_some] <;> rfl), by repeat (first | (with_reducible first | exact HB.out | apply below_alloc | apply pw_below_drewN | apply below_drew1 | refine below_set ?_ GE542.out | refine below_set ?_ GE548.out | refine below_set ?_ GE560.out | refine below_set ?_ GE565.out | refine below_set ?_ GE571.out) | exact HB.out)⟩
              · replace c57 := Bool.eq_false_iff.mpr c57
                subst c57
                have H1 : (some false) = some r := by rw [if_neg (show ¬ (false = true) by decide)] at H; exact H
                clear H
                have H := H1
                clear H1
                obtain rfl := Option.some.inj H
                go_wp2_with (first | ((with_reducible refine gate_callee (f := 30) rfl ?_); refine goesL_ (some 51) rfl rfl Tryd.func30 (by kernel_rfl) rfl #[.slice A0 l0.length c0] rfl (by (try simp only [List.map_toArray, List.map_cons, List.map_nil]); first | done | rfl | (simp only [List.length_drop, List.length_take]; rfl)) ?_; (with_reducible refine (spec_DrawReadDec.calls kj6 _ _ l0 t555 _ ?side1 ?side2 A50.out).mono ?_); (case side1 => repeat (first | exact (Kd.C_below HR0.out HB.out) | (with_reducible refine Kd.C_alloc ?_ _) | (with_reducible refine Kd.C_drewN ?_ _) | (with_reducible refine Kd.C_drew ?_))); (case side2 => exact HC0.out); rintro e w80 ⟨rfl, hb⟩; refine ⟨_, rfl, ?_⟩; have n0_ := Aside0.mk (blk_below (g := gb542) (o := .cells #[.bool t539, .string t540, .int .i64 t541] 26 (0, 0)) (by refine blk_up ?_; exact BK542.out) hb); have n1_ := Aside0.mk (blk_below (g := gb548) (o := .cells #[.bool t544, .string t545, .int .i64 t546] 26 (0, 0)) (by refine blk_up ?_; exact BK548.out) hb); have n2_ := Aside0.mk (below_step (by repeat (first | (with_reducible first | exact HB.out | apply below_alloc | apply pw_below_drewN | apply below_drew1 | refine below_set ?_ GE542.out | refine below_set ?_ GE548.out) | exact HB.out)) hb); clear BK542; clear BK548; clear HB; have BK542 := n0_; have BK548 := n1_; have HB := n2_; clear n0_ n1_ n2_; (try clear hb); (try clear hb2); (try clear hk); (try clear hi)) | ((with_reducible refine gate_callee (f := 25) rfl ?_); refine goesL_ (some 54) rfl rfl Tryd.func25 (by kernel_rfl) rfl #[.string t555] rfl (by (try simp only [List.map_toArray, List.map_cons, List.map_nil]); first | done | rfl | (simp only [List.length_drop, List.length_take]; rfl)) ?_; (with_reducible refine (impl_ReadDec.calls kj6 t555 t556 t557 t558 true _ A51.out).mono ?_); rintro e w81 ⟨rfl, hb⟩; refine ⟨_, rfl, ?_⟩; have n0_ := Aside0.mk (blk_below (g := gb542) (o := .cells #[.bool t539, .string t540, .int .i64 t541] 26 (0, 0)) (by refine blk_up ?_; exact BK542.out) hb); have n1_ := Aside0.mk (blk_below (g := gb548) (o := .cells #[.bool t544, .string t545, .int .i64 t546] 26 (0, 0)) (by refine blk_up ?_; exact BK548.out) hb); have n2_ := Aside0.mk (below_step (by repeat (first | (with_reducible first | exact HB.out | apply below_alloc | apply pw_below_drewN | apply below_drew1 | refine below_set ?_ GE542.out | refine below_set ?_ GE548.out) | exact HB.out)) hb); clear BK542; clear BK548; clear HB; have BK542 := n0_; have BK548 := n1_; have HB := n2_; clear n0_ n1_ n2_; (try clear hb); (try clear hb2); (try clear hk); (try clear hi)) | ((with_reducible refine gate_dst (N := 8) rfl ?_); refine box_event ?hg (N := 8) ?hd (cs := #[.bool false, .string (⟨#[]⟩ : ByteArray), .int .i64 0]) (t := 26) ?hr ?_; (case hd => rfl); (case hg => rfl); (case hr => first | (go_simp; done) | (go_simp; rfl)); intro gb560 hg w82 hbox hb; have n0_ := Aside0.mk (blk_below (g := gb542) (o := .cells #[.bool t539, .string t540, .int .i64 t541] 26 (0, 0)) (by refine blk_up ?_; exact BK542.out) hb); have n1_ := Aside0.mk (blk_below (g := gb548) (o := .cells #[.bool t544, .string t545, .int .i64 t546] 26 (0, 0)) (by refine blk_up ?_; exact BK548.out) hb); have n2_ := Aside0.mk (below_step (by repeat (first | (with_reducible first | exact HB.out | apply below_alloc | apply pw_below_drewN | apply below_drew1 | refine below_set ?_ GE542.out | refine below_set ?_ GE548.out) | exact HB.out)) hb); have n3_ := Aside0.mk (hbox); have n4_ := Aside0.mk ((by rw [hg]; exact (below_size (by repeat (first | (with_reducible first | exact HB.out | apply below_alloc | apply pw_below_drewN | apply below_drew1 | refine below_set ?_ GE542.out | refine below_set ?_ GE548.out) | exact HB.out))) : w.heap.size ≤ gb560)); have n5_ := Aside0.mk ((by rw [hg]; exact (below_size (by repeat (first | (with_reducible first | exact HB.out | apply below_alloc | apply pw_below_drewN | apply below_drew1 | refine below_set ?_ GE542.out | refine below_set ?_ GE548.out) | exact HB.out))) : w.heap.size ≤ gb560)); have n6_ := Aside0.mk ((by rw [hg]; exact Nat.ne_of_lt (blk_lt (g := gb542) (o := .cells #[.bool t539, .string t540, .int .i64 t541] 26 (0, 0)) (by refine blk_up ?_; exact BK542.out)) : gb542 ≠ gb560)); have n7_ := Aside0.mk ((by rw [hg]; exact Nat.ne_of_gt (blk_lt (g := gb542) (o := .cells #[.bool t539, .string t540, .int .i64 t541] 26 (0, 0)) (by refine blk_up ?_; exact BK542.out)) : gb560 ≠ gb542)); have n8_ := Aside0.mk ((by rw [hg]; exact Nat.ne_of_lt (blk_lt (g := gb548) (o := .cells #[.bool t544, .string t545, .int .i64 t546] 26 (0, 0)) (by refine blk_up ?_; exact BK548.out)) : gb548 ≠ gb560)); have n9_ := Aside0.mk ((by rw [hg]; exact Nat.ne_of_gt (blk_lt (g := gb548) (o := .cells #[.bool t544, .string t545, .int .i64 t546] 26 (0, 0)) (by refine blk_up ?_; exact BK548.out)) : gb560 ≠ gb548)); clear BK542; clear BK548; clear HB; have BK542 := n0_; have BK548 := n1_; have HB := n2_; have BK560 := n3_; have GW560 := n4_; have GE560 := n5_; have NB542_560 := n6_; have NB560_542 := n7_; have NB548_560 := n8_; have NB560_548 := n9_; clear n0_ n1_ n2_ n3_ n4_ n5_ n6_ n7_ n8_ n9_; clear hb hbox hg; have hnb83 := NB560_542.out; have hnc83 := NB542_560.out; have hnb84 := NB560_548.out; have hnc84 := NB548_560.out; have hcz85_0 : w82.cell? ⟨gb560, 0, none⟩ = some (.bool false) := (blk_cell BK560.out 0).trans rfl; have hcz85_1 : w82.cell? ⟨gb560, 1, none⟩ = some (.string (⟨#[]⟩ : ByteArray)) := (blk_cell BK560.out 1).trans rfl; have hcz85_2 : w82.cell? ⟨gb560, 2, none⟩ = some (.int .i64 0) := (blk_cell BK560.out 2).trans rfl; have hfz85_0 := blk_frozen BK560.out 0; have hfz85_1 := blk_frozen BK560.out 1; have hfz85_2 := blk_frozen BK560.out 2) | ((with_reducible refine gate_callee (f := 31) rfl ?_); refine goesL_ (some 59) rfl rfl Tryd.func31 (by kernel_rfl) rfl #[.string t555] rfl (by (try simp only [List.map_toArray, List.map_cons, List.map_nil]); first | done | rfl | (simp only [List.length_drop, List.length_take]; rfl)) ?_; (with_reducible refine (spec_ReadDec.calls kj6 t555 t561 t562 t563 t564 _ A52.out).mono ?_); rintro e w86 ⟨rfl, hb⟩; refine ⟨_, rfl, ?_⟩; have n0_ := Aside0.mk (blk_below (g := gb542) (o := .cells #[.bool t539, .string t540, .int .i64 t541] 26 (0, 0)) (by refine blk_up ?_; refine blk_far ?_ NB542_560.out _; refine blk_up ?_; refine blk_far ?_ NB542_560.out _; refine blk_up ?_; refine blk_far ?_ NB542_560.out _; refine blk_up ?_; exact BK542.out) hb); have n1_ := Aside0.mk (blk_below (g := gb548) (o := .cells #[.bool t544, .string t545, .int .i64 t546] 26 (0, 0)) (by refine blk_up ?_; refine blk_far ?_ NB548_560.out _; refine blk_up ?_; refine blk_far ?_ NB548_560.out _; refine blk_up ?_; refine blk_far ?_ NB548_560.out _; refine blk_up ?_; exact BK548.out) hb); have n2_ := Aside0.mk (blk_below (g := gb560) (o := .cells #[.bool t556, .string t557, .int .i64 t558] 26 (0, 0)) (by refine blk_up ?_; refine blk_put (cs := #[.bool t556, .string t557, .int .i64 0]) ?_ 2 _ rfl; refine blk_up ?_; refine blk_put (cs := #[.bool t556, .string (⟨#[]⟩ : ByteArray), .int .i64 0]) ?_ 1 _ rfl; refine blk_up ?_; refine blk_put (cs := #[.bool false, .string (⟨#[]⟩ : ByteArray), .int .i64 0]) ?_ 0 _ rfl; refine blk_up ?_; exact BK560.out) hb); have n3_ := Aside0.mk (below_step (by repeat (first | (with_reducible first | exact HB.out | apply below_alloc | apply pw_below_drewN | apply below_drew1 | refine below_set ?_ GE542.out | refine below_set ?_ GE548.out | refine below_set ?_ GE560.out) | exact HB.out)) hb); clear BK542; clear BK548; clear BK560; clear HB; have BK542 := n0_; have BK548 := n1_; have BK560 := n2_; have HB := n3_; clear n0_ n1_ n2_ n3_; (try clear hb); (try clear hb2); (try clear hk); (try clear hi)) | ((with_reducible refine gate_dst (N := 10) rfl ?_); refine box_event ?hg (N := 10) ?hd (cs := #[.bool false, .string (⟨#[]⟩ : ByteArray), .int .i64 0]) (t := 26) ?hr ?_; (case hd => rfl); (case hg => rfl); (case hr => first | (go_simp; done) | (go_simp; rfl)); intro gb565 hg w87 hbox hb; have n0_ := Aside0.mk (blk_below (g := gb542) (o := .cells #[.bool t539, .string t540, .int .i64 t541] 26 (0, 0)) (by refine blk_up ?_; exact BK542.out) hb); have n1_ := Aside0.mk (blk_below (g := gb548) (o := .cells #[.bool t544, .string t545, .int .i64 t546] 26 (0, 0)) (by refine blk_up ?_; exact BK548.out) hb); have n2_ := Aside0.mk (blk_below (g := gb560) (o := .cells #[.bool t556, .string t557, .int .i64 t558] 26 (0, 0)) (by refine blk_up ?_; exact BK560.out) hb); have n3_ := Aside0.mk (below_step (by repeat (first | (with_reducible first | exact HB.out | apply below_alloc | apply pw_below_drewN | apply below_drew1 | refine below_set ?_ GE542.out | refine below_set ?_ GE548.out | refine below_set ?_ GE560.out) | exact HB.out)) hb); have n4_ := Aside0.mk (hbox); have n5_ := Aside0.mk ((by rw [hg]; exact (below_size (by repeat (first | (with_reducible first | exact HB.out | apply below_alloc | apply pw_below_drewN | apply below_drew1 | refine below_set ?_ GE542.out | refine below_set ?_ GE548.out | refine below_set ?_ GE560.out) | exact HB.out))) : w.heap.size ≤ gb565)); have n6_ := Aside0.mk ((by rw [hg]; exact (below_size (by repeat (first | (with_reducible first | exact HB.out | apply below_alloc | apply pw_below_drewN | apply below_drew1 | refine below_set ?_ GE542.out | refine below_set ?_ GE548.out | refine below_set ?_ GE560.out) | exact HB.out))) : w.heap.size ≤ gb565)); have n7_ := Aside0.mk ((by rw [hg]; exact Nat.ne_of_lt (blk_lt (g := gb542) (o := .cells #[.bool t539, .string t540, .int .i64 t541] 26 (0, 0)) (by refine blk_up ?_; exact BK542.out)) : gb542 ≠ gb565)); have n8_ := Aside0.mk ((by rw [hg]; exact Nat.ne_of_gt (blk_lt (g := gb542) (o := .cells #[.bool t539, .string t540, .int .i64 t541] 26 (0, 0)) (by refine blk_up ?_; exact BK542.out)) : gb565 ≠ gb542)); have n9_ := Aside0.mk ((by rw [hg]; exact Nat.ne_of_lt (blk_lt (g := gb548) (o := .cells #[.bool t544, .string t545, .int .i64 t546] 26 (0, 0)) (by refine blk_up ?_; exact BK548.out)) : gb548 ≠ gb565)); have n10_ := Aside0.mk ((by rw [hg]; exact Nat.ne_of_gt (blk_lt (g := gb548) (o := .cells #[.bool t544, .string t545, .int .i64 t546] 26 (0, 0)) (by refine blk_up ?_; exact BK548.out)) : gb565 ≠ gb548)); have n11_ := Aside0.mk ((by rw [hg]; exact Nat.ne_of_lt (blk_lt (g := gb560) (o := .cells #[.bool t556, .string t557, .int .i64 t558] 26 (0, 0)) (by refine blk_up ?_; exact BK560.out)) : gb560 ≠ gb565)); have n12_ := Aside0.mk ((by rw [hg]; exact Nat.ne_of_gt (blk_lt (g := gb560) (o := .cells #[.bool t556, .string t557, .int .i64 t558] 26 (0, 0)) (by refine blk_up ?_; exact BK560.out)) : gb565 ≠ gb560)); clear BK542; clear BK548; clear BK560; clear HB; have BK542 := n0_; have BK548 := n1_; have BK560 := n2_; have HB := n3_; have BK565 := n4_; have GW565 := n5_; have GE565 := n6_; have NB542_565 := n7_; have NB565_542 := n8_; have NB548_565 := n9_; have NB565_548 := n10_; have NB560_565 := n11_; have NB565_560 := n12_; clear n0_ n1_ n2_ n3_ n4_ n5_ n6_ n7_ n8_ n9_ n10_ n11_ n12_; clear hb hbox hg; have hnb88 := NB565_542.out; have hnc88 := NB542_565.out; have hnb89 := NB565_548.out; have hnc89 := NB548_565.out; have hnb90 := NB565_560.out; have hnc90 := NB560_565.out; have hcz91_0 : w87.cell? ⟨gb565, 0, none⟩ = some (.bool false) := (blk_cell BK565.out 0).trans rfl; have hcz91_1 : w87.cell? ⟨gb565, 1, none⟩ = some (.string (⟨#[]⟩ : ByteArray)) := (blk_cell BK565.out 1).trans rfl; have hcz91_2 : w87.cell? ⟨gb565, 2, none⟩ = some (.int .i64 0) := (blk_cell BK565.out 2).trans rfl; have hfz91_0 := blk_frozen BK565.out 0; have hfz91_1 := blk_frozen BK565.out 1; have hfz91_2 := blk_frozen BK565.out 2; have hcz92_0 : w87.cell? ⟨gb560, 0, none⟩ = some (.bool t556) := (blk_cell BK560.out 0).trans rfl; have hcz92_1 : w87.cell? ⟨gb560, 1, none⟩ = some (.string t557) := (blk_cell BK560.out 1).trans rfl; have hcz92_2 : w87.cell? ⟨gb560, 2, none⟩ = some (.int .i64 t558) := (blk_cell BK560.out 2).trans rfl; have hfz92_0 := blk_frozen BK560.out 0; have hfz92_1 := blk_frozen BK560.out 1; have hfz92_2 := blk_frozen BK560.out 2) | ((with_reducible refine gate_callee (f := 24) rfl ?_); refine goesL_ (some 64) rfl rfl Tryd.func24 (by kernel_rfl) rfl #[.agg #[.bool t556, .string t557, .int .i64 t558]] rfl (by (try simp only [List.map_toArray, List.map_cons, List.map_nil]); first | done | rfl | (simp only [List.length_drop, List.length_take]; rfl)) ?_; (with_reducible refine (impl_DecText.calls kj6 t556 t557 t558 t566 _ A53.out).mono ?_); rintro e w93 ⟨rfl, hb⟩; refine ⟨_, rfl, ?_⟩; have n0_ := Aside0.mk (blk_below (g := gb542) (o := .cells #[.bool t539, .string t540, .int .i64 t541] 26 (0, 0)) (by refine blk_up ?_; refine blk_far ?_ NB542_565.out _; refine blk_up ?_; refine blk_far ?_ NB542_565.out _; refine blk_up ?_; refine blk_far ?_ NB542_565.out _; refine blk_up ?_; exact BK542.out) hb); have n1_ := Aside0.mk (blk_below (g := gb548) (o := .cells #[.bool t544, .string t545, .int .i64 t546] 26 (0, 0)) (by refine blk_up ?_; refine blk_far ?_ NB548_565.out _; refine blk_up ?_; refine blk_far ?_ NB548_565.out _; refine blk_up ?_; refine blk_far ?_ NB548_565.out _; refine blk_up ?_; exact BK548.out) hb); have n2_ := Aside0.mk (blk_below (g := gb560) (o := .cells #[.bool t556, .string t557, .int .i64 t558] 26 (0, 0)) (by refine blk_up ?_; refine blk_far ?_ NB560_565.out _; refine blk_up ?_; refine blk_far ?_ NB560_565.out _; refine blk_up ?_; refine blk_far ?_ NB560_565.out _; refine blk_up ?_; exact BK560.out) hb); have n3_ := Aside0.mk (blk_below (g := gb565) (o := .cells #[.bool t561, .string t562, .int .i64 t563] 26 (0, 0)) (by refine blk_up ?_; refine blk_put (cs := #[.bool t561, .string t562, .int .i64 0]) ?_ 2 _ rfl; refine blk_up ?_; refine blk_put (cs := #[.bool t561, .string (⟨#[]⟩ : ByteArray), .int .i64 0]) ?_ 1 _ rfl; refine blk_up ?_; refine blk_put (cs := #[.bool false, .string (⟨#[]⟩ : ByteArray), .int .i64 0]) ?_ 0 _ rfl; refine blk_up ?_; exact BK565.out) hb); have n4_ := Aside0.mk (below_step (by repeat (first | (with_reducible first | exact HB.out | apply below_alloc | apply pw_below_drewN | apply below_drew1 | refine below_set ?_ GE542.out | refine below_set ?_ GE548.out | refine below_set ?_ GE560.out | refine below_set ?_ GE565.out) | exact HB.out)) hb); clear BK542; clear BK548; clear BK560; clear BK565; clear HB; have BK542 := n0_; have BK548 := n1_; have BK560 := n2_; have BK565 := n3_; have HB := n4_; clear n0_ n1_ n2_ n3_ n4_; (try clear hb); (try clear hb2); (try clear hk); (try clear hi)) | ((with_reducible refine gate_callee (f := 25) rfl ?_); refine goesL_ (some 65) rfl rfl Tryd.func25 (by kernel_rfl) rfl #[.string t566] rfl (by (try simp only [List.map_toArray, List.map_cons, List.map_nil]); first | done | rfl | (simp only [List.length_drop, List.length_take]; rfl)) ?_; (with_reducible refine (impl_ReadDec.calls kj6 t566 t567 t568 t569 false _ A54.out).mono ?_); rintro e w94 ⟨rfl, hb⟩; refine ⟨_, rfl, ?_⟩; have n0_ := Aside0.mk (blk_below (g := gb542) (o := .cells #[.bool t539, .string t540, .int .i64 t541] 26 (0, 0)) (by refine blk_up ?_; exact BK542.out) hb); have n1_ := Aside0.mk (blk_below (g := gb548) (o := .cells #[.bool t544, .string t545, .int .i64 t546] 26 (0, 0)) (by refine blk_up ?_; exact BK548.out) hb); have n2_ := Aside0.mk (blk_below (g := gb560) (o := .cells #[.bool t556, .string t557, .int .i64 t558] 26 (0, 0)) (by refine blk_up ?_; exact BK560.out) hb); have n3_ := Aside0.mk (blk_below (g := gb565) (o := .cells #[.bool t561, .string t562, .int .i64 t563] 26 (0, 0)) (by refine blk_up ?_; exact BK565.out) hb); have n4_ := Aside0.mk (below_step (by repeat (first | (with_reducible first | exact HB.out | apply below_alloc | apply pw_below_drewN | apply below_drew1 | refine below_set ?_ GE542.out | refine below_set ?_ GE548.out | refine below_set ?_ GE560.out | refine below_set ?_ GE565.out) | exact HB.out)) hb); clear BK542; clear BK548; clear BK560; clear BK565; clear HB; have BK542 := n0_; have BK548 := n1_; have BK560 := n2_; have BK565 := n3_; have HB := n4_; clear n0_ n1_ n2_ n3_ n4_; (try clear hb); (try clear hb2); (try clear hk); (try clear hi)) | ((with_reducible refine gate_dst (N := 12) rfl ?_); refine box_event ?hg (N := 12) ?hd (cs := #[.bool false, .string (⟨#[]⟩ : ByteArray), .int .i64 0]) (t := 26) ?hr ?_; (case hd => rfl); (case hg => rfl); (case hr => first | (go_simp; done) | (go_simp; rfl)); intro gb571 hg w95 hbox hb; have n0_ := Aside0.mk (blk_below (g := gb542) (o := .cells #[.bool t539, .string t540, .int .i64 t541] 26 (0, 0)) (by refine blk_up ?_; exact BK542.out) hb); have n1_ := Aside0.mk (blk_below (g := gb548) (o := .cells #[.bool t544, .string t545, .int .i64 t546] 26 (0, 0)) (by refine blk_up ?_; exact BK548.out) hb); have n2_ := Aside0.mk (blk_below (g := gb560) (o := .cells #[.bool t556, .string t557, .int .i64 t558] 26 (0, 0)) (by refine blk_up ?_; exact BK560.out) hb); have n3_ := Aside0.mk (blk_below (g := gb565) (o := .cells #[.bool t561, .string t562, .int .i64 t563] 26 (0, 0)) (by refine blk_up ?_; exact BK565.out) hb); have n4_ := Aside0.mk (below_step (by repeat (first | (with_reducible first | exact HB.out | apply below_alloc | apply pw_below_drewN | apply below_drew1 | refine below_set ?_ GE542.out | refine below_set ?_ GE548.out | refine below_set ?_ GE560.out | refine below_set ?_ GE565.out) | exact HB.out)) hb); have n5_ := Aside0.mk (hbox); have n6_ := Aside0.mk ((by rw [hg]; exact (below_size (by repeat (first | (with_reducible first | exact HB.out | apply below_alloc | apply pw_below_drewN | apply below_drew1 | refine below_set ?_ GE542.out | refine below_set ?_ GE548.out | refine below_set ?_ GE560.out | refine below_set ?_ GE565.out) | exact HB.out))) : w.heap.size ≤ gb571)); have n7_ := Aside0.mk ((by rw [hg]; exact (below_size (by repeat (first | (with_reducible first | exact HB.out | apply below_alloc | apply pw_below_drewN | apply below_drew1 | refine below_set ?_ GE542.out | refine below_set ?_ GE548.out | refine below_set ?_ GE560.out | refine below_set ?_ GE565.out) | exact HB.out))) : w.heap.size ≤ gb571)); have n8_ := Aside0.mk ((by rw [hg]; exact Nat.ne_of_lt (blk_lt (g := gb542) (o := .cells #[.bool t539, .string t540, .int .i64 t541] 26 (0, 0)) (by refine blk_up ?_; exact BK542.out)) : gb542 ≠ gb571)); have n9_ := Aside0.mk ((by rw [hg]; exact Nat.ne_of_gt (blk_lt (g := gb542) (o := .cells #[.bool t539, .string t540, .int .i64 t541] 26 (0, 0)) (by refine blk_up ?_; exact BK542.out)) : gb571 ≠ gb542)); have n10_ := Aside0.mk ((by rw [hg]; exact Nat.ne_of_lt (blk_lt (g := gb548) (o := .cells #[.bool t544, .string t545, .int .i64 t546] 26 (0, 0)) (by refine blk_up ?_; exact BK548.out)) : gb548 ≠ gb571)); have n11_ := Aside0.mk ((by rw [hg]; exact Nat.ne_of_gt (blk_lt (g := gb548) (o := .cells #[.bool t544, .string t545, .int .i64 t546] 26 (0, 0)) (by refine blk_up ?_; exact BK548.out)) : gb571 ≠ gb548)); have n12_ := Aside0.mk ((by rw [hg]; exact Nat.ne_of_lt (blk_lt (g := gb560) (o := .cells #[.bool t556, .string t557, .int .i64 t558] 26 (0, 0)) (by refine blk_up ?_; exact BK560.out)) : gb560 ≠ gb571)); have n13_ := Aside0.mk ((by rw [hg]; exact Nat.ne_of_gt (blk_lt (g := gb560) (o := .cells #[.bool t556, .string t557, .int .i64 t558] 26 (0, 0)) (by refine blk_up ?_; exact BK560.out)) : gb571 ≠ gb560)); have n14_ := Aside0.mk ((by rw [hg]; exact Nat.ne_of_lt (blk_lt (g := gb565) (o := .cells #[.bool t561, .string t562, .int .i64 t563] 26 (0, 0)) (by refine blk_up ?_; exact BK565.out)) : gb565 ≠ gb571)); have n15_ := Aside0.mk ((by rw [hg]; exact Nat.ne_of_gt (blk_lt (g := gb565) (o := .cells #[.bool t561, .string t562, .int .i64 t563] 26 (0, 0)) (by refine blk_up ?_; exact BK565.out)) : gb571 ≠ gb565)); clear BK542; clear BK548; clear BK560; clear BK565; clear HB; have BK542 := n0_; have BK548 := n1_; have BK560 := n2_; have BK565 := n3_; have HB := n4_; have BK571 := n5_; have GW571 := n6_; have GE571 := n7_; have NB542_571 := n8_; have NB571_542 := n9_; have NB548_571 := n10_; have NB571_548 := n11_; have NB560_571 := n12_; have NB571_560 := n13_; have NB565_571 := n14_; have NB571_565 := n15_; clear n0_ n1_ n2_ n3_ n4_ n5_ n6_ n7_ n8_ n9_ n10_ n11_ n12_ n13_ n14_ n15_; clear hb hbox hg; have hnb96 := NB571_542.out; have hnc96 := NB542_571.out; have hnb97 := NB571_548.out; have hnc97 := NB548_571.out; have hnb98 := NB571_560.out; have hnc98 := NB560_571.out; have hnb99 := NB571_565.out; have hnc99 := NB565_571.out; have hcz100_0 : w95.cell? ⟨gb571, 0, none⟩ = some (.bool false) := (blk_cell BK571.out 0).trans rfl; have hcz100_1 : w95.cell? ⟨gb571, 1, none⟩ = some (.string (⟨#[]⟩ : ByteArray)) := (blk_cell BK571.out 1).trans rfl; have hcz100_2 : w95.cell? ⟨gb571, 2, none⟩ = some (.int .i64 0) := (blk_cell BK571.out 2).trans rfl; have hfz100_0 := blk_frozen BK571.out 0; have hfz100_1 := blk_frozen BK571.out 1; have hfz100_2 := blk_frozen BK571.out 2))
                go_ret
                exact ⟨by first | rfl | (simp [errW_none, errW_some] <;> rfl) | (simp [*, errW_none, errW_some] <;> rfl), by repeat (first | (with_reducible first | exact HB.out | apply below_alloc | apply pw_below_drewN | apply below_drew1 | refine below_set ?_ GE542.out | refine below_set ?_ GE548.out | refine below_set ?_ GE560.out | refine below_set ?_ GE565.out | refine below_set ?_ GE571.out) | exact HB.out)⟩
            · replace c56 := Bool.eq_false_iff.mpr c56
              subst c56
              have H1 : (some true) = some r := by rw [if_neg (show ¬ (false = true) by decide)] at H; exact H
              clear H
              have H := H1
              clear H1
              obtain rfl := Option.some.inj H
              go_wp2_with (first | ((with_reducible refine gate_callee (f := 30) rfl ?_); refine goesL_ (some 51) rfl rfl Tryd.func30 (by kernel_rfl) rfl #[.slice A0 l0.length c0] rfl (by (try simp only [List.map_toArray, List.map_cons, List.map_nil]); first | done | rfl | (simp only [List.length_drop, List.length_take]; rfl)) ?_; (with_reducible refine (spec_DrawReadDec.calls kj6 _ _ l0 t555 _ ?side1 ?side2 A50.out).mono ?_); (case side1 => repeat (first | exact (Kd.C_below HR0.out HB.out) | (with_reducible refine Kd.C_alloc ?_ _) | (with_reducible refine Kd.C_drewN ?_ _) | (with_reducible refine Kd.C_drew ?_))); (case side2 => exact HC0.out); rintro e w101 ⟨rfl, hb⟩; refine ⟨_, rfl, ?_⟩; have n0_ := Aside0.mk (blk_below (g := gb542) (o := .cells #[.bool t539, .string t540, .int .i64 t541] 26 (0, 0)) (by refine blk_up ?_; exact BK542.out) hb); have n1_ := Aside0.mk (blk_below (g := gb548) (o := .cells #[.bool t544, .string t545, .int .i64 t546] 26 (0, 0)) (by refine blk_up ?_; exact BK548.out) hb); have n2_ := Aside0.mk (below_step (by repeat (first | (with_reducible first | exact HB.out | apply below_alloc | apply pw_below_drewN | apply below_drew1 | refine below_set ?_ GE542.out | refine below_set ?_ GE548.out) | exact HB.out)) hb); clear BK542; clear BK548; clear HB; have BK542 := n0_; have BK548 := n1_; have HB := n2_; clear n0_ n1_ n2_; (try clear hb); (try clear hb2); (try clear hk); (try clear hi)) | ((with_reducible refine gate_callee (f := 25) rfl ?_); refine goesL_ (some 54) rfl rfl Tryd.func25 (by kernel_rfl) rfl #[.string t555] rfl (by (try simp only [List.map_toArray, List.map_cons, List.map_nil]); first | done | rfl | (simp only [List.length_drop, List.length_take]; rfl)) ?_; (with_reducible refine (impl_ReadDec.calls kj6 t555 t556 t557 t558 false _ A51.out).mono ?_); rintro e w102 ⟨rfl, hb⟩; refine ⟨_, rfl, ?_⟩; have n0_ := Aside0.mk (blk_below (g := gb542) (o := .cells #[.bool t539, .string t540, .int .i64 t541] 26 (0, 0)) (by refine blk_up ?_; exact BK542.out) hb); have n1_ := Aside0.mk (blk_below (g := gb548) (o := .cells #[.bool t544, .string t545, .int .i64 t546] 26 (0, 0)) (by refine blk_up ?_; exact BK548.out) hb); have n2_ := Aside0.mk (below_step (by repeat (first | (with_reducible first | exact HB.out | apply below_alloc | apply pw_below_drewN | apply below_drew1 | refine below_set ?_ GE542.out | refine below_set ?_ GE548.out) | exact HB.out)) hb); clear BK542; clear BK548; clear HB; have BK542 := n0_; have BK548 := n1_; have HB := n2_; clear n0_ n1_ n2_; (try clear hb); (try clear hb2); (try clear hk); (try clear hi)) | ((with_reducible refine gate_dst (N := 8) rfl ?_); refine box_event ?hg (N := 8) ?hd (cs := #[.bool false, .string (⟨#[]⟩ : ByteArray), .int .i64 0]) (t := 26) ?hr ?_; (case hd => rfl); (case hg => rfl); (case hr => first | (go_simp; done) | (go_simp; rfl)); intro gb560 hg w103 hbox hb; have n0_ := Aside0.mk (blk_below (g := gb542) (o := .cells #[.bool t539, .string t540, .int .i64 t541] 26 (0, 0)) (by refine blk_up ?_; exact BK542.out) hb); have n1_ := Aside0.mk (blk_below (g := gb548) (o := .cells #[.bool t544, .string t545, .int .i64 t546] 26 (0, 0)) (by refine blk_up ?_; exact BK548.out) hb); have n2_ := Aside0.mk (below_step (by repeat (first | (with_reducible first | exact HB.out | apply below_alloc | apply pw_below_drewN | apply below_drew1 | refine below_set ?_ GE542.out | refine below_set ?_ GE548.out) | exact HB.out)) hb); have n3_ := Aside0.mk (hbox); have n4_ := Aside0.mk ((by rw [hg]; exact (below_size (by repeat (first | (with_reducible first | exact HB.out | apply below_alloc | apply pw_below_drewN | apply below_drew1 | refine below_set ?_ GE542.out | refine below_set ?_ GE548.out) | exact HB.out))) : w.heap.size ≤ gb560)); have n5_ := Aside0.mk ((by rw [hg]; exact (below_size (by repeat (first | (with_reducible first | exact HB.out | apply below_alloc | apply pw_below_drewN | apply below_drew1 | refine below_set ?_ GE542.out | refine below_set ?_ GE548.out) | exact HB.out))) : w.heap.size ≤ gb560)); have n6_ := Aside0.mk ((by rw [hg]; exact Nat.ne_of_lt (blk_lt (g := gb542) (o := .cells #[.bool t539, .string t540, .int .i64 t541] 26 (0, 0)) (by refine blk_up ?_; exact BK542.out)) : gb542 ≠ gb560)); have n7_ := Aside0.mk ((by rw [hg]; exact Nat.ne_of_gt (blk_lt (g := gb542) (o := .cells #[.bool t539, .string t540, .int .i64 t541] 26 (0, 0)) (by refine blk_up ?_; exact BK542.out)) : gb560 ≠ gb542)); have n8_ := Aside0.mk ((by rw [hg]; exact Nat.ne_of_lt (blk_lt (g := gb548) (o := .cells #[.bool t544, .string t545, .int .i64 t546] 26 (0, 0)) (by refine blk_up ?_; exact BK548.out)) : gb548 ≠ gb560)); have n9_ := Aside0.mk ((by rw [hg]; exact Nat.ne_of_gt (blk_lt (g := gb548) (o := .cells #[.bool t544, .string t545, .int .i64 t546] 26 (0, 0)) (by refine blk_up ?_; exact BK548.out)) : gb560 ≠ gb548)); clear BK542; clear BK548; clear HB; have BK542 := n0_; have BK548 := n1_; have HB := n2_; have BK560 := n3_; have GW560 := n4_; have GE560 := n5_; have NB542_560 := n6_; have NB560_542 := n7_; have NB548_560 := n8_; have NB560_548 := n9_; clear n0_ n1_ n2_ n3_ n4_ n5_ n6_ n7_ n8_ n9_; clear hb hbox hg; have hnb104 := NB560_542.out; have hnc104 := NB542_560.out; have hnb105 := NB560_548.out; have hnc105 := NB548_560.out; have hcz106_0 : w103.cell? ⟨gb560, 0, none⟩ = some (.bool false) := (blk_cell BK560.out 0).trans rfl; have hcz106_1 : w103.cell? ⟨gb560, 1, none⟩ = some (.string (⟨#[]⟩ : ByteArray)) := (blk_cell BK560.out 1).trans rfl; have hcz106_2 : w103.cell? ⟨gb560, 2, none⟩ = some (.int .i64 0) := (blk_cell BK560.out 2).trans rfl; have hfz106_0 := blk_frozen BK560.out 0; have hfz106_1 := blk_frozen BK560.out 1; have hfz106_2 := blk_frozen BK560.out 2) | ((with_reducible refine gate_callee (f := 31) rfl ?_); refine goesL_ (some 59) rfl rfl Tryd.func31 (by kernel_rfl) rfl #[.string t555] rfl (by (try simp only [List.map_toArray, List.map_cons, List.map_nil]); first | done | rfl | (simp only [List.length_drop, List.length_take]; rfl)) ?_; (with_reducible refine (spec_ReadDec.calls kj6 t555 t561 t562 t563 t564 _ A52.out).mono ?_); rintro e w107 ⟨rfl, hb⟩; refine ⟨_, rfl, ?_⟩; have n0_ := Aside0.mk (blk_below (g := gb542) (o := .cells #[.bool t539, .string t540, .int .i64 t541] 26 (0, 0)) (by refine blk_up ?_; refine blk_far ?_ NB542_560.out _; refine blk_up ?_; refine blk_far ?_ NB542_560.out _; refine blk_up ?_; refine blk_far ?_ NB542_560.out _; refine blk_up ?_; exact BK542.out) hb); have n1_ := Aside0.mk (blk_below (g := gb548) (o := .cells #[.bool t544, .string t545, .int .i64 t546] 26 (0, 0)) (by refine blk_up ?_; refine blk_far ?_ NB548_560.out _; refine blk_up ?_; refine blk_far ?_ NB548_560.out _; refine blk_up ?_; refine blk_far ?_ NB548_560.out _; refine blk_up ?_; exact BK548.out) hb); have n2_ := Aside0.mk (blk_below (g := gb560) (o := .cells #[.bool t556, .string t557, .int .i64 t558] 26 (0, 0)) (by refine blk_up ?_; refine blk_put (cs := #[.bool t556, .string t557, .int .i64 0]) ?_ 2 _ rfl; refine blk_up ?_; refine blk_put (cs := #[.bool t556, .string (⟨#[]⟩ : ByteArray), .int .i64 0]) ?_ 1 _ rfl; refine blk_up ?_; refine blk_put (cs := #[.bool false, .string (⟨#[]⟩ : ByteArray), .int .i64 0]) ?_ 0 _ rfl; refine blk_up ?_; exact BK560.out) hb); have n3_ := Aside0.mk (below_step (by repeat (first | (with_reducible first | exact HB.out | apply below_alloc | apply pw_below_drewN | apply below_drew1 | refine below_set ?_ GE542.out | refine below_set ?_ GE548.out | refine below_set ?_ GE560.out) | exact HB.out)) hb); clear BK542; clear BK548; clear BK560; clear HB; have BK542 := n0_; have BK548 := n1_; have BK560 := n2_; have HB := n3_; clear n0_ n1_ n2_ n3_; (try clear hb); (try clear hb2); (try clear hk); (try clear hi)) | ((with_reducible refine gate_dst (N := 10) rfl ?_); refine box_event ?hg (N := 10) ?hd (cs := #[.bool false, .string (⟨#[]⟩ : ByteArray), .int .i64 0]) (t := 26) ?hr ?_; (case hd => rfl); (case hg => rfl); (case hr => first | (go_simp; done) | (go_simp; rfl)); intro gb565 hg w108 hbox hb; have n0_ := Aside0.mk (blk_below (g := gb542) (o := .cells #[.bool t539, .string t540, .int .i64 t541] 26 (0, 0)) (by refine blk_up ?_; exact BK542.out) hb); have n1_ := Aside0.mk (blk_below (g := gb548) (o := .cells #[.bool t544, .string t545, .int .i64 t546] 26 (0, 0)) (by refine blk_up ?_; exact BK548.out) hb); have n2_ := Aside0.mk (blk_below (g := gb560) (o := .cells #[.bool t556, .string t557, .int .i64 t558] 26 (0, 0)) (by refine blk_up ?_; exact BK560.out) hb); have n3_ := Aside0.mk (below_step (by repeat (first | (with_reducible first | exact HB.out | apply below_alloc | apply pw_below_drewN | apply below_drew1 | refine below_set ?_ GE542.out | refine below_set ?_ GE548.out | refine below_set ?_ GE560.out) | exact HB.out)) hb); have n4_ := Aside0.mk (hbox); have n5_ := Aside0.mk ((by rw [hg]; exact (below_size (by repeat (first | (with_reducible first | exact HB.out | apply below_alloc | apply pw_below_drewN | apply below_drew1 | refine below_set ?_ GE542.out | refine below_set ?_ GE548.out | refine below_set ?_ GE560.out) | exact HB.out))) : w.heap.size ≤ gb565)); have n6_ := Aside0.mk ((by rw [hg]; exact (below_size (by repeat (first | (with_reducible first | exact HB.out | apply below_alloc | apply pw_below_drewN | apply below_drew1 | refine below_set ?_ GE542.out | refine below_set ?_ GE548.out | refine below_set ?_ GE560.out) | exact HB.out))) : w.heap.size ≤ gb565)); have n7_ := Aside0.mk ((by rw [hg]; exact Nat.ne_of_lt (blk_lt (g := gb542) (o := .cells #[.bool t539, .string t540, .int .i64 t541] 26 (0, 0)) (by refine blk_up ?_; exact BK542.out)) : gb542 ≠ gb565)); have n8_ := Aside0.mk ((by rw [hg]; exact Nat.ne_of_gt (blk_lt (g := gb542) (o := .cells #[.bool t539, .string t540, .int .i64 t541] 26 (0, 0)) (by refine blk_up ?_; exact BK542.out)) : gb565 ≠ gb542)); have n9_ := Aside0.mk ((by rw [hg]; exact Nat.ne_of_lt (blk_lt (g := gb548) (o := .cells #[.bool t544, .string t545, .int .i64 t546] 26 (0, 0)) (by refine blk_up ?_; exact BK548.out)) : gb548 ≠ gb565)); have n10_ := Aside0.mk ((by rw [hg]; exact Nat.ne_of_gt (blk_lt (g := gb548) (o := .cells #[.bool t544, .string t545, .int .i64 t546] 26 (0, 0)) (by refine blk_up ?_; exact BK548.out)) : gb565 ≠ gb548)); have n11_ := Aside0.mk ((by rw [hg]; exact Nat.ne_of_lt (blk_lt (g := gb560) (o := .cells #[.bool t556, .string t557, .int .i64 t558] 26 (0, 0)) (by refine blk_up ?_; exact BK560.out)) : gb560 ≠ gb565)); have n12_ := Aside0.mk ((by rw [hg]; exact Nat.ne_of_gt (blk_lt (g := gb560) (o := .cells #[.bool t556, .string t557, .int .i64 t558] 26 (0, 0)) (by refine blk_up ?_; exact BK560.out)) : gb565 ≠ gb560)); clear BK542; clear BK548; clear BK560; clear HB; have BK542 := n0_; have BK548 := n1_; have BK560 := n2_; have HB := n3_; have BK565 := n4_; have GW565 := n5_; have GE565 := n6_; have NB542_565 := n7_; have NB565_542 := n8_; have NB548_565 := n9_; have NB565_548 := n10_; have NB560_565 := n11_; have NB565_560 := n12_; clear n0_ n1_ n2_ n3_ n4_ n5_ n6_ n7_ n8_ n9_ n10_ n11_ n12_; clear hb hbox hg; have hnb109 := NB565_542.out; have hnc109 := NB542_565.out; have hnb110 := NB565_548.out; have hnc110 := NB548_565.out; have hnb111 := NB565_560.out; have hnc111 := NB560_565.out; have hcz112_0 : w108.cell? ⟨gb565, 0, none⟩ = some (.bool false) := (blk_cell BK565.out 0).trans rfl; have hcz112_1 : w108.cell? ⟨gb565, 1, none⟩ = some (.string (⟨#[]⟩ : ByteArray)) := (blk_cell BK565.out 1).trans rfl; have hcz112_2 : w108.cell? ⟨gb565, 2, none⟩ = some (.int .i64 0) := (blk_cell BK565.out 2).trans rfl; have hfz112_0 := blk_frozen BK565.out 0; have hfz112_1 := blk_frozen BK565.out 1; have hfz112_2 := blk_frozen BK565.out 2; have hcz113_0 : w108.cell? ⟨gb560, 0, none⟩ = some (.bool t556) := (blk_cell BK560.out 0).trans rfl; have hcz113_1 : w108.cell? ⟨gb560, 1, none⟩ = some (.string t557) := (blk_cell BK560.out 1).trans rfl; have hcz113_2 : w108.cell? ⟨gb560, 2, none⟩ = some (.int .i64 t558) := (blk_cell BK560.out 2).trans rfl; have hfz113_0 := blk_frozen BK560.out 0; have hfz113_1 := blk_frozen BK560.out 1; have hfz113_2 := blk_frozen BK560.out 2) | ((with_reducible refine gate_callee (f := 24) rfl ?_); refine goesL_ (some 64) rfl rfl Tryd.func24 (by kernel_rfl) rfl #[.agg #[.bool t556, .string t557, .int .i64 t558]] rfl (by (try simp only [List.map_toArray, List.map_cons, List.map_nil]); first | done | rfl | (simp only [List.length_drop, List.length_take]; rfl)) ?_; (with_reducible refine (impl_DecText.calls kj6 t556 t557 t558 t566 _ A53.out).mono ?_); rintro e w114 ⟨rfl, hb⟩; refine ⟨_, rfl, ?_⟩; have n0_ := Aside0.mk (blk_below (g := gb542) (o := .cells #[.bool t539, .string t540, .int .i64 t541] 26 (0, 0)) (by refine blk_up ?_; refine blk_far ?_ NB542_565.out _; refine blk_up ?_; refine blk_far ?_ NB542_565.out _; refine blk_up ?_; refine blk_far ?_ NB542_565.out _; refine blk_up ?_; exact BK542.out) hb); have n1_ := Aside0.mk (blk_below (g := gb548) (o := .cells #[.bool t544, .string t545, .int .i64 t546] 26 (0, 0)) (by refine blk_up ?_; refine blk_far ?_ NB548_565.out _; refine blk_up ?_; refine blk_far ?_ NB548_565.out _; refine blk_up ?_; refine blk_far ?_ NB548_565.out _; refine blk_up ?_; exact BK548.out) hb); have n2_ := Aside0.mk (blk_below (g := gb560) (o := .cells #[.bool t556, .string t557, .int .i64 t558] 26 (0, 0)) (by refine blk_up ?_; refine blk_far ?_ NB560_565.out _; refine blk_up ?_; refine blk_far ?_ NB560_565.out _; refine blk_up ?_; refine blk_far ?_ NB560_565.out _; refine blk_up ?_; exact BK560.out) hb); have n3_ := Aside0.mk (blk_below (g := gb565) (o := .cells #[.bool t561, .string t562, .int .i64 t563] 26 (0, 0)) (by refine blk_up ?_; refine blk_put (cs := #[.bool t561, .string t562, .int .i64 0]) ?_ 2 _ rfl; refine blk_up ?_; refine blk_put (cs := #[.bool t561, .string (⟨#[]⟩ : ByteArray), .int .i64 0]) ?_ 1 _ rfl; refine blk_up ?_; refine blk_put (cs := #[.bool false, .string (⟨#[]⟩ : ByteArray), .int .i64 0]) ?_ 0 _ rfl; refine blk_up ?_; exact BK565.out) hb); have n4_ := Aside0.mk (below_step (by repeat (first | (with_reducible first | exact HB.out | apply below_alloc | apply pw_below_drewN | apply below_drew1 | refine below_set ?_ GE542.out | refine below_set ?_ GE548.out | refine below_set ?_ GE560.out | refine below_set ?_ GE565.out) | exact HB.out)) hb); clear BK542; clear BK548; clear BK560; clear BK565; clear HB; have BK542 := n0_; have BK548 := n1_; have BK560 := n2_; have BK565 := n3_; have HB := n4_; clear n0_ n1_ n2_ n3_ n4_; (try clear hb); (try clear hb2); (try clear hk); (try clear hi)) | ((with_reducible refine gate_callee (f := 25) rfl ?_); refine goesL_ (some 65) rfl rfl Tryd.func25 (by kernel_rfl) rfl #[.string t566] rfl (by (try simp only [List.map_toArray, List.map_cons, List.map_nil]); first | done | rfl | (simp only [List.length_drop, List.length_take]; rfl)) ?_; (with_reducible refine (impl_ReadDec.calls kj6 t566 t567 t568 t569 t570 _ A54.out).mono ?_); rintro e w115 ⟨rfl, hb⟩; refine ⟨_, rfl, ?_⟩; have n0_ := Aside0.mk (blk_below (g := gb542) (o := .cells #[.bool t539, .string t540, .int .i64 t541] 26 (0, 0)) (by refine blk_up ?_; exact BK542.out) hb); have n1_ := Aside0.mk (blk_below (g := gb548) (o := .cells #[.bool t544, .string t545, .int .i64 t546] 26 (0, 0)) (by refine blk_up ?_; exact BK548.out) hb); have n2_ := Aside0.mk (blk_below (g := gb560) (o := .cells #[.bool t556, .string t557, .int .i64 t558] 26 (0, 0)) (by refine blk_up ?_; exact BK560.out) hb); have n3_ := Aside0.mk (blk_below (g := gb565) (o := .cells #[.bool t561, .string t562, .int .i64 t563] 26 (0, 0)) (by refine blk_up ?_; exact BK565.out) hb); have n4_ := Aside0.mk (below_step (by repeat (first | (with_reducible first | exact HB.out | apply below_alloc | apply pw_below_drewN | apply below_drew1 | refine below_set ?_ GE542.out | refine below_set ?_ GE548.out | refine below_set ?_ GE560.out | refine below_set ?_ GE565.out) | exact HB.out)) hb); clear BK542; clear BK548; clear BK560; clear BK565; clear HB; have BK542 := n0_; have BK548 := n1_; have BK560 := n2_; have BK565 := n3_; have HB := n4_; clear n0_ n1_ n2_ n3_ n4_; (try clear hb); (try clear hb2); (try clear hk); (try clear hi)) | ((with_reducible refine gate_dst (N := 12) rfl ?_); refine box_event ?hg (N := 12) ?hd (cs := #[.bool false, .string (⟨#[]⟩ : ByteArray), .int .i64 0]) (t := 26) ?hr ?_; (case hd => rfl); (case hg => rfl); (case hr => first | (go_simp; done) | (go_simp; rfl)); intro gb571 hg w116 hbox hb; have n0_ := Aside0.mk (blk_below (g := gb542) (o := .cells #[.bool t539, .string t540, .int .i64 t541] 26 (0, 0)) (by refine blk_up ?_; exact BK542.out) hb); have n1_ := Aside0.mk (blk_below (g := gb548) (o := .cells #[.bool t544, .string t545, .int .i64 t546] 26 (0, 0)) (by refine blk_up ?_; exact BK548.out) hb); have n2_ := Aside0.mk (blk_below (g := gb560) (o := .cells #[.bool t556, .string t557, .int .i64 t558] 26 (0, 0)) (by refine blk_up ?_; exact BK560.out) hb); have n3_ := Aside0.mk (blk_below (g := gb565) (o := .cells #[.bool t561, .string t562, .int .i64 t563] 26 (0, 0)) (by refine blk_up ?_; exact BK565.out) hb); have n4_ := Aside0.mk (below_step (by repeat (first | (with_reducible first | exact HB.out | apply below_alloc | apply pw_below_drewN | apply below_drew1 | refine below_set ?_ GE542.out | refine below_set ?_ GE548.out | refine below_set ?_ GE560.out | refine below_set ?_ GE565.out) | exact HB.out)) hb); have n5_ := Aside0.mk (hbox); have n6_ := Aside0.mk ((by rw [hg]; exact (below_size (by repeat (first | (with_reducible first | exact HB.out | apply below_alloc | apply pw_below_drewN | apply below_drew1 | refine below_set ?_ GE542.out | refine below_set ?_ GE548.out | refine below_set ?_ GE560.out | refine below_set ?_ GE565.out) | exact HB.out))) : w.heap.size ≤ gb571)); have n7_ := Aside0.mk ((by rw [hg]; exact (below_size (by repeat (first | (with_reducible first | exact HB.out | apply below_alloc | apply pw_below_drewN | apply below_drew1 | refine below_set ?_ GE542.out | refine below_set ?_ GE548.out | refine below_set ?_ GE560.out | refine below_set ?_ GE565.out) | exact HB.out))) : w.heap.size ≤ gb571)); have n8_ := Aside0.mk ((by rw [hg]; exact Nat.ne_of_lt (blk_lt (g := gb542) (o := .cells #[.bool t539, .string t540, .int .i64 t541] 26 (0, 0)) (by refine blk_up ?_; exact BK542.out)) : gb542 ≠ gb571)); have n9_ := Aside0.mk ((by rw [hg]; exact Nat.ne_of_gt (blk_lt (g := gb542) (o := .cells #[.bool t539, .string t540, .int .i64 t541] 26 (0, 0)) (by refine blk_up ?_; exact BK542.out)) : gb571 ≠ gb542)); have n10_ := Aside0.mk ((by rw [hg]; exact Nat.ne_of_lt (blk_lt (g := gb548) (o := .cells #[.bool t544, .string t545, .int .i64 t546] 26 (0, 0)) (by refine blk_up ?_; exact BK548.out)) : gb548 ≠ gb571)); have n11_ := Aside0.mk ((by rw [hg]; exact Nat.ne_of_gt (blk_lt (g := gb548) (o := .cells #[.bool t544, .string t545, .int .i64 t546] 26 (0, 0)) (by refine blk_up ?_; exact BK548.out)) : gb571 ≠ gb548)); have n12_ := Aside0.mk ((by rw [hg]; exact Nat.ne_of_lt (blk_lt (g := gb560) (o := .cells #[.bool t556, .string t557, .int .i64 t558] 26 (0, 0)) (by refine blk_up ?_; exact BK560.out)) : gb560 ≠ gb571)); have n13_ := Aside0.mk ((by rw [hg]; exact Nat.ne_of_gt (blk_lt (g := gb560) (o := .cells #[.bool t556, .string t557, .int .i64 t558] 26 (0, 0)) (by refine blk_up ?_; exact BK560.out)) : gb571 ≠ gb560)); have n14_ := Aside0.mk ((by rw [hg]; exact Nat.ne_of_lt (blk_lt (g := gb565) (o := .cells #[.bool t561, .string t562, .int .i64 t563] 26 (0, 0)) (by refine blk_up ?_; exact BK565.out)) : gb565 ≠ gb571)); have n15_ := Aside0.mk ((by rw [hg]; exact Nat.ne_of_gt (blk_lt (g := gb565) (o := .cells #[.bool t561, .string t562, .int .i64 t563] 26 (0, 0)) (by refine blk_up ?_; exact BK565.out)) : gb571 ≠ gb565)); clear BK542; clear BK548; clear BK560; clear BK565; clear HB; have BK542 := n0_; have BK548 := n1_; have BK560 := n2_; have BK565 := n3_; have HB := n4_; have BK571 := n5_; have GW571 := n6_; have GE571 := n7_; have NB542_571 := n8_; have NB571_542 := n9_; have NB548_571 := n10_; have NB571_548 := n11_; have NB560_571 := n12_; have NB571_560 := n13_; have NB565_571 := n14_; have NB571_565 := n15_; clear n0_ n1_ n2_ n3_ n4_ n5_ n6_ n7_ n8_ n9_ n10_ n11_ n12_ n13_ n14_ n15_; clear hb hbox hg; have hnb117 := NB571_542.out; have hnc117 := NB542_571.out; have hnb118 := NB571_548.out; have hnc118 := NB548_571.out; have hnb119 := NB571_560.out; have hnc119 := NB560_571.out; have hnb120 := NB571_565.out; have hnc120 := NB565_571.out; have hcz121_0 : w116.cell? ⟨gb571, 0, none⟩ = some (.bool false) := (blk_cell BK571.out 0).trans rfl; have hcz121_1 : w116.cell? ⟨gb571, 1, none⟩ = some (.string (⟨#[]⟩ : ByteArray)) := (blk_cell BK571.out 1).trans rfl; have hcz121_2 : w116.cell? ⟨gb571, 2, none⟩ = some (.int .i64 0) := (blk_cell BK571.out 2).trans rfl; have hfz121_0 := blk_frozen BK571.out 0; have hfz121_1 := blk_frozen BK571.out 1; have hfz121_2 := blk_frozen BK571.out 2))
              go_ret
              exact ⟨by first | rfl | (simp [errW_none, errW_some] <;> rfl) | (simp [*, errW_none, errW_some] <;> rfl), by repeat (first | (with_reducible first | exact HB.out | apply below_alloc | apply pw_below_drewN | apply below_drew1 | refine below_set ?_ GE542.out | refine below_set ?_ GE548.out | refine below_set ?_ GE560.out | refine below_set ?_ GE565.out | refine below_set ?_ GE571.out) | exact HB.out)⟩
          · rw [if_neg c55] at H
            have c55b0 : (t559 == t564) = false := by simpa using c55
            (try (have c55b1 : decide (t559 = t564) = false := by simpa using c55))
            (try (have c55b2 : (t559 == t564) = false := by simpa using c55))
            (try (have c55b3 : ¬ (t559 = t564) := by simpa using c55))
            clear c55
            obtain rfl := Option.some.inj H
            go_wp2_with (first | ((with_reducible refine gate_callee (f := 30) rfl ?_); refine goesL_ (some 51) rfl rfl Tryd.func30 (by kernel_rfl) rfl #[.slice A0 l0.length c0] rfl (by (try simp only [List.map_toArray, List.map_cons, List.map_nil]); first | done | rfl | (simp only [List.length_drop, List.length_take]; rfl)) ?_; (with_reducible refine (spec_DrawReadDec.calls kj6 _ _ l0 t555 _ ?side1 ?side2 A50.out).mono ?_); (case side1 => repeat (first | exact (Kd.C_below HR0.out HB.out) | (with_reducible refine Kd.C_alloc ?_ _) | (with_reducible refine Kd.C_drewN ?_ _) | (with_reducible refine Kd.C_drew ?_))); (case side2 => exact HC0.out); rintro e w122 ⟨rfl, hb⟩; refine ⟨_, rfl, ?_⟩; have n0_ := Aside0.mk (blk_below (g := gb542) (o := .cells #[.bool t539, .string t540, .int .i64 t541] 26 (0, 0)) (by refine blk_up ?_; exact BK542.out) hb); have n1_ := Aside0.mk (blk_below (g := gb548) (o := .cells #[.bool t544, .string t545, .int .i64 t546] 26 (0, 0)) (by refine blk_up ?_; exact BK548.out) hb); have n2_ := Aside0.mk (below_step (by repeat (first | (with_reducible first | exact HB.out | apply below_alloc | apply pw_below_drewN | apply below_drew1 | refine below_set ?_ GE542.out | refine below_set ?_ GE548.out) | exact HB.out)) hb); clear BK542; clear BK548; clear HB; have BK542 := n0_; have BK548 := n1_; have HB := n2_; clear n0_ n1_ n2_; (try clear hb); (try clear hb2); (try clear hk); (try clear hi)) | ((with_reducible refine gate_callee (f := 25) rfl ?_); refine goesL_ (some 54) rfl rfl Tryd.func25 (by kernel_rfl) rfl #[.string t555] rfl (by (try simp only [List.map_toArray, List.map_cons, List.map_nil]); first | done | rfl | (simp only [List.length_drop, List.length_take]; rfl)) ?_; (with_reducible refine (impl_ReadDec.calls kj6 t555 t556 t557 t558 t559 _ A51.out).mono ?_); rintro e w123 ⟨rfl, hb⟩; refine ⟨_, rfl, ?_⟩; have n0_ := Aside0.mk (blk_below (g := gb542) (o := .cells #[.bool t539, .string t540, .int .i64 t541] 26 (0, 0)) (by refine blk_up ?_; exact BK542.out) hb); have n1_ := Aside0.mk (blk_below (g := gb548) (o := .cells #[.bool t544, .string t545, .int .i64 t546] 26 (0, 0)) (by refine blk_up ?_; exact BK548.out) hb); have n2_ := Aside0.mk (below_step (by repeat (first | (with_reducible first | exact HB.out | apply below_alloc | apply pw_below_drewN | apply below_drew1 | refine below_set ?_ GE542.out | refine below_set ?_ GE548.out) | exact HB.out)) hb); clear BK542; clear BK548; clear HB; have BK542 := n0_; have BK548 := n1_; have HB := n2_; clear n0_ n1_ n2_; (try clear hb); (try clear hb2); (try clear hk); (try clear hi)) | ((with_reducible refine gate_dst (N := 8) rfl ?_); refine box_event ?hg (N := 8) ?hd (cs := #[.bool false, .string (⟨#[]⟩ : ByteArray), .int .i64 0]) (t := 26) ?hr ?_; (case hd => rfl); (case hg => rfl); (case hr => first | (go_simp; done) | (go_simp; rfl)); intro gb560 hg w124 hbox hb; have n0_ := Aside0.mk (blk_below (g := gb542) (o := .cells #[.bool t539, .string t540, .int .i64 t541] 26 (0, 0)) (by refine blk_up ?_; exact BK542.out) hb); have n1_ := Aside0.mk (blk_below (g := gb548) (o := .cells #[.bool t544, .string t545, .int .i64 t546] 26 (0, 0)) (by refine blk_up ?_; exact BK548.out) hb); have n2_ := Aside0.mk (below_step (by repeat (first | (with_reducible first | exact HB.out | apply below_alloc | apply pw_below_drewN | apply below_drew1 | refine below_set ?_ GE542.out | refine below_set ?_ GE548.out) | exact HB.out)) hb); have n3_ := Aside0.mk (hbox); have n4_ := Aside0.mk ((by rw [hg]; exact (below_size (by repeat (first | (with_reducible first | exact HB.out | apply below_alloc | apply pw_below_drewN | apply below_drew1 | refine below_set ?_ GE542.out | refine below_set ?_ GE548.out) | exact HB.out))) : w.heap.size ≤ gb560)); have n5_ := Aside0.mk ((by rw [hg]; exact (below_size (by repeat (first | (with_reducible first | exact HB.out | apply below_alloc | apply pw_below_drewN | apply below_drew1 | refine below_set ?_ GE542.out | refine below_set ?_ GE548.out) | exact HB.out))) : w.heap.size ≤ gb560)); have n6_ := Aside0.mk ((by rw [hg]; exact Nat.ne_of_lt (blk_lt (g := gb542) (o := .cells #[.bool t539, .string t540, .int .i64 t541] 26 (0, 0)) (by refine blk_up ?_; exact BK542.out)) : gb542 ≠ gb560)); have n7_ := Aside0.mk ((by rw [hg]; exact Nat.ne_of_gt (blk_lt (g := gb542) (o := .cells #[.bool t539, .string t540, .int .i64 t541] 26 (0, 0)) (by refine blk_up ?_; exact BK542.out)) : gb560 ≠ gb542)); have n8_ := Aside0.mk ((by rw [hg]; exact Nat.ne_of_lt (blk_lt (g := gb548) (o := .cells #[.bool t544, .string t545, .int .i64 t546] 26 (0, 0)) (by refine blk_up ?_; exact BK548.out)) : gb548 ≠ gb560)); have n9_ := Aside0.mk ((by rw [hg]; exact Nat.ne_of_gt (blk_lt (g := gb548) (o := .cells #[.bool t544, .string t545, .int .i64 t546] 26 (0, 0)) (by refine blk_up ?_; exact BK548.out)) : gb560 ≠ gb548)); clear BK542; clear BK548; clear HB; have BK542 := n0_; have BK548 := n1_; have HB := n2_; have BK560 := n3_; have GW560 := n4_; have GE560 := n5_; have NB542_560 := n6_; have NB560_542 := n7_; have NB548_560 := n8_; have NB560_548 := n9_; clear n0_ n1_ n2_ n3_ n4_ n5_ n6_ n7_ n8_ n9_; clear hb hbox hg; have hnb125 := NB560_542.out; have hnc125 := NB542_560.out; have hnb126 := NB560_548.out; have hnc126 := NB548_560.out; have hcz127_0 : w124.cell? ⟨gb560, 0, none⟩ = some (.bool false) := (blk_cell BK560.out 0).trans rfl; have hcz127_1 : w124.cell? ⟨gb560, 1, none⟩ = some (.string (⟨#[]⟩ : ByteArray)) := (blk_cell BK560.out 1).trans rfl; have hcz127_2 : w124.cell? ⟨gb560, 2, none⟩ = some (.int .i64 0) := (blk_cell BK560.out 2).trans rfl; have hfz127_0 := blk_frozen BK560.out 0; have hfz127_1 := blk_frozen BK560.out 1; have hfz127_2 := blk_frozen BK560.out 2) | ((with_reducible refine gate_callee (f := 31) rfl ?_); refine goesL_ (some 59) rfl rfl Tryd.func31 (by kernel_rfl) rfl #[.string t555] rfl (by (try simp only [List.map_toArray, List.map_cons, List.map_nil]); first | done | rfl | (simp only [List.length_drop, List.length_take]; rfl)) ?_; (with_reducible refine (spec_ReadDec.calls kj6 t555 t561 t562 t563 t564 _ A52.out).mono ?_); rintro e w128 ⟨rfl, hb⟩; refine ⟨_, rfl, ?_⟩; have n0_ := Aside0.mk (blk_below (g := gb542) (o := .cells #[.bool t539, .string t540, .int .i64 t541] 26 (0, 0)) (by refine blk_up ?_; refine blk_far ?_ NB542_560.out _; refine blk_up ?_; refine blk_far ?_ NB542_560.out _; refine blk_up ?_; refine blk_far ?_ NB542_560.out _; refine blk_up ?_; exact BK542.out) hb); have n1_ := Aside0.mk (blk_below (g := gb548) (o := .cells #[.bool t544, .string t545, .int .i64 t546] 26 (0, 0)) (by refine blk_up ?_; refine blk_far ?_ NB548_560.out _; refine blk_up ?_; refine blk_far ?_ NB548_560.out _; refine blk_up ?_; refine blk_far ?_ NB548_560.out _; refine blk_up ?_; exact BK548.out) hb); have n2_ := Aside0.mk (blk_below (g := gb560) (o := .cells #[.bool t556, .string t557, .int .i64 t558] 26 (0, 0)) (by refine blk_up ?_; refine blk_put (cs := #[.bool t556, .string t557, .int .i64 0]) ?_ 2 _ rfl; refine blk_up ?_; refine blk_put (cs := #[.bool t556, .string (⟨#[]⟩ : ByteArray), .int .i64 0]) ?_ 1 _ rfl; refine blk_up ?_; refine blk_put (cs := #[.bool false, .string (⟨#[]⟩ : ByteArray), .int .i64 0]) ?_ 0 _ rfl; refine blk_up ?_; exact BK560.out) hb); have n3_ := Aside0.mk (below_step (by repeat (first | (with_reducible first | exact HB.out | apply below_alloc | apply pw_below_drewN | apply below_drew1 | refine below_set ?_ GE542.out | refine below_set ?_ GE548.out | refine below_set ?_ GE560.out) | exact HB.out)) hb); clear BK542; clear BK548; clear BK560; clear HB; have BK542 := n0_; have BK548 := n1_; have BK560 := n2_; have HB := n3_; clear n0_ n1_ n2_ n3_; (try clear hb); (try clear hb2); (try clear hk); (try clear hi)) | ((with_reducible refine gate_dst (N := 10) rfl ?_); refine box_event ?hg (N := 10) ?hd (cs := #[.bool false, .string (⟨#[]⟩ : ByteArray), .int .i64 0]) (t := 26) ?hr ?_; (case hd => rfl); (case hg => rfl); (case hr => first | (go_simp; done) | (go_simp; rfl)); intro gb565 hg w129 hbox hb; have n0_ := Aside0.mk (blk_below (g := gb542) (o := .cells #[.bool t539, .string t540, .int .i64 t541] 26 (0, 0)) (by refine blk_up ?_; exact BK542.out) hb); have n1_ := Aside0.mk (blk_below (g := gb548) (o := .cells #[.bool t544, .string t545, .int .i64 t546] 26 (0, 0)) (by refine blk_up ?_; exact BK548.out) hb); have n2_ := Aside0.mk (blk_below (g := gb560) (o := .cells #[.bool t556, .string t557, .int .i64 t558] 26 (0, 0)) (by refine blk_up ?_; exact BK560.out) hb); have n3_ := Aside0.mk (below_step (by repeat (first | (with_reducible first | exact HB.out | apply below_alloc | apply pw_below_drewN | apply below_drew1 | refine below_set ?_ GE542.out | refine below_set ?_ GE548.out | refine below_set ?_ GE560.out) | exact HB.out)) hb); have n4_ := Aside0.mk (hbox); have n5_ := Aside0.mk ((by rw [hg]; exact (below_size (by repeat (first | (with_reducible first | exact HB.out | apply below_alloc | apply pw_below_drewN | apply below_drew1 | refine below_set ?_ GE542.out | refine below_set ?_ GE548.out | refine below_set ?_ GE560.out) | exact HB.out))) : w.heap.size ≤ gb565)); have n6_ := Aside0.mk ((by rw [hg]; exact (below_size (by repeat (first | (with_reducible first | exact HB.out | apply below_alloc | apply pw_below_drewN | apply below_drew1 | refine below_set ?_ GE542.out | refine below_set ?_ GE548.out | refine below_set ?_ GE560.out) | exact HB.out))) : w.heap.size ≤ gb565)); have n7_ := Aside0.mk ((by rw [hg]; exact Nat.ne_of_lt (blk_lt (g := gb542) (o := .cells #[.bool t539, .string t540, .int .i64 t541] 26 (0, 0)) (by refine blk_up ?_; exact BK542.out)) : gb542 ≠ gb565)); have n8_ := Aside0.mk ((by rw [hg]; exact Nat.ne_of_gt (blk_lt (g := gb542) (o := .cells #[.bool t539, .string t540, .int .i64 t541] 26 (0, 0)) (by refine blk_up ?_; exact BK542.out)) : gb565 ≠ gb542)); have n9_ := Aside0.mk ((by rw [hg]; exact Nat.ne_of_lt (blk_lt (g := gb548) (o := .cells #[.bool t544, .string t545, .int .i64 t546] 26 (0, 0)) (by refine blk_up ?_; exact BK548.out)) : gb548 ≠ gb565)); have n10_ := Aside0.mk ((by rw [hg]; exact Nat.ne_of_gt (blk_lt (g := gb548) (o := .cells #[.bool t544, .string t545, .int .i64 t546] 26 (0, 0)) (by refine blk_up ?_; exact BK548.out)) : gb565 ≠ gb548)); have n11_ := Aside0.mk ((by rw [hg]; exact Nat.ne_of_lt (blk_lt (g := gb560) (o := .cells #[.bool t556, .string t557, .int .i64 t558] 26 (0, 0)) (by refine blk_up ?_; exact BK560.out)) : gb560 ≠ gb565)); have n12_ := Aside0.mk ((by rw [hg]; exact Nat.ne_of_gt (blk_lt (g := gb560) (o := .cells #[.bool t556, .string t557, .int .i64 t558] 26 (0, 0)) (by refine blk_up ?_; exact BK560.out)) : gb565 ≠ gb560)); clear BK542; clear BK548; clear BK560; clear HB; have BK542 := n0_; have BK548 := n1_; have BK560 := n2_; have HB := n3_; have BK565 := n4_; have GW565 := n5_; have GE565 := n6_; have NB542_565 := n7_; have NB565_542 := n8_; have NB548_565 := n9_; have NB565_548 := n10_; have NB560_565 := n11_; have NB565_560 := n12_; clear n0_ n1_ n2_ n3_ n4_ n5_ n6_ n7_ n8_ n9_ n10_ n11_ n12_; clear hb hbox hg; have hnb130 := NB565_542.out; have hnc130 := NB542_565.out; have hnb131 := NB565_548.out; have hnc131 := NB548_565.out; have hnb132 := NB565_560.out; have hnc132 := NB560_565.out; have hcz133_0 : w129.cell? ⟨gb565, 0, none⟩ = some (.bool false) := (blk_cell BK565.out 0).trans rfl; have hcz133_1 : w129.cell? ⟨gb565, 1, none⟩ = some (.string (⟨#[]⟩ : ByteArray)) := (blk_cell BK565.out 1).trans rfl; have hcz133_2 : w129.cell? ⟨gb565, 2, none⟩ = some (.int .i64 0) := (blk_cell BK565.out 2).trans rfl; have hfz133_0 := blk_frozen BK565.out 0; have hfz133_1 := blk_frozen BK565.out 1; have hfz133_2 := blk_frozen BK565.out 2; have hcz134_0 : w129.cell? ⟨gb560, 0, none⟩ = some (.bool t556) := (blk_cell BK560.out 0).trans rfl; have hcz134_1 : w129.cell? ⟨gb560, 1, none⟩ = some (.string t557) := (blk_cell BK560.out 1).trans rfl; have hcz134_2 : w129.cell? ⟨gb560, 2, none⟩ = some (.int .i64 t558) := (blk_cell BK560.out 2).trans rfl; have hfz134_0 := blk_frozen BK560.out 0; have hfz134_1 := blk_frozen BK560.out 1; have hfz134_2 := blk_frozen BK560.out 2) | ((with_reducible refine gate_callee (f := 24) rfl ?_); refine goesL_ (some 64) rfl rfl Tryd.func24 (by kernel_rfl) rfl #[.agg #[.bool t556, .string t557, .int .i64 t558]] rfl (by (try simp only [List.map_toArray, List.map_cons, List.map_nil]); first | done | rfl | (simp only [List.length_drop, List.length_take]; rfl)) ?_; (with_reducible refine (impl_DecText.calls kj6 t556 t557 t558 t566 _ A53.out).mono ?_); rintro e w135 ⟨rfl, hb⟩; refine ⟨_, rfl, ?_⟩; have n0_ := Aside0.mk (blk_below (g := gb542) (o := .cells #[.bool t539, .string t540, .int .i64 t541] 26 (0, 0)) (by refine blk_up ?_; refine blk_far ?_ NB542_565.out _; refine blk_up ?_; refine blk_far ?_ NB542_565.out _; refine blk_up ?_; refine blk_far ?_ NB542_565.out _; refine blk_up ?_; exact BK542.out) hb); have n1_ := Aside0.mk (blk_below (g := gb548) (o := .cells #[.bool t544, .string t545, .int .i64 t546] 26 (0, 0)) (by refine blk_up ?_; refine blk_far ?_ NB548_565.out _; refine blk_up ?_; refine blk_far ?_ NB548_565.out _; refine blk_up ?_; refine blk_far ?_ NB548_565.out _; refine blk_up ?_; exact BK548.out) hb); have n2_ := Aside0.mk (blk_below (g := gb560) (o := .cells #[.bool t556, .string t557, .int .i64 t558] 26 (0, 0)) (by refine blk_up ?_; refine blk_far ?_ NB560_565.out _; refine blk_up ?_; refine blk_far ?_ NB560_565.out _; refine blk_up ?_; refine blk_far ?_ NB560_565.out _; refine blk_up ?_; exact BK560.out) hb); have n3_ := Aside0.mk (blk_below (g := gb565) (o := .cells #[.bool t561, .string t562, .int .i64 t563] 26 (0, 0)) (by refine blk_up ?_; refine blk_put (cs := #[.bool t561, .string t562, .int .i64 0]) ?_ 2 _ rfl; refine blk_up ?_; refine blk_put (cs := #[.bool t561, .string (⟨#[]⟩ : ByteArray), .int .i64 0]) ?_ 1 _ rfl; refine blk_up ?_; refine blk_put (cs := #[.bool false, .string (⟨#[]⟩ : ByteArray), .int .i64 0]) ?_ 0 _ rfl; refine blk_up ?_; exact BK565.out) hb); have n4_ := Aside0.mk (below_step (by repeat (first | (with_reducible first | exact HB.out | apply below_alloc | apply pw_below_drewN | apply below_drew1 | refine below_set ?_ GE542.out | refine below_set ?_ GE548.out | refine below_set ?_ GE560.out | refine below_set ?_ GE565.out) | exact HB.out)) hb); clear BK542; clear BK548; clear BK560; clear BK565; clear HB; have BK542 := n0_; have BK548 := n1_; have BK560 := n2_; have BK565 := n3_; have HB := n4_; clear n0_ n1_ n2_ n3_ n4_; (try clear hb); (try clear hb2); (try clear hk); (try clear hi)) | ((with_reducible refine gate_callee (f := 25) rfl ?_); refine goesL_ (some 65) rfl rfl Tryd.func25 (by kernel_rfl) rfl #[.string t566] rfl (by (try simp only [List.map_toArray, List.map_cons, List.map_nil]); first | done | rfl | (simp only [List.length_drop, List.length_take]; rfl)) ?_; (with_reducible refine (impl_ReadDec.calls kj6 t566 t567 t568 t569 t570 _ A54.out).mono ?_); rintro e w136 ⟨rfl, hb⟩; refine ⟨_, rfl, ?_⟩; have n0_ := Aside0.mk (blk_below (g := gb542) (o := .cells #[.bool t539, .string t540, .int .i64 t541] 26 (0, 0)) (by refine blk_up ?_; exact BK542.out) hb); have n1_ := Aside0.mk (blk_below (g := gb548) (o := .cells #[.bool t544, .string t545, .int .i64 t546] 26 (0, 0)) (by refine blk_up ?_; exact BK548.out) hb); have n2_ := Aside0.mk (blk_below (g := gb560) (o := .cells #[.bool t556, .string t557, .int .i64 t558] 26 (0, 0)) (by refine blk_up ?_; exact BK560.out) hb); have n3_ := Aside0.mk (blk_below (g := gb565) (o := .cells #[.bool t561, .string t562, .int .i64 t563] 26 (0, 0)) (by refine blk_up ?_; exact BK565.out) hb); have n4_ := Aside0.mk (below_step (by repeat (first | (with_reducible first | exact HB.out | apply below_alloc | apply pw_below_drewN | apply below_drew1 | refine below_set ?_ GE542.out | refine below_set ?_ GE548.out | refine below_set ?_ GE560.out | refine below_set ?_ GE565.out) | exact HB.out)) hb); clear BK542; clear BK548; clear BK560; clear BK565; clear HB; have BK542 := n0_; have BK548 := n1_; have BK560 := n2_; have BK565 := n3_; have HB := n4_; clear n0_ n1_ n2_ n3_ n4_; (try clear hb); (try clear hb2); (try clear hk); (try clear hi)) | ((with_reducible refine gate_dst (N := 12) rfl ?_); refine box_event ?hg (N := 12) ?hd (cs := #[.bool false, .string (⟨#[]⟩ : ByteArray), .int .i64 0]) (t := 26) ?hr ?_; (case hd => rfl); (case hg => rfl); (case hr => first | (go_simp; done) | (go_simp; rfl)); intro gb571 hg w137 hbox hb; have n0_ := Aside0.mk (blk_below (g := gb542) (o := .cells #[.bool t539, .string t540, .int .i64 t541] 26 (0, 0)) (by refine blk_up ?_; exact BK542.out) hb); have n1_ := Aside0.mk (blk_below (g := gb548) (o := .cells #[.bool t544, .string t545, .int .i64 t546] 26 (0, 0)) (by refine blk_up ?_; exact BK548.out) hb); have n2_ := Aside0.mk (blk_below (g := gb560) (o := .cells #[.bool t556, .string t557, .int .i64 t558] 26 (0, 0)) (by refine blk_up ?_; exact BK560.out) hb); have n3_ := Aside0.mk (blk_below (g := gb565) (o := .cells #[.bool t561, .string t562, .int .i64 t563] 26 (0, 0)) (by refine blk_up ?_; exact BK565.out) hb); have n4_ := Aside0.mk (below_step (by repeat (first | (with_reducible first | exact HB.out | apply below_alloc | apply pw_below_drewN | apply below_drew1 | refine below_set ?_ GE542.out | refine below_set ?_ GE548.out | refine below_set ?_ GE560.out | refine below_set ?_ GE565.out) | exact HB.out)) hb); have n5_ := Aside0.mk (hbox); have n6_ := Aside0.mk ((by rw [hg]; exact (below_size (by repeat (first | (with_reducible first | exact HB.out | apply below_alloc | apply pw_below_drewN | apply below_drew1 | refine below_set ?_ GE542.out | refine below_set ?_ GE548.out | refine below_set ?_ GE560.out | refine below_set ?_ GE565.out) | exact HB.out))) : w.heap.size ≤ gb571)); have n7_ := Aside0.mk ((by rw [hg]; exact (below_size (by repeat (first | (with_reducible first | exact HB.out | apply below_alloc | apply pw_below_drewN | apply below_drew1 | refine below_set ?_ GE542.out | refine below_set ?_ GE548.out | refine below_set ?_ GE560.out | refine below_set ?_ GE565.out) | exact HB.out))) : w.heap.size ≤ gb571)); have n8_ := Aside0.mk ((by rw [hg]; exact Nat.ne_of_lt (blk_lt (g := gb542) (o := .cells #[.bool t539, .string t540, .int .i64 t541] 26 (0, 0)) (by refine blk_up ?_; exact BK542.out)) : gb542 ≠ gb571)); have n9_ := Aside0.mk ((by rw [hg]; exact Nat.ne_of_gt (blk_lt (g := gb542) (o := .cells #[.bool t539, .string t540, .int .i64 t541] 26 (0, 0)) (by refine blk_up ?_; exact BK542.out)) : gb571 ≠ gb542)); have n10_ := Aside0.mk ((by rw [hg]; exact Nat.ne_of_lt (blk_lt (g := gb548) (o := .cells #[.bool t544, .string t545, .int .i64 t546] 26 (0, 0)) (by refine blk_up ?_; exact BK548.out)) : gb548 ≠ gb571)); have n11_ := Aside0.mk ((by rw [hg]; exact Nat.ne_of_gt (blk_lt (g := gb548) (o := .cells #[.bool t544, .string t545, .int .i64 t546] 26 (0, 0)) (by refine blk_up ?_; exact BK548.out)) : gb571 ≠ gb548)); have n12_ := Aside0.mk ((by rw [hg]; exact Nat.ne_of_lt (blk_lt (g := gb560) (o := .cells #[.bool t556, .string t557, .int .i64 t558] 26 (0, 0)) (by refine blk_up ?_; exact BK560.out)) : gb560 ≠ gb571)); have n13_ := Aside0.mk ((by rw [hg]; exact Nat.ne_of_gt (blk_lt (g := gb560) (o := .cells #[.bool t556, .string t557, .int .i64 t558] 26 (0, 0)) (by refine blk_up ?_; exact BK560.out)) : gb571 ≠ gb560)); have n14_ := Aside0.mk ((by rw [hg]; exact Nat.ne_of_lt (blk_lt (g := gb565) (o := .cells #[.bool t561, .string t562, .int .i64 t563] 26 (0, 0)) (by refine blk_up ?_; exact BK565.out)) : gb565 ≠ gb571)); have n15_ := Aside0.mk ((by rw [hg]; exact Nat.ne_of_gt (blk_lt (g := gb565) (o := .cells #[.bool t561, .string t562, .int .i64 t563] 26 (0, 0)) (by refine blk_up ?_; exact BK565.out)) : gb571 ≠ gb565)); clear BK542; clear BK548; clear BK560; clear BK565; clear HB; have BK542 := n0_; have BK548 := n1_; have BK560 := n2_; have BK565 := n3_; have HB := n4_; have BK571 := n5_; have GW571 := n6_; have GE571 := n7_; have NB542_571 := n8_; have NB571_542 := n9_; have NB548_571 := n10_; have NB571_548 := n11_; have NB560_571 := n12_; have NB571_560 := n13_; have NB565_571 := n14_; have NB571_565 := n15_; clear n0_ n1_ n2_ n3_ n4_ n5_ n6_ n7_ n8_ n9_ n10_ n11_ n12_ n13_ n14_ n15_; clear hb hbox hg; have hnb138 := NB571_542.out; have hnc138 := NB542_571.out; have hnb139 := NB571_548.out; have hnc139 := NB548_571.out; have hnb140 := NB571_560.out; have hnc140 := NB560_571.out; have hnb141 := NB571_565.out; have hnc141 := NB565_571.out; have hcz142_0 : w137.cell? ⟨gb571, 0, none⟩ = some (.bool false) := (blk_cell BK571.out 0).trans rfl; have hcz142_1 : w137.cell? ⟨gb571, 1, none⟩ = some (.string (⟨#[]⟩ : ByteArray)) := (blk_cell BK571.out 1).trans rfl; have hcz142_2 : w137.cell? ⟨gb571, 2, none⟩ = some (.int .i64 0) := (blk_cell BK571.out 2).trans rfl; have hfz142_0 := blk_frozen BK571.out 0; have hfz142_1 := blk_frozen BK571.out 1; have hfz142_2 := blk_frozen BK571.out 2))
            go_ret
            exact ⟨by first | rfl | (simp [errW_none, errW_some] <;> rfl) | (simp [*, errW_none, errW_some] <;> rfl), by repeat (first | (with_reducible first | exact HB.out | apply below_alloc | apply pw_below_drewN | apply below_drew1 | refine below_set ?_ GE542.out | refine below_set ?_ GE548.out | refine below_set ?_ GE560.out | refine below_set ?_ GE565.out | refine below_set ?_ GE571.out) | exact HB.out)⟩

/-- THE ONE PURE STATEMENT of laws_FnDecs: yours. -/
def laws_FnDecs.Pure : Prop := ∀ (l0 : List Int), l0.length ≤ maxLen → l0.length * 1 ≤ 140737488351232 → (∀ x ∈ l0, (Lit.int .u8 x).wf = true) → ∃ k, laws_FnDecs.f k l0 = some true
theorem laws_FnDecs.walk (P : laws_FnDecs.Pure) (a0 : Option Addr) (len0 cap0 : Nat) (z0 : List Int) (w : World) (w0 : (a0 = none ∧ len0 = 0 ∧ cap0 = 0 ∧ z0 = []) ∨ ∃ x, a0 = some x ∧ len0 ≤ cap0 ∧ cap0 ≤ maxLen ∧ z0.length = cap0 ∧ (∀ i, i < z0.length → w.cell? (x.add i) = some (.int .u8 (z0.getD i 0))) ∧ ∀ n ∈ z0, (Lit.int .u8 n).wf = true) (y0 : len0 * 1 ≤ 140737488351232) :
    Calls Tryd.prog 7 #[.slice a0 len0 cap0] w fun e w' => e = .returned (.bool true) ∧ Below w.heap.size w w' := by
  obtain ⟨l0, rfl, hr0, hm0, hw0, hc0⟩ := ReadsInt.ofRowC w0
  obtain ⟨k, h⟩ := P l0 hm0 y0 hw0
  refine (laws_FnDecs.calls k _ _ l0 true w (Kd.C_of_reads (d := (0 : Int)) (h1 := fun _ => rfl) hr0) hc0 h).mono ?_
  rintro e w' ⟨rfl, hd⟩
  exact ⟨rfl, hd⟩

end Go.Proofs.YtilmhfkbpnejeaaDoor.L

namespace Go.Proofs.YtilmhfkbpnejeaaDoor.L
open Go.RowKit Go.Proofs.YtilmhfkbpnejeaaDoorW.PrintWords Go.Proofs.YtilmhfkbpnejeaaDoorW.PrintLast Go.Proofs.YtilmhfkbpnejeaaDoorW.PrintMore
attribute [local go_sem] max2_int min2_int max_two min_two max_three min_three max_four min_four   -- for this text's walks alone
attribute [local go_sem] Go.Proofs.YtilmhfkbpnejeaaDoor.H.str_leq Go.Proofs.YtilmhfkbpnejeaaDoor.H.str_gtr Go.Proofs.YtilmhfkbpnejeaaDoor.H.str_geq
set_option linter.unusedVariables false
set_option linter.unusedSimpArgs false

/-! ### impl_Dec_sign: function 49 -/
def impl_Dec_sign.f (a0_0 : Bool) (a0_1 : ByteArray) (a0_2 : Int) : Option (Int) := if a0_0 = true then (some (-1)) else (if a0_1.toList = ([] : List UInt8) then (some 0) else (some 1))
set_option maxHeartbeats 8000000 in
set_option maxRecDepth 100000 in
theorem impl_Dec_sign.calls (a0_0 : Bool) (a0_1 : ByteArray) (a0_2 : Int) (r : Int) (w : World) (h : impl_Dec_sign.f a0_0 a0_1 a0_2 = some r) :
    Calls Tryd.prog 49 #[.agg #[.bool a0_0, .string a0_1, .int .i64 a0_2]] w fun e w' => e = .returned (.int .i64 r) ∧ Below w.heap.size w w' := by
  have hu26 := Tryd.underlying26
  have HB := Aside0.mk (Below.refl w.heap.size w)
  have H : (if a0_0 = true then (some (-1)) else (if a0_1.toList = ([] : List UInt8) then (some 0) else (some 1))) = some r := h
  clear h
  by_cases c2 : a0_0 = true
  · subst c2
    have H1 : (some (-1)) = some r := by rw [if_pos rfl] at H; exact H
    clear H
    have H := H1
    clear H1
    obtain rfl := Option.some.inj H
    go_enter Tryd.func49, Tryd.ntmps49
    go_wp2_with (first | ((with_reducible refine gate_dst (N := 1) rfl ?_); refine box_event ?hg (N := 1) ?hd (cs := #[.bool true, .string a0_1, .int .i64 a0_2]) (t := 26) ?hr ?_; (case hd => rfl); (case hg => rfl); (case hr => first | (go_simp; done) | (go_simp; rfl)); intro gb125 hg w3 hbox hb; have n0_ := Aside0.mk (below_step (by repeat (first | (with_reducible first | exact HB.out | apply below_alloc | apply pw_below_drewN | apply below_drew1) | exact HB.out)) hb); have n1_ := Aside0.mk (hbox); have n2_ := Aside0.mk ((by rw [hg]; exact (below_size (by repeat (first | (with_reducible first | exact HB.out | apply below_alloc | apply pw_below_drewN | apply below_drew1) | exact HB.out))) : w.heap.size ≤ gb125)); have n3_ := Aside0.mk ((by rw [hg]; exact (below_size (by repeat (first | (with_reducible first | exact HB.out | apply below_alloc | apply pw_below_drewN | apply below_drew1) | exact HB.out))) : w.heap.size ≤ gb125)); clear HB; have HB := n0_; have BK125 := n1_; have GW125 := n2_; have GE125 := n3_; clear n0_ n1_ n2_ n3_; clear hb hbox hg; have hcz4_0 : w3.cell? ⟨gb125, 0, none⟩ = some (.bool true) := (blk_cell BK125.out 0).trans rfl; have hcz4_1 : w3.cell? ⟨gb125, 1, none⟩ = some (.string a0_1) := (blk_cell BK125.out 1).trans rfl; have hcz4_2 : w3.cell? ⟨gb125, 2, none⟩ = some (.int .i64 a0_2) := (blk_cell BK125.out 2).trans rfl; have hfz4_0 := blk_frozen BK125.out 0; have hfz4_1 := blk_frozen BK125.out 1; have hfz4_2 := blk_frozen BK125.out 2))
    go_ret
    exact ⟨by first | rfl | (simp [errW_none, errW_some] <;> rfl) | (simp [*, errW_none, errW_some] <;> rfl), by repeat (first | (with_reducible first | exact HB.out | apply below_alloc | apply pw_below_drewN | apply below_drew1 | refine below_set ?_ GE125.out) | exact HB.out)⟩
  · replace c2 := Bool.eq_false_iff.mpr c2
    subst c2
    have H1 : (if a0_1.toList = ([] : List UInt8) then (some 0) else (some 1)) = some r := by rw [if_neg (show ¬ (false = true) by decide)] at H; exact H
    clear H
    have H := H1
    clear H1
    by_cases c5 : a0_1.toList = ([] : List UInt8)
    · rw [if_pos c5] at H
      have c5b0 : (a0_1.toList == ([] : List UInt8)) = true := beq_iff_eq.mpr c5
      have c5b1 : (a0_1.toList != ([] : List UInt8)) = false := bne_eq_false_iff_eq.mpr c5
      clear c5
      obtain rfl := Option.some.inj H
      go_enter Tryd.func49, Tryd.ntmps49
      go_wp2_with (first | ((with_reducible refine gate_dst (N := 1) rfl ?_); refine box_event ?hg (N := 1) ?hd (cs := #[.bool false, .string a0_1, .int .i64 a0_2]) (t := 26) ?hr ?_; (case hd => rfl); (case hg => rfl); (case hr => first | (go_simp; done) | (go_simp; rfl)); intro gb125 hg w6 hbox hb; have n0_ := Aside0.mk (below_step (by repeat (first | (with_reducible first | exact HB.out | apply below_alloc | apply pw_below_drewN | apply below_drew1) | exact HB.out)) hb); have n1_ := Aside0.mk (hbox); have n2_ := Aside0.mk ((by rw [hg]; exact (below_size (by repeat (first | (with_reducible first | exact HB.out | apply below_alloc | apply pw_below_drewN | apply below_drew1) | exact HB.out))) : w.heap.size ≤ gb125)); have n3_ := Aside0.mk ((by rw [hg]; exact (below_size (by repeat (first | (with_reducible first | exact HB.out | apply below_alloc | apply pw_below_drewN | apply below_drew1) | exact HB.out))) : w.heap.size ≤ gb125)); clear HB; have HB := n0_; have BK125 := n1_; have GW125 := n2_; have GE125 := n3_; clear n0_ n1_ n2_ n3_; clear hb hbox hg; have hcz7_0 : w6.cell? ⟨gb125, 0, none⟩ = some (.bool false) := (blk_cell BK125.out 0).trans rfl; have hcz7_1 : w6.cell? ⟨gb125, 1, none⟩ = some (.string a0_1) := (blk_cell BK125.out 1).trans rfl; have hcz7_2 : w6.cell? ⟨gb125, 2, none⟩ = some (.int .i64 a0_2) := (blk_cell BK125.out 2).trans rfl; have hfz7_0 := blk_frozen BK125.out 0; have hfz7_1 := blk_frozen BK125.out 1; have hfz7_2 := blk_frozen BK125.out 2))
      go_ret
      exact ⟨by first | rfl | (simp [errW_none, errW_some] <;> rfl) | (simp [*, errW_none, errW_some] <;> rfl), by repeat (first | (with_reducible first | exact HB.out | apply below_alloc | apply pw_below_drewN | apply below_drew1 | refine below_set ?_ GE125.out) | exact HB.out)⟩
    · rw [if_neg c5] at H
      have c5b0 : (a0_1.toList == ([] : List UInt8)) = false := beq_eq_false_iff_ne.mpr c5
      have c5b1 : (a0_1.toList != ([] : List UInt8)) = true := bne_iff_ne.mpr c5
      obtain rfl := Option.some.inj H
      go_enter Tryd.func49, Tryd.ntmps49
      go_wp2_with (first | ((with_reducible refine gate_dst (N := 1) rfl ?_); refine box_event ?hg (N := 1) ?hd (cs := #[.bool false, .string a0_1, .int .i64 a0_2]) (t := 26) ?hr ?_; (case hd => rfl); (case hg => rfl); (case hr => first | (go_simp; done) | (go_simp; rfl)); intro gb125 hg w8 hbox hb; have n0_ := Aside0.mk (below_step (by repeat (first | (with_reducible first | exact HB.out | apply below_alloc | apply pw_below_drewN | apply below_drew1) | exact HB.out)) hb); have n1_ := Aside0.mk (hbox); have n2_ := Aside0.mk ((by rw [hg]; exact (below_size (by repeat (first | (with_reducible first | exact HB.out | apply below_alloc | apply pw_below_drewN | apply below_drew1) | exact HB.out))) : w.heap.size ≤ gb125)); have n3_ := Aside0.mk ((by rw [hg]; exact (below_size (by repeat (first | (with_reducible first | exact HB.out | apply below_alloc | apply pw_below_drewN | apply below_drew1) | exact HB.out))) : w.heap.size ≤ gb125)); clear HB; have HB := n0_; have BK125 := n1_; have GW125 := n2_; have GE125 := n3_; clear n0_ n1_ n2_ n3_; clear hb hbox hg; have hcz9_0 : w8.cell? ⟨gb125, 0, none⟩ = some (.bool false) := (blk_cell BK125.out 0).trans rfl; have hcz9_1 : w8.cell? ⟨gb125, 1, none⟩ = some (.string a0_1) := (blk_cell BK125.out 1).trans rfl; have hcz9_2 : w8.cell? ⟨gb125, 2, none⟩ = some (.int .i64 a0_2) := (blk_cell BK125.out 2).trans rfl; have hfz9_0 := blk_frozen BK125.out 0; have hfz9_1 := blk_frozen BK125.out 1; have hfz9_2 := blk_frozen BK125.out 2))
      go_ret
      exact ⟨by first | rfl | (simp [errW_none, errW_some] <;> rfl) | (simp [*, errW_none, errW_some] <;> rfl), by repeat (first | (with_reducible first | exact HB.out | apply below_alloc | apply pw_below_drewN | apply below_drew1 | refine below_set ?_ GE125.out) | exact HB.out)⟩

end Go.Proofs.YtilmhfkbpnejeaaDoor.L

namespace Go.Proofs.YtilmhfkbpnejeaaDoor.L
open Go.RowKit Go.Proofs.YtilmhfkbpnejeaaDoorW.PrintWords Go.Proofs.YtilmhfkbpnejeaaDoorW.PrintLast Go.Proofs.YtilmhfkbpnejeaaDoorW.PrintMore
attribute [local go_sem] max2_int min2_int max_two min_two max_three min_three max_four min_four   -- for this text's walks alone
attribute [local go_sem] Go.Proofs.YtilmhfkbpnejeaaDoor.H.str_leq Go.Proofs.YtilmhfkbpnejeaaDoor.H.str_gtr Go.Proofs.YtilmhfkbpnejeaaDoor.H.str_geq
set_option linter.unusedVariables false
set_option linter.unusedSimpArgs false

/-! ### cmp_isNaN_int64: function 91 -/
def cmp_isNaN_int64.f (a0 : Int) : Option (Bool) := some (a0 != a0)
set_option maxHeartbeats 8000000 in
set_option maxRecDepth 100000 in
theorem cmp_isNaN_int64.calls (a0 : Int) (r : Bool) (w : World) (h : cmp_isNaN_int64.f a0 = some r) :
    Calls Tryd.prog 91 #[.int .i64 a0] w fun e w' => e = .returned (.bool r) ∧ Drawn0 w w' := by
  have H : (some (a0 != a0)) = some r := h
  clear h
  obtain rfl := Option.some.inj H
  go_enter Tryd.func91, Tryd.ntmps91
  go_wp2
  go_ret
  exact ⟨by first | rfl | (simp; done) | (simp [*]; done), by repeat (first | exact Drawn0.refl _ | apply Drawn0.step)⟩

end Go.Proofs.YtilmhfkbpnejeaaDoor.L

namespace Go.Proofs.YtilmhfkbpnejeaaDoor.L
open Go.RowKit Go.Proofs.YtilmhfkbpnejeaaDoorW.PrintWords Go.Proofs.YtilmhfkbpnejeaaDoorW.PrintLast Go.Proofs.YtilmhfkbpnejeaaDoorW.PrintMore
attribute [local go_sem] max2_int min2_int max_two min_two max_three min_three max_four min_four   -- for this text's walks alone
attribute [local go_sem] Go.Proofs.YtilmhfkbpnejeaaDoor.H.str_leq Go.Proofs.YtilmhfkbpnejeaaDoor.H.str_gtr Go.Proofs.YtilmhfkbpnejeaaDoor.H.str_geq
set_option linter.unusedVariables false
set_option linter.unusedSimpArgs false

/-! ### cmp_Compare_int64: function 50 -/
def cmp_Compare_int64.f (a0 : Int) (a1 : Int) : Option (Int) := (cmp_isNaN_int64.f a0).bind fun t126 => ((cmp_isNaN_int64.f a1).bind fun t127 => (if t126 = true then (if t127 = true then (some 0) else (some (-1))) else (if t127 = true then (some 1) else (if a0 < a1 then (some (-1)) else (if a0 > a1 then (some 1) else (some 0))))))
set_option maxHeartbeats 8000000 in
set_option maxRecDepth 100000 in
theorem cmp_Compare_int64.calls (a0 : Int) (a1 : Int) (r : Int) (w : World) (h : cmp_Compare_int64.f a0 a1 = some r) :
    Calls Tryd.prog 50 #[.int .i64 a0, .int .i64 a1] w fun e w' => e = .returned (.int .i64 r) ∧ Drawn0 w w' := by
  have H : ((cmp_isNaN_int64.f a0).bind fun t126 => ((cmp_isNaN_int64.f a1).bind fun t127 => (if t126 = true then (if t127 = true then (some 0) else (some (-1))) else (if t127 = true then (some 1) else (if a0 < a1 then (some (-1)) else (if a0 > a1 then (some 1) else (some 0))))))) = some r := h
  clear h
  replace H := Option.bind_eq_some_iff.mp H
  obtain ⟨t126, A30, H⟩ := H
  replace H : ((cmp_isNaN_int64.f a1).bind fun t127 => (if t126 = true then (if t127 = true then (some 0) else (some (-1))) else (if t127 = true then (some 1) else (if a0 < a1 then (some (-1)) else (if a0 > a1 then (some 1) else (some 0)))))) = some r := H
  have A3 := Aside0.mk A30
  clear A30
  replace H := Option.bind_eq_some_iff.mp H
  obtain ⟨t127, A40, H⟩ := H
  replace H : (if t126 = true then (if t127 = true then (some 0) else (some (-1))) else (if t127 = true then (some 1) else (if a0 < a1 then (some (-1)) else (if a0 > a1 then (some 1) else (some 0))))) = some r := H
  have A4 := Aside0.mk A40
  clear A40
  by_cases c5 : t126 = true
  · subst c5
    have H1 : (if t127 = true then (some 0) else (some (-1))) = some r := by rw [if_pos rfl] at H; exact H
    clear H
    have H := H1
    clear H1
    by_cases c6 : t127 = true
    · subst c6
      have H1 : (some 0) = some r := by rw [if_pos rfl] at H; exact H
      clear H
      have H := H1
      clear H1
      obtain rfl := Option.some.inj H
      go_enter Tryd.func50, Tryd.ntmps50
      go_wp2_with (first | ((with_reducible refine gate_callee (f := 91) rfl ?_); refine goesL_ (some 8) rfl rfl Tryd.func91 (by kernel_rfl) rfl #[.int .i64 a0] rfl (by (try simp only [List.map_toArray, List.map_cons, List.map_nil]); first | done | rfl | (simp only [List.length_drop, List.length_take]; rfl)) ?_; (with_reducible refine (cmp_isNaN_int64.calls a0 true _ A3.out).mono ?_); rintro e w' ⟨rfl, ⟨nd, rfl⟩⟩; refine ⟨_, rfl, ?_⟩) | ((with_reducible refine gate_callee (f := 91) rfl ?_); refine goesL_ (some 10) rfl rfl Tryd.func91 (by kernel_rfl) rfl #[.int .i64 a1] rfl (by (try simp only [List.map_toArray, List.map_cons, List.map_nil]); first | done | rfl | (simp only [List.length_drop, List.length_take]; rfl)) ?_; (with_reducible refine (cmp_isNaN_int64.calls a1 true _ A4.out).mono ?_); rintro e w' ⟨rfl, ⟨nd, rfl⟩⟩; refine ⟨_, rfl, ?_⟩))
      go_ret
      exact ⟨by first | rfl | (simp; done) | (simp [*]; done), by repeat (first | exact Drawn0.refl _ | apply Drawn0.step)⟩
    · replace c6 := Bool.eq_false_iff.mpr c6
      subst c6
      have H1 : (some (-1)) = some r := by rw [if_neg (show ¬ (false = true) by decide)] at H; exact H
      clear H
      have H := H1
      clear H1
      obtain rfl := Option.some.inj H
      go_enter Tryd.func50, Tryd.ntmps50
      go_wp2_with (first | ((with_reducible refine gate_callee (f := 91) rfl ?_); refine goesL_ (some 8) rfl rfl Tryd.func91 (by kernel_rfl) rfl #[.int .i64 a0] rfl (by (try simp only [List.map_toArray, List.map_cons, List.map_nil]); first | done | rfl | (simp only [List.length_drop, List.length_take]; rfl)) ?_; (with_reducible refine (cmp_isNaN_int64.calls a0 true _ A3.out).mono ?_); rintro e w' ⟨rfl, ⟨nd, rfl⟩⟩; refine ⟨_, rfl, ?_⟩) | ((with_reducible refine gate_callee (f := 91) rfl ?_); refine goesL_ (some 10) rfl rfl Tryd.func91 (by kernel_rfl) rfl #[.int .i64 a1] rfl (by (try simp only [List.map_toArray, List.map_cons, List.map_nil]); first | done | rfl | (simp only [List.length_drop, List.length_take]; rfl)) ?_; (with_reducible refine (cmp_isNaN_int64.calls a1 false _ A4.out).mono ?_); rintro e w' ⟨rfl, ⟨nd, rfl⟩⟩; refine ⟨_, rfl, ?_⟩))
      go_ret
      exact ⟨by first | rfl | (simp; done) | (simp [*]; done), by repeat (first | exact Drawn0.refl _ | apply Drawn0.step)⟩
  · replace c5 := Bool.eq_false_iff.mpr c5
    subst c5
    have H1 : (if t127 = true then (some 1) else (if a0 < a1 then (some (-1)) else (if a0 > a1 then (some 1) else (some 0)))) = some r := by rw [if_neg (show ¬ (false = true) by decide)] at H; exact H
    clear H
    have H := H1
    clear H1
    by_cases c7 : t127 = true
    · subst c7
      have H1 : (some 1) = some r := by rw [if_pos rfl] at H; exact H
      clear H
      have H := H1
      clear H1
      obtain rfl := Option.some.inj H
      go_enter Tryd.func50, Tryd.ntmps50
      go_wp2_with (first | ((with_reducible refine gate_callee (f := 91) rfl ?_); refine goesL_ (some 8) rfl rfl Tryd.func91 (by kernel_rfl) rfl #[.int .i64 a0] rfl (by (try simp only [List.map_toArray, List.map_cons, List.map_nil]); first | done | rfl | (simp only [List.length_drop, List.length_take]; rfl)) ?_; (with_reducible refine (cmp_isNaN_int64.calls a0 false _ A3.out).mono ?_); rintro e w' ⟨rfl, ⟨nd, rfl⟩⟩; refine ⟨_, rfl, ?_⟩) | ((with_reducible refine gate_callee (f := 91) rfl ?_); refine goesL_ (some 10) rfl rfl Tryd.func91 (by kernel_rfl) rfl #[.int .i64 a1] rfl (by (try simp only [List.map_toArray, List.map_cons, List.map_nil]); first | done | rfl | (simp only [List.length_drop, List.length_take]; rfl)) ?_; (with_reducible refine (cmp_isNaN_int64.calls a1 true _ A4.out).mono ?_); rintro e w' ⟨rfl, ⟨nd, rfl⟩⟩; refine ⟨_, rfl, ?_⟩))
      go_ret
      exact ⟨by first | rfl | (simp; done) | (simp [*]; done), by repeat (first | exact Drawn0.refl _ | apply Drawn0.step)⟩
    · replace c7 := Bool.eq_false_iff.mpr c7
      subst c7
      have H1 : (if a0 < a1 then (some (-1)) else (if a0 > a1 then (some 1) else (some 0))) = some r := by rw [if_neg (show ¬ (false = true) by decide)] at H; exact H
      clear H
      have H := H1
      clear H1
      by_cases c8 : a0 < a1
      · rw [if_pos c8] at H
        have c8b0 : decide (a0 < a1) = true := decide_eq_true c8
        clear c8
        obtain rfl := Option.some.inj H
        go_enter Tryd.func50, Tryd.ntmps50
        go_wp2_with (first | ((with_reducible refine gate_callee (f := 91) rfl ?_); refine goesL_ (some 8) rfl rfl Tryd.func91 (by kernel_rfl) rfl #[.int .i64 a0] rfl (by (try simp only [List.map_toArray, List.map_cons, List.map_nil]); first | done | rfl | (simp only [List.length_drop, List.length_take]; rfl)) ?_; (with_reducible refine (cmp_isNaN_int64.calls a0 false _ A3.out).mono ?_); rintro e w' ⟨rfl, ⟨nd, rfl⟩⟩; refine ⟨_, rfl, ?_⟩) | ((with_reducible refine gate_callee (f := 91) rfl ?_); refine goesL_ (some 10) rfl rfl Tryd.func91 (by kernel_rfl) rfl #[.int .i64 a1] rfl (by (try simp only [List.map_toArray, List.map_cons, List.map_nil]); first | done | rfl | (simp only [List.length_drop, List.length_take]; rfl)) ?_; (with_reducible refine (cmp_isNaN_int64.calls a1 false _ A4.out).mono ?_); rintro e w' ⟨rfl, ⟨nd, rfl⟩⟩; refine ⟨_, rfl, ?_⟩))
        go_ret
        exact ⟨by first | rfl | (simp; done) | (simp [*]; done), by repeat (first | exact Drawn0.refl _ | apply Drawn0.step)⟩
      · rw [if_neg c8] at H
        have c8b0 : decide (a0 < a1) = false := decide_eq_false c8
        clear c8
        by_cases c9 : a0 > a1
        · rw [if_pos c9] at H
          have c9b0 : decide (a1 < a0) = true := decide_eq_true c9
          clear c9
          obtain rfl := Option.some.inj H
          go_enter Tryd.func50, Tryd.ntmps50
          go_wp2_with (first | ((with_reducible refine gate_callee (f := 91) rfl ?_); refine goesL_ (some 8) rfl rfl Tryd.func91 (by kernel_rfl) rfl #[.int .i64 a0] rfl (by (try simp only [List.map_toArray, List.map_cons, List.map_nil]); first | done | rfl | (simp only [List.length_drop, List.length_take]; rfl)) ?_; (with_reducible refine (cmp_isNaN_int64.calls a0 false _ A3.out).mono ?_); rintro e w' ⟨rfl, ⟨nd, rfl⟩⟩; refine ⟨_, rfl, ?_⟩) | ((with_reducible refine gate_callee (f := 91) rfl ?_); refine goesL_ (some 10) rfl rfl Tryd.func91 (by kernel_rfl) rfl #[.int .i64 a1] rfl (by (try simp only [List.map_toArray, List.map_cons, List.map_nil]); first | done | rfl | (simp only [List.length_drop, List.length_take]; rfl)) ?_; (with_reducible refine (cmp_isNaN_int64.calls a1 false _ A4.out).mono ?_); rintro e w' ⟨rfl, ⟨nd, rfl⟩⟩; refine ⟨_, rfl, ?_⟩))
          go_ret
          exact ⟨by first | rfl | (simp; done) | (simp [*]; done), by repeat (first | exact Drawn0.refl _ | apply Drawn0.step)⟩
        · rw [if_neg c9] at H
          have c9b0 : decide (a1 < a0) = false := decide_eq_false c9
          clear c9
          obtain rfl := Option.some.inj H
          go_enter Tryd.func50, Tryd.ntmps50
          go_wp2_with (first | ((with_reducible refine gate_callee (f := 91) rfl ?_); refine goesL_ (some 8) rfl rfl Tryd.func91 (by kernel_rfl) rfl #[.int .i64 a0] rfl (by (try simp only [List.map_toArray, List.map_cons, List.map_nil]); first | done | rfl | (simp only [List.length_drop, List.length_take]; rfl)) ?_; (with_reducible refine (cmp_isNaN_int64.calls a0 false _ A3.out).mono ?_); rintro e w' ⟨rfl, ⟨nd, rfl⟩⟩; refine ⟨_, rfl, ?_⟩) | ((with_reducible refine gate_callee (f := 91) rfl ?_); refine goesL_ (some 10) rfl rfl Tryd.func91 (by kernel_rfl) rfl #[.int .i64 a1] rfl (by (try simp only [List.map_toArray, List.map_cons, List.map_nil]); first | done | rfl | (simp only [List.length_drop, List.length_take]; rfl)) ?_; (with_reducible refine (cmp_isNaN_int64.calls a1 false _ A4.out).mono ?_); rintro e w' ⟨rfl, ⟨nd, rfl⟩⟩; refine ⟨_, rfl, ?_⟩))
          go_ret
          exact ⟨by first | rfl | (simp; done) | (simp [*]; done), by repeat (first | exact Drawn0.refl _ | apply Drawn0.step)⟩

end Go.Proofs.YtilmhfkbpnejeaaDoor.L

namespace Go.Proofs.YtilmhfkbpnejeaaDoor.L
open Go.RowKit Go.Proofs.YtilmhfkbpnejeaaDoorW.PrintWords Go.Proofs.YtilmhfkbpnejeaaDoorW.PrintLast Go.Proofs.YtilmhfkbpnejeaaDoorW.PrintMore
attribute [local go_sem] max2_int min2_int max_two min_two max_three min_three max_four min_four   -- for this text's walks alone
attribute [local go_sem] Go.Proofs.YtilmhfkbpnejeaaDoor.H.str_leq Go.Proofs.YtilmhfkbpnejeaaDoor.H.str_gtr Go.Proofs.YtilmhfkbpnejeaaDoor.H.str_geq
set_option linter.unusedVariables false
set_option linter.unusedSimpArgs false

/-! ### impl_level: function 51 -/
def impl_level.f (a0_0 : Bool) (a0_1 : ByteArray) (a0_2 : Int) (a1_0 : Bool) (a1_1 : ByteArray) (a1_2 : Int) : Option (ByteArray × ByteArray × Int) := (strings_Repeat.f (⟨#[48]⟩ : ByteArray) (wrap64 ((mx a0_2 a1_2) - a0_2))).bind fun t130 => (if a0_1.size + t130.size ≤ 9223372036854775807 then ((strings_Repeat.f (⟨#[48]⟩ : ByteArray) (wrap64 ((mx a0_2 a1_2) - a1_2))).bind fun t131 => (if a1_1.size + t131.size ≤ 9223372036854775807 then ((strings_Repeat.f (⟨#[48]⟩ : ByteArray) (wrap64 ((mx ((a0_1 ++ t130).size : Int) ((a1_1 ++ t131).size : Int)) - ((a0_1 ++ t130).size : Int)))).bind fun t132 => (if t132.size + (a0_1 ++ t130).size ≤ 9223372036854775807 then ((strings_Repeat.f (⟨#[48]⟩ : ByteArray) (wrap64 ((mx ((a0_1 ++ t130).size : Int) ((a1_1 ++ t131).size : Int)) - ((a1_1 ++ t131).size : Int)))).bind fun t133 => (if t133.size + (a1_1 ++ t131).size ≤ 9223372036854775807 then (some (t132 ++ (a0_1 ++ t130), t133 ++ (a1_1 ++ t131), mx a0_2 a1_2)) else (none))) else (none))) else (none))) else (none))
def impl_level.T2 : Bool × List (List Nat × List Nat) := (true, [([], []), ([0], [0]), ([], []), ([], []), ([3], [3]), ([2, 4], [2, 4]), ([5], [5]), ([1, 6], [1, 6]), ([7, 6, 0, 1, 2, 3, 4, 5, 6, 7], [7])])
def impl_level.B2 : List Nat := [0, 1, 0, 0, 8, 28, 60, 127, 255]
theorem impl_level.tab2 : rtab .any (opsOf Tryd.f51 2) = impl_level.T2 := by kernel_rfl
theorem impl_level.bits2 : waitsOk impl_level.T2.2 impl_level.B2 = true := by kernel_rfl
def impl_level.T3 : Bool × List (List Nat × List Nat) := (true, [([], []), ([0], [0]), ([], []), ([], []), ([3], [3]), ([2, 4], [2, 4]), ([5], [5]), ([1, 6], [1, 6]), ([7, 6, 0, 1, 2, 3, 4, 5, 6, 7], [7])])
def impl_level.B3 : List Nat := [0, 1, 0, 0, 8, 28, 60, 127, 255]
theorem impl_level.tab3 : rtab .any (opsOf Tryd.f51 3) = impl_level.T3 := by kernel_rfl
theorem impl_level.bits3 : waitsOk impl_level.T3.2 impl_level.B3 = true := by kernel_rfl
set_option maxHeartbeats 8000000 in
set_option maxRecDepth 100000 in
theorem impl_level.calls (a0_0 : Bool) (a0_1 : ByteArray) (a0_2 : Int) (a1_0 : Bool) (a1_1 : ByteArray) (a1_2 : Int) (r1 : ByteArray) (r2 : ByteArray) (r3 : Int) (w : World) (h : impl_level.f a0_0 a0_1 a0_2 a1_0 a1_1 a1_2 = some (r1, r2, r3)) :
    Calls Tryd.prog 51 #[.agg #[.bool a0_0, .string a0_1, .int .i64 a0_2], .agg #[.bool a1_0, .string a1_1, .int .i64 a1_2]] w fun e w' => e = .returned (.tuple #[.string r1, .string r2, .int .i64 r3]) ∧ Below w.heap.size w w' := by
  have hu26 := Tryd.underlying26
  have HB := Aside0.mk (Below.refl w.heap.size w)
  have H : ((strings_Repeat.f (⟨#[48]⟩ : ByteArray) (wrap64 ((mx a0_2 a1_2) - a0_2))).bind fun t130 => (if a0_1.size + t130.size ≤ 9223372036854775807 then ((strings_Repeat.f (⟨#[48]⟩ : ByteArray) (wrap64 ((mx a0_2 a1_2) - a1_2))).bind fun t131 => (if a1_1.size + t131.size ≤ 9223372036854775807 then ((strings_Repeat.f (⟨#[48]⟩ : ByteArray) (wrap64 ((mx ((a0_1 ++ t130).size : Int) ((a1_1 ++ t131).size : Int)) - ((a0_1 ++ t130).size : Int)))).bind fun t132 => (if t132.size + (a0_1 ++ t130).size ≤ 9223372036854775807 then ((strings_Repeat.f (⟨#[48]⟩ : ByteArray) (wrap64 ((mx ((a0_1 ++ t130).size : Int) ((a1_1 ++ t131).size : Int)) - ((a1_1 ++ t131).size : Int)))).bind fun t133 => (if t133.size + (a1_1 ++ t131).size ≤ 9223372036854775807 then (some (t132 ++ (a0_1 ++ t130), t133 ++ (a1_1 ++ t131), mx a0_2 a1_2)) else (none))) else (none))) else (none))) else (none))) = some (r1, r2, r3) := h
  clear h
  obtain ⟨ji3, hji3⟩ : ∃ j_ : Int, (mx a0_2 a1_2) = j_ := ⟨_, rfl⟩
  replace H : ((strings_Repeat.f (⟨#[48]⟩ : ByteArray) (wrap64 ((ji3) - a0_2))).bind fun t130 => (if a0_1.size + t130.size ≤ 9223372036854775807 then ((strings_Repeat.f (⟨#[48]⟩ : ByteArray) (wrap64 ((ji3) - a1_2))).bind fun t131 => (if a1_1.size + t131.size ≤ 9223372036854775807 then ((strings_Repeat.f (⟨#[48]⟩ : ByteArray) (wrap64 ((mx ((a0_1 ++ t130).size : Int) ((a1_1 ++ t131).size : Int)) - ((a0_1 ++ t130).size : Int)))).bind fun t132 => (if t132.size + (a0_1 ++ t130).size ≤ 9223372036854775807 then ((strings_Repeat.f (⟨#[48]⟩ : ByteArray) (wrap64 ((mx ((a0_1 ++ t130).size : Int) ((a1_1 ++ t131).size : Int)) - ((a1_1 ++ t131).size : Int)))).bind fun t133 => (if t133.size + (a1_1 ++ t131).size ≤ 9223372036854775807 then (some (t132 ++ (a0_1 ++ t130), t133 ++ (a1_1 ++ t131), ji3)) else (none))) else (none))) else (none))) else (none))) = some (r1, r2, r3) := by first | (rw [hji3] at H; exact H) | (simp only [hji3] at H ⊢; exact H)
  have hji3_ : (if a0_2 < a1_2 then a1_2 else a0_2) = ji3 := hji3
  replace H := Option.bind_eq_some_iff.mp H
  obtain ⟨t130, A40, H⟩ := H
  replace H : (if a0_1.size + t130.size ≤ 9223372036854775807 then ((strings_Repeat.f (⟨#[48]⟩ : ByteArray) (wrap64 ((ji3) - a1_2))).bind fun t131 => (if a1_1.size + t131.size ≤ 9223372036854775807 then ((strings_Repeat.f (⟨#[48]⟩ : ByteArray) (wrap64 ((mx ((a0_1 ++ t130).size : Int) ((a1_1 ++ t131).size : Int)) - ((a0_1 ++ t130).size : Int)))).bind fun t132 => (if t132.size + (a0_1 ++ t130).size ≤ 9223372036854775807 then ((strings_Repeat.f (⟨#[48]⟩ : ByteArray) (wrap64 ((mx ((a0_1 ++ t130).size : Int) ((a1_1 ++ t131).size : Int)) - ((a1_1 ++ t131).size : Int)))).bind fun t133 => (if t133.size + (a1_1 ++ t131).size ≤ 9223372036854775807 then (some (t132 ++ (a0_1 ++ t130), t133 ++ (a1_1 ++ t131), ji3)) else (none))) else (none))) else (none))) else (none)) = some (r1, r2, r3) := H
  have A4 := Aside0.mk A40
  clear A40
  by_cases c5 : a0_1.size + t130.size ≤ 9223372036854775807
  · rw [if_pos c5] at H
    have c5b0 := eq_true c5
    have c5b1 : decide (a0_1.size + t130.size ≤ 9223372036854775807) = true := decide_eq_true c5
    try have c5b2 : (9223372036854775807 < a0_1.size + t130.size) = False := eq_false (Nat.not_lt.2 c5)
    try clear c5
    obtain ⟨js6, hjs6⟩ : ∃ s_ : ByteArray, (a0_1 ++ t130) = s_ := ⟨_, rfl⟩
    replace H : ((strings_Repeat.f (⟨#[48]⟩ : ByteArray) (wrap64 ((ji3) - a1_2))).bind fun t131 => (if a1_1.size + t131.size ≤ 9223372036854775807 then ((strings_Repeat.f (⟨#[48]⟩ : ByteArray) (wrap64 ((mx (js6.size : Int) ((a1_1 ++ t131).size : Int)) - (js6.size : Int)))).bind fun t132 => (if t132.size + js6.size ≤ 9223372036854775807 then ((strings_Repeat.f (⟨#[48]⟩ : ByteArray) (wrap64 ((mx (js6.size : Int) ((a1_1 ++ t131).size : Int)) - ((a1_1 ++ t131).size : Int)))).bind fun t133 => (if t133.size + (a1_1 ++ t131).size ≤ 9223372036854775807 then (some (t132 ++ js6, t133 ++ (a1_1 ++ t131), ji3)) else (none))) else (none))) else (none))) = some (r1, r2, r3) := by first | (rw [hjs6] at H; exact H) | (simp only [hjs6] at H ⊢; exact H) | exact H
    (try rw [hjs6] at A4)
    replace H := Option.bind_eq_some_iff.mp H
    obtain ⟨t131, A70, H⟩ := H
    replace H : (if a1_1.size + t131.size ≤ 9223372036854775807 then ((strings_Repeat.f (⟨#[48]⟩ : ByteArray) (wrap64 ((mx (js6.size : Int) ((a1_1 ++ t131).size : Int)) - (js6.size : Int)))).bind fun t132 => (if t132.size + js6.size ≤ 9223372036854775807 then ((strings_Repeat.f (⟨#[48]⟩ : ByteArray) (wrap64 ((mx (js6.size : Int) ((a1_1 ++ t131).size : Int)) - ((a1_1 ++ t131).size : Int)))).bind fun t133 => (if t133.size + (a1_1 ++ t131).size ≤ 9223372036854775807 then (some (t132 ++ js6, t133 ++ (a1_1 ++ t131), ji3)) else (none))) else (none))) else (none)) = some (r1, r2, r3) := H
    have A7 := Aside0.mk A70
    clear A70
    by_cases c8 : a1_1.size + t131.size ≤ 9223372036854775807
    · rw [if_pos c8] at H
      have c8b0 := eq_true c8
      have c8b1 : decide (a1_1.size + t131.size ≤ 9223372036854775807) = true := decide_eq_true c8
      try have c8b2 : (9223372036854775807 < a1_1.size + t131.size) = False := eq_false (Nat.not_lt.2 c8)
      try clear c8
      obtain ⟨js9, hjs9⟩ : ∃ s_ : ByteArray, (a1_1 ++ t131) = s_ := ⟨_, rfl⟩
      replace H : ((strings_Repeat.f (⟨#[48]⟩ : ByteArray) (wrap64 ((mx (js6.size : Int) (js9.size : Int)) - (js6.size : Int)))).bind fun t132 => (if t132.size + js6.size ≤ 9223372036854775807 then ((strings_Repeat.f (⟨#[48]⟩ : ByteArray) (wrap64 ((mx (js6.size : Int) (js9.size : Int)) - (js9.size : Int)))).bind fun t133 => (if t133.size + js9.size ≤ 9223372036854775807 then (some (t132 ++ js6, t133 ++ js9, ji3)) else (none))) else (none))) = some (r1, r2, r3) := by first | (rw [hjs9] at H; exact H) | (simp only [hjs9] at H ⊢; exact H) | exact H
      (try rw [hjs9] at A4)
      (try rw [hjs9] at A7)
      obtain ⟨ji10, hji10⟩ : ∃ j_ : Int, (mx (js6.size : Int) (js9.size : Int)) = j_ := ⟨_, rfl⟩
      replace H : ((strings_Repeat.f (⟨#[48]⟩ : ByteArray) (wrap64 ((ji10) - (js6.size : Int)))).bind fun t132 => (if t132.size + js6.size ≤ 9223372036854775807 then ((strings_Repeat.f (⟨#[48]⟩ : ByteArray) (wrap64 ((ji10) - (js9.size : Int)))).bind fun t133 => (if t133.size + js9.size ≤ 9223372036854775807 then (some (t132 ++ js6, t133 ++ js9, ji3)) else (none))) else (none))) = some (r1, r2, r3) := by first | (rw [hji10] at H; exact H) | (simp only [hji10] at H ⊢; exact H)
      (try rw [hji10] at A4)
      (try rw [hji10] at A7)
      have hji10_ : (if (js6.size : Int) < (js9.size : Int) then (js9.size : Int) else (js6.size : Int)) = ji10 := hji10
      try have hji10n_ : (if js6.size < js9.size then (js9.size : Int) else (js6.size : Int)) = ji10 := by have h_ := hji10_; simp only [Int.ofNat_lt] at h_; exact h_
      replace H := Option.bind_eq_some_iff.mp H
      obtain ⟨t132, A110, H⟩ := H
      replace H : (if t132.size + js6.size ≤ 9223372036854775807 then ((strings_Repeat.f (⟨#[48]⟩ : ByteArray) (wrap64 ((ji10) - (js9.size : Int)))).bind fun t133 => (if t133.size + js9.size ≤ 9223372036854775807 then (some (t132 ++ js6, t133 ++ js9, ji3)) else (none))) else (none)) = some (r1, r2, r3) := H
      have A11 := Aside0.mk A110
      clear A110
      by_cases c12 : t132.size + js6.size ≤ 9223372036854775807
      · rw [if_pos c12] at H
        have c12b0 := eq_true c12
        have c12b1 : decide (t132.size + js6.size ≤ 9223372036854775807) = true := decide_eq_true c12
        try have c12b2 : (9223372036854775807 < t132.size + js6.size) = False := eq_false (Nat.not_lt.2 c12)
        try clear c12
        obtain ⟨js13, hjs13⟩ : ∃ s_ : ByteArray, (t132 ++ js6) = s_ := ⟨_, rfl⟩
        replace H : ((strings_Repeat.f (⟨#[48]⟩ : ByteArray) (wrap64 ((ji10) - (js9.size : Int)))).bind fun t133 => (if t133.size + js9.size ≤ 9223372036854775807 then (some (js13, t133 ++ js9, ji3)) else (none))) = some (r1, r2, r3) := by first | (rw [hjs13] at H; exact H) | (simp only [hjs13] at H ⊢; exact H) | exact H
        (try rw [hjs13] at A4)
        (try rw [hjs13] at A7)
        (try rw [hjs13] at A11)
        replace H := Option.bind_eq_some_iff.mp H
        obtain ⟨t133, A140, H⟩ := H
        replace H : (if t133.size + js9.size ≤ 9223372036854775807 then (some (js13, t133 ++ js9, ji3)) else (none)) = some (r1, r2, r3) := H
        have A14 := Aside0.mk A140
        clear A140
        by_cases c15 : t133.size + js9.size ≤ 9223372036854775807
        · rw [if_pos c15] at H
          have c15b0 := eq_true c15
          have c15b1 : decide (t133.size + js9.size ≤ 9223372036854775807) = true := decide_eq_true c15
          try have c15b2 : (9223372036854775807 < t133.size + js9.size) = False := eq_false (Nat.not_lt.2 c15)
          try clear c15
          obtain ⟨js16, hjs16⟩ : ∃ s_ : ByteArray, (t133 ++ js9) = s_ := ⟨_, rfl⟩
          replace H : (some (js13, js16, ji3)) = some (r1, r2, r3) := by first | (rw [hjs16] at H; exact H) | (simp only [hjs16] at H ⊢; exact H) | exact H
          (try rw [hjs16] at A4)
          (try rw [hjs16] at A7)
          (try rw [hjs16] at A11)
          (try rw [hjs16] at A14)
          simp only [Option.some.injEq, Prod.mk.injEq] at H
          obtain ⟨rfl, rfl, rfl⟩ := H
          go_enter Tryd.func51, Tryd.ntmps51
          try go_wp2_with (first | ((with_reducible refine gate_dst (N := 2) rfl ?_); refine box_event ?hg (N := 2) ?hd (cs := #[.bool a0_0, .string a0_1, .int .i64 a0_2]) (t := 26) ?hr ?_; (case hd => rfl); (case hg => rfl); (case hr => first | (go_simp; done) | (go_simp; rfl)); intro gb128 hg w17 hbox hb; have n0_ := Aside0.mk (below_step (by repeat (first | (with_reducible first | exact HB.out | apply below_alloc | apply pw_below_drewN | apply below_drew1) | exact HB.out)) hb); have n1_ := Aside0.mk (hbox); have n2_ := Aside0.mk ((by rw [hg]; exact (below_size (by repeat (first | (with_reducible first | exact HB.out | apply below_alloc | apply pw_below_drewN | apply below_drew1) | exact HB.out))) : w.heap.size ≤ gb128)); have n3_ := Aside0.mk ((by rw [hg]; exact (below_size (by repeat (first | (with_reducible first | exact HB.out | apply below_alloc | apply pw_below_drewN | apply below_drew1) | exact HB.out))) : w.heap.size ≤ gb128)); clear HB; have HB := n0_; have BK128 := n1_; have GW128 := n2_; have GE128 := n3_; clear n0_ n1_ n2_ n3_; clear hb hbox hg) | ((with_reducible refine gate_dst (N := 3) rfl ?_); refine box_event ?hg (N := 3) ?hd (cs := #[.bool a1_0, .string a1_1, .int .i64 a1_2]) (t := 26) ?hr ?_; (case hd => rfl); (case hg => rfl); (case hr => first | (go_simp; done) | (go_simp; rfl)); intro gb129 hg w18 hbox hb; have n0_ := Aside0.mk (blk_below (g := gb128) (o := .cells #[.bool a0_0, .string a0_1, .int .i64 a0_2] 26 (0, 0)) (by refine blk_up ?_; exact BK128.out) hb); have n1_ := Aside0.mk (below_step (by repeat (first | (with_reducible first | exact HB.out | apply below_alloc | apply pw_below_drewN | apply below_drew1 | refine below_set ?_ GE128.out) | exact HB.out)) hb); have n2_ := Aside0.mk (hbox); have n3_ := Aside0.mk ((by rw [hg]; exact (below_size (by repeat (first | (with_reducible first | exact HB.out | apply below_alloc | apply pw_below_drewN | apply below_drew1 | refine below_set ?_ GE128.out) | exact HB.out))) : w.heap.size ≤ gb129)); have n4_ := Aside0.mk ((by rw [hg]; exact (below_size (by repeat (first | (with_reducible first | exact HB.out | apply below_alloc | apply pw_below_drewN | apply below_drew1 | refine below_set ?_ GE128.out) | exact HB.out))) : w.heap.size ≤ gb129)); have n5_ := Aside0.mk ((by rw [hg]; exact Nat.ne_of_lt (blk_lt (g := gb128) (o := .cells #[.bool a0_0, .string a0_1, .int .i64 a0_2] 26 (0, 0)) (by refine blk_up ?_; exact BK128.out)) : gb128 ≠ gb129)); have n6_ := Aside0.mk ((by rw [hg]; exact Nat.ne_of_gt (blk_lt (g := gb128) (o := .cells #[.bool a0_0, .string a0_1, .int .i64 a0_2] 26 (0, 0)) (by refine blk_up ?_; exact BK128.out)) : gb129 ≠ gb128)); clear BK128; clear HB; have BK128 := n0_; have HB := n1_; have BK129 := n2_; have GW129 := n3_; have GE129 := n4_; have NB128_129 := n5_; have NB129_128 := n6_; clear n0_ n1_ n2_ n3_ n4_ n5_ n6_; clear hb hbox hg; have hnb19 := NB128_129.out; have hnc19 := NB129_128.out; have hcz20_0 : w18.cell? ⟨gb128, 0, none⟩ = some (.bool a0_0) := (blk_cell BK128.out 0).trans rfl; have hcz20_1 : w18.cell? ⟨gb128, 1, none⟩ = some (.string a0_1) := (blk_cell BK128.out 1).trans rfl; have hcz20_2 : w18.cell? ⟨gb128, 2, none⟩ = some (.int .i64 a0_2) := (blk_cell BK128.out 2).trans rfl; have hfz20_0 := blk_frozen BK128.out 0; have hfz20_1 := blk_frozen BK128.out 1; have hfz20_2 := blk_frozen BK128.out 2; have hcz21_0 : w18.cell? ⟨gb129, 0, none⟩ = some (.bool a1_0) := (blk_cell BK129.out 0).trans rfl; have hcz21_1 : w18.cell? ⟨gb129, 1, none⟩ = some (.string a1_1) := (blk_cell BK129.out 1).trans rfl; have hcz21_2 : w18.cell? ⟨gb129, 2, none⟩ = some (.int .i64 a1_2) := (blk_cell BK129.out 2).trans rfl; have hfz21_0 := blk_frozen BK129.out 0; have hfz21_1 := blk_frozen BK129.out 1; have hfz21_2 := blk_frozen BK129.out 2))
          have n0_ := Aside0.mk (blk_drew BK128.out)
          have n1_ := Aside0.mk (blk_drew BK129.out)
          have n2_ := Aside0.mk (below_drew1 HB.out)
          clear BK128
          clear BK129
          clear HB
          have BK128 := n0_
          have BK129 := n1_
          have HB := n2_
          clear n0_ n1_ n2_
          refine start_ (n := 9) (S := fun w' => w'.cell? ⟨gb128, 0, none⟩ = some (.bool a0_0) ∧ w'.cell? ⟨gb128, 1, none⟩ = some (.string a0_1) ∧ w'.cell? ⟨gb128, 2, none⟩ = some (.int .i64 a0_2)) (ds := []) #[false, false, false, false, false, false, false, false, false] (by kernel_rfl) rfl rfl ⟨(blk_cell BK128.out 0).trans rfl, (blk_cell BK128.out 1).trans rfl, (blk_cell BK128.out 2).trans rfl⟩ (fun hHeld => ?_); refine with_tabW impl_level.tab2 impl_level.bits2 (fun HT_ HW_ => ?_)
          generalize w18.drew = w22 at BK128 BK129 HB hHeld ⊢
          refine pure_ (i := 0) (N := some 16) (v := ?_) (a' := ?_) #[true, false, false, false, false, false, false, false, false] rfl rfl (any_of HT_.out (by kernel_rfl)) (fun _ _ _ h => h) (Or.inl ⟨by rfl, ?_⟩) ?_ ?_
          rotate_left
          · intro w'
            go_simp
            with_reducible rfl
          rotate_left
          · simp only [Act.put, List.setIfInBounds_toArray, List.set_cons_zero, List.set_cons_succ, i64_w, i32_w]
            rfl
          refine pure_ (i := 2) (N := some 18) (v := ?_) (a' := ?_) #[true, false, true, false, false, false, false, false, false] rfl rfl (any_of HT_.out (by kernel_rfl)) (fun _ _ _ h => h) (Or.inl ⟨by rfl, ?_⟩) ?_ ?_
          rotate_left
          · intro w'
            go_simp
            with_reducible rfl
          rotate_left
          · simp only [Act.put, List.setIfInBounds_toArray, List.set_cons_zero, List.set_cons_succ, i64_w, i32_w]
            rfl
          refine pure_ (i := 3) (N := some 19) (v := ?_) (a' := ?_) #[true, false, true, true, false, false, false, false, false] rfl rfl (any_of HT_.out (by kernel_rfl)) (fun _ _ _ h => h) (Or.inl ⟨by rfl, ?_⟩) ?_ ?_
          rotate_left
          · intro w'
            go_simp
            with_reducible rfl
          rotate_left
          · simp only [Act.put, List.setIfInBounds_toArray, List.set_cons_zero, List.set_cons_succ, i64_w, i32_w]
            rfl
          refine take_ (i := 1) (N := some 17) (v := ?_) (a' := ?_) #[true, true, true, true, false, false, false, false, false] rfl rfl (take_ofW HT_.out HW_.out (by kernel_rfl)) (fun _ _ _ h => h) (Or.inl ⟨by rfl, ?_⟩) hHeld ?_ ?_
          rotate_left
          · rintro w' ⟨s0, s1, s2⟩
            go_simp
            with_reducible rfl
          rotate_left
          · simp only [Act.put, List.setIfInBounds_toArray, List.set_cons_zero, List.set_cons_succ, i64_w, i32_w]
            rfl
          refine take_ (i := 4) (N := some 20) (v := ?_) (a' := ?_) #[true, true, true, true, true, false, false, false, false] rfl rfl (take_ofW HT_.out HW_.out (by kernel_rfl)) (fun _ _ _ h => h) (Or.inl ⟨by rfl, ?_⟩) hHeld ?_ ?_
          rotate_left
          · rintro w' ⟨s0, s1, s2⟩
            go_simp
            with_reducible rfl
          rotate_left
          · simp only [Act.put, List.setIfInBounds_toArray, List.set_cons_zero, List.set_cons_succ, i64_w, i32_w]
            rfl
          refine pure_ (i := 5) (N := some 21) (v := ?_) (a' := ?_) #[true, true, true, true, true, true, false, false, false] rfl rfl (any_of HT_.out (by kernel_rfl)) (fun _ _ _ h => h) (Or.inl ⟨by rfl, ?_⟩) ?_ ?_
          rotate_left
          · intro w'
            go_simp
            with_reducible rfl
          rotate_left
          · simp only [Act.put, List.setIfInBounds_toArray, List.set_cons_zero, List.set_cons_succ, i64_w, i32_w]
            rfl
          refine one_ (i := 6) (N := some 22) #[true, true, true, true, true, true, true, false, false] rfl rfl (one_of HT_.out (by kernel_rfl)) (by decide) (fun K hK => ?_)
          refine goes_ Tryd.func65 (by kernel_rfl) rfl #[.string (⟨#[48]⟩ : ByteArray), .int .i64 (wrap64 ((ji3) - a0_2))] (by rfl) rfl rfl (by (try simp only [List.map_toArray, List.map_cons, List.map_nil]); first | done | (simp only [hji3]; rfl) | rfl | (simp only [List.length_drop, List.length_take]; rfl)) ?_
          with_reducible refine (strings_Repeat.calls (⟨#[48]⟩ : ByteArray) (wrap64 ((ji3) - a0_2)) t130 _ A4.out).mono ?_
          rintro e w23 ⟨rfl, hb⟩
          refine ⟨_, rfl, ?_⟩
          have n0_ := Aside0.mk (blk_below (g := gb128) (o := .cells #[.bool a0_0, .string a0_1, .int .i64 a0_2] 26 (0, 0)) (by refine blk_up ?_; exact BK128.out) hb)
          have n1_ := Aside0.mk (blk_below (g := gb129) (o := .cells #[.bool a1_0, .string a1_1, .int .i64 a1_2] 26 (0, 0)) (by refine blk_up ?_; exact BK129.out) hb)
          have n2_ := Aside0.mk (below_step (by repeat (first | (with_reducible first | exact HB.out | apply below_alloc | apply pw_below_drewN | apply below_drew1 | refine below_set ?_ GE128.out | refine below_set ?_ GE129.out) | exact HB.out)) hb)
          clear BK128
          clear BK129
          clear HB
          have BK128 := n0_
          have BK129 := n1_
          have HB := n2_
          clear n0_ n1_ n2_
          (try clear hb)
          (try clear hb2)
          (try clear hk)
          (try clear hi)
          refine hK.out _ _ ⟨(blk_cell BK128.out 0).trans rfl, (blk_cell BK128.out 1).trans rfl, (blk_cell BK128.out 2).trans rfl⟩ (fun hHeld => ?_)
          clear hK K
          refine norm_ (a' := ?_) ?_ ?_
          rotate_left
          · show Act.put _ (some 22) _ = _
            simp only [Act.put, List.setIfInBounds_toArray, List.set_cons_zero, List.set_cons_succ, i64_w, i32_w]
            rfl
          refine pure_ (i := 7) (N := some 23) (v := ?_) (a' := ?_) #[true, true, true, true, true, true, true, true, false] rfl rfl (any_of HT_.out (by kernel_rfl)) (fun _ _ _ h => h) (Or.inl ⟨by rfl, ?_⟩) ?_ ?_
          rotate_left
          · intro w'
            go_simp
            with_reducible rfl
          rotate_left
          · simp only [Act.put, List.setIfInBounds_toArray, List.set_cons_zero, List.set_cons_succ, i64_w, i32_w]
            rfl
          refine pure_ (i := 8) (N := some 8) (v := ?_) (a' := ?_) #[true, true, true, true, true, true, true, true, true] rfl rfl (any_of HT_.out (by kernel_rfl)) (fun _ _ _ h => h) (Or.inl ⟨by rfl, ?_⟩) ?_ ?_
          rotate_left
          · intro w'
            go_simp
            with_reducible rfl
          rotate_left
          · simp only [Act.put, List.setIfInBounds_toArray, List.set_cons_zero, List.set_cons_succ, i64_w, i32_w]
            rfl
          refine done_ (done_of HT_.out (by kernel_rfl)) ?_
          try go_wp2
          have n0_ := Aside0.mk (blk_drew BK128.out)
          have n1_ := Aside0.mk (blk_drew BK129.out)
          have n2_ := Aside0.mk (below_drew1 HB.out)
          clear BK128
          clear BK129
          clear HB
          have BK128 := n0_
          have BK129 := n1_
          have HB := n2_
          clear n0_ n1_ n2_
          refine start_ (n := 9) (S := fun w' => w'.cell? ⟨gb129, 0, none⟩ = some (.bool a1_0) ∧ w'.cell? ⟨gb129, 1, none⟩ = some (.string a1_1) ∧ w'.cell? ⟨gb129, 2, none⟩ = some (.int .i64 a1_2)) (ds := []) #[false, false, false, false, false, false, false, false, false] (by kernel_rfl) rfl rfl ⟨(blk_cell BK129.out 0).trans rfl, (blk_cell BK129.out 1).trans rfl, (blk_cell BK129.out 2).trans rfl⟩ (fun hHeld => ?_); refine with_tabW impl_level.tab3 impl_level.bits3 (fun HT_ HW_ => ?_)
          generalize w23.drew = w24 at BK128 BK129 HB hHeld ⊢
          refine pure_ (i := 0) (N := some 24) (v := ?_) (a' := ?_) #[true, false, false, false, false, false, false, false, false] rfl rfl (any_of HT_.out (by kernel_rfl)) (fun _ _ _ h => h) (Or.inl ⟨by rfl, ?_⟩) ?_ ?_
          rotate_left
          · intro w'
            go_simp
            with_reducible rfl
          rotate_left
          · simp only [Act.put, List.setIfInBounds_toArray, List.set_cons_zero, List.set_cons_succ, i64_w, i32_w]
            rfl
          refine pure_ (i := 2) (N := some 26) (v := ?_) (a' := ?_) #[true, false, true, false, false, false, false, false, false] rfl rfl (any_of HT_.out (by kernel_rfl)) (fun _ _ _ h => h) (Or.inl ⟨by rfl, ?_⟩) ?_ ?_
          rotate_left
          · intro w'
            go_simp
            with_reducible rfl
          rotate_left
          · simp only [Act.put, List.setIfInBounds_toArray, List.set_cons_zero, List.set_cons_succ, i64_w, i32_w]
            rfl
          refine pure_ (i := 3) (N := some 27) (v := ?_) (a' := ?_) #[true, false, true, true, false, false, false, false, false] rfl rfl (any_of HT_.out (by kernel_rfl)) (fun _ _ _ h => h) (Or.inl ⟨by rfl, ?_⟩) ?_ ?_
          rotate_left
          · intro w'
            go_simp
            with_reducible rfl
          rotate_left
          · simp only [Act.put, List.setIfInBounds_toArray, List.set_cons_zero, List.set_cons_succ, i64_w, i32_w]
            rfl
          refine take_ (i := 1) (N := some 25) (v := ?_) (a' := ?_) #[true, true, true, true, false, false, false, false, false] rfl rfl (take_ofW HT_.out HW_.out (by kernel_rfl)) (fun _ _ _ h => h) (Or.inl ⟨by rfl, ?_⟩) hHeld ?_ ?_
          rotate_left
          · rintro w' ⟨s0, s1, s2⟩
            go_simp
            with_reducible rfl
          rotate_left
          · simp only [Act.put, List.setIfInBounds_toArray, List.set_cons_zero, List.set_cons_succ, i64_w, i32_w]
            rfl
          refine take_ (i := 4) (N := some 28) (v := ?_) (a' := ?_) #[true, true, true, true, true, false, false, false, false] rfl rfl (take_ofW HT_.out HW_.out (by kernel_rfl)) (fun _ _ _ h => h) (Or.inl ⟨by rfl, ?_⟩) hHeld ?_ ?_
          rotate_left
          · rintro w' ⟨s0, s1, s2⟩
            go_simp
            with_reducible rfl
          rotate_left
          · simp only [Act.put, List.setIfInBounds_toArray, List.set_cons_zero, List.set_cons_succ, i64_w, i32_w]
            rfl
          refine pure_ (i := 5) (N := some 29) (v := ?_) (a' := ?_) #[true, true, true, true, true, true, false, false, false] rfl rfl (any_of HT_.out (by kernel_rfl)) (fun _ _ _ h => h) (Or.inl ⟨by rfl, ?_⟩) ?_ ?_
          rotate_left
          · intro w'
            go_simp
            with_reducible rfl
          rotate_left
          · simp only [Act.put, List.setIfInBounds_toArray, List.set_cons_zero, List.set_cons_succ, i64_w, i32_w]
            rfl
          refine one_ (i := 6) (N := some 30) #[true, true, true, true, true, true, true, false, false] rfl rfl (one_of HT_.out (by kernel_rfl)) (by decide) (fun K hK => ?_)
          refine goes_ Tryd.func65 (by kernel_rfl) rfl #[.string (⟨#[48]⟩ : ByteArray), .int .i64 (wrap64 ((ji3) - a1_2))] (by rfl) rfl rfl (by (try simp only [List.map_toArray, List.map_cons, List.map_nil]); first | done | (simp only [hji3]; rfl) | rfl | (simp only [List.length_drop, List.length_take]; rfl)) ?_
          with_reducible refine (strings_Repeat.calls (⟨#[48]⟩ : ByteArray) (wrap64 ((ji3) - a1_2)) t131 _ A7.out).mono ?_
          rintro e w25 ⟨rfl, hb⟩
          refine ⟨_, rfl, ?_⟩
          have n0_ := Aside0.mk (blk_below (g := gb128) (o := .cells #[.bool a0_0, .string a0_1, .int .i64 a0_2] 26 (0, 0)) (by refine blk_up ?_; exact BK128.out) hb)
          have n1_ := Aside0.mk (blk_below (g := gb129) (o := .cells #[.bool a1_0, .string a1_1, .int .i64 a1_2] 26 (0, 0)) (by refine blk_up ?_; exact BK129.out) hb)
          have n2_ := Aside0.mk (below_step (by repeat (first | (with_reducible first | exact HB.out | apply below_alloc | apply pw_below_drewN | apply below_drew1 | refine below_set ?_ GE128.out | refine below_set ?_ GE129.out) | exact HB.out)) hb)
          clear BK128
          clear BK129
          clear HB
          have BK128 := n0_
          have BK129 := n1_
          have HB := n2_
          clear n0_ n1_ n2_
          (try clear hb)
          (try clear hb2)
          (try clear hk)
          (try clear hi)
          refine hK.out _ _ ⟨(blk_cell BK129.out 0).trans rfl, (blk_cell BK129.out 1).trans rfl, (blk_cell BK129.out 2).trans rfl⟩ (fun hHeld => ?_)
          clear hK K
          refine norm_ (a' := ?_) ?_ ?_
          rotate_left
          · show Act.put _ (some 30) _ = _
            simp only [Act.put, List.setIfInBounds_toArray, List.set_cons_zero, List.set_cons_succ, i64_w, i32_w]
            rfl
          refine pure_ (i := 7) (N := some 31) (v := ?_) (a' := ?_) #[true, true, true, true, true, true, true, true, false] rfl rfl (any_of HT_.out (by kernel_rfl)) (fun _ _ _ h => h) (Or.inl ⟨by rfl, ?_⟩) ?_ ?_
          rotate_left
          · intro w'
            go_simp
            with_reducible rfl
          rotate_left
          · simp only [Act.put, List.setIfInBounds_toArray, List.set_cons_zero, List.set_cons_succ, i64_w, i32_w]
            rfl
          refine pure_ (i := 8) (N := some 9) (v := ?_) (a' := ?_) #[true, true, true, true, true, true, true, true, true] rfl rfl (any_of HT_.out (by kernel_rfl)) (fun _ _ _ h => h) (Or.inl ⟨by rfl, ?_⟩) ?_ ?_
          rotate_left
          · intro w'
            go_simp
            with_reducible rfl
          rotate_left
          · simp only [Act.put, List.setIfInBounds_toArray, List.set_cons_zero, List.set_cons_succ, i64_w, i32_w]
            rfl
          refine done_ (done_of HT_.out (by kernel_rfl)) ?_
          try go_wp2_with (first | ((with_reducible refine gate_callee (f := 65) rfl ?_); refine goesL_ (some 41) rfl rfl Tryd.func65 (by kernel_rfl) rfl #[.string (⟨#[48]⟩ : ByteArray), .int .i64 (wrap64 ((ji10) - (js6.size : Int)))] rfl (by (try simp only [List.map_toArray, List.map_cons, List.map_nil]); first | done | (simp only [hji10]; rfl) | rfl | (simp only [List.length_drop, List.length_take]; rfl)) ?_; (with_reducible refine (strings_Repeat.calls (⟨#[48]⟩ : ByteArray) (wrap64 ((ji10) - (js6.size : Int))) t132 _ A11.out).mono ?_); rintro e w26 ⟨rfl, hb⟩; refine ⟨_, rfl, ?_⟩; have n0_ := Aside0.mk (blk_below (g := gb128) (o := .cells #[.bool a0_0, .string a0_1, .int .i64 a0_2] 26 (0, 0)) (by refine blk_up ?_; exact BK128.out) hb); have n1_ := Aside0.mk (blk_below (g := gb129) (o := .cells #[.bool a1_0, .string a1_1, .int .i64 a1_2] 26 (0, 0)) (by refine blk_up ?_; exact BK129.out) hb); have n2_ := Aside0.mk (below_step (by repeat (first | (with_reducible first | exact HB.out | apply below_alloc | apply pw_below_drewN | apply below_drew1 | refine below_set ?_ GE128.out | refine below_set ?_ GE129.out) | exact HB.out)) hb); clear BK128; clear BK129; clear HB; have BK128 := n0_; have BK129 := n1_; have HB := n2_; clear n0_ n1_ n2_; (try clear hb); (try clear hb2); (try clear hk); (try clear hi)) | ((with_reducible refine gate_callee (f := 65) rfl ?_); refine goesL_ (some 48) rfl rfl Tryd.func65 (by kernel_rfl) rfl #[.string (⟨#[48]⟩ : ByteArray), .int .i64 (wrap64 ((ji10) - (js9.size : Int)))] rfl (by (try simp only [List.map_toArray, List.map_cons, List.map_nil]); first | done | (simp only [hji10]; rfl) | rfl | (simp only [List.length_drop, List.length_take]; rfl)) ?_; (with_reducible refine (strings_Repeat.calls (⟨#[48]⟩ : ByteArray) (wrap64 ((ji10) - (js9.size : Int))) t133 _ A14.out).mono ?_); rintro e w27 ⟨rfl, hb⟩; refine ⟨_, rfl, ?_⟩; have n0_ := Aside0.mk (blk_below (g := gb128) (o := .cells #[.bool a0_0, .string a0_1, .int .i64 a0_2] 26 (0, 0)) (by refine blk_up ?_; exact BK128.out) hb); have n1_ := Aside0.mk (blk_below (g := gb129) (o := .cells #[.bool a1_0, .string a1_1, .int .i64 a1_2] 26 (0, 0)) (by refine blk_up ?_; exact BK129.out) hb); have n2_ := Aside0.mk (below_step (by repeat (first | (with_reducible first | exact HB.out | apply below_alloc | apply pw_below_drewN | apply below_drew1 | refine below_set ?_ GE128.out | refine below_set ?_ GE129.out) | exact HB.out)) hb); clear BK128; clear BK129; clear HB; have BK128 := n0_; have BK129 := n1_; have HB := n2_; clear n0_ n1_ n2_; (try clear hb); (try clear hb2); (try clear hk); (try clear hi)))
          go_ret3
          exact ⟨by first | rfl | (simp [errW_none, errW_some] <;> rfl) | (simp only [← hji3, ← hjs6, ← hjs9, ← hji10, ← hjs13, ← hjs16]; first | rfl | (simp [errW_none, errW_some] <;> rfl)) | (simp [*, errW_none, errW_some] <;> rfl), by repeat (first | (with_reducible first | exact HB.out | apply below_alloc | apply pw_below_drewN | apply below_drew1 | refine below_set ?_ GE128.out | refine below_set ?_ GE129.out) | exact HB.out)⟩
        · rw [if_neg c15] at H
          exact absurd H (by simp)
      · rw [if_neg c12] at H
        exact absurd H (by simp)
    · rw [if_neg c8] at H
      exact absurd H (by simp)
  · rw [if_neg c5] at H
    exact absurd H (by simp)

end Go.Proofs.YtilmhfkbpnejeaaDoor.L

namespace Go.Proofs.YtilmhfkbpnejeaaDoor.L
open Go.RowKit Go.Proofs.YtilmhfkbpnejeaaDoorW.PrintWords Go.Proofs.YtilmhfkbpnejeaaDoorW.PrintLast Go.Proofs.YtilmhfkbpnejeaaDoorW.PrintMore
attribute [local go_sem] max2_int min2_int max_two min_two max_three min_three max_four min_four   -- for this text's walks alone
attribute [local go_sem] Go.Proofs.YtilmhfkbpnejeaaDoor.H.str_leq Go.Proofs.YtilmhfkbpnejeaaDoor.H.str_gtr Go.Proofs.YtilmhfkbpnejeaaDoor.H.str_geq
set_option linter.unusedVariables false
set_option linter.unusedSimpArgs false

/-! ### cmp_isNaN_string: function 92 -/
def cmp_isNaN_string.f (a0 : ByteArray) : Option (Bool) := some (a0.toList != a0.toList)
set_option maxHeartbeats 8000000 in
set_option maxRecDepth 100000 in
theorem cmp_isNaN_string.calls (a0 : ByteArray) (r : Bool) (w : World) (h : cmp_isNaN_string.f a0 = some r) :
    Calls Tryd.prog 92 #[.string a0] w fun e w' => e = .returned (.bool r) ∧ Drawn0 w w' := by
  have H : (some (a0.toList != a0.toList)) = some r := h
  clear h
  obtain rfl := Option.some.inj H
  go_enter Tryd.func92, Tryd.ntmps92
  go_wp2
  go_ret
  exact ⟨by first | rfl | (simp; done) | (simp [*]; done), by repeat (first | exact Drawn0.refl _ | apply Drawn0.step)⟩

end Go.Proofs.YtilmhfkbpnejeaaDoor.L
