/- Words and contracts for the row RowFnBound: what the Go functions answer that it calls; printed by programs of the kit and of this session, and merged. -/
import Derived.Test.YtpmjpbaeecnpiaaDoorQb6
import Derived.Shelf.Unicode.DecodeSlow
import Derived.Shelf.Unicode.ValidAny
import Derived.Test.YtpmjpbaeecnpiaaDoorProg
import Derived.Lib.OthersKept
import Derived.Lib.Hide
import Derived.Outline
import Derived.Shelf.Strings.SplitShaped
import Derived.WalkSpells
import Derived.Deep.QuietTactic
import Derived.BigQuiet
import Derived.Lib.IndexLaws
namespace Go.Proofs.YtpmjpbaeecnpiaaDoor.L
open Go.RowKit Go.Proofs.YtpmjpbaeecnpiaaDoorW.PrintWords Go.Proofs.YtpmjpbaeecnpiaaDoorW.PrintLast Go.Proofs.YtpmjpbaeecnpiaaDoorW.PrintMore
attribute [local go_sem] max2_int min2_int max_two min_two max_three min_three max_four min_four
set_option linter.unusedVariables false
set_option linter.unusedSimpArgs false

/-! ### spec_DrawBoundAt: function 26 -/
def spec_DrawBoundAt.f (k : Nat) (l0 : List Int) : Option ((List (S39)) × Int × ByteArray) := (spec_l1Open.f l0).bind fun bt640 => ((spec_l1Rd_spaces.f k bt640.1 bt640.2).bind fun bt643 => ((spec_l1Rd_off.f k bt640.1 bt643.2 0 (wrap64 ((bt643.1.length : Int) - 1))).bind fun bt647 => ((some (([(⟨#[]⟩ : ByteArray), (⟨#[112]⟩ : ByteArray), (⟨#[113]⟩ : ByteArray), (⟨#[120, 109, 108]⟩ : ByteArray), (⟨#[122, 122]⟩ : ByteArray)] : List ByteArray) : List ByteArray)).bind fun y649 => ((spec_l1Rd_below.f bt640.1 bt647.2 5).bind fun bt652 => (if 0 ≤ bt652.1 then (if bt652.1 < (y649.length : Int) then (some (bt643.1, bt647.1, rdOf ByteArray.empty y649 bt652.1)) else (none)) else (none))))))
def spec_DrawBoundAt.T3 : Bool × List (List Nat × List Nat) := (true, [([], []), ([], []), ([], []), ([2], [2]), ([3], [3]), ([1, 4], [1, 4]), ([], []), ([], []), ([7, 5], [7]), ([6, 8], [6, 8]), ([9], [9]), ([0, 8, 0], [0]), ([5, 11, 0, 1, 2, 3, 4, 5, 11], [5]), ([10, 12, 0, 1, 2, 3, 4, 5, 6, 7, 8, 9, 10, 11, 12], [10])])
def spec_DrawBoundAt.B3 : List Nat := [0, 0, 0, 4, 12, 30, 0, 0, 190, 510, 1022, 447, 2495, 8191]
theorem spec_DrawBoundAt.tab3 : rtab .any (opsOf Tryd.f26 3) = spec_DrawBoundAt.T3 := by kernel_rfl
theorem spec_DrawBoundAt.bits3 : waitsOk spec_DrawBoundAt.T3.2 spec_DrawBoundAt.B3 = true := by kernel_rfl
set_option maxHeartbeats 8000000 in
set_option maxRecDepth 100000 in
theorem spec_DrawBoundAt.calls (k : Nat) (A0 : Option Addr) (c0 : Nat) (l0 : List Int) (r1 : List (S39)) (r2 : Int) (r3 : ByteArray) (w : World) (hr0 : Kd.C (Kd.int .u8) w A0 l0.length l0) (hc0 : l0.length ≤ c0) (h : spec_DrawBoundAt.f k l0 = some (r1, r2, r3)) :
  Calls Tryd.prog 26 #[.slice A0 l0.length c0] w fun e w' => ∃ v0_ : Value, e = .returned (.tuple #[v0_, .int .i64 r2, .string r3]) ∧ Kd.S k39 39 w' w.heap.size (fun _ => True) v0_ r1 ∧ Below w.heap.size w w' := by
 have HR0 := Aside0.mk hr0
 have HC0 := Aside0.mk hc0
 clear hr0 hc0
 have HB := Aside0.mk (Below.refl w.heap.size w)
 have H : ((spec_l1Open.f l0).bind fun bt640 => ((spec_l1Rd_spaces.f k bt640.1 bt640.2).bind fun bt643 => ((spec_l1Rd_off.f k bt640.1 bt643.2 0 (wrap64 ((bt643.1.length : Int) - 1))).bind fun bt647 => ((some (([(⟨#[]⟩ : ByteArray), (⟨#[112]⟩ : ByteArray), (⟨#[113]⟩ : ByteArray), (⟨#[120, 109, 108]⟩ : ByteArray), (⟨#[122, 122]⟩ : ByteArray)] : List ByteArray) : List ByteArray)).bind fun y649 => ((spec_l1Rd_below.f bt640.1 bt647.2 5).bind fun bt652 => (if 0 ≤ bt652.1 then (if bt652.1 < (y649.length : Int) then (some (bt643.1, bt647.1, rdOf ByteArray.empty y649 bt652.1)) else (none)) else (none))))))) = some (r1, r2, r3) := h
 clear h
 replace H := Option.bind_eq_some_iff.mp H
 obtain ⟨⟨t640, t641⟩, A20, H⟩ := H
 replace H : ((spec_l1Rd_spaces.f k t640 t641).bind fun bt643 => ((spec_l1Rd_off.f k t640 bt643.2 0 (wrap64 ((bt643.1.length : Int) - 1))).bind fun bt647 => ((some (([(⟨#[]⟩ : ByteArray), (⟨#[112]⟩ : ByteArray), (⟨#[113]⟩ : ByteArray), (⟨#[120, 109, 108]⟩ : ByteArray), (⟨#[122, 122]⟩ : ByteArray)] : List ByteArray) : List ByteArray)).bind fun y649 => ((spec_l1Rd_below.f t640 bt647.2 5).bind fun bt652 => (if 0 ≤ bt652.1 then (if bt652.1 < (y649.length : Int) then (some (bt643.1, bt647.1, rdOf ByteArray.empty y649 bt652.1)) else (none)) else (none)))))) = some (r1, r2, r3) := H
 have A2 := Aside0.mk A20
 clear A20
 replace H := Option.bind_eq_some_iff.mp H
 obtain ⟨⟨t643, t646⟩, A30, H⟩ := H
 replace H : ((spec_l1Rd_off.f k t640 t646 0 (wrap64 ((t643.length : Int) - 1))).bind fun bt647 => ((some (([(⟨#[]⟩ : ByteArray), (⟨#[112]⟩ : ByteArray), (⟨#[113]⟩ : ByteArray), (⟨#[120, 109, 108]⟩ : ByteArray), (⟨#[122, 122]⟩ : ByteArray)] : List ByteArray) : List ByteArray)).bind fun y649 => ((spec_l1Rd_below.f t640 bt647.2 5).bind fun bt652 => (if 0 ≤ bt652.1 then (if bt652.1 < (y649.length : Int) then (some (t643, bt647.1, rdOf ByteArray.empty y649 bt652.1)) else (none)) else (none))))) = some (r1, r2, r3) := H
 have A3 := Aside0.mk A30
 clear A30
 replace H := Option.bind_eq_some_iff.mp H
 obtain ⟨⟨t647, t648⟩, A40, H⟩ := H
 replace H : ((some (([(⟨#[]⟩ : ByteArray), (⟨#[112]⟩ : ByteArray), (⟨#[113]⟩ : ByteArray), (⟨#[120, 109, 108]⟩ : ByteArray), (⟨#[122, 122]⟩ : ByteArray)] : List ByteArray) : List ByteArray)).bind fun y649 => ((spec_l1Rd_below.f t640 t648 5).bind fun bt652 => (if 0 ≤ bt652.1 then (if bt652.1 < (y649.length : Int) then (some (t643, t647, rdOf ByteArray.empty y649 bt652.1)) else (none)) else (none)))) = some (r1, r2, r3) := H
 have A4 := Aside0.mk A40
 clear A40
 obtain ⟨y649, hy649⟩ : ∃ y_ : List ByteArray, y_ = (([(⟨#[]⟩ : ByteArray), (⟨#[112]⟩ : ByteArray), (⟨#[113]⟩ : ByteArray), (⟨#[120, 109, 108]⟩ : ByteArray), (⟨#[122, 122]⟩ : ByteArray)] : List ByteArray)) := ⟨_, rfl⟩
 replace H : ((spec_l1Rd_below.f t640 t648 5).bind fun bt652 => (if 0 ≤ bt652.1 then (if bt652.1 < (y649.length : Int) then (some (t643, t647, rdOf ByteArray.empty y649 bt652.1)) else (none)) else (none))) = some (r1, r2, r3) := by first | (rw [hy649]; with_reducible exact H) | (have H2_ := (Option.bind_some _ _).symm.trans H; rw [hy649]; with_reducible exact H2_) | (have H2_ := (Option.bind_some _ _).symm.trans H; with_reducible exact H2_) | with_reducible exact H | (rw [hy649]; exact H) | exact H
 have Ny649 := Aside0.mk hy649
 clear hy649
 replace H := Option.bind_eq_some_iff.mp H
 obtain ⟨⟨t652, t653⟩, A50, H⟩ := H
 replace H : (if 0 ≤ t652 then (if t652 < (y649.length : Int) then (some (t643, t647, rdOf ByteArray.empty y649 t652)) else (none)) else (none)) = some (r1, r2, r3) := H
 have A5 := Aside0.mk A50
 clear A50
 by_cases c6 : 0 ≤ t652
 rotate_left
 ·rw [if_neg c6] at H
  exact absurd H dq22
 rw [if_pos c6] at H
 have c6b0 := decide_eq_true c6
 clear c6
 by_cases c7 : t652 < (y649.length : Int)
 rotate_left
 ·rw [if_neg c7] at H
  exact absurd H dq22
 rw [if_pos c7] at H
 have c7b0 := decide_eq_true c7
 clear c7
 simp only [Option.some.injEq, Prod.mk.injEq] at H
 obtain ⟨rfl, rfl, rfl⟩ := H
 go_enter Tryd.func26, Tryd.ntmps26
 try go_wp2_with (first | ((with_reducible refine gate_callee (f := 50) rfl ?_); refine goesL_ (some 8) rfl rfl Tryd.func50 dq24 rfl #[.slice A0 l0.length c0] rfl dq23 ?_; (with_reducible refine (spec_l1Open.calls _ _ l0 t640 t641 w _ ?side1 ?side2 ?side3 A2.out).mono ?_); (case side1 => repeat (first | (with_reducible first | exact HB.out | apply below_alloc | apply pw_below_drewN | apply below_drew1) | exact HB.out)); (case side2 => exact HR0.out); (case side3 => exact HC0.out); rintro e w8 ⟨g642, rfl, hi, hb, hb2⟩; refine ⟨_, rfl, ?_⟩; have n0_ := Aside0.mk (hb); have n1_ := Aside0.mk (hi); clear HB; have HB := n0_; have HI642 := n1_; clear n0_ n1_; (try clear hb); (try clear hb2); (try clear hk); (try clear hi)) | ((with_reducible refine gate_callee (f := 62) rfl ?_); refine goesL_ (some 10) rfl rfl Tryd.func62 dq24 rfl #[.pointer (some ⟨g642, 0, none⟩)] rfl dq23 ?_; (with_reducible refine (spec_l1Rd_spaces.calls k g642 t640 t641 t643 t646 w _ ?side1 ?side2 A3.out).mono ?_); (case side1 => exact dq10); (case side2 => exact dq11); rintro e w9 ⟨v644, rfl, ho0, hi, hb, hk⟩; refine ⟨_, rfl, ?_⟩; have n0_ := Aside0.mk (Kd.S_lower ho0 (below_size dq93)); have n1_ := Aside0.mk (hb); have n2_ := Aside0.mk (hi); clear HB; clear HI642; have HO645 := n0_; have HB := n1_; have HI642 := n2_; clear n0_ n1_ n2_; (try clear hb); (try clear hb2); (try clear hk); (try clear hi); (try clear ho0)))
 have pi654 : (0 ≤ (t652 : Int)) = True := eq_true (of_decide_eq_true dq20)
 have qi654 : (t652 < (y649.length : Int)) = True := eq_true (of_decide_eq_true dq20)
 have n0_ := Aside0.mk (Kd.S_drew HO645.out)
 have n1_ := Aside0.mk (IsS99.drew HI642.out)
 have n2_ := Aside0.mk (below_drew1 HB.out)
 clear HO645
 clear HI642
 clear HB
 have HO645 := n0_
 have HI642 := n1_
 have HB := n2_
 clear n0_ n1_ n2_
 obtain ⟨Ao11, co11, eo11⟩ := Kd.S_slice HO645.out
 (first | subst eo11 | (injection eo11 with f1_ f2_ f3_; have f4_ := f1_.symm; have f5_ := f3_.symm; clear f1_ f2_ f3_; subst f4_; subst f5_))
 refine start_ (n := 14) (S := fun w' => True) (ds := []) #[false, false, false, false, false, false, false, false, false, false, false, false, false, false] dq24 rfl rfl trivial (fun hHeld => ?_); refine with_tabW spec_DrawBoundAt.tab3 spec_DrawBoundAt.bits3 (fun HT_ HW_ => ?_)
 generalize w9.drew = w10 at HO645 HI642 HB hHeld ⊢
 refine pureA (i := 0) (N := some 11) #[true, false, false, false, false, false, false, false, false, false, false, false, false, false] ?_
 refine pureA (i := 1) (N := some 12) #[true, true, false, false, false, false, false, false, false, false, false, false, false, false] ?_
 refine pureA (i := 2) (N := some 13) #[true, true, true, false, false, false, false, false, false, false, false, false, false, false] ?_
 refine pureA (i := 7) (N := some 18) #[true, true, true, false, false, false, false, true, false, false, false, false, false, false] ?_
 refine inv_at [3, 4, 5, 6, 8, 9, 10, 11, 12, 13] (fun a0_ b a w' => ∃ (v650 : Value) (adz_v650 : Addr) (m9_ : Value), a = putSel a0_ b [(3, 14, .int .i64 (t643.length : Int)), (4, 15, .int .i64 (wrap64 ((t643.length : Int) - 1))), (5, 16, .int .i64 t647), (6, 17, v650), (8, 19, .int .i64 t652), (9, 20, m9_), (10, 21, .string (rdOf ByteArray.empty y649 t652)), (11, 2, .slice Ao11 t643.length co11), (12, 3, .int .i64 t647), (13, 4, .string (rdOf ByteArray.empty y649 t652))] ∧ (Kd.S k39 39 w' w.heap.size (fun _ => True) (.slice Ao11 t643.length co11) t643) ∧ (b 5 = false → IsS99 w w' g642 t640 t646) ∧ (Below w.heap.size w w') ∧ (b 5 = true → b 8 = false → IsS99 w w' g642 t640 t648) ∧ (b 6 = true → Kd.R Kd.string 9 w' w.heap.size (fun _ => True) v650 y649) ∧ (b 6 = true → ∃ c_, (v650 : Value) = .slice (some adz_v650) y649.length c_) ∧ (b 8 = true → IsS99 w w' g642 t640 t653) ∧ (b 9 = true → (m9_ : Value) = .pointer (some (adz_v650.add (t652).toNat)))) HT_.out HW_.out dq24 dq24 ?_ ?_ ?_
 ·exact ⟨.bool false, ⟨0, 0, none⟩, .bool false, by simp only [putSel, Bool.false_eq_true, if_false], HO645.out, fun _ => HI642.out, HB.out, fun h_ => absurd h_ dq31, fun h_ => absurd h_ dq31, fun h_ => absurd h_ dq31, fun h_ => absurd h_ dq31, fun h_ => absurd h_ dq31⟩
 ·skip
  clear HB HI642 HO645
  refine steps_cons ?_ ?_
  ·rintro b a w' ⟨v650, adz_v650, m9_, ha, Q_HO645, Q_HI642, Q_HB, Q_HI642_e5, Q_HO651, Q_HA_HO651, Q_HI642_e8, Q_X9_⟩ hb_ hon hoff
   refine ⟨_, rfl, fun K hK => ?_⟩
   have e13 : a.tmps[13]? = some (.slice Ao11 t643.length co11) := by rw [ha]; exact (putSel_off rfl).trans rfl
   replace ha := Aside0.mk ha
   have HO645 := Aside0.mk Q_HO645
   have HI642 := Aside0.mk (Q_HI642 (hoff 5 dq24))
   have HB := Aside0.mk Q_HB
   refine value_ (w1 := w') (v := .int .i64 (t643.length : Int)) (by rfl) rfl ?_ ?_
   ·go_simp
    (try simp only [i64_w])
    try rfl
   refine hK.out _ _ ⟨v650, adz_v650, m9_, (by rw [ha.out]; exact putSel_upk 0 hb_ rfl rfl rfl), Q_HO645, Q_HI642, Q_HB, fun h0_ _ => absurd ((hoff 5 dq24).symm.trans h0_) dq31, Q_HO651, Q_HA_HO651, fun h0_ => absurd ((hoff 8 dq24).symm.trans h0_) dq31, fun h0_ => absurd ((hoff 9 dq24).symm.trans h0_) dq31⟩
  refine steps_cons ?_ ?_
  ·rintro b a w' ⟨v650, adz_v650, m9_, ha, Q_HO645, Q_HI642, Q_HB, Q_HI642_e5, Q_HO651, Q_HA_HO651, Q_HI642_e8, Q_X9_⟩ hb_ hon hoff
   refine ⟨_, rfl, fun K hK => ?_⟩
   have e14 : a.tmps[14]? = some (.int .i64 (t643.length : Int)) := by rw [ha]; exact putSel_on (e := (3, 14, .int .i64 (t643.length : Int))) 0 rfl rfl (hon 3 dq24) rfl
   replace ha := Aside0.mk ha
   have HO645 := Aside0.mk Q_HO645
   have HI642 := Aside0.mk (Q_HI642 (hoff 5 dq24))
   have HB := Aside0.mk Q_HB
   refine value_ (w1 := w') (v := .int .i64 (wrap64 ((t643.length : Int) - 1))) (by rfl) rfl ?_ ?_
   ·go_simp
    (try simp only [i64_w])
    try rfl
   refine hK.out _ _ ⟨v650, adz_v650, m9_, (by rw [ha.out]; exact putSel_upk 1 hb_ rfl rfl rfl), Q_HO645, Q_HI642, Q_HB, fun h0_ _ => absurd ((hoff 5 dq24).symm.trans h0_) dq31, Q_HO651, Q_HA_HO651, fun h0_ => absurd ((hoff 8 dq24).symm.trans h0_) dq31, fun h0_ => absurd ((hoff 9 dq24).symm.trans h0_) dq31⟩
  refine steps_cons ?_ ?_
  ·rintro b a w' ⟨v650, adz_v650, m9_, ha, Q_HO645, Q_HI642, Q_HB, Q_HI642_e5, Q_HO651, Q_HA_HO651, Q_HI642_e8, Q_X9_⟩ hb_ hon hoff
   refine ⟨_, rfl, fun K hK => ?_⟩
   have e12 : a.tmps[12]? = some (.pointer (some ⟨g642, 0, none⟩)) := by rw [ha]; exact (putSel_off rfl).trans rfl
   have e15 : a.tmps[15]? = some (.int .i64 (wrap64 ((t643.length : Int) - 1))) := by rw [ha]; exact putSel_on (e := (4, 15, .int .i64 (wrap64 ((t643.length : Int) - 1)))) 1 rfl rfl (hon 4 dq24) rfl
   replace ha := Aside0.mk ha
   have HO645 := Aside0.mk Q_HO645
   have HI642 := Aside0.mk (Q_HI642 hb_)
   have HB := Aside0.mk Q_HB
   refine goes_ Tryd.func54 dq24 rfl #[.pointer (some ⟨g642, 0, none⟩), .int .i64 0, .int .i64 (wrap64 ((t643.length : Int) - 1))] (by rfl) rfl rfl (by first | (simp only [List.map_toArray, List.map_cons, List.map_nil, Act.eval, Array.getD_eq_getD_getElem?, Option.getD_some, e12, e15]; done) | (simp only [List.map_toArray, List.map_cons, List.map_nil, Act.eval, Array.getD_eq_getD_getElem?, Option.getD_some, e12, e15]; rfl)) ?_
   with_reducible refine (spec_l1Rd_off.calls k g642 t640 t646 0 (wrap64 ((t643.length : Int) - 1)) t647 t648 w _ ?side1 ?side2 A4.out).mono ?_
   (case side1 => exact dq10)
   (case side2 => exact dq11)
   rintro e w12 ⟨rfl, hi, hb, hk⟩
   refine ⟨_, rfl, ?_⟩
   have n0_ := Aside0.mk (Kd.S_mono (Kd.S_keep (IsS99.apartS (show IsS99 w _ g642 t640 t646 from by repeat (first | (with_reducible first | exact HI642.out | apply IsS99.alloc | apply IsS99.drewN | apply IsS99.drew | apply IsS99.set_1) | exact HI642.out)) dq94 dq31) hk (fun _ h => h.2)) (fun _ h => h.1))
   have n1_ := Aside0.mk (hb)
   have n2_ := Aside0.mk (hi)
   have z_HO651 := fun (h0_ : b 6 = true) => (show Kd.R Kd.string 9 w12 w.heap.size (fun _ => True) v650 y649 from by first | exact (Kd.R_mono (Kd.R_keep (IsS99.apart (show IsS99 w _ g642 t640 t646 from by repeat (first | (with_reducible first | exact HI642.out | apply IsS99.alloc | apply IsS99.drewN | apply IsS99.drew | apply IsS99.set_1) | exact HI642.out)) dq95 dq31) hk (fun _ h => h.2)) (fun _ h => h.1)) | exact Kd.R_mono (Kd.R_mono (Kd.R_keep (IsS99.apart (show IsS99 w _ g642 t640 t646 from by repeat (first | (with_reducible first | exact HI642.out | apply IsS99.alloc | apply IsS99.drewN | apply IsS99.drew | apply IsS99.set_1) | exact HI642.out)) dq95 dq31) hk (fun _ h => h.2)) (fun _ h => h.1)) (fun _ h_ => by first | trivial | exact h_ | exact h_.1))
   clear HO645
   clear HB
   clear HI642
   have HO645 := n0_
   have HB := n1_
   have HI642 := n2_
   clear n0_ n1_ n2_
   (try clear hb)
   (try clear hb2)
   (try clear hk)
   (try clear hi)
   refine hK.out _ _ ⟨v650, adz_v650, m9_, (by rw [ha.out]; exact putSel_upk 2 hb_ rfl rfl rfl), dq94, fun h0_ => absurd ((up_self b 5).symm.trans h0_) dq31, dq93, fun _ _ => dq96, z_HO651, Q_HA_HO651, fun h0_ => absurd ((hoff 8 dq24).symm.trans h0_) dq31, fun h0_ => absurd ((hoff 9 dq24).symm.trans h0_) dq31⟩
  refine steps_cons ?_ ?_
  ·rintro b a w' ⟨v650, adz_v650, m9_, ha, Q_HO645, Q_HI642, Q_HB, Q_HI642_e5, Q_HO651, Q_HA_HO651, Q_HI642_e8, Q_X9_⟩ hb_ hon hoff
   refine ⟨_, rfl, fun K hK => ?_⟩
   replace ha := Aside0.mk ha
   have HO645 := Aside0.mk Q_HO645
   have HB := Aside0.mk Q_HB
   refine Kd.R_lit_step Kd.string _ 9 ?hg (N := 17) ?hd (xs := ([(⟨#[]⟩ : ByteArray), (⟨#[112]⟩ : ByteArray), (⟨#[113]⟩ : ByteArray), (⟨#[120, 109, 108]⟩ : ByteArray), (⟨#[122, 122]⟩ : ByteArray)] : List ByteArray)) (inner := [.string (⟨#[]⟩ : ByteArray), .string (⟨#[112]⟩ : ByteArray), .string (⟨#[113]⟩ : ByteArray), .string (⟨#[120, 109, 108]⟩ : ByteArray), .string (⟨#[122, 122]⟩ : ByteArray)]) (ok := fun _ => True) (okp := fun _ => True) ?hr ?hp (fun _ hk => hk) trivial (Below.refl _ _) (Nat.le_refl _) dq22 ?_; (case hd => rfl); (case hg => rfl); (case hr => exact dq0); (case hp => exact (Reps.one (show Kd.M Kd.string _ _ _ (⟨#[]⟩ : ByteArray) [.string (⟨#[]⟩ : ByteArray)] from rfl) (Reps.one (show Kd.M Kd.string _ _ _ (⟨#[112]⟩ : ByteArray) [.string (⟨#[112]⟩ : ByteArray)] from rfl) (Reps.one (show Kd.M Kd.string _ _ _ (⟨#[113]⟩ : ByteArray) [.string (⟨#[113]⟩ : ByteArray)] from rfl) (Reps.one (show Kd.M Kd.string _ _ _ (⟨#[120, 109, 108]⟩ : ByteArray) [.string (⟨#[120, 109, 108]⟩ : ByteArray)] from rfl) (Reps.one (show Kd.M Kd.string _ _ _ (⟨#[122, 122]⟩ : ByteArray) [.string (⟨#[122, 122]⟩ : ByteArray)] from rfl) (Reps.none _ _)))))))
   intro v650 w12 ho13 hb hg_ hnew_
   clear hg_ hnew_
   (first | rw [← Ny649.out] at ho13 | (simp only [Int.reduceToNat] at ho13; rw [← Ny649.out] at ho13))
   have n0_ := Aside0.mk (Kd.S_below dq94 hb)
   have n1_ := Aside0.mk (Kd.R_lower ho13 (below_size dq27))
   have n3_ := Aside0.mk (below_step dq27 hb)
   have z_HI642 := fun (h0_ : b 5 = false) => (show IsS99 w w12 g642 t640 t646 from by first | exact (IsS99.below (by repeat (first | (with_reducible first | exact (Q_HI642 h0_) | apply IsS99.alloc | apply IsS99.drewN | apply IsS99.drew | apply IsS99.set_1) | exact (Q_HI642 h0_))) hb))
   have z_HI642_e5 := fun (h0_ : b 5 = true) (h1_ : b 8 = false) => (show IsS99 w w12 g642 t640 t648 from by first | exact (IsS99.below (by repeat (first | (with_reducible first | exact (Q_HI642_e5 h0_ h1_) | apply IsS99.alloc | apply IsS99.drewN | apply IsS99.drew | apply IsS99.set_1) | exact (Q_HI642_e5 h0_ h1_))) hb))
   have z_HI642_e8 := fun (h0_ : b 8 = true) => (show IsS99 w w12 g642 t640 t653 from by first | exact (IsS99.below (by repeat (first | (with_reducible first | exact (Q_HI642_e8 h0_) | apply IsS99.alloc | apply IsS99.drewN | apply IsS99.drew | apply IsS99.set_1) | exact (Q_HI642_e8 h0_))) hb))
   clear HO645
   clear HB
   have HO645 := n0_
   have HO651 := n1_
   have HB := n3_
   clear n0_ n1_ n3_
   clear hb ho13
   obtain ⟨Ao14, co14, eo14⟩ := Kd.R_slice HO651.out
   subst eo14
   obtain ⟨ado14, fo14, _⟩ := Kd.at_string (Kd.R_reads' HO651.out).2.2 0 dq31 (by rw [Ny649.out]; simp)
   cases fo14
   refine hK.out _ _ ⟨.slice (some ado14) y649.length co14, ado14, m9_, (by rw [ha.out]; exact putSel_upk 3 hb_ rfl rfl rfl), dq94, z_HI642, dq27, z_HI642_e5, fun _ => (by (with_reducible repeat (first | apply Kd.R_alloc | apply Kd.R_drewN | apply Kd.R_drew)); exact HO651.out), fun _ => ⟨_, rfl⟩, z_HI642_e8, fun h0_ => absurd ((hoff 9 dq24).symm.trans h0_) dq31⟩
  refine steps_cons ?_ ?_
  ·rintro b a w' ⟨v650, adz_v650, m9_, ha, Q_HO645, Q_HI642, Q_HB, Q_HI642_e5, Q_HO651, Q_HA_HO651, Q_HI642_e8, Q_X9_⟩ hb_ hon hoff
   refine ⟨_, rfl, fun K hK => ?_⟩
   have e18 : a.tmps[18]? = some (.pointer (some ⟨g642, 0, none⟩)) := by rw [ha]; exact (putSel_off rfl).trans rfl
   replace ha := Aside0.mk ha
   have HO645 := Aside0.mk Q_HO645
   have HB := Aside0.mk Q_HB
   have HI642 := Aside0.mk (Q_HI642_e5 (hon 5 dq24) hb_)
   refine goes_ Tryd.func63 dq24 rfl #[.pointer (some ⟨g642, 0, none⟩), .int .i64 5] (by rfl) rfl rfl (by first | (simp only [List.map_toArray, List.map_cons, List.map_nil, Act.eval, Array.getD_eq_getD_getElem?, Option.getD_some, e18]; done) | (simp only [List.map_toArray, List.map_cons, List.map_nil, Act.eval, Array.getD_eq_getD_getElem?, Option.getD_some, e18]; rfl)) ?_
   with_reducible refine (spec_l1Rd_below.calls g642 t640 t648 5 t652 t653 w _ ?side1 ?side2 A5.out).mono ?_
   (case side1 => exact dq10)
   (case side2 => exact dq11)
   rintro e w14 ⟨rfl, hi, hb, hk⟩
   refine ⟨_, rfl, ?_⟩
   have n0_ := Aside0.mk (Kd.S_mono (Kd.S_keep (IsS99.apartS (show IsS99 w _ g642 t640 t648 from by repeat (first | (with_reducible first | exact HI642.out | apply IsS99.alloc | apply IsS99.drewN | apply IsS99.drew | apply IsS99.set_1) | exact HI642.out)) dq94 dq31) hk (fun _ h => h.2)) (fun _ h => h.1))
   have n1_ := Aside0.mk (hb)
   have n2_ := Aside0.mk (hi)
   have z_HO651 := fun (h0_ : b 6 = true) => (show Kd.R Kd.string 9 w14 w.heap.size (fun _ => True) v650 y649 from by first | exact (Kd.R_mono (Kd.R_keep (IsS99.apart (show IsS99 w _ g642 t640 t648 from by repeat (first | (with_reducible first | exact HI642.out | apply IsS99.alloc | apply IsS99.drewN | apply IsS99.drew | apply IsS99.set_1) | exact HI642.out)) dq95 dq31) hk (fun _ h => h.2)) (fun _ h => h.1)) | exact Kd.R_mono (Kd.R_mono (Kd.R_keep (IsS99.apart (show IsS99 w _ g642 t640 t648 from by repeat (first | (with_reducible first | exact HI642.out | apply IsS99.alloc | apply IsS99.drewN | apply IsS99.drew | apply IsS99.set_1) | exact HI642.out)) dq95 dq31) hk (fun _ h => h.2)) (fun _ h => h.1)) (fun _ h_ => by first | trivial | exact h_ | exact h_.1))
   clear HO645
   clear HB
   clear HI642
   have HO645 := n0_
   have HB := n1_
   have HI642 := n2_
   clear n0_ n1_ n2_
   (try clear hb)
   (try clear hb2)
   (try clear hk)
   (try clear hi)
   refine hK.out _ _ ⟨v650, adz_v650, m9_, (by rw [ha.out]; exact putSel_upk 4 hb_ rfl rfl rfl), dq94, fun h0_ => absurd ((hon 5 dq24).symm.trans h0_) dq31, dq93, fun _ h1_ => absurd ((up_self b 8).symm.trans h1_) dq31, z_HO651, Q_HA_HO651, fun _ => dq96, fun h0_ => absurd ((hoff 9 dq24).symm.trans h0_) dq31⟩
  refine steps_cons ?_ ?_
  ·rintro b a w' ⟨v650, adz_v650, m9_, ha, Q_HO645, Q_HI642, Q_HB, Q_HI642_e5, Q_HO651, Q_HA_HO651, Q_HI642_e8, Q_X9_⟩ hb_ hon hoff
   refine ⟨_, rfl, fun K hK => ?_⟩
   have e17 : a.tmps[17]? = some (v650) := by rw [ha]; exact putSel_on (e := (6, 17, v650)) 3 rfl rfl (hon 6 dq24) rfl
   have e19 : a.tmps[19]? = some (.int .i64 t652) := by rw [ha]; exact putSel_on (e := (8, 19, .int .i64 t652)) 4 rfl rfl (hon 8 dq24) rfl
   replace ha := Aside0.mk ha
   have HO645 := Aside0.mk Q_HO645
   have HB := Aside0.mk Q_HB
   have HO651 := Aside0.mk (Q_HO651 (hon 6 dq24))
   have HA_HO651 := Aside0.mk (Q_HA_HO651 (hon 6 dq24))
   have HI642 := Aside0.mk (Q_HI642_e8 (hon 8 dq24))
   obtain ⟨c_, hv_⟩ := HA_HO651.out
   rw [hv_] at e17
   refine value_ (w1 := w') (v := .pointer (some (adz_v650.add (t652).toNat))) (by rfl) rfl ?_ ?_
   ·go_simp
    (try simp only [i64_w])
    try rfl
   refine hK.out _ _ ⟨v650, adz_v650, (.pointer (some (adz_v650.add (t652).toNat))), (by rw [ha.out]; exact putSel_upk 5 hb_ rfl rfl rfl), Q_HO645, fun h0_ => absurd ((hon 5 dq24).symm.trans h0_) dq31, Q_HB, fun _ h1_ => absurd ((hon 8 dq24).symm.trans h1_) dq31, Q_HO651, Q_HA_HO651, Q_HI642_e8, fun _ => rfl⟩
  refine steps_cons ?_ ?_
  ·rintro b a w' ⟨v650, adz_v650, m9_, ha, Q_HO645, Q_HI642, Q_HB, Q_HI642_e5, Q_HO651, Q_HA_HO651, Q_HI642_e8, Q_X9_⟩ hb_ hon hoff
   refine ⟨_, rfl, fun K hK => ?_⟩
   have e20 : a.tmps[20]? = some (m9_) := by rw [ha]; exact putSel_on (e := (9, 20, m9_)) 5 rfl rfl (hon 9 dq24) rfl
   rw [Q_X9_ (hon 9 dq24)] at e20
   replace ha := Aside0.mk ha
   have HO645 := Aside0.mk Q_HO645
   have HB := Aside0.mk Q_HB
   have HO651 := Aside0.mk (Q_HO651 (hon 6 dq24))
   have HA_HO651 := Aside0.mk (Q_HA_HO651 (hon 6 dq24))
   have HI642 := Aside0.mk (Q_HI642_e8 (hon 8 dq24))
   obtain ⟨c_, hv_⟩ := HA_HO651.out
   have hF_ := HO651.out
   rw [hv_] at hF_
   obtain ⟨ad_, ea_, hx_⟩ := Kd.at_string (Kd.R_reads' hF_).2.2 t652 (of_eq_true pi654) (of_eq_true qi654)
   cases ea_
   refine value_ (w1 := w') (v := .string (rdOf ByteArray.empty y649 t652)) (by rfl) rfl ?_ ?_
   ·go_simp
    (try simp only [i64_w])
    try rfl
   refine hK.out _ _ ⟨v650, adz_v650, m9_, (by rw [ha.out]; exact putSel_upk 6 hb_ rfl rfl rfl), Q_HO645, fun h0_ => absurd ((hon 5 dq24).symm.trans h0_) dq31, Q_HB, fun _ h1_ => absurd ((hon 8 dq24).symm.trans h1_) dq31, Q_HO651, Q_HA_HO651, Q_HI642_e8, Q_X9_⟩
  refine steps_cons ?_ ?_
  ·rintro b a w' ⟨v650, adz_v650, m9_, ha, Q_HO645, Q_HI642, Q_HB, Q_HI642_e5, Q_HO651, Q_HA_HO651, Q_HI642_e8, Q_X9_⟩ hb_ hon hoff
   refine ⟨_, rfl, fun K hK => ?_⟩
   have e11 : a.tmps[11]? = some (.slice Ao11 t643.length co11) := by rw [ha]; exact (putSel_off rfl).trans rfl
   replace ha := Aside0.mk ha
   have HO645 := Aside0.mk Q_HO645
   have HB := Aside0.mk Q_HB
   have HI642 := Aside0.mk (Q_HI642_e8 (hon 8 dq24))
   refine value_ (w1 := w') (v := .slice Ao11 t643.length co11) (by rfl) rfl ?_ ?_
   ·go_simp
    (try simp only [i64_w])
    try rfl
   refine hK.out _ _ ⟨v650, adz_v650, m9_, (by rw [ha.out]; exact putSel_upk 7 hb_ rfl rfl rfl), Q_HO645, fun h0_ => absurd ((hon 5 dq24).symm.trans h0_) dq31, Q_HB, fun _ h1_ => absurd ((hon 8 dq24).symm.trans h1_) dq31, Q_HO651, Q_HA_HO651, Q_HI642_e8, Q_X9_⟩
  refine steps_cons ?_ ?_
  ·rintro b a w' ⟨v650, adz_v650, m9_, ha, Q_HO645, Q_HI642, Q_HB, Q_HI642_e5, Q_HO651, Q_HA_HO651, Q_HI642_e8, Q_X9_⟩ hb_ hon hoff
   refine ⟨_, rfl, fun K hK => ?_⟩
   have e16 : a.tmps[16]? = some (.int .i64 t647) := by rw [ha]; exact putSel_on (e := (5, 16, .int .i64 t647)) 2 rfl rfl (hon 5 dq24) rfl
   replace ha := Aside0.mk ha
   have HO645 := Aside0.mk Q_HO645
   have HB := Aside0.mk Q_HB
   have HI642 := Aside0.mk (Q_HI642_e8 (hon 8 dq24))
   refine value_ (w1 := w') (v := .int .i64 t647) (by rfl) rfl ?_ ?_
   ·go_simp
    (try simp only [i64_w])
    try rfl
   refine hK.out _ _ ⟨v650, adz_v650, m9_, (by rw [ha.out]; exact putSel_upk 8 hb_ rfl rfl rfl), Q_HO645, fun h0_ => absurd ((hon 5 dq24).symm.trans h0_) dq31, Q_HB, fun _ h1_ => absurd ((hon 8 dq24).symm.trans h1_) dq31, Q_HO651, Q_HA_HO651, Q_HI642_e8, Q_X9_⟩
  refine steps_cons ?_ ?_
  ·rintro b a w' ⟨v650, adz_v650, m9_, ha, Q_HO645, Q_HI642, Q_HB, Q_HI642_e5, Q_HO651, Q_HA_HO651, Q_HI642_e8, Q_X9_⟩ hb_ hon hoff
   refine ⟨_, rfl, fun K hK => ?_⟩
   have e21 : a.tmps[21]? = some (.string (rdOf ByteArray.empty y649 t652)) := by rw [ha]; exact putSel_on (e := (10, 21, .string (rdOf ByteArray.empty y649 t652))) 6 rfl rfl (hon 10 dq24) rfl
   replace ha := Aside0.mk ha
   have HO645 := Aside0.mk Q_HO645
   have HB := Aside0.mk Q_HB
   have HO651 := Aside0.mk (Q_HO651 (hon 6 dq24))
   have HA_HO651 := Aside0.mk (Q_HA_HO651 (hon 6 dq24))
   have HI642 := Aside0.mk (Q_HI642_e8 (hon 8 dq24))
   refine value_ (w1 := w') (v := .string (rdOf ByteArray.empty y649 t652)) (by rfl) rfl ?_ ?_
   ·go_simp
    (try simp only [i64_w])
    try rfl
   refine hK.out _ _ ⟨v650, adz_v650, m9_, (by rw [ha.out]; exact putSel_upk 9 hb_ rfl rfl rfl), Q_HO645, fun h0_ => absurd ((hon 5 dq24).symm.trans h0_) dq31, Q_HB, fun _ h1_ => absurd ((hon 8 dq24).symm.trans h1_) dq31, Q_HO651, Q_HA_HO651, Q_HI642_e8, Q_X9_⟩
  exact steps_nil
 rintro b a w17 hall ⟨v650, adz_v650, m9_, ha, Q_HO645, Q_HI642, Q_HB, Q_HI642_e5, Q_HO651, Q_HA_HO651, Q_HI642_e8, Q_X9_⟩
 clear HB HI642 HO645
 have hb3_ := hall 3 dq24
 have hb4_ := hall 4 dq24
 have hb5_ := hall 5 dq24
 have hb6_ := hall 6 dq24
 have hb8_ := hall 8 dq24
 have hb9_ := hall 9 dq24
 have hb10_ := hall 10 dq24
 have hb11_ := hall 11 dq24
 have hb12_ := hall 12 dq24
 have hb13_ := hall 13 dq24
 subst ha
 obtain rfl := Q_X9_ hb9_
 simp only [putSel, hb3_, hb4_, hb5_, hb6_, hb8_, hb9_, hb10_, hb11_, hb12_, hb13_, if_true, Act.put, List.setIfInBounds_toArray, List.set_cons_zero, List.set_cons_succ]
 have HO645 := Aside0.mk Q_HO645
 clear Q_HO645
 clear Q_HI642
 have HB := Aside0.mk Q_HB
 clear Q_HB
 clear Q_HI642_e5
 have HO651 := Aside0.mk (Q_HO651 hb6_)
 clear Q_HO651
 have HA_HO651 := Aside0.mk (Q_HA_HO651 hb6_)
 clear Q_HA_HO651
 have HI642 := Aside0.mk (Q_HI642_e8 hb8_)
 clear Q_HI642_e8
 clear hall hb3_ hb4_ hb5_ hb6_ hb8_ hb9_ hb10_ hb11_ hb12_ hb13_
 obtain ⟨co18, eo18⟩ := HA_HO651.out
 clear HA_HO651
 subst eo18
 try go_wp2
 go_ret3
 exact ⟨_, dq29, dq94, dq93⟩

/-! ### impl_in: function 56 -/
def impl_in.f (a0 : Int) (a1 : Int) (a2 : Int) : Option (Bool) := if a1 ≤ a0 then (some (decide (a0 ≤ a2))) else (some false)
set_option maxHeartbeats 8000000 in
set_option maxRecDepth 100000 in
theorem impl_in.calls (a0 : Int) (a1 : Int) (a2 : Int) (r : Bool) (w : World) (h : impl_in.f a0 a1 a2 = some r) :
  Calls Tryd.prog 56 #[.int .i64 a0, .int .i64 a1, .int .i64 a2] w fun e w' => e = .returned (.bool r) ∧ Drawn0 w w' := by
 have H : (if a1 ≤ a0 then (some (decide (a0 ≤ a2))) else (some false)) = some r := h
 clear h
 by_cases c4 : a1 ≤ a0
 ·rw [if_pos c4] at H
  have c4b0 := decide_eq_true c4
  clear c4
  obtain rfl := Option.some.inj H
  go_enter Tryd.func56, Tryd.ntmps56
  go_wp2
  go_ret
  exact ⟨dq19, dq18⟩
 rw [if_neg c4] at H
 have c4b0 := decide_eq_false c4
 clear c4
 obtain rfl := Option.some.inj H
 go_enter Tryd.func56, Tryd.ntmps56
 go_wp2
 go_ret
 exact ⟨dq19, dq18⟩

/-! ### impl_CharOk: function 113 -/
def impl_CharOk.f (a0 : Int) : Option (Bool) := if a0 = 9 then (some true) else (if a0 = 10 then (some true) else (if a0 = 13 then (some true) else ((impl_in.f a0 32 55295).bind fun t273 => (if t273 = true then (some true) else ((impl_in.f a0 57344 65533).bind fun t274 => (if t274 = true then (some true) else ((impl_in.f a0 65536 1114111).bind fun t275 => (some t275))))))))
set_option maxHeartbeats 8000000 in
set_option maxRecDepth 100000 in
theorem impl_CharOk.calls (a0 : Int) (r : Bool) (w : World) (h : impl_CharOk.f a0 = some r) :
  Calls Tryd.prog 113 #[.int .i64 a0] w fun e w' => e = .returned (.bool r) ∧ Drawn0 w w' := by
 have H : (if a0 = 9 then (some true) else (if a0 = 10 then (some true) else (if a0 = 13 then (some true) else ((impl_in.f a0 32 55295).bind fun t273 => (if t273 = true then (some true) else ((impl_in.f a0 57344 65533).bind fun t274 => (if t274 = true then (some true) else ((impl_in.f a0 65536 1114111).bind fun t275 => (some t275))))))))) = some r := h
 clear h
 by_cases c2 : a0 = 9
 ·rw [if_pos c2] at H
  have c2b0 := beq_iff_eq.mpr c2
  have c2b1 := bne_eq_false_iff_eq.mpr c2
  clear c2
  obtain rfl := Option.some.inj H
  go_enter Tryd.func113, Tryd.ntmps113
  go_wp2
  go_ret
  exact ⟨dq19, dq18⟩
 rw [if_neg c2] at H
 have c2b0 := beq_eq_false_iff_ne.mpr c2
 have c2b1 := bne_iff_ne.mpr c2
 by_cases c3 : a0 = 10
 ·rw [if_pos c3] at H
  have c3b0 := beq_iff_eq.mpr c3
  have c3b1 := bne_eq_false_iff_eq.mpr c3
  clear c3
  obtain rfl := Option.some.inj H
  go_enter Tryd.func113, Tryd.ntmps113
  go_wp2
  go_ret
  exact ⟨dq19, dq18⟩
 rw [if_neg c3] at H
 have c3b0 := beq_eq_false_iff_ne.mpr c3
 have c3b1 := bne_iff_ne.mpr c3
 by_cases c4 : a0 = 13
 ·rw [if_pos c4] at H
  have c4b0 := beq_iff_eq.mpr c4
  have c4b1 := bne_eq_false_iff_eq.mpr c4
  clear c4
  obtain rfl := Option.some.inj H
  go_enter Tryd.func113, Tryd.ntmps113
  go_wp2
  go_ret
  exact ⟨dq19, dq18⟩
 rw [if_neg c4] at H
 have c4b0 := beq_eq_false_iff_ne.mpr c4
 have c4b1 := bne_iff_ne.mpr c4
 replace H := Option.bind_eq_some_iff.mp H
 obtain ⟨t273, A50, H⟩ := H
 replace H : (if t273 = true then (some true) else ((impl_in.f a0 57344 65533).bind fun t274 => (if t274 = true then (some true) else ((impl_in.f a0 65536 1114111).bind fun t275 => (some t275))))) = some r := H
 have A5 := Aside0.mk A50
 clear A50
 by_cases c6 : t273 = true
 ·subst c6
  have H1 : (some true) = some r := by rw [if_pos rfl] at H; exact H
  clear H
  have H := H1
  clear H1
  obtain rfl := Option.some.inj H
  go_enter Tryd.func113, Tryd.ntmps113
  go_wp2_with (first | (go_at_call 56; (with_reducible refine (impl_in.calls a0 32 55295 true _ A5.out).mono ?_); rintro e w' ⟨rfl, ⟨nd, rfl⟩⟩))
  go_ret
  exact ⟨dq19, dq18⟩
 replace c6 := Bool.eq_false_iff.mpr c6
 subst c6
 have H1 : ((impl_in.f a0 57344 65533).bind fun t274 => (if t274 = true then (some true) else ((impl_in.f a0 65536 1114111).bind fun t275 => (some t275)))) = some r := by rw [if_neg (show ¬ (false = true) by decide)] at H; exact H
 clear H
 have H := H1
 clear H1
 replace H := Option.bind_eq_some_iff.mp H
 obtain ⟨t274, A70, H⟩ := H
 replace H : (if t274 = true then (some true) else ((impl_in.f a0 65536 1114111).bind fun t275 => (some t275))) = some r := H
 have A7 := Aside0.mk A70
 clear A70
 by_cases c8 : t274 = true
 ·subst c8
  have H1 : (some true) = some r := by rw [if_pos rfl] at H; exact H
  clear H
  have H := H1
  clear H1
  obtain rfl := Option.some.inj H
  go_enter Tryd.func113, Tryd.ntmps113
  go_wp2_with (first | (go_at_call 56; (with_reducible refine (impl_in.calls a0 32 55295 false _ A5.out).mono ?_); rintro e w' ⟨rfl, ⟨nd, rfl⟩⟩) | (go_at_call 56; (with_reducible refine (impl_in.calls a0 57344 65533 true _ A7.out).mono ?_); rintro e w' ⟨rfl, ⟨nd, rfl⟩⟩))
  go_ret
  exact ⟨dq19, dq18⟩
 replace c8 := Bool.eq_false_iff.mpr c8
 subst c8
 have H1 : ((impl_in.f a0 65536 1114111).bind fun t275 => (some t275)) = some r := by rw [if_neg (show ¬ (false = true) by decide)] at H; exact H
 clear H
 have H := H1
 clear H1
 replace H := Option.bind_eq_some_iff.mp H
 obtain ⟨t275, A90, H⟩ := H
 replace H : (some t275) = some r := H
 have A9 := Aside0.mk A90
 clear A90
 obtain rfl := Option.some.inj H
 go_enter Tryd.func113, Tryd.ntmps113
 go_wp2_with (first | (go_at_call 56; (with_reducible refine (impl_in.calls a0 32 55295 false _ A5.out).mono ?_); rintro e w' ⟨rfl, ⟨nd, rfl⟩⟩) | (go_at_call 56; (with_reducible refine (impl_in.calls a0 57344 65533 false _ A7.out).mono ?_); rintro e w' ⟨rfl, ⟨nd, rfl⟩⟩) | (go_at_call 56; (with_reducible refine (impl_in.calls a0 65536 1114111 t275 _ A9.out).mono ?_); rintro e w' ⟨rfl, ⟨nd, rfl⟩⟩))
 go_ret
 exact ⟨dq19, dq18⟩

end Go.Proofs.YtpmjpbaeecnpiaaDoor.L

namespace Go.Proofs.YtpmjpbaeecnpiaaDoor.L
open Go.RowKit Go.Proofs.YtpmjpbaeecnpiaaDoorW.PrintWords Go.Proofs.YtpmjpbaeecnpiaaDoorW.PrintLast Go.Proofs.YtpmjpbaeecnpiaaDoorW.PrintMore
set_option linter.unusedVariables false

structure Gl (w : World) : Prop where
  tabs : Lib.Utf8Tabs 1 2 w
  most : ∃ m : Int, w.cell? ⟨0, 0, none⟩ = some (.int .i64 m)
theorem cell_lt' {w : World} {p : Addr} {v : Value} (h : w.cell? p = some v) : p.block < w.heap.size := by
  rcases Nat.lt_or_ge p.block w.heap.size with h' | h'
  · exact h'
  · simp [World.cell?, Array.getElem?_eq_none h'] at h
theorem Gl_below {w w' : World} (h : Gl w) (hb : Below w.heap.size w w') : Gl w' := by
  obtain ⟨h1, m, h2⟩ := h
  exact ⟨Go.Proofs.Utf8Tabs_below h1 hb, m, (hb.cell (p := ⟨0, 0, none⟩) (cell_lt' h2)).trans h2⟩
end Go.Proofs.YtpmjpbaeecnpiaaDoor.L

namespace Go.Proofs
open Go.Shelf
def Tryd.lays196_ren : Go.Shelf.Ren := ⟨fun | 196 => 123 | 259 => 131 | n => n, fun | 9 => 9 | 4 => 4 | 3 => 3 | 5 => 5 | 12 => 12 | 119 => 136 | 0 => 0 | 46 => 120 | 139 => 139 | 138 => 138 | 53 => 118 | n => n, fun | 3 => 1 | 4 => 2 | n => n⟩
theorem Tryd.lays196 : Go.Proofs.Lays.n196 Tryd.prog Tryd.lays196_ren := {
  mixed := by kernel_rfl
  f196 := Tryd.func123.trans (congrArg some (by kernel_rfl))
  f259 := Tryd.func131.trans (congrArg some (by kernel_rfl))
  t0 := Tryd.underlying0
  a0 := Tryd.isAgg0
  z0 := Tryd.sizeOf0
  v0 := Tryd.zeroValue0
  t3 := Tryd.underlying3
  a3 := Tryd.isAgg3
  z3 := Tryd.sizeOf3
  v3 := Tryd.zeroValue3
  t4 := Tryd.underlying4
  a4 := Tryd.isAgg4
  z4 := Tryd.sizeOf4
  v4 := Tryd.zeroValue4
  t5 := Tryd.underlying5
  a5 := Tryd.isAgg5
  z5 := Tryd.sizeOf5
  v5 := Tryd.zeroValue5
  t9 := Tryd.underlying9
  a9 := Tryd.isAgg9
  z9 := Tryd.sizeOf9
  v9 := Tryd.zeroValue9
  t12 := Tryd.underlying12
  a12 := Tryd.isAgg12
  z12 := Tryd.sizeOf12
  v12 := Tryd.zeroValue12
  t46 := Tryd.underlying120
  a46 := Tryd.isAgg120
  z46 := Tryd.sizeOf120
  v46 := Tryd.zeroValue120
  t53 := Tryd.underlying118
  a53 := Tryd.isAgg118
  z53 := Tryd.sizeOf118
  v53 := Tryd.zeroValue118
  t119 := Tryd.underlying136
  a119 := Tryd.isAgg136
  z119 := Tryd.sizeOf136
  t138 := Tryd.underlying138
  a138 := Tryd.isAgg138
  z138 := Tryd.sizeOf138
  v138 := Tryd.zeroValue138
  t139 := Tryd.underlying139
  a139 := Tryd.isAgg139
  z139 := Tryd.sizeOf139
  v139 := Tryd.zeroValue139
  g3 := by kernel_rfl
  g4 := by kernel_rfl }
end Go.Proofs

namespace Go.Proofs.YtpmjpbaeecnpiaaDoor.L
open Go.RowKit Go.Proofs.YtpmjpbaeecnpiaaDoorW.PrintWords Go.Proofs.YtpmjpbaeecnpiaaDoorW.PrintLast Go.Proofs.YtpmjpbaeecnpiaaDoorW.PrintMore
set_option linter.unusedVariables false
set_option linter.unusedSimpArgs false

/-- The characters from place pos on, at most fuel of them. -/
def runesFrom (s : ByteArray) : Nat → Nat → List Int
  | 0, _ => []
  | fuel + 1, pos => if pos < s.size then ((Utf8.decode s pos).1 : Int) :: runesFrom s fuel (pos + (Utf8.decode s pos).2) else []
def runesOf (s : ByteArray) : List Int := runesFrom s s.size 0
theorem runesFrom_end (s : ByteArray) (fuel pos : Nat) (h : ¬ pos < s.size) : runesFrom s fuel pos = [] := by
  cases fuel with
  | zero => rfl
  | succ f => simp [runesFrom, h]
theorem rune_width (s : ByteArray) (pos : Nat) (h : pos < s.size) : 1 ≤ (Utf8.decode s pos).2 := by
  by_cases ha : (s[pos]'h).toNat < 128
  · rw [decode_ascii s pos h ha]
    exact Nat.le_refl _
  · exact (decode_high s pos h (by omega)).2
def impl_Runes.f (a0 : ByteArray) : Option (List Int × Bool) :=
  if a0.size ≤ 9223372036854775807 then (if 20000 < a0.size then some ([], false) else if Lib.validD a0.data.toList = true then some (runesOf a0, true) else some ([], false)) else none
set_option maxHeartbeats 4000000 in
set_option maxRecDepth 100000 in
theorem impl_Runes.calls (a0 : ByteArray) (r1 : List Int) (r2 : Bool) (w : World) (hT : Gl w) (h : impl_Runes.f a0 = some (r1, r2)) :
    Calls Tryd.prog 112 #[.string a0] w fun e w' => ∃ v0_ : Value, e = .returned (.tuple #[v0_, .bool r2]) ∧ Kd.R (Kd.int .i64) 2 w' w.heap.size (fun _ => True) v0_ r1 ∧ Below w.heap.size w w' := by
  unfold impl_Runes.f at h
  by_cases hs : a0.size ≤ 9223372036854775807
  · rw [if_pos hs] at h
    by_cases c1 : 20000 < a0.size
    · rw [if_pos c1] at h
      simp only [Option.some.injEq, Prod.mk.injEq] at h
      obtain ⟨rfl, rfl⟩ := h
      have d1 : decide ((20000 : Int) < (a0.size : Int)) = true := decide_eq_true (by omega)
      go_enter Tryd.func112, Tryd.ntmps112
      go_wp2
      go_ret2
      exact ⟨_, rfl, Kd.R_nil _ _ _ _ _, Below.refl _ _⟩
    · rw [if_neg c1] at h
      have d1 : decide ((20000 : Int) < (a0.size : Int)) = false := decide_eq_false (by omega)
      have HV := fun q => Any.utf8_ValidString Tryd.lays196 a0 (w.drewN q) hs (Go.Proofs.Utf8Tabs_below hT.tabs (pw_below_drewN (Below.refl _ _) q))
      have HV0 := Any.utf8_ValidString Tryd.lays196 a0 w hs hT.tabs
      clear hT
      cases c2 : Lib.validD a0.data.toList with
      | false =>
        rw [c2] at h HV HV0
        simp only [Bool.false_eq_true, if_false, Option.some.injEq, Prod.mk.injEq] at h
        obtain ⟨rfl, rfl⟩ := h
        clear c2
        go_enter Tryd.func112, Tryd.ntmps112
        go_wp2_with (go_at_call 123; (first | refine HV0.mono ?_ | refine (HV _).mono ?_); rintro e w' ⟨rfl, hb⟩)
        go_ret2
        exact ⟨_, rfl, Kd.R_nil _ _ _ _ _, hb⟩
      | true =>
        rw [c2] at h HV HV0
        simp only [if_true, Option.some.injEq, Prod.mk.injEq] at h
        obtain ⟨rfl, rfl⟩ := h
        clear c2
        have HB := Aside0.mk (Below.refl w.heap.size w)
        go_enter Tryd.func112, Tryd.ntmps112
        go_wp2_with (first | (go_at_call 123; (first | refine HV0.mono ?_ | refine (HV _).mono ?_); rintro e w' ⟨rfl, hb⟩; have n1_ := Aside0.mk hb; clear HB; have HB := n1_; clear n1_ hb) | ((with_reducible refine gate_dst (N := 15) rfl ?_); refine Kd.R_lit (Kd.int .i64) _ 2 ?hg (N := 15) ?hd (xs := ([] : List Int)) (inner := []) (ok := fun _ => True) (okp := fun _ => True) ?hr ?hp (fun _ hk => hk) trivial (Below.refl _ _) (Nat.le_refl _) (by simp) ?_; (case hd => rfl); (case hg => rfl); (case hr => first | (go_simp; done) | (go_simp; rfl)); (case hp => exact (Reps.none _ _)); intro v109 w3 ho4 hb hg_ hnew_; clear hg_ hnew_; have n0_ := Aside0.mk (Kd.R_lower ho4 (below_size (by repeat (first | (with_reducible first | exact HB.out | apply below_alloc | apply pw_below_drewN | apply below_drew1) | exact HB.out)))); have n1_ := Aside0.mk (below_step (by repeat (first | (with_reducible first | exact HB.out | apply below_alloc | apply pw_below_drewN | apply below_drew1) | exact HB.out)) hb); clear HB; have HO110 := n0_; have HB := n1_; clear n0_ n1_; clear hb ho4))
        clear HV HV0
        have HBs := Aside0.mk HB.out.size
        go_loopw [4] (fun s4 wr => ∃ (pos fuel : Nat) (acc : List Int), Aside0 (Kd.R (Kd.int .i64) 2 wr w.heap.size (fun k => k ≠ w3.heap.size) s4 acc) ∧ wr.heap[w3.heap.size]? = some (.stringIter a0 pos) ∧ Aside0 (Below w.heap.size w wr) ∧ Aside0 (acc ++ runesFrom a0 fuel pos = runesOf a0) ∧ Aside0 (a0.size ≤ pos + fuel) ∧ Aside0 (acc.length ≤ pos)) (fun _ wr => a0.size - wr.iterPos w3.heap.size)
        case atStart =>
          refine ⟨0, a0.size, [], ⟨?_⟩, World.iter_heap w3 a0 0, ⟨?_⟩, ⟨rfl⟩, ⟨by omega⟩, ⟨Nat.le_refl _⟩⟩
          · exact Kd.R_mono (Kd.R_below (Kd.R_bound HO110.out) (below_alloc (Below.refl _ _) _)) (fun k hk => by have := hk.2.2.1; omega)
          · exact HB.out.trans (Below.mono (below_alloc (Below.refl _ _) _) HBs.out)
        case round =>
          obtain ⟨pos, fuel, acc, HO, hit, HB, HA, HF, HL⟩ := hrel
          by_cases hp : pos < a0.size
          · have hnx : ∀ ty, (Instr.next (.pointer (some ⟨w3.heap.size, 0, none⟩)) true ty).run Tryd.prog wr = _ := fun ty => Lib.run_next_any_at wr w3.heap.size a0 pos ty hit hp
            have hwd := Aside0.mk (rune_width a0 pos hp)
            have hd1 := Aside0.mk (decode_le a0 pos)
            have HO2 := Aside0.mk (Kd.R_move HO.out (fun k hk => Lib.iterAt_other wr w3.heap.size k a0 (pos + (Utf8.decode a0 pos).2) hk))
            have hit2 := Aside0.mk (Lib.iterAt_heap wr w3.heap.size a0 pos (pos + (Utf8.decode a0 pos).2) hit)
            have HB2 := Aside0.mk (Lib.below_iterAt HB.out HBs.out a0 (pos + (Utf8.decode a0 pos).2))
            have hpp := Aside0.mk hp
            have hsz := Aside0.mk hs
            clear HO HB
            have hsmall := Aside0.mk (show a0.size ≤ 20000 by omega)
            have hwr : wrap64 ((Utf8.decode a0 pos).1 : Int) = ((Utf8.decode a0 pos).1 : Int) := by have := hd1.out; unfold wrap64; omega
            go_wp2_with (first | ((with_reducible refine gate_builtin (b := .append) (xs := #[.tmp 21, .tmp 24]) rfl ?_); at_builtin; refine Kd.R_append (Kd.int .i64) (w0 := w) w.heap.size rfl (.tmp 21) (.tmp 24) 24 2 (.int .i64 0) 8 rfl Tryd.underlying24 info2 rfl (by decide) (by omega) u4 acc ((Utf8.decode a0 pos).1 : Int) [.int .i64 ((Utf8.decode a0 pos).1 : Int)] (fun k => k ≠ w3.heap.size) (fun _ => False) rfl rfl ?aP (fun _ hk => hk.elim) ?aF ?aO ?aB ?aS ?aL ?_; (case aP => exact rfl); (case aB => exact HB2.out); (case aF => exact (fun k hk => by have h1 := (Array.getElem?_eq_some_iff.1 hit2.out).1; omega)); (case aO => exact HO2.out); (case aS => exact HB2.out.size); (case aL => have := HL.out; have := hpp.out; have := hsmall.out; omega); intro v114 w11 ho hb hg hat; have n0_ := Aside0.mk hb; have n1_ := Aside0.mk ho; have n2_ := Aside0.mk ((hg.block w3.heap.size (Array.getElem?_eq_some_iff.1 hit2.out).1 (fun e => HO2.out.1 w3.heap.size e.symm rfl)).trans hit2.out); have HB := n0_; have HO := n1_; have HI := n2_; clear n0_ n1_ n2_; clear ho hb hg hat))
            go_roundw
            case rel =>
              obtain ⟨f, hf⟩ : ∃ f, fuel = f + 1 := ⟨fuel - 1, by have := HF.out; have := hpp.out; omega⟩
              refine ⟨pos + (Utf8.decode a0 pos).2, f, acc ++ [((Utf8.decode a0 pos).1 : Int)], HO, HI.out, HB, ⟨?_⟩, ⟨?_⟩, ⟨?_⟩⟩
              · have e := HA.out
                rw [hf] at e
                rw [← e]
                simp [runesFrom, hpp.out]
              · have := HF.out; have := hwd.out; omega
              · have := HL.out; have := hwd.out; simp; omega
            case measure =>
              have := hwd.out; have := hpp.out
              simp only [World.iterPos, HI.out, hit]
              omega
          · have hnx : ∀ ty, (Instr.next (.pointer (some ⟨w3.heap.size, 0, none⟩)) true ty).run Tryd.prog wr = _ := fun ty => Lib.run_next_end_at wr w3.heap.size a0 pos ty hit hp
            go_wp2
            go_ret2
            have e := HA.out
            rw [runesFrom_end a0 fuel pos hp, List.append_nil] at e
            rw [e] at HO
            exact ⟨_, rfl, Kd.R_mono HO.out (fun _ _ => trivial), HB.out⟩
  · rw [if_neg hs] at h
    cases h
end Go.Proofs.YtpmjpbaeecnpiaaDoor.L

namespace Go.Proofs.YtpmjpbaeecnpiaaDoor.L
open Go.RowKit Go.Proofs.YtpmjpbaeecnpiaaDoorW.PrintWords Go.Proofs.YtpmjpbaeecnpiaaDoorW.PrintLast Go.Proofs.YtpmjpbaeecnpiaaDoorW.PrintMore
attribute [local go_sem] max2_int min2_int max_two min_two max_three min_three max_four min_four
set_option linter.unusedVariables false
set_option linter.unusedSimpArgs false

/-! ### impl_isPlain: function 96 -/
def impl_isPlain.l0 : Nat → Bool → List Int → Int → Int → Option (Bool)
 | 0, _, _, _, _ => none
 | k + 1, x4, x12, x13, x14 => if x14 < x13 then (if 0 ≤ x14 then (if x14 < (x12.length : Int) then (if x4 = true then ((impl_CharOk.f (rd x12 x14)).bind fun t281 => (impl_isPlain.l0 k t281 x12 x13 (wrap64 (x14 + 1)))) else (impl_isPlain.l0 k false x12 x13 (wrap64 (x14 + 1)))) else (none)) else (none)) else (some x4)
def impl_isPlain.f (k : Nat) (a0 : ByteArray) : Option (Bool) := (impl_Runes.f a0).bind fun bt276 => (impl_isPlain.l0 k bt276.2 bt276.1 (bt276.1.length : Int) 0)
set_option maxHeartbeats 8000000 in
set_option maxRecDepth 100000 in
theorem impl_isPlain.calls (k : Nat) (a0 : ByteArray) (r : Bool) (w : World) (hT : Gl w) (h : impl_isPlain.f k a0 = some r) :
  Calls Tryd.prog 96 #[.string a0] w fun e w' => e = .returned (.bool r) ∧ Below w.heap.size w w' := by
 have HT := Aside0.mk hT
 clear hT
 have HB := Aside0.mk (Below.refl w.heap.size w)
 have H : ((impl_Runes.f a0).bind fun bt276 => (impl_isPlain.l0 k bt276.2 bt276.1 (bt276.1.length : Int) 0)) = some r := h
 clear h
 replace H := Option.bind_eq_some_iff.mp H
 obtain ⟨⟨t276, t277⟩, A20, H⟩ := H
 replace H : (impl_isPlain.l0 k t277 t276 (t276.length : Int) 0) = some r := H
 have A2 := Aside0.mk A20
 clear A20
 have H' := Aside0.mk H
 clear H
 go_enter Tryd.func96, Tryd.ntmps96
 go_wp2_with (first | ((with_reducible refine gate_callee (f := 112) rfl ?_); refine goesL_ (some 9) rfl rfl Tryd.func112 dq24 rfl #[.string a0] rfl dq23 ?_; (with_reducible refine (impl_Runes.calls a0 t276 t277 _ ?side1 A2.out).mono ?_); (case side1 => exact dq12); rintro e w3 ⟨v278, rfl, ho0, hb⟩; refine ⟨_, rfl, ?_⟩; have n0_ := Aside0.mk (Kd.R_lower ho0 (below_size dq27)); have n1_ := Aside0.mk (below_step dq27 hb); clear HB; have HO279 := n0_; have HB := n1_; clear n0_ n1_; (try clear hb); (try clear hb2); (try clear hk); (try clear hi); (try clear ho0); obtain ⟨Ao4, co4, eo4⟩ := Kd.R_slice HO279.out; subst eo4))
 go_loopg [4, 14] k (fun kq v4 v14 w' => ∃ (x4_1 : Bool) (x14_1 : Int), v4 = .bool x4_1 ∧ v14 = .int .i64 x14_1 ∧ Aside0 (impl_isPlain.l0 kq x4_1 t276 (t276.length : Int) x14_1 = some r) ∧ Aside0 (kq ≤ k) ∧ Aside0 (Kd.R (Kd.int .i64) 2 w' w.heap.size (fun _ => True) (.slice Ao4 t276.length co4) t276) ∧ Aside0 (Below w.heap.size w w'))
 case atStart => exact ⟨(t277), (0), dq19, dq19, H', ⟨Nat.le_refl _⟩, ⟨by (with_reducible repeat (first | apply Kd.R_alloc | apply Kd.R_drewN | apply Kd.R_drew)); exact HO279.out⟩, ⟨dq27⟩⟩
 clear H'
 try clear c1
 try clear p2
 obtain ⟨x4_1, x14_1, rfl, rfl, HA, HK1, HO_12, HB⟩ := hrel
 cases gk with
 | zero => exact absurd HA.out (by simp [impl_isPlain.l0])
 | succ k1 =>
  have H := HA.out
  clear HA
  simp only [impl_isPlain.l0] at H
  by_cases c5 : x14_1 < (t276.length : Int)
  rotate_left
  ·rw [if_neg c5] at H
   have c5b0 := decide_eq_false c5
   clear c5
   obtain rfl := Option.some.inj H
   go_wp2
   go_ret
   exact ⟨dq29, dq27⟩
  rw [if_pos c5] at H
  have c5b0 := decide_eq_true c5
  clear c5
  by_cases c6 : 0 ≤ x14_1
  rotate_left
  ·rw [if_neg c6] at H
   exact absurd H dq22
  rw [if_pos c6] at H
  have c6b0 := decide_eq_true c6
  clear c6
  by_cases c7 : x14_1 < (t276.length : Int)
  rotate_left
  ·rw [if_neg c7] at H
   exact absurd H dq22
  rw [if_pos c7] at H
  have c7b0 := decide_eq_true c7
  clear c7
  by_cases c8 : x4_1 = true
  rotate_left
  ·replace c8 := Bool.eq_false_iff.mpr c8
   subst c8
   have H1 : (impl_isPlain.l0 k1 false t276 (t276.length : Int) (wrap64 (x14_1 + 1))) = some r := by rw [if_neg (show ¬ (false = true) by decide)] at H; exact H
   clear H
   have H := H1
   clear H1
   have H' := Aside0.mk H
   clear H
   have p280 : 0 ≤ (x14_1 : Int) := of_decide_eq_true dq20
   have q280 : x14_1 < (t276.length : Int) := of_decide_eq_true dq20
   obtain ⟨ad280, e280, hx280_0⟩ := Kd.at_int (Kd.R_reads' HO_12.out).2.2 x14_1 p280 q280
   cases e280
   replace p280 := eq_true p280
   replace q280 := eq_true q280
   go_wp2
   go_roundg k1
   case measure => have := HK1.out; omega
   case rel => exact ⟨(false), (wrap64 (x14_1 + 1)), dq19, dq19, H', ⟨dq21⟩, ⟨by (with_reducible repeat (first | apply Kd.R_alloc | apply Kd.R_drewN | apply Kd.R_drew)); exact HO_12.out⟩, ⟨dq27⟩⟩
  subst c8
  have H1 : ((impl_CharOk.f (rd t276 x14_1)).bind fun t281 => (impl_isPlain.l0 k1 t281 t276 (t276.length : Int) (wrap64 (x14_1 + 1)))) = some r := by rw [if_pos rfl] at H; exact H
  clear H
  have H := H1
  clear H1
  replace H := Option.bind_eq_some_iff.mp H
  obtain ⟨t281, A90, H⟩ := H
  replace H : (impl_isPlain.l0 k1 t281 t276 (t276.length : Int) (wrap64 (x14_1 + 1))) = some r := H
  have A9 := Aside0.mk A90
  clear A90
  have H' := Aside0.mk H
  clear H
  have p280 : 0 ≤ (x14_1 : Int) := of_decide_eq_true dq20
  have q280 : x14_1 < (t276.length : Int) := of_decide_eq_true dq20
  obtain ⟨ad280, e280, hx280_0⟩ := Kd.at_int (Kd.R_reads' HO_12.out).2.2 x14_1 p280 q280
  cases e280
  replace p280 := eq_true p280
  replace q280 := eq_true q280
  go_wp2_with (first | (go_at_call 113; (with_reducible refine (impl_CharOk.calls (rd t276 x14_1) t281 _ A9.out).mono ?_); rintro e w' ⟨rfl, ⟨nd, rfl⟩⟩))
  go_roundg k1
  case measure => have := HK1.out; omega
  case rel => exact ⟨(t281), (wrap64 (x14_1 + 1)), dq19, dq19, H', ⟨dq21⟩, ⟨by (with_reducible repeat (first | apply Kd.R_alloc | apply Kd.R_drewN | apply Kd.R_drew)); exact HO_12.out⟩, ⟨dq27⟩⟩

/-! ### impl_NameOk: function 21 -/
def impl_NameOk.l0 : Nat → ByteArray → Int → Int → Option (Bool)
 | 0, _, _, _ => none
 | k + 1, x0, x7, x8 => if x8 < x7 then (if 0 ≤ x8 then (if x8 < (x0.size : Int) then (if (bt x0 x8) ≥ 97 then (if (bt x0 x8) ≤ 122 then (impl_NameOk.l0 k x0 x7 (wrap64 (x8 + 1))) else (if (bt x0 x8) ≥ 65 then (if (bt x0 x8) ≤ 90 then (impl_NameOk.l0 k x0 x7 (wrap64 (x8 + 1))) else (if ((bt x0 x8) = 95) then (impl_NameOk.l0 k x0 x7 (wrap64 (x8 + 1))) else (if x8 = 0 then (some false) else (if (bt x0 x8) ≥ 48 then (if ((bt x0 x8) ≤ 57) then (impl_NameOk.l0 k x0 x7 (wrap64 (x8 + 1))) else (if (bt x0 x8) = 46 then (impl_NameOk.l0 k x0 x7 (wrap64 (x8 + 1))) else (if (bt x0 x8) = 45 then (impl_NameOk.l0 k x0 x7 (wrap64 (x8 + 1))) else (some false)))) else (if (bt x0 x8) = 46 then (impl_NameOk.l0 k x0 x7 (wrap64 (x8 + 1))) else (if (bt x0 x8) = 45 then (impl_NameOk.l0 k x0 x7 (wrap64 (x8 + 1))) else (some false))))))) else (if ((bt x0 x8) = 95) then (impl_NameOk.l0 k x0 x7 (wrap64 (x8 + 1))) else (if x8 = 0 then (some false) else (if (bt x0 x8) ≥ 48 then (if ((bt x0 x8) ≤ 57) then (impl_NameOk.l0 k x0 x7 (wrap64 (x8 + 1))) else (if (bt x0 x8) = 46 then (impl_NameOk.l0 k x0 x7 (wrap64 (x8 + 1))) else (if (bt x0 x8) = 45 then (impl_NameOk.l0 k x0 x7 (wrap64 (x8 + 1))) else (some false)))) else (if (bt x0 x8) = 46 then (impl_NameOk.l0 k x0 x7 (wrap64 (x8 + 1))) else (if (bt x0 x8) = 45 then (impl_NameOk.l0 k x0 x7 (wrap64 (x8 + 1))) else (some false)))))))) else (if (bt x0 x8) ≥ 65 then (if (bt x0 x8) ≤ 90 then (impl_NameOk.l0 k x0 x7 (wrap64 (x8 + 1))) else (if ((bt x0 x8) = 95) then (impl_NameOk.l0 k x0 x7 (wrap64 (x8 + 1))) else (if x8 = 0 then (some false) else (if (bt x0 x8) ≥ 48 then (if ((bt x0 x8) ≤ 57) then (impl_NameOk.l0 k x0 x7 (wrap64 (x8 + 1))) else (if (bt x0 x8) = 46 then (impl_NameOk.l0 k x0 x7 (wrap64 (x8 + 1))) else (if (bt x0 x8) = 45 then (impl_NameOk.l0 k x0 x7 (wrap64 (x8 + 1))) else (some false)))) else (if (bt x0 x8) = 46 then (impl_NameOk.l0 k x0 x7 (wrap64 (x8 + 1))) else (if (bt x0 x8) = 45 then (impl_NameOk.l0 k x0 x7 (wrap64 (x8 + 1))) else (some false))))))) else (if ((bt x0 x8) = 95) then (impl_NameOk.l0 k x0 x7 (wrap64 (x8 + 1))) else (if x8 = 0 then (some false) else (if (bt x0 x8) ≥ 48 then (if ((bt x0 x8) ≤ 57) then (impl_NameOk.l0 k x0 x7 (wrap64 (x8 + 1))) else (if (bt x0 x8) = 46 then (impl_NameOk.l0 k x0 x7 (wrap64 (x8 + 1))) else (if (bt x0 x8) = 45 then (impl_NameOk.l0 k x0 x7 (wrap64 (x8 + 1))) else (some false)))) else (if (bt x0 x8) = 46 then (impl_NameOk.l0 k x0 x7 (wrap64 (x8 + 1))) else (if (bt x0 x8) = 45 then (impl_NameOk.l0 k x0 x7 (wrap64 (x8 + 1))) else (some false)))))))) else (none)) else (none)) else ((impl_in.f (x0.size : Int) 1 40).bind fun t269 => (some t269))
def impl_NameOk.f (k : Nat) (a0 : ByteArray) : Option (Bool) := impl_NameOk.l0 k a0 (a0.size : Int) 0
set_option maxHeartbeats 8000000 in
set_option maxRecDepth 100000 in
theorem impl_NameOk.calls (k : Nat) (a0 : ByteArray) (r : Bool) (w : World) (h : impl_NameOk.f k a0 = some r) :
  Calls Tryd.prog 21 #[.string a0] w fun e w' => e = .returned (.bool r) ∧ Drawn0 w w' := by
 have H : (impl_NameOk.l0 k a0 (a0.size : Int) 0) = some r := h
 clear h
 have H' := Aside0.mk H
 clear H
 go_enter Tryd.func21, Tryd.ntmps21
 go_wp2
 go_loopg [8] k (fun kq v8 w' => ∃ (x8_1 : Int), v8 = .int .i64 x8_1 ∧ Aside0 (impl_NameOk.l0 kq a0 (a0.size : Int) x8_1 = some r) ∧ Aside0 (kq ≤ k) ∧ Drawn0 w w')
 case atStart => exact ⟨(0), dq19, H', ⟨Nat.le_refl _⟩, dq18⟩
 clear H'
 obtain ⟨x8_1, rfl, HA, HK1, ⟨m1, rfl⟩⟩ := hrel
 cases gk with
 | zero => exact absurd HA.out (by simp [impl_NameOk.l0])
 | succ k1 =>
  have H := HA.out
  clear HA
  simp only [impl_NameOk.l0] at H
  by_cases c2 : x8_1 < (a0.size : Int)
  rotate_left
  ·rw [if_neg c2] at H
   have c2b0 := decide_eq_false c2
   clear c2
   replace H := Option.bind_eq_some_iff.mp H
   obtain ⟨t269, A440, H⟩ := H
   replace H : (some t269) = some r := H
   have A44 := Aside0.mk A440
   clear A440
   obtain rfl := Option.some.inj H
   go_wp2_with (first | ((with_reducible refine gate_callee (f := 56) rfl ?_); refine goesL_ (some 58) rfl rfl Tryd.func56 dq24 rfl #[.int .i64 (a0.size : Int), .int .i64 1, .int .i64 40] rfl dq23 ?_; (with_reducible refine (impl_in.calls (a0.size : Int) 1 40 t269 _ A44.out).mono ?_); rintro e w' ⟨rfl, ⟨nd, rfl⟩⟩; refine ⟨_, rfl, ?_⟩))
   go_ret
   exact ⟨dq19, dq18⟩
  rw [if_pos c2] at H
  have c2b0 := decide_eq_true c2
  clear c2
  by_cases c3 : 0 ≤ x8_1
  rotate_left
  ·rw [if_neg c3] at H
   exact absurd H dq22
  rw [if_pos c3] at H
  have c3b0 := decide_eq_true c3
  clear c3
  by_cases c4 : x8_1 < (a0.size : Int)
  rotate_left
  ·rw [if_neg c4] at H
   exact absurd H dq22
  rw [if_pos c4] at H
  have c4b0 := decide_eq_true c4
  clear c4
  by_cases c6 : (bt a0 x8_1) ≥ 97
  rotate_left
  ·rw [if_neg c6] at H
   have c6b0 : decide (97 ≤ (bt a0 x8_1)) = false := decide_eq_false c6
   clear c6
   by_cases c26 : (bt a0 x8_1) ≥ 65
   rotate_left
   ·rw [if_neg c26] at H
    have c26b0 : decide (65 ≤ (bt a0 x8_1)) = false := decide_eq_false c26
    clear c26
    by_cases c36 : ((bt a0 x8_1) = 95)
    ·rw [if_pos c36] at H
     have c36b0 : ((bt a0 x8_1) == 95) = true := beq_iff_eq.mpr c36
     have c36b1 : ((bt a0 x8_1) != 95) = false := bne_eq_false_iff_eq.mpr c36
     clear c36
     have H' := Aside0.mk H
     clear H
     have p5 : 0 ≤ (x8_1 : Int) := of_decide_eq_true dq20
     have q5 : x8_1 < (a0.size : Int) := of_decide_eq_true dq20
     have hx5 := bt_at a0 x8_1
     replace p5 := eq_true p5
     replace q5 := eq_true q5
     go_wp2
     go_roundg k1
     case measure => have := HK1.out; omega
     case rel => exact ⟨(wrap64 (x8_1 + 1)), dq19, H', ⟨dq21⟩, dq18⟩
    rw [if_neg c36] at H
    have c36b0 : ((bt a0 x8_1) == 95) = false := beq_eq_false_iff_ne.mpr c36
    have c36b1 : ((bt a0 x8_1) != 95) = true := bne_iff_ne.mpr c36
    by_cases c37 : x8_1 = 0
    ·rw [if_pos c37] at H
     have c37b0 := beq_iff_eq.mpr c37
     have c37b1 := bne_eq_false_iff_eq.mpr c37
     clear c37
     obtain rfl := Option.some.inj H
     have p5 : 0 ≤ (x8_1 : Int) := of_decide_eq_true dq20
     have q5 : x8_1 < (a0.size : Int) := of_decide_eq_true dq20
     have hx5 := bt_at a0 x8_1
     replace p5 := eq_true p5
     replace q5 := eq_true q5
     go_wp2
     go_ret
     exact ⟨dq19, dq18⟩
    rw [if_neg c37] at H
    have c37b0 := beq_eq_false_iff_ne.mpr c37
    have c37b1 := bne_iff_ne.mpr c37
    by_cases c38 : (bt a0 x8_1) ≥ 48
    rotate_left
    ·rw [if_neg c38] at H
     have c38b0 : decide (48 ≤ (bt a0 x8_1)) = false := decide_eq_false c38
     clear c38
     by_cases c42 : (bt a0 x8_1) = 46
     ·rw [if_pos c42] at H
      have c42b0 := beq_iff_eq.mpr c42
      have c42b1 := bne_eq_false_iff_eq.mpr c42
      clear c42
      have H' := Aside0.mk H
      clear H
      have p5 : 0 ≤ (x8_1 : Int) := of_decide_eq_true dq20
      have q5 : x8_1 < (a0.size : Int) := of_decide_eq_true dq20
      have hx5 := bt_at a0 x8_1
      replace p5 := eq_true p5
      replace q5 := eq_true q5
      go_wp2
      go_roundg k1
      case measure => have := HK1.out; omega
      case rel => exact ⟨(wrap64 (x8_1 + 1)), dq19, H', ⟨dq21⟩, dq18⟩
     rw [if_neg c42] at H
     have c42b0 := beq_eq_false_iff_ne.mpr c42
     have c42b1 := bne_iff_ne.mpr c42
     by_cases c43 : (bt a0 x8_1) = 45
     rotate_left
     ·rw [if_neg c43] at H
      have c43b0 := beq_eq_false_iff_ne.mpr c43
      have c43b1 := bne_iff_ne.mpr c43
      obtain rfl := Option.some.inj H
      have p5 : 0 ≤ (x8_1 : Int) := of_decide_eq_true dq20
      have q5 : x8_1 < (a0.size : Int) := of_decide_eq_true dq20
      have hx5 := bt_at a0 x8_1
      replace p5 := eq_true p5
      replace q5 := eq_true q5
      go_wp2
      go_ret
      exact ⟨dq19, dq18⟩
     rw [if_pos c43] at H
     have c43b0 := beq_iff_eq.mpr c43
     have c43b1 := bne_eq_false_iff_eq.mpr c43
     clear c43
     have H' := Aside0.mk H
     clear H
     have p5 : 0 ≤ (x8_1 : Int) := of_decide_eq_true dq20
     have q5 : x8_1 < (a0.size : Int) := of_decide_eq_true dq20
     have hx5 := bt_at a0 x8_1
     replace p5 := eq_true p5
     replace q5 := eq_true q5
     go_wp2
     go_roundg k1
     case measure => have := HK1.out; omega
     case rel => exact ⟨(wrap64 (x8_1 + 1)), dq19, H', ⟨dq21⟩, dq18⟩
    rw [if_pos c38] at H
    have c38b0 : decide (48 ≤ (bt a0 x8_1)) = true := decide_eq_true c38
    clear c38
    by_cases c39 : ((bt a0 x8_1) ≤ 57)
    ·rw [if_pos c39] at H
     have c39b0 : decide ((bt a0 x8_1) ≤ 57) = true := decide_eq_true c39
     clear c39
     have H' := Aside0.mk H
     clear H
     have p5 : 0 ≤ (x8_1 : Int) := of_decide_eq_true dq20
     have q5 : x8_1 < (a0.size : Int) := of_decide_eq_true dq20
     have hx5 := bt_at a0 x8_1
     replace p5 := eq_true p5
     replace q5 := eq_true q5
     go_wp2
     go_roundg k1
     case measure => have := HK1.out; omega
     case rel => exact ⟨(wrap64 (x8_1 + 1)), dq19, H', ⟨dq21⟩, dq18⟩
    rw [if_neg c39] at H
    have c39b0 : decide ((bt a0 x8_1) ≤ 57) = false := decide_eq_false c39
    clear c39
    by_cases c40 : (bt a0 x8_1) = 46
    ·rw [if_pos c40] at H
     have c40b0 := beq_iff_eq.mpr c40
     have c40b1 := bne_eq_false_iff_eq.mpr c40
     clear c40
     have H' := Aside0.mk H
     clear H
     have p5 : 0 ≤ (x8_1 : Int) := of_decide_eq_true dq20
     have q5 : x8_1 < (a0.size : Int) := of_decide_eq_true dq20
     have hx5 := bt_at a0 x8_1
     replace p5 := eq_true p5
     replace q5 := eq_true q5
     go_wp2
     go_roundg k1
     case measure => have := HK1.out; omega
     case rel => exact ⟨(wrap64 (x8_1 + 1)), dq19, H', ⟨dq21⟩, dq18⟩
    rw [if_neg c40] at H
    have c40b0 := beq_eq_false_iff_ne.mpr c40
    have c40b1 := bne_iff_ne.mpr c40
    by_cases c41 : (bt a0 x8_1) = 45
    rotate_left
    ·rw [if_neg c41] at H
     have c41b0 := beq_eq_false_iff_ne.mpr c41
     have c41b1 := bne_iff_ne.mpr c41
     obtain rfl := Option.some.inj H
     have p5 : 0 ≤ (x8_1 : Int) := of_decide_eq_true dq20
     have q5 : x8_1 < (a0.size : Int) := of_decide_eq_true dq20
     have hx5 := bt_at a0 x8_1
     replace p5 := eq_true p5
     replace q5 := eq_true q5
     go_wp2
     go_ret
     exact ⟨dq19, dq18⟩
    rw [if_pos c41] at H
    have c41b0 := beq_iff_eq.mpr c41
    have c41b1 := bne_eq_false_iff_eq.mpr c41
    clear c41
    have H' := Aside0.mk H
    clear H
    have p5 : 0 ≤ (x8_1 : Int) := of_decide_eq_true dq20
    have q5 : x8_1 < (a0.size : Int) := of_decide_eq_true dq20
    have hx5 := bt_at a0 x8_1
    replace p5 := eq_true p5
    replace q5 := eq_true q5
    go_wp2
    go_roundg k1
    case measure => have := HK1.out; omega
    case rel => exact ⟨(wrap64 (x8_1 + 1)), dq19, H', ⟨dq21⟩, dq18⟩
   rw [if_pos c26] at H
   have c26b0 : decide (65 ≤ (bt a0 x8_1)) = true := decide_eq_true c26
   clear c26
   by_cases c27 : (bt a0 x8_1) ≤ 90
   ·rw [if_pos c27] at H
    have c27b0 := decide_eq_true c27
    clear c27
    have H' := Aside0.mk H
    clear H
    have p5 : 0 ≤ (x8_1 : Int) := of_decide_eq_true dq20
    have q5 : x8_1 < (a0.size : Int) := of_decide_eq_true dq20
    have hx5 := bt_at a0 x8_1
    replace p5 := eq_true p5
    replace q5 := eq_true q5
    go_wp2
    go_roundg k1
    case measure => have := HK1.out; omega
    case rel => exact ⟨(wrap64 (x8_1 + 1)), dq19, H', ⟨dq21⟩, dq18⟩
   rw [if_neg c27] at H
   have c27b0 := decide_eq_false c27
   clear c27
   by_cases c28 : ((bt a0 x8_1) = 95)
   ·rw [if_pos c28] at H
    have c28b0 : ((bt a0 x8_1) == 95) = true := beq_iff_eq.mpr c28
    have c28b1 : ((bt a0 x8_1) != 95) = false := bne_eq_false_iff_eq.mpr c28
    clear c28
    have H' := Aside0.mk H
    clear H
    have p5 : 0 ≤ (x8_1 : Int) := of_decide_eq_true dq20
    have q5 : x8_1 < (a0.size : Int) := of_decide_eq_true dq20
    have hx5 := bt_at a0 x8_1
    replace p5 := eq_true p5
    replace q5 := eq_true q5
    go_wp2
    go_roundg k1
    case measure => have := HK1.out; omega
    case rel => exact ⟨(wrap64 (x8_1 + 1)), dq19, H', ⟨dq21⟩, dq18⟩
   rw [if_neg c28] at H
   have c28b0 : ((bt a0 x8_1) == 95) = false := beq_eq_false_iff_ne.mpr c28
   have c28b1 : ((bt a0 x8_1) != 95) = true := bne_iff_ne.mpr c28
   by_cases c29 : x8_1 = 0
   ·rw [if_pos c29] at H
    have c29b0 := beq_iff_eq.mpr c29
    have c29b1 := bne_eq_false_iff_eq.mpr c29
    clear c29
    obtain rfl := Option.some.inj H
    have p5 : 0 ≤ (x8_1 : Int) := of_decide_eq_true dq20
    have q5 : x8_1 < (a0.size : Int) := of_decide_eq_true dq20
    have hx5 := bt_at a0 x8_1
    replace p5 := eq_true p5
    replace q5 := eq_true q5
    go_wp2
    go_ret
    exact ⟨dq19, dq18⟩
   rw [if_neg c29] at H
   have c29b0 := beq_eq_false_iff_ne.mpr c29
   have c29b1 := bne_iff_ne.mpr c29
   by_cases c30 : (bt a0 x8_1) ≥ 48
   rotate_left
   ·rw [if_neg c30] at H
    have c30b0 : decide (48 ≤ (bt a0 x8_1)) = false := decide_eq_false c30
    clear c30
    by_cases c34 : (bt a0 x8_1) = 46
    ·rw [if_pos c34] at H
     have c34b0 := beq_iff_eq.mpr c34
     have c34b1 := bne_eq_false_iff_eq.mpr c34
     clear c34
     have H' := Aside0.mk H
     clear H
     have p5 : 0 ≤ (x8_1 : Int) := of_decide_eq_true dq20
     have q5 : x8_1 < (a0.size : Int) := of_decide_eq_true dq20
     have hx5 := bt_at a0 x8_1
     replace p5 := eq_true p5
     replace q5 := eq_true q5
     go_wp2
     go_roundg k1
     case measure => have := HK1.out; omega
     case rel => exact ⟨(wrap64 (x8_1 + 1)), dq19, H', ⟨dq21⟩, dq18⟩
    rw [if_neg c34] at H
    have c34b0 := beq_eq_false_iff_ne.mpr c34
    have c34b1 := bne_iff_ne.mpr c34
    by_cases c35 : (bt a0 x8_1) = 45
    rotate_left
    ·rw [if_neg c35] at H
     have c35b0 := beq_eq_false_iff_ne.mpr c35
     have c35b1 := bne_iff_ne.mpr c35
     obtain rfl := Option.some.inj H
     have p5 : 0 ≤ (x8_1 : Int) := of_decide_eq_true dq20
     have q5 : x8_1 < (a0.size : Int) := of_decide_eq_true dq20
     have hx5 := bt_at a0 x8_1
     replace p5 := eq_true p5
     replace q5 := eq_true q5
     go_wp2
     go_ret
     exact ⟨dq19, dq18⟩
    rw [if_pos c35] at H
    have c35b0 := beq_iff_eq.mpr c35
    have c35b1 := bne_eq_false_iff_eq.mpr c35
    clear c35
    have H' := Aside0.mk H
    clear H
    have p5 : 0 ≤ (x8_1 : Int) := of_decide_eq_true dq20
    have q5 : x8_1 < (a0.size : Int) := of_decide_eq_true dq20
    have hx5 := bt_at a0 x8_1
    replace p5 := eq_true p5
    replace q5 := eq_true q5
    go_wp2
    go_roundg k1
    case measure => have := HK1.out; omega
    case rel => exact ⟨(wrap64 (x8_1 + 1)), dq19, H', ⟨dq21⟩, dq18⟩
   rw [if_pos c30] at H
   have c30b0 : decide (48 ≤ (bt a0 x8_1)) = true := decide_eq_true c30
   clear c30
   by_cases c31 : ((bt a0 x8_1) ≤ 57)
   ·rw [if_pos c31] at H
    have c31b0 : decide ((bt a0 x8_1) ≤ 57) = true := decide_eq_true c31
    clear c31
    have H' := Aside0.mk H
    clear H
    have p5 : 0 ≤ (x8_1 : Int) := of_decide_eq_true dq20
    have q5 : x8_1 < (a0.size : Int) := of_decide_eq_true dq20
    have hx5 := bt_at a0 x8_1
    replace p5 := eq_true p5
    replace q5 := eq_true q5
    go_wp2
    go_roundg k1
    case measure => have := HK1.out; omega
    case rel => exact ⟨(wrap64 (x8_1 + 1)), dq19, H', ⟨dq21⟩, dq18⟩
   rw [if_neg c31] at H
   have c31b0 : decide ((bt a0 x8_1) ≤ 57) = false := decide_eq_false c31
   clear c31
   by_cases c32 : (bt a0 x8_1) = 46
   ·rw [if_pos c32] at H
    have c32b0 := beq_iff_eq.mpr c32
    have c32b1 := bne_eq_false_iff_eq.mpr c32
    clear c32
    have H' := Aside0.mk H
    clear H
    have p5 : 0 ≤ (x8_1 : Int) := of_decide_eq_true dq20
    have q5 : x8_1 < (a0.size : Int) := of_decide_eq_true dq20
    have hx5 := bt_at a0 x8_1
    replace p5 := eq_true p5
    replace q5 := eq_true q5
    go_wp2
    go_roundg k1
    case measure => have := HK1.out; omega
    case rel => exact ⟨(wrap64 (x8_1 + 1)), dq19, H', ⟨dq21⟩, dq18⟩
   rw [if_neg c32] at H
   have c32b0 := beq_eq_false_iff_ne.mpr c32
   have c32b1 := bne_iff_ne.mpr c32
   by_cases c33 : (bt a0 x8_1) = 45
   rotate_left
   ·rw [if_neg c33] at H
    have c33b0 := beq_eq_false_iff_ne.mpr c33
    have c33b1 := bne_iff_ne.mpr c33
    obtain rfl := Option.some.inj H
    have p5 : 0 ≤ (x8_1 : Int) := of_decide_eq_true dq20
    have q5 : x8_1 < (a0.size : Int) := of_decide_eq_true dq20
    have hx5 := bt_at a0 x8_1
    replace p5 := eq_true p5
    replace q5 := eq_true q5
    go_wp2
    go_ret
    exact ⟨dq19, dq18⟩
   rw [if_pos c33] at H
   have c33b0 := beq_iff_eq.mpr c33
   have c33b1 := bne_eq_false_iff_eq.mpr c33
   clear c33
   have H' := Aside0.mk H
   clear H
   have p5 : 0 ≤ (x8_1 : Int) := of_decide_eq_true dq20
   have q5 : x8_1 < (a0.size : Int) := of_decide_eq_true dq20
   have hx5 := bt_at a0 x8_1
   replace p5 := eq_true p5
   replace q5 := eq_true q5
   go_wp2
   go_roundg k1
   case measure => have := HK1.out; omega
   case rel => exact ⟨(wrap64 (x8_1 + 1)), dq19, H', ⟨dq21⟩, dq18⟩
  rw [if_pos c6] at H
  have c6b0 : decide (97 ≤ (bt a0 x8_1)) = true := decide_eq_true c6
  clear c6
  by_cases c7 : (bt a0 x8_1) ≤ 122
  ·rw [if_pos c7] at H
   have c7b0 := decide_eq_true c7
   clear c7
   have H' := Aside0.mk H
   clear H
   have p5 : 0 ≤ (x8_1 : Int) := of_decide_eq_true dq20
   have q5 : x8_1 < (a0.size : Int) := of_decide_eq_true dq20
   have hx5 := bt_at a0 x8_1
   replace p5 := eq_true p5
   replace q5 := eq_true q5
   go_wp2
   go_roundg k1
   case measure => have := HK1.out; omega
   case rel => exact ⟨(wrap64 (x8_1 + 1)), dq19, H', ⟨dq21⟩, dq18⟩
  rw [if_neg c7] at H
  have c7b0 := decide_eq_false c7
  clear c7
  by_cases c8 : (bt a0 x8_1) ≥ 65
  rotate_left
  ·rw [if_neg c8] at H
   have c8b0 : decide (65 ≤ (bt a0 x8_1)) = false := decide_eq_false c8
   clear c8
   by_cases c18 : ((bt a0 x8_1) = 95)
   ·rw [if_pos c18] at H
    have c18b0 : ((bt a0 x8_1) == 95) = true := beq_iff_eq.mpr c18
    have c18b1 : ((bt a0 x8_1) != 95) = false := bne_eq_false_iff_eq.mpr c18
    clear c18
    have H' := Aside0.mk H
    clear H
    have p5 : 0 ≤ (x8_1 : Int) := of_decide_eq_true dq20
    have q5 : x8_1 < (a0.size : Int) := of_decide_eq_true dq20
    have hx5 := bt_at a0 x8_1
    replace p5 := eq_true p5
    replace q5 := eq_true q5
    go_wp2
    go_roundg k1
    case measure => have := HK1.out; omega
    case rel => exact ⟨(wrap64 (x8_1 + 1)), dq19, H', ⟨dq21⟩, dq18⟩
   rw [if_neg c18] at H
   have c18b0 : ((bt a0 x8_1) == 95) = false := beq_eq_false_iff_ne.mpr c18
   have c18b1 : ((bt a0 x8_1) != 95) = true := bne_iff_ne.mpr c18
   by_cases c19 : x8_1 = 0
   ·rw [if_pos c19] at H
    have c19b0 := beq_iff_eq.mpr c19
    have c19b1 := bne_eq_false_iff_eq.mpr c19
    clear c19
    obtain rfl := Option.some.inj H
    have p5 : 0 ≤ (x8_1 : Int) := of_decide_eq_true dq20
    have q5 : x8_1 < (a0.size : Int) := of_decide_eq_true dq20
    have hx5 := bt_at a0 x8_1
    replace p5 := eq_true p5
    replace q5 := eq_true q5
    go_wp2
    go_ret
    exact ⟨dq19, dq18⟩
   rw [if_neg c19] at H
   have c19b0 := beq_eq_false_iff_ne.mpr c19
   have c19b1 := bne_iff_ne.mpr c19
   by_cases c20 : (bt a0 x8_1) ≥ 48
   rotate_left
   ·rw [if_neg c20] at H
    have c20b0 : decide (48 ≤ (bt a0 x8_1)) = false := decide_eq_false c20
    clear c20
    by_cases c24 : (bt a0 x8_1) = 46
    ·rw [if_pos c24] at H
     have c24b0 := beq_iff_eq.mpr c24
     have c24b1 := bne_eq_false_iff_eq.mpr c24
     clear c24
     have H' := Aside0.mk H
     clear H
     have p5 : 0 ≤ (x8_1 : Int) := of_decide_eq_true dq20
     have q5 : x8_1 < (a0.size : Int) := of_decide_eq_true dq20
     have hx5 := bt_at a0 x8_1
     replace p5 := eq_true p5
     replace q5 := eq_true q5
     go_wp2
     go_roundg k1
     case measure => have := HK1.out; omega
     case rel => exact ⟨(wrap64 (x8_1 + 1)), dq19, H', ⟨dq21⟩, dq18⟩
    rw [if_neg c24] at H
    have c24b0 := beq_eq_false_iff_ne.mpr c24
    have c24b1 := bne_iff_ne.mpr c24
    by_cases c25 : (bt a0 x8_1) = 45
    rotate_left
    ·rw [if_neg c25] at H
     have c25b0 := beq_eq_false_iff_ne.mpr c25
     have c25b1 := bne_iff_ne.mpr c25
     obtain rfl := Option.some.inj H
     have p5 : 0 ≤ (x8_1 : Int) := of_decide_eq_true dq20
     have q5 : x8_1 < (a0.size : Int) := of_decide_eq_true dq20
     have hx5 := bt_at a0 x8_1
     replace p5 := eq_true p5
     replace q5 := eq_true q5
     go_wp2
     go_ret
     exact ⟨dq19, dq18⟩
    rw [if_pos c25] at H
    have c25b0 := beq_iff_eq.mpr c25
    have c25b1 := bne_eq_false_iff_eq.mpr c25
    clear c25
    have H' := Aside0.mk H
    clear H
    have p5 : 0 ≤ (x8_1 : Int) := of_decide_eq_true dq20
    have q5 : x8_1 < (a0.size : Int) := of_decide_eq_true dq20
    have hx5 := bt_at a0 x8_1
    replace p5 := eq_true p5
    replace q5 := eq_true q5
    go_wp2
    go_roundg k1
    case measure => have := HK1.out; omega
    case rel => exact ⟨(wrap64 (x8_1 + 1)), dq19, H', ⟨dq21⟩, dq18⟩
   rw [if_pos c20] at H
   have c20b0 : decide (48 ≤ (bt a0 x8_1)) = true := decide_eq_true c20
   clear c20
   by_cases c21 : ((bt a0 x8_1) ≤ 57)
   ·rw [if_pos c21] at H
    have c21b0 : decide ((bt a0 x8_1) ≤ 57) = true := decide_eq_true c21
    clear c21
    have H' := Aside0.mk H
    clear H
    have p5 : 0 ≤ (x8_1 : Int) := of_decide_eq_true dq20
    have q5 : x8_1 < (a0.size : Int) := of_decide_eq_true dq20
    have hx5 := bt_at a0 x8_1
    replace p5 := eq_true p5
    replace q5 := eq_true q5
    go_wp2
    go_roundg k1
    case measure => have := HK1.out; omega
    case rel => exact ⟨(wrap64 (x8_1 + 1)), dq19, H', ⟨dq21⟩, dq18⟩
   rw [if_neg c21] at H
   have c21b0 : decide ((bt a0 x8_1) ≤ 57) = false := decide_eq_false c21
   clear c21
   by_cases c22 : (bt a0 x8_1) = 46
   ·rw [if_pos c22] at H
    have c22b0 := beq_iff_eq.mpr c22
    have c22b1 := bne_eq_false_iff_eq.mpr c22
    clear c22
    have H' := Aside0.mk H
    clear H
    have p5 : 0 ≤ (x8_1 : Int) := of_decide_eq_true dq20
    have q5 : x8_1 < (a0.size : Int) := of_decide_eq_true dq20
    have hx5 := bt_at a0 x8_1
    replace p5 := eq_true p5
    replace q5 := eq_true q5
    go_wp2
    go_roundg k1
    case measure => have := HK1.out; omega
    case rel => exact ⟨(wrap64 (x8_1 + 1)), dq19, H', ⟨dq21⟩, dq18⟩
   rw [if_neg c22] at H
   have c22b0 := beq_eq_false_iff_ne.mpr c22
   have c22b1 := bne_iff_ne.mpr c22
   by_cases c23 : (bt a0 x8_1) = 45
   rotate_left
   ·rw [if_neg c23] at H
    have c23b0 := beq_eq_false_iff_ne.mpr c23
    have c23b1 := bne_iff_ne.mpr c23
    obtain rfl := Option.some.inj H
    have p5 : 0 ≤ (x8_1 : Int) := of_decide_eq_true dq20
    have q5 : x8_1 < (a0.size : Int) := of_decide_eq_true dq20
    have hx5 := bt_at a0 x8_1
    replace p5 := eq_true p5
    replace q5 := eq_true q5
    go_wp2
    go_ret
    exact ⟨dq19, dq18⟩
   rw [if_pos c23] at H
   have c23b0 := beq_iff_eq.mpr c23
   have c23b1 := bne_eq_false_iff_eq.mpr c23
   clear c23
   have H' := Aside0.mk H
   clear H
   have p5 : 0 ≤ (x8_1 : Int) := of_decide_eq_true dq20
   have q5 : x8_1 < (a0.size : Int) := of_decide_eq_true dq20
   have hx5 := bt_at a0 x8_1
   replace p5 := eq_true p5
   replace q5 := eq_true q5
   go_wp2
   go_roundg k1
   case measure => have := HK1.out; omega
   case rel => exact ⟨(wrap64 (x8_1 + 1)), dq19, H', ⟨dq21⟩, dq18⟩
  rw [if_pos c8] at H
  have c8b0 : decide (65 ≤ (bt a0 x8_1)) = true := decide_eq_true c8
  clear c8
  by_cases c9 : (bt a0 x8_1) ≤ 90
  ·rw [if_pos c9] at H
   have c9b0 := decide_eq_true c9
   clear c9
   have H' := Aside0.mk H
   clear H
   have p5 : 0 ≤ (x8_1 : Int) := of_decide_eq_true dq20
   have q5 : x8_1 < (a0.size : Int) := of_decide_eq_true dq20
   have hx5 := bt_at a0 x8_1
   replace p5 := eq_true p5
   replace q5 := eq_true q5
   go_wp2
   go_roundg k1
   case measure => have := HK1.out; omega
   case rel => exact ⟨(wrap64 (x8_1 + 1)), dq19, H', ⟨dq21⟩, dq18⟩
  rw [if_neg c9] at H
  have c9b0 := decide_eq_false c9
  clear c9
  by_cases c10 : ((bt a0 x8_1) = 95)
  ·rw [if_pos c10] at H
   have c10b0 : ((bt a0 x8_1) == 95) = true := beq_iff_eq.mpr c10
   have c10b1 : ((bt a0 x8_1) != 95) = false := bne_eq_false_iff_eq.mpr c10
   clear c10
   have H' := Aside0.mk H
   clear H
   have p5 : 0 ≤ (x8_1 : Int) := of_decide_eq_true dq20
   have q5 : x8_1 < (a0.size : Int) := of_decide_eq_true dq20
   have hx5 := bt_at a0 x8_1
   replace p5 := eq_true p5
   replace q5 := eq_true q5
   go_wp2
   go_roundg k1
   case measure => have := HK1.out; omega
   case rel => exact ⟨(wrap64 (x8_1 + 1)), dq19, H', ⟨dq21⟩, dq18⟩
  rw [if_neg c10] at H
  have c10b0 : ((bt a0 x8_1) == 95) = false := beq_eq_false_iff_ne.mpr c10
  have c10b1 : ((bt a0 x8_1) != 95) = true := bne_iff_ne.mpr c10
  by_cases c11 : x8_1 = 0
  ·rw [if_pos c11] at H
   have c11b0 := beq_iff_eq.mpr c11
   have c11b1 := bne_eq_false_iff_eq.mpr c11
   clear c11
   obtain rfl := Option.some.inj H
   have p5 : 0 ≤ (x8_1 : Int) := of_decide_eq_true dq20
   have q5 : x8_1 < (a0.size : Int) := of_decide_eq_true dq20
   have hx5 := bt_at a0 x8_1
   replace p5 := eq_true p5
   replace q5 := eq_true q5
   go_wp2
   go_ret
   exact ⟨dq19, dq18⟩
  rw [if_neg c11] at H
  have c11b0 := beq_eq_false_iff_ne.mpr c11
  have c11b1 := bne_iff_ne.mpr c11
  by_cases c12 : (bt a0 x8_1) ≥ 48
  rotate_left
  ·rw [if_neg c12] at H
   have c12b0 : decide (48 ≤ (bt a0 x8_1)) = false := decide_eq_false c12
   clear c12
   by_cases c16 : (bt a0 x8_1) = 46
   ·rw [if_pos c16] at H
    have c16b0 := beq_iff_eq.mpr c16
    have c16b1 := bne_eq_false_iff_eq.mpr c16
    clear c16
    have H' := Aside0.mk H
    clear H
    have p5 : 0 ≤ (x8_1 : Int) := of_decide_eq_true dq20
    have q5 : x8_1 < (a0.size : Int) := of_decide_eq_true dq20
    have hx5 := bt_at a0 x8_1
    replace p5 := eq_true p5
    replace q5 := eq_true q5
    go_wp2
    go_roundg k1
    case measure => have := HK1.out; omega
    case rel => exact ⟨(wrap64 (x8_1 + 1)), dq19, H', ⟨dq21⟩, dq18⟩
   rw [if_neg c16] at H
   have c16b0 := beq_eq_false_iff_ne.mpr c16
   have c16b1 := bne_iff_ne.mpr c16
   by_cases c17 : (bt a0 x8_1) = 45
   rotate_left
   ·rw [if_neg c17] at H
    have c17b0 := beq_eq_false_iff_ne.mpr c17
    have c17b1 := bne_iff_ne.mpr c17
    obtain rfl := Option.some.inj H
    have p5 : 0 ≤ (x8_1 : Int) := of_decide_eq_true dq20
    have q5 : x8_1 < (a0.size : Int) := of_decide_eq_true dq20
    have hx5 := bt_at a0 x8_1
    replace p5 := eq_true p5
    replace q5 := eq_true q5
    go_wp2
    go_ret
    exact ⟨dq19, dq18⟩
   rw [if_pos c17] at H
   have c17b0 := beq_iff_eq.mpr c17
   have c17b1 := bne_eq_false_iff_eq.mpr c17
   clear c17
   have H' := Aside0.mk H
   clear H
   have p5 : 0 ≤ (x8_1 : Int) := of_decide_eq_true dq20
   have q5 : x8_1 < (a0.size : Int) := of_decide_eq_true dq20
   have hx5 := bt_at a0 x8_1
   replace p5 := eq_true p5
   replace q5 := eq_true q5
   go_wp2
   go_roundg k1
   case measure => have := HK1.out; omega
   case rel => exact ⟨(wrap64 (x8_1 + 1)), dq19, H', ⟨dq21⟩, dq18⟩
  rw [if_pos c12] at H
  have c12b0 : decide (48 ≤ (bt a0 x8_1)) = true := decide_eq_true c12
  clear c12
  by_cases c13 : ((bt a0 x8_1) ≤ 57)
  ·rw [if_pos c13] at H
   have c13b0 : decide ((bt a0 x8_1) ≤ 57) = true := decide_eq_true c13
   clear c13
   have H' := Aside0.mk H
   clear H
   have p5 : 0 ≤ (x8_1 : Int) := of_decide_eq_true dq20
   have q5 : x8_1 < (a0.size : Int) := of_decide_eq_true dq20
   have hx5 := bt_at a0 x8_1
   replace p5 := eq_true p5
   replace q5 := eq_true q5
   go_wp2
   go_roundg k1
   case measure => have := HK1.out; omega
   case rel => exact ⟨(wrap64 (x8_1 + 1)), dq19, H', ⟨dq21⟩, dq18⟩
  rw [if_neg c13] at H
  have c13b0 : decide ((bt a0 x8_1) ≤ 57) = false := decide_eq_false c13
  clear c13
  by_cases c14 : (bt a0 x8_1) = 46
  ·rw [if_pos c14] at H
   have c14b0 := beq_iff_eq.mpr c14
   have c14b1 := bne_eq_false_iff_eq.mpr c14
   clear c14
   have H' := Aside0.mk H
   clear H
   have p5 : 0 ≤ (x8_1 : Int) := of_decide_eq_true dq20
   have q5 : x8_1 < (a0.size : Int) := of_decide_eq_true dq20
   have hx5 := bt_at a0 x8_1
   replace p5 := eq_true p5
   replace q5 := eq_true q5
   go_wp2
   go_roundg k1
   case measure => have := HK1.out; omega
   case rel => exact ⟨(wrap64 (x8_1 + 1)), dq19, H', ⟨dq21⟩, dq18⟩
  rw [if_neg c14] at H
  have c14b0 := beq_eq_false_iff_ne.mpr c14
  have c14b1 := bne_iff_ne.mpr c14
  by_cases c15 : (bt a0 x8_1) = 45
  rotate_left
  ·rw [if_neg c15] at H
   have c15b0 := beq_eq_false_iff_ne.mpr c15
   have c15b1 := bne_iff_ne.mpr c15
   obtain rfl := Option.some.inj H
   have p5 : 0 ≤ (x8_1 : Int) := of_decide_eq_true dq20
   have q5 : x8_1 < (a0.size : Int) := of_decide_eq_true dq20
   have hx5 := bt_at a0 x8_1
   replace p5 := eq_true p5
   replace q5 := eq_true q5
   go_wp2
   go_ret
   exact ⟨dq19, dq18⟩
  rw [if_pos c15] at H
  have c15b0 := beq_iff_eq.mpr c15
  have c15b1 := bne_eq_false_iff_eq.mpr c15
  clear c15
  have H' := Aside0.mk H
  clear H
  have p5 : 0 ≤ (x8_1 : Int) := of_decide_eq_true dq20
  have q5 : x8_1 < (a0.size : Int) := of_decide_eq_true dq20
  have hx5 := bt_at a0 x8_1
  replace p5 := eq_true p5
  replace q5 := eq_true q5
  go_wp2
  go_roundg k1
  case measure => have := HK1.out; omega
  case rel => exact ⟨(wrap64 (x8_1 + 1)), dq19, H', ⟨dq21⟩, dq18⟩

end Go.Proofs.YtpmjpbaeecnpiaaDoor.L

namespace Go.Proofs
open Go.Shelf
def Tryd.lays219_ren : Go.Shelf.Ren := ⟨fun | 219 => 115 | 217 => 124 | 225 => 125 | 224 => 126 | 267 => 127 | 266 => 132 | 314 => 133 | n => n, fun | 9 => 9 | 3 => 3 | 4 => 4 | 5 => 5 | 46 => 120 | 146 => 141 | 51 => 140 | n => n, fun | 1 => 0 | n => n⟩
theorem Tryd.lays219 : Go.Proofs.Lays.n219 Tryd.prog Tryd.lays219_ren := {
  mixed := by kernel_rfl
  f217 := Tryd.func124.trans (congrArg some (by kernel_rfl))
  f219 := Tryd.func115.trans (congrArg some (by kernel_rfl))
  f224 := Tryd.func126.trans (congrArg some (by kernel_rfl))
  f225 := Tryd.func125.trans (congrArg some (by kernel_rfl))
  f266 := Tryd.func132.trans (congrArg some (by kernel_rfl))
  f267 := Tryd.func127.trans (congrArg some (by kernel_rfl))
  f314 := Tryd.func133.trans (congrArg some (by kernel_rfl))
  t3 := Tryd.underlying3
  a3 := Tryd.isAgg3
  z3 := Tryd.sizeOf3
  v3 := Tryd.zeroValue3
  t4 := Tryd.underlying4
  a4 := Tryd.isAgg4
  z4 := Tryd.sizeOf4
  v4 := Tryd.zeroValue4
  t5 := Tryd.underlying5
  a5 := Tryd.isAgg5
  z5 := Tryd.sizeOf5
  v5 := Tryd.zeroValue5
  t9 := Tryd.underlying9
  a9 := Tryd.isAgg9
  z9 := Tryd.sizeOf9
  v9 := Tryd.zeroValue9
  t46 := Tryd.underlying120
  a46 := Tryd.isAgg120
  z46 := Tryd.sizeOf120
  v46 := Tryd.zeroValue120
  t51 := Tryd.underlying140
  a51 := Tryd.isAgg140
  z51 := Tryd.sizeOf140
  v51 := Tryd.zeroValue140
  t146 := Tryd.underlying141
  a146 := Tryd.isAgg141
  z146 := Tryd.sizeOf141
  v146 := Tryd.zeroValue141
  g1 := by kernel_rfl }
open Go.RowKit Go.Lib in
/-- internal/stringslite.Index (what strings.Index calls) AT A substr OF ONE BYTE c: IT RETURNS 'Lib.indexByte s c'; the world is as it was. (LAID: no walk: one application.) -/
theorem Tryd.stringslite_Index_one (s : ByteArray) (c : UInt8) (w : World) :
    Calls Tryd.prog 115 #[.string s, .string ⟨#[c]⟩] w fun e w' => e = .returned (.int .i64 (Lib.indexByte s.data.toList c)) ∧ w' = w := Any.stringslite_Index_one Tryd.lays219 s c w
def Tryd.laysM146_ren : Go.Shelf.Ren := ⟨fun | 146 => 81 | 221 => 104 | 268 => 117 | 138 => 118 | 143 => 119 | 195 => 128 | 197 => 129 | 218 => 130 | 219 => 115 | 260 => 134 | 217 => 124 | 225 => 125 | 224 => 126 | 267 => 127 | 266 => 132 | 314 => 133 | n => n, fun | 9 => 9 | 31 => 66 | 3 => 3 | 4 => 4 | 0 => 0 | 105 => 133 | 21 => 21 | 5 => 5 | 46 => 120 | 119 => 136 | 139 => 139 | 138 => 138 | 146 => 141 | 51 => 140 | n => n, fun | 1 => 0 | 3 => 1 | 4 => 2 | n => n⟩
theorem Tryd.laysM146 : Go.Proofs.LaysM.n146 Tryd.prog Tryd.laysM146_ren := {
  mixed := by kernel_rfl
  f138 := Tryd.func118.trans (congrArg some (by kernel_rfl))
  f143 := Tryd.func119.trans (congrArg some (by kernel_rfl))
  f146 := Tryd.func81.trans (congrArg some (by kernel_rfl))
  f195 := Tryd.func128.trans (congrArg some (by kernel_rfl))
  f197 := Tryd.func129.trans (congrArg some (by kernel_rfl))
  f217 := Tryd.func124.trans (congrArg some (by kernel_rfl))
  f218 := Tryd.func130.trans (congrArg some (by kernel_rfl))
  f219 := Tryd.func115.trans (congrArg some (by kernel_rfl))
  f221 := Tryd.func104.trans (congrArg some (by kernel_rfl))
  f224 := Tryd.func126.trans (congrArg some (by kernel_rfl))
  f225 := Tryd.func125.trans (congrArg some (by kernel_rfl))
  f260 := Tryd.func134.trans (congrArg some (by kernel_rfl))
  f266 := Tryd.func132.trans (congrArg some (by kernel_rfl))
  f267 := Tryd.func127.trans (congrArg some (by kernel_rfl))
  f268 := Tryd.func117.trans (congrArg some (by kernel_rfl))
  f314 := Tryd.func133.trans (congrArg some (by kernel_rfl))
  t0 := Tryd.underlying0
  a0 := Tryd.isAgg0
  z0 := Tryd.sizeOf0
  v0 := Tryd.zeroValue0
  t3 := Tryd.underlying3
  a3 := Tryd.isAgg3
  z3 := Tryd.sizeOf3
  v3 := Tryd.zeroValue3
  t4 := Tryd.underlying4
  a4 := Tryd.isAgg4
  z4 := Tryd.sizeOf4
  v4 := Tryd.zeroValue4
  t5 := Tryd.underlying5
  a5 := Tryd.isAgg5
  z5 := Tryd.sizeOf5
  v5 := Tryd.zeroValue5
  t9 := Tryd.underlying9
  a9 := Tryd.isAgg9
  z9 := Tryd.sizeOf9
  v9 := Tryd.zeroValue9
  t21 := Tryd.underlying21
  a21 := Tryd.isAgg21
  z21 := Tryd.sizeOf21
  v21 := Tryd.zeroValue21
  t31 := Tryd.underlying66
  a31 := Tryd.isAgg66
  z31 := Tryd.sizeOf66
  v31 := Tryd.zeroValue66
  t46 := Tryd.underlying120
  a46 := Tryd.isAgg120
  z46 := Tryd.sizeOf120
  v46 := Tryd.zeroValue120
  t51 := Tryd.underlying140
  a51 := Tryd.isAgg140
  z51 := Tryd.sizeOf140
  v51 := Tryd.zeroValue140
  t105 := Tryd.underlying133
  a105 := Tryd.isAgg133
  z105 := Tryd.sizeOf133
  v105 := Tryd.zeroValue133
  t119 := Tryd.underlying136
  a119 := Tryd.isAgg136
  z119 := Tryd.sizeOf136
  t138 := Tryd.underlying138
  a138 := Tryd.isAgg138
  z138 := Tryd.sizeOf138
  v138 := Tryd.zeroValue138
  t139 := Tryd.underlying139
  a139 := Tryd.isAgg139
  z139 := Tryd.sizeOf139
  v139 := Tryd.zeroValue139
  t146 := Tryd.underlying141
  a146 := Tryd.isAgg141
  z146 := Tryd.sizeOf141
  v146 := Tryd.zeroValue141
  g1 := by kernel_rfl
  g3 := by kernel_rfl
  g4 := by kernel_rfl
  i0 := by kernel_rfl
  i3 := by kernel_rfl
  i4 := by kernel_rfl
  i5 := by kernel_rfl
  i9 := by kernel_rfl
  i21 := by kernel_rfl
  i31 := by kernel_rfl
  i46 := by kernel_rfl
  i51 := by kernel_rfl
  i105 := by kernel_rfl
  i138 := by kernel_rfl
  i139 := by kernel_rfl
  i146 := by kernel_rfl
  m1 := by kernel_rfl
  s1_3 := fun w h => Go.Proofs.cell_of_shapedOpen_int (zero := #[.int .i64 0]) (t := 3) h (of_decide_eq_true (by kernel_rfl)) (by kernel_rfl) rfl (by kernel_rfl) (by kernel_rfl) Tryd.underlying3
  m3 := by kernel_rfl
  m4 := by kernel_rfl }
def Tryd.lays260_ren : Go.Shelf.Ren := ⟨fun | 260 => 134 | n => n, fun | 9 => 9 | 21 => 21 | 3 => 3 | 4 => 4 | 5 => 5 | 119 => 136 | 0 => 0 | 46 => 120 | 139 => 139 | 138 => 138 | n => n, fun | 3 => 1 | 4 => 2 | n => n⟩
theorem Tryd.lays260 : Go.Proofs.Lays.n260 Tryd.prog Tryd.lays260_ren := {
  mixed := by kernel_rfl
  f260 := Tryd.func134.trans (congrArg some (by kernel_rfl))
  t0 := Tryd.underlying0
  a0 := Tryd.isAgg0
  z0 := Tryd.sizeOf0
  v0 := Tryd.zeroValue0
  t3 := Tryd.underlying3
  a3 := Tryd.isAgg3
  z3 := Tryd.sizeOf3
  v3 := Tryd.zeroValue3
  t4 := Tryd.underlying4
  a4 := Tryd.isAgg4
  z4 := Tryd.sizeOf4
  v4 := Tryd.zeroValue4
  t5 := Tryd.underlying5
  a5 := Tryd.isAgg5
  z5 := Tryd.sizeOf5
  v5 := Tryd.zeroValue5
  t9 := Tryd.underlying9
  a9 := Tryd.isAgg9
  z9 := Tryd.sizeOf9
  v9 := Tryd.zeroValue9
  t21 := Tryd.underlying21
  a21 := Tryd.isAgg21
  z21 := Tryd.sizeOf21
  v21 := Tryd.zeroValue21
  t46 := Tryd.underlying120
  a46 := Tryd.isAgg120
  z46 := Tryd.sizeOf120
  v46 := Tryd.zeroValue120
  t119 := Tryd.underlying136
  a119 := Tryd.isAgg136
  z119 := Tryd.sizeOf136
  t138 := Tryd.underlying138
  a138 := Tryd.isAgg138
  z138 := Tryd.sizeOf138
  v138 := Tryd.zeroValue138
  t139 := Tryd.underlying139
  a139 := Tryd.isAgg139
  z139 := Tryd.sizeOf139
  v139 := Tryd.zeroValue139
  g3 := by kernel_rfl
  g4 := by kernel_rfl }
end Go.Proofs

namespace Go.Proofs.YtpmjpbaeecnpiaaDoor.L
open Go.RowKit Go.Proofs.YtpmjpbaeecnpiaaDoorW.PrintWords Go.Proofs.YtpmjpbaeecnpiaaDoorW.PrintLast Go.Proofs.YtpmjpbaeecnpiaaDoorW.PrintMore
set_option linter.unusedVariables false
set_option linter.unusedSimpArgs false

def strings_Cut.f (a0 : ByteArray) (a1 : ByteArray) : Option (ByteArray × ByteArray × Bool) :=
  match a1.data.toList with
  | [c] => if a0.size ≤ 9223372036854775807 then
      (if 0 ≤ Lib.indexByte a0.data.toList c then some (a0.extract 0 (Lib.indexByte a0.data.toList c).toNat, a0.extract ((Lib.indexByte a0.data.toList c).toNat + 1) a0.size, true) else some (a0, ⟨#[]⟩, false)) else none
  | _ => none
theorem stringslite_cut_yes (s : ByteArray) (c : UInt8) (w : World) (hs : s.size ≤ 9223372036854775807) (i : Nat) (hi : Lib.indexByte s.data.toList c = (i : Int)) (hlt : i < s.size) :
    Calls Tryd.prog 76 #[.string s, .string ⟨#[c]⟩] w fun e w' => e = .returned (.tuple #[.string (s.extract 0 i), .string (s.extract (i + 1) s.size), .bool true]) ∧ Below w.heap.size w w' := by
  have HI := Lib.hid hi
  clear hi
  go_enter Tryd.func76, Tryd.ntmps76
  go_wp2_with (first | (go_at_call 115; refine (Tryd.stringslite_Index_one _ _ _).mono ?_; rintro e w' ⟨rfl, rfl⟩; rw [HI.out]) | go_in)
  have b0 : (0 : Int) ≤ (i : Int) := by omega
  have b1 : (i : Int) ≤ (s.size : Int) := by omega
  have b2 : (i : Int) + 1 ≤ (s.size : Int) := by omega
  have b3 : (0 : Int) ≤ (i : Int) + 1 := by omega
  have b4 : ((i : Int) + 1).toNat = i + 1 := by omega
  go_quiet (fail)
  go_wp2
  go_ret3
  go_wp2
  go_ret3
  exact ⟨rfl, pw_below_drewN (Below.refl _ _) _⟩
theorem stringslite_cut_no (s : ByteArray) (c : UInt8) (w : World) (hi : Lib.indexByte s.data.toList c = -1) :
    Calls Tryd.prog 76 #[.string s, .string ⟨#[c]⟩] w fun e w' => e = .returned (.tuple #[.string s, .string ⟨#[]⟩, .bool false]) ∧ Below w.heap.size w w' := by
  have HI := Lib.hid hi
  clear hi
  go_enter Tryd.func76, Tryd.ntmps76
  go_wp2_with (first | (go_at_call 115; refine (Tryd.stringslite_Index_one _ _ _).mono ?_; rintro e w' ⟨rfl, rfl⟩; rw [HI.out]) | go_in)
  go_ret3
  go_wp2
  go_ret3
  exact ⟨rfl, Below.refl _ _⟩
theorem strings_Cut.calls (a0 : ByteArray) (a1 : ByteArray) (r1 : ByteArray) (r2 : ByteArray) (r3 : Bool) (w : World) (h : strings_Cut.f a0 a1 = some (r1, r2, r3)) :
    Calls Tryd.prog 76 #[.string a0, .string a1] w fun e w' => e = .returned (.tuple #[.string r1, .string r2, .bool r3]) ∧ Below w.heap.size w w' := by
  unfold strings_Cut.f at h
  obtain ⟨⟨l⟩⟩ := a1
  match l, h with
  | [], h => simp at h
  | [c], h =>
    simp only at h
    by_cases hs : a0.size ≤ 9223372036854775807
    · rw [if_pos hs] at h
      by_cases h0 : 0 ≤ Lib.indexByte a0.data.toList c
      · rw [if_pos h0] at h
        simp only [Option.some.injEq, Prod.mk.injEq] at h
        obtain ⟨rfl, rfl, rfl⟩ := h
        obtain ⟨i, hi⟩ := Int.eq_ofNat_of_zero_le h0
        have hl : i < a0.size := by
          have := (Lib.indexByte_some hi).1
          have := (List.getElem?_eq_some_iff.1 this).1
          simpa using this
        rw [hi]
        exact stringslite_cut_yes a0 c w hs i hi hl
      · rw [if_neg h0] at h
        simp only [Option.some.injEq, Prod.mk.injEq] at h
        obtain ⟨rfl, rfl, rfl⟩ := h
        exact stringslite_cut_no a0 c w (by have := Lib.indexByte_ge a0.data.toList c; omega)
    · rw [if_neg hs] at h
      cases h
  | _ :: _ :: _, h => simp at h
end Go.Proofs.YtpmjpbaeecnpiaaDoor.L

namespace Go.Proofs.YtpmjpbaeecnpiaaDoor.L
open Go.RowKit Go.Proofs.YtpmjpbaeecnpiaaDoorW.PrintWords Go.Proofs.YtpmjpbaeecnpiaaDoorW.PrintLast Go.Proofs.YtpmjpbaeecnpiaaDoorW.PrintMore
attribute [local go_sem] max2_int min2_int max_two min_two max_three min_three max_four min_four
set_option linter.unusedVariables false
set_option linter.unusedSimpArgs false

/-! ### impl_Split: function 38 -/
def impl_Split.j0 : Nat → ByteArray → ByteArray → ByteArray → Bool → Bool → Option (ByteArray × ByteArray × Bool)
 | 0, _, _, _, _, _ => none
 | k + 1, x0, x5, x6, x7, x14 => if x14 = true then (some ((⟨#[]⟩ : ByteArray), x0, true)) else (if x7 = true then ((impl_NameOk.f k x5).bind fun t286 => (if t286 = true then ((impl_NameOk.f k x6).bind fun t287 => (if t287 = true then (some (x5, x6, true)) else (some ((⟨#[]⟩ : ByteArray), (⟨#[]⟩ : ByteArray), false)))) else (some ((⟨#[]⟩ : ByteArray), (⟨#[]⟩ : ByteArray), false)))) else (some ((⟨#[]⟩ : ByteArray), (⟨#[]⟩ : ByteArray), false)))
def impl_Split.f (k : Nat) (a0 : ByteArray) : Option (ByteArray × ByteArray × Bool) := (strings_Cut.f a0 (⟨#[58]⟩ : ByteArray)).bind fun bt282 => (if bt282.2.2 = true then (impl_Split.j0 k a0 bt282.1 bt282.2.1 bt282.2.2 false) else ((impl_NameOk.f k a0).bind fun t285 => (impl_Split.j0 k a0 bt282.1 bt282.2.1 bt282.2.2 t285)))
set_option maxHeartbeats 8000000 in
set_option maxRecDepth 100000 in
theorem impl_Split.calls (k : Nat) (a0 : ByteArray) (r1 : ByteArray) (r2 : ByteArray) (r3 : Bool) (w : World) (h : impl_Split.f k a0 = some (r1, r2, r3)) :
  Calls Tryd.prog 38 #[.string a0] w fun e w' => e = .returned (.tuple #[.string r1, .string r2, .bool r3]) ∧ Below w.heap.size w w' := by
 have HB := Aside0.mk (Below.refl w.heap.size w)
 have H : ((strings_Cut.f a0 (⟨#[58]⟩ : ByteArray)).bind fun bt282 => (if bt282.2.2 = true then (impl_Split.j0 k a0 bt282.1 bt282.2.1 bt282.2.2 false) else ((impl_NameOk.f k a0).bind fun t285 => (impl_Split.j0 k a0 bt282.1 bt282.2.1 bt282.2.2 t285)))) = some (r1, r2, r3) := h
 clear h
 replace H := Option.bind_eq_some_iff.mp H
 obtain ⟨⟨t282, t283, t284⟩, A20, H⟩ := H
 replace H : (if t284 = true then (impl_Split.j0 k a0 t282 t283 t284 false) else ((impl_NameOk.f k a0).bind fun t285 => (impl_Split.j0 k a0 t282 t283 t284 t285))) = some (r1, r2, r3) := H
 have A2 := Aside0.mk A20
 clear A20
 have HC3 := Aside0.mk H
 clear H
 go_enter Tryd.func38, Tryd.ntmps38
 go_upto_region 2 with (first | ((with_reducible refine gate_callee (f := 76) rfl ?_); refine goesL_ (some 10) rfl rfl Tryd.func76 dq24 rfl #[.string a0, .string (⟨#[58]⟩ : ByteArray)] rfl dq23 ?_; (with_reducible refine (strings_Cut.calls a0 (⟨#[58]⟩ : ByteArray) t282 t283 t284 _ A2.out).mono ?_); rintro e w4 ⟨rfl, hb⟩; refine ⟨_, rfl, ?_⟩; have n0_ := Aside0.mk (below_step dq27 hb); clear HB; have HB := n0_; clear n0_; (try clear hb); (try clear hb2); (try clear hk); (try clear hi)))
 (try simp only [Act.put, List.setIfInBounds_toArray, List.set_cons_zero, List.set_cons_succ])
 go_cut [14] (fun v14 wc => ∃ (kq : Nat) (x14_2 : Bool), v14 = .bool x14_2 ∧ Aside0 (impl_Split.j0 kq a0 t282 t283 t284 x14_2 = some (r1, r2, r3)) ∧ Aside0 (kq ≤ k) ∧ Aside0 (Below w.heap.size w wc))
 case first =>
  have H := HC3.out
  clear HC3
  by_cases c5 : t284 = true
  ·subst c5
   have H1 : (impl_Split.j0 k a0 t282 t283 true false) = some (r1, r2, r3) := by rw [if_pos rfl] at H; exact H
   clear H
   have H := H1
   clear H1
   have H' := Aside0.mk H
   clear H
   go_wp2
   go_meet
   case rel => exact ⟨_, (false), dq19, H', ⟨dq26⟩, ⟨dq27⟩⟩
  replace c5 := Bool.eq_false_iff.mpr c5
  subst c5
  have H1 : ((impl_NameOk.f k a0).bind fun t285 => (impl_Split.j0 k a0 t282 t283 false t285)) = some (r1, r2, r3) := by rw [if_neg (show ¬ (false = true) by decide)] at H; exact H
  clear H
  have H := H1
  clear H1
  replace H := Option.bind_eq_some_iff.mp H
  obtain ⟨t285, A60, H⟩ := H
  replace H : (impl_Split.j0 k a0 t282 t283 false t285) = some (r1, r2, r3) := H
  have A6 := Aside0.mk A60
  clear A60
  have H' := Aside0.mk H
  clear H
  go_wp2_with (first | (go_at_call 21; (with_reducible refine (impl_NameOk.calls k a0 t285 _ A6.out).mono ?_); rintro e w' ⟨rfl, ⟨nd, rfl⟩⟩))
  go_meet
  case rel => exact ⟨_, (t285), dq19, H', ⟨dq26⟩, ⟨dq27⟩⟩
 clear HC3
 try clear p2
 try clear c3
 try clear c5
 obtain ⟨kq, x14_2, rfl, HA, HJ2, HB⟩ := hcut
 cases kq with
 | zero => exact absurd HA.out (by simp [impl_Split.j0])
 | succ kj2 =>
  have H := HA.out
  clear HA
  simp only [impl_Split.j0] at H
  by_cases c7 : x14_2 = true
  ·subst c7
   have H1 : (some ((⟨#[]⟩ : ByteArray), a0, true)) = some (r1, r2, r3) := by rw [if_pos rfl] at H; exact H
   clear H
   have H := H1
   clear H1
   simp only [Option.some.injEq, Prod.mk.injEq] at H
   obtain ⟨rfl, rfl, rfl⟩ := H
   go_wp2
   go_ret3
   exact ⟨dq29, dq27⟩
  replace c7 := Bool.eq_false_iff.mpr c7
  subst c7
  have H1 : (if t284 = true then ((impl_NameOk.f kj2 t282).bind fun t286 => (if t286 = true then ((impl_NameOk.f kj2 t283).bind fun t287 => (if t287 = true then (some (t282, t283, true)) else (some ((⟨#[]⟩ : ByteArray), (⟨#[]⟩ : ByteArray), false)))) else (some ((⟨#[]⟩ : ByteArray), (⟨#[]⟩ : ByteArray), false)))) else (some ((⟨#[]⟩ : ByteArray), (⟨#[]⟩ : ByteArray), false))) = some (r1, r2, r3) := by rw [if_neg (show ¬ (false = true) by decide)] at H; exact H
  clear H
  have H := H1
  clear H1
  by_cases c8 : t284 = true
  rotate_left
  ·replace c8 := Bool.eq_false_iff.mpr c8
   subst c8
   have H1 : (some ((⟨#[]⟩ : ByteArray), (⟨#[]⟩ : ByteArray), false)) = some (r1, r2, r3) := by rw [if_neg (show ¬ (false = true) by decide)] at H; exact H
   clear H
   have H := H1
   clear H1
   simp only [Option.some.injEq, Prod.mk.injEq] at H
   obtain ⟨rfl, rfl, rfl⟩ := H
   go_wp2
   go_ret3
   exact ⟨dq29, dq27⟩
  subst c8
  have H1 : ((impl_NameOk.f kj2 t282).bind fun t286 => (if t286 = true then ((impl_NameOk.f kj2 t283).bind fun t287 => (if t287 = true then (some (t282, t283, true)) else (some ((⟨#[]⟩ : ByteArray), (⟨#[]⟩ : ByteArray), false)))) else (some ((⟨#[]⟩ : ByteArray), (⟨#[]⟩ : ByteArray), false)))) = some (r1, r2, r3) := by rw [if_pos rfl] at H; exact H
  clear H
  have H := H1
  clear H1
  replace H := Option.bind_eq_some_iff.mp H
  obtain ⟨t286, A90, H⟩ := H
  replace H : (if t286 = true then ((impl_NameOk.f kj2 t283).bind fun t287 => (if t287 = true then (some (t282, t283, true)) else (some ((⟨#[]⟩ : ByteArray), (⟨#[]⟩ : ByteArray), false)))) else (some ((⟨#[]⟩ : ByteArray), (⟨#[]⟩ : ByteArray), false))) = some (r1, r2, r3) := H
  have A9 := Aside0.mk A90
  clear A90
  by_cases c10 : t286 = true
  rotate_left
  ·replace c10 := Bool.eq_false_iff.mpr c10
   subst c10
   have H1 : (some ((⟨#[]⟩ : ByteArray), (⟨#[]⟩ : ByteArray), false)) = some (r1, r2, r3) := by rw [if_neg (show ¬ (false = true) by decide)] at H; exact H
   clear H
   have H := H1
   clear H1
   simp only [Option.some.injEq, Prod.mk.injEq] at H
   obtain ⟨rfl, rfl, rfl⟩ := H
   go_wp2_with (first | (go_at_call 21; (with_reducible refine (impl_NameOk.calls kj2 t282 false _ A9.out).mono ?_); rintro e w' ⟨rfl, ⟨nd, rfl⟩⟩))
   go_ret3
   exact ⟨dq29, dq27⟩
  subst c10
  have H1 : ((impl_NameOk.f kj2 t283).bind fun t287 => (if t287 = true then (some (t282, t283, true)) else (some ((⟨#[]⟩ : ByteArray), (⟨#[]⟩ : ByteArray), false)))) = some (r1, r2, r3) := by rw [if_pos rfl] at H; exact H
  clear H
  have H := H1
  clear H1
  replace H := Option.bind_eq_some_iff.mp H
  obtain ⟨t287, A110, H⟩ := H
  replace H : (if t287 = true then (some (t282, t283, true)) else (some ((⟨#[]⟩ : ByteArray), (⟨#[]⟩ : ByteArray), false))) = some (r1, r2, r3) := H
  have A11 := Aside0.mk A110
  clear A110
  by_cases c12 : t287 = true
  ·subst c12
   have H1 : (some (t282, t283, true)) = some (r1, r2, r3) := by rw [if_pos rfl] at H; exact H
   clear H
   have H := H1
   clear H1
   simp only [Option.some.injEq, Prod.mk.injEq] at H
   obtain ⟨rfl, rfl, rfl⟩ := H
   go_wp2_with (first | (go_at_call 21; (with_reducible refine (impl_NameOk.calls kj2 t282 true _ A9.out).mono ?_); rintro e w' ⟨rfl, ⟨nd, rfl⟩⟩) | (go_at_call 21; (with_reducible refine (impl_NameOk.calls kj2 t283 true _ A11.out).mono ?_); rintro e w' ⟨rfl, ⟨nd, rfl⟩⟩))
   go_ret3
   exact ⟨dq29, dq27⟩
  replace c12 := Bool.eq_false_iff.mpr c12
  subst c12
  have H1 : (some ((⟨#[]⟩ : ByteArray), (⟨#[]⟩ : ByteArray), false)) = some (r1, r2, r3) := by rw [if_neg (show ¬ (false = true) by decide)] at H; exact H
  clear H
  have H := H1
  clear H1
  simp only [Option.some.injEq, Prod.mk.injEq] at H
  obtain ⟨rfl, rfl, rfl⟩ := H
  go_wp2_with (first | (go_at_call 21; (with_reducible refine (impl_NameOk.calls kj2 t282 true _ A9.out).mono ?_); rintro e w' ⟨rfl, ⟨nd, rfl⟩⟩) | (go_at_call 21; (with_reducible refine (impl_NameOk.calls kj2 t283 false _ A11.out).mono ?_); rintro e w' ⟨rfl, ⟨nd, rfl⟩⟩))
  go_ret3
  exact ⟨dq29, dq27⟩

/-! ### impl_isQualified: function 97 -/
def impl_isQualified.f (k : Nat) (a0 : ByteArray) : Option (Bool) := (impl_Split.f k a0).bind fun bt288 => (some bt288.2.2)
set_option maxHeartbeats 8000000 in
set_option maxRecDepth 100000 in
theorem impl_isQualified.calls (k : Nat) (a0 : ByteArray) (r : Bool) (w : World) (h : impl_isQualified.f k a0 = some r) :
  Calls Tryd.prog 97 #[.string a0] w fun e w' => e = .returned (.bool r) ∧ Below w.heap.size w w' := by
 have HB := Aside0.mk (Below.refl w.heap.size w)
 have H : ((impl_Split.f k a0).bind fun bt288 => (some bt288.2.2)) = some r := h
 clear h
 replace H := Option.bind_eq_some_iff.mp H
 obtain ⟨⟨t288, t289, t290⟩, A20, H⟩ := H
 replace H : (some t290) = some r := H
 have A2 := Aside0.mk A20
 clear A20
 obtain rfl := Option.some.inj H
 go_enter Tryd.func97, Tryd.ntmps97
 go_wp2_with (first | ((with_reducible refine gate_callee (f := 38) rfl ?_); refine goesL_ (some 8) rfl rfl Tryd.func38 dq24 rfl #[.string a0] rfl dq23 ?_; (with_reducible refine (impl_Split.calls k a0 t288 t289 t290 _ A2.out).mono ?_); rintro e w3 ⟨rfl, hb⟩; refine ⟨_, rfl, ?_⟩; have n0_ := Aside0.mk (below_step dq27 hb); clear HB; have HB := n0_; clear n0_; (try clear hb); (try clear hb2); (try clear hk); (try clear hi)))
 go_ret
 exact ⟨dq29, dq27⟩

/-! ### impl_Item_isGood: function 71 -/
mutual
def impl_Item_isGood.j0 : Nat → Bool → Int → ByteArray → ByteArray → List (S46) → Option (Bool)
 | 0, _, _, _, _, _ => none
 | k + 1, x38, x292000, x292001, x292002, x292003 => if x38 = true then (some false) else (impl_Item_isGood.l0 k x292003 (x292003.length : Int) 0 x292000 x292001 x292002 x292003)
def impl_Item_isGood.l0 : Nat → List (S46) → Int → Int → Int → ByteArray → ByteArray → List (S46) → Option (Bool)
 | 0, _, _, _, _, _, _, _ => none
 | k + 1, x40, x41, x42, x292000, x292001, x292002, x292003 => if x42 < x41 then (if 0 ≤ x42 then (if x42 < (x40.length : Int) then ((impl_isQualified.f k ((rd_T46 x40 x42).f0)).bind fun t296 => (if t296 = true then ((impl_isPlain.f k ((rd_T46 x40 x42).f1)).bind fun t297 => (impl_Item_isGood.j2 k x42 x40 x41 x42 (!t297) x292000 x292001 x292002 x292003 ((rd_T46 x40 x42).f0) ((rd_T46 x40 x42).f1))) else (impl_Item_isGood.j2 k x42 x40 x41 x42 true x292000 x292001 x292002 x292003 ((rd_T46 x40 x42).f0) ((rd_T46 x40 x42).f1)))) else (none)) else (none)) else (some true)
def impl_Item_isGood.j2 : Nat → Int → List (S46) → Int → Int → Bool → Int → ByteArray → ByteArray → List (S46) → ByteArray → ByteArray → Option (Bool)
 | 0, _, _, _, _, _, _, _, _, _, _, _ => none
 | k + 1, x3, x40, x41, x42, x56, x292000, x292001, x292002, x292003, x296000, x296001 => if x56 = true then (some false) else (if 0 ≤ x3 then (if x3 ≤ (x292003.length : Int) then ((some (x292003.take (x3 : Int).toNat : List (S46))).bind fun y298 => (impl_Item_isGood.l1 k x40 x41 x42 y298 (y298.length : Int) 0 x292000 x292001 x292002 x292003 x296000 x296001)) else (none)) else (none))
def impl_Item_isGood.l1 : Nat → List (S46) → Int → Int → List (S46) → Int → Int → Int → ByteArray → ByteArray → List (S46) → ByteArray → ByteArray → Option (Bool)
 | 0, _, _, _, _, _, _, _, _, _, _, _, _ => none
 | k + 1, x40, x41, x42, x60, x61, x62, x292000, x292001, x292002, x292003, x296000, x296001 => if x62 < x61 then (if 0 ≤ x62 then (if x62 < (x60.length : Int) then (if x296000.toList = ((rd_T46 x60 x62).f0).toList then (some false) else (impl_Item_isGood.l1 k x40 x41 x42 x60 x61 (wrap64 (x62 + 1)) x292000 x292001 x292002 x292003 x296000 x296001)) else (none)) else (none)) else (impl_Item_isGood.l0 k x40 x41 (wrap64 (x42 + 1)) x292000 x292001 x292002 x292003)
end
def impl_Item_isGood.f (k : Nat) (a0_0 : Int) (a0_1 : ByteArray) (a0_2 : ByteArray) (l0_3 : List (S46)) : Option (Bool) := if a0_1.toList = ([] : List UInt8) then (if a0_2.toList = ([] : List UInt8) then (some false) else ((impl_isPlain.f k a0_2).bind fun t292 => (if t292 = true then (some ((l0_3.length : Int) == 0)) else (some false)))) else ((impl_isQualified.f k a0_1).bind fun t293 => (if t293 = true then (if a0_2.toList = ([] : List UInt8) then (impl_Item_isGood.j0 k (decide ((l0_3.length : Int) > 10)) a0_0 a0_1 a0_2 l0_3) else (impl_Item_isGood.j0 k true a0_0 a0_1 a0_2 l0_3)) else (impl_Item_isGood.j0 k true a0_0 a0_1 a0_2 l0_3)))
set_option maxHeartbeats 8000000 in
set_option maxRecDepth 100000 in
theorem impl_Item_isGood.calls (k : Nat) (a0_0 : Int) (a0_1 : ByteArray) (a0_2 : ByteArray) (A0_3 : Option Addr) (c0_3 : Nat) (l0_3 : List (S46)) (r : Bool) (w : World) (hT : Gl w) (hr0_3 : Kd.C k46 w A0_3 l0_3.length l0_3) (hc0_3 : l0_3.length ≤ c0_3) (h : impl_Item_isGood.f k a0_0 a0_1 a0_2 l0_3 = some r) :
  Calls Tryd.prog 71 #[.agg #[.int .i64 a0_0, .string a0_1, .string a0_2, .slice A0_3 l0_3.length c0_3]] w fun e w' => e = .returned (.bool r) ∧ Below w.heap.size w w' := by
 have hu39 := Tryd.underlying39
 have hu46 := Tryd.underlying46
 have HR0_3 := Aside0.mk hr0_3
 have HC0_3 := Aside0.mk hc0_3
 clear hr0_3 hc0_3
 have HT := Aside0.mk hT
 clear hT
 have HB := Aside0.mk (Below.refl w.heap.size w)
 have H : (if a0_1.toList = ([] : List UInt8) then (if a0_2.toList = ([] : List UInt8) then (some false) else ((impl_isPlain.f k a0_2).bind fun t292 => (if t292 = true then (some ((l0_3.length : Int) == 0)) else (some false)))) else ((impl_isQualified.f k a0_1).bind fun t293 => (if t293 = true then (if a0_2.toList = ([] : List UInt8) then (impl_Item_isGood.j0 k (decide ((l0_3.length : Int) > 10)) a0_0 a0_1 a0_2 l0_3) else (impl_Item_isGood.j0 k true a0_0 a0_1 a0_2 l0_3)) else (impl_Item_isGood.j0 k true a0_0 a0_1 a0_2 l0_3)))) = some r := h
 clear h
 by_cases c2 : a0_1.toList = ([] : List UInt8)
 ·rw [if_pos c2] at H
  have c2b0 := beq_iff_eq.mpr c2
  have c2b1 := bne_eq_false_iff_eq.mpr c2
  clear c2
  by_cases c3 : a0_2.toList = ([] : List UInt8)
  ·rw [if_pos c3] at H
   have c3b0 := beq_iff_eq.mpr c3
   have c3b1 := bne_eq_false_iff_eq.mpr c3
   clear c3
   obtain rfl := Option.some.inj H
   go_enter Tryd.func71, Tryd.ntmps71
   go_wp2_with (first | ((with_reducible refine gate_dst (N := 1) rfl ?_); (try (refine gate_guard (by rfl) ?_; dsimp only)); refine box_event ?hg (N := 1) ?hd (cs := #[.int .i64 a0_0, .string a0_1, .string a0_2, .slice A0_3 l0_3.length c0_3]) (t := 39) ?hr ?_; (case hd => rfl); (case hg => rfl); (case hr => exact dq0); intro gb291 hg w4 hbox hb; have n0_ := Aside0.mk (below_step dq27 hb); have n1_ := Aside0.mk (hbox); have n2_ := Aside0.mk ((dq33 : w.heap.size ≤ gb291)); have n3_ := Aside0.mk ((dq33 : w.heap.size ≤ gb291)); clear HB; have HB := n0_; have BK291 := n1_; have GW291 := n2_; have GE291 := n3_; clear n0_ n1_ n2_ n3_; clear hb hbox hg; obtain ⟨⟨hcz5_0, hcz5_1, hcz5_2, hcz5_3⟩, hfz5_0, hfz5_1, hfz5_2, hfz5_3⟩ := blkC4 BK291.out))
   go_ret
   exact ⟨dq29, dq97⟩
  rw [if_neg c3] at H
  have c3b0 := beq_eq_false_iff_ne.mpr c3
  have c3b1 := bne_iff_ne.mpr c3
  replace H := Option.bind_eq_some_iff.mp H
  obtain ⟨t292, A60, H⟩ := H
  replace H : (if t292 = true then (some ((l0_3.length : Int) == 0)) else (some false)) = some r := H
  have A6 := Aside0.mk A60
  clear A60
  by_cases c7 : t292 = true
  rotate_left
  ·replace c7 := Bool.eq_false_iff.mpr c7
   subst c7
   have H1 : (some false) = some r := by rw [if_neg (show ¬ (false = true) by decide)] at H; exact H
   clear H
   have H := H1
   clear H1
   obtain rfl := Option.some.inj H
   go_enter Tryd.func71, Tryd.ntmps71
   go_wp2_with (first | ((with_reducible refine gate_dst (N := 1) rfl ?_); (try (refine gate_guard (by rfl) ?_; dsimp only)); refine box_event ?hg (N := 1) ?hd (cs := #[.int .i64 a0_0, .string a0_1, .string a0_2, .slice A0_3 l0_3.length c0_3]) (t := 39) ?hr ?_; (case hd => rfl); (case hg => rfl); (case hr => exact dq0); intro gb291 hg w12 hbox hb; have n0_ := Aside0.mk (below_step dq27 hb); have n1_ := Aside0.mk (hbox); have n2_ := Aside0.mk ((dq33 : w.heap.size ≤ gb291)); have n3_ := Aside0.mk ((dq33 : w.heap.size ≤ gb291)); clear HB; have HB := n0_; have BK291 := n1_; have GW291 := n2_; have GE291 := n3_; clear n0_ n1_ n2_ n3_; clear hb hbox hg; obtain ⟨⟨hcz13_0, hcz13_1, hcz13_2, hcz13_3⟩, hfz13_0, hfz13_1, hfz13_2, hfz13_3⟩ := blkC4 BK291.out) | (go_at_call 96; (with_reducible refine (impl_isPlain.calls k a0_2 false _ ?side1 A6.out).mono ?_); (case side1 => exact dq13); rintro e w14 ⟨rfl, hb⟩; have n0_ := Aside0.mk (blk_below (g := gb291) (o := .cells #[.int .i64 a0_0, .string a0_1, .string a0_2, .slice A0_3 l0_3.length c0_3] 39 (0, 0)) dq98 hb); have n1_ := Aside0.mk (below_step dq97 hb); clear BK291; clear HB; have BK291 := n0_; have HB := n1_; clear n0_ n1_; (try clear hb); (try clear hb2); (try clear hk); (try clear hi)))
   go_ret
   exact ⟨dq29, dq97⟩
  subst c7
  have H1 : (some ((l0_3.length : Int) == 0)) = some r := by rw [if_pos rfl] at H; exact H
  clear H
  have H := H1
  clear H1
  obtain rfl := Option.some.inj H
  go_enter Tryd.func71, Tryd.ntmps71
  go_wp2_with (first | ((with_reducible refine gate_dst (N := 1) rfl ?_); (try (refine gate_guard (by rfl) ?_; dsimp only)); refine box_event ?hg (N := 1) ?hd (cs := #[.int .i64 a0_0, .string a0_1, .string a0_2, .slice A0_3 l0_3.length c0_3]) (t := 39) ?hr ?_; (case hd => rfl); (case hg => rfl); (case hr => exact dq0); intro gb291 hg w8 hbox hb; have n0_ := Aside0.mk (below_step dq27 hb); have n1_ := Aside0.mk (hbox); have n2_ := Aside0.mk ((dq33 : w.heap.size ≤ gb291)); have n3_ := Aside0.mk ((dq33 : w.heap.size ≤ gb291)); clear HB; have HB := n0_; have BK291 := n1_; have GW291 := n2_; have GE291 := n3_; clear n0_ n1_ n2_ n3_; clear hb hbox hg; obtain ⟨⟨hcz9_0, hcz9_1, hcz9_2, hcz9_3⟩, hfz9_0, hfz9_1, hfz9_2, hfz9_3⟩ := blkC4 BK291.out) | (go_at_call 96; (with_reducible refine (impl_isPlain.calls k a0_2 true _ ?side1 A6.out).mono ?_); (case side1 => exact dq13); rintro e w10 ⟨rfl, hb⟩; have n0_ := Aside0.mk (blk_below (g := gb291) (o := .cells #[.int .i64 a0_0, .string a0_1, .string a0_2, .slice A0_3 l0_3.length c0_3] 39 (0, 0)) dq98 hb); have n1_ := Aside0.mk (below_step dq97 hb); clear BK291; clear HB; have BK291 := n0_; have HB := n1_; clear n0_ n1_; (try clear hb); (try clear hb2); (try clear hk); (try clear hi); obtain ⟨⟨hcz11_0, hcz11_1, hcz11_2, hcz11_3⟩, hfz11_0, hfz11_1, hfz11_2, hfz11_3⟩ := blkC4 BK291.out))
  go_ret
  exact ⟨dq29, dq97⟩
 rw [if_neg c2] at H
 have c2b0 := beq_eq_false_iff_ne.mpr c2
 have c2b1 := bne_iff_ne.mpr c2
 have HC15 := Aside0.mk H
 clear H
 go_enter Tryd.func71, Tryd.ntmps71
 go_upto_region 3 with (first | ((with_reducible refine gate_dst (N := 1) rfl ?_); (try (refine gate_guard (by rfl) ?_; dsimp only)); refine box_event ?hg (N := 1) ?hd (cs := #[.int .i64 a0_0, .string a0_1, .string a0_2, .slice A0_3 l0_3.length c0_3]) (t := 39) ?hr ?_; (case hd => rfl); (case hg => rfl); (case hr => exact dq0); intro gb291 hg w16 hbox hb; have n0_ := Aside0.mk (below_step dq27 hb); have n1_ := Aside0.mk (hbox); have n2_ := Aside0.mk ((dq33 : w.heap.size ≤ gb291)); have n3_ := Aside0.mk ((dq33 : w.heap.size ≤ gb291)); clear HB; have HB := n0_; have BK291 := n1_; have GW291 := n2_; have GE291 := n3_; clear n0_ n1_ n2_ n3_; clear hb hbox hg; obtain ⟨⟨hcz17_0, hcz17_1, hcz17_2, hcz17_3⟩, hfz17_0, hfz17_1, hfz17_2, hfz17_3⟩ := blkC4 BK291.out))
 (try simp only [Act.put, List.setIfInBounds_toArray, List.set_cons_zero, List.set_cons_succ])
 go_cut [38] (fun v38 wc => ∃ (kq : Nat) (x38_14 : Bool), v38 = .bool x38_14 ∧ Aside0 (impl_Item_isGood.j0 kq x38_14 a0_0 a0_1 a0_2 l0_3 = some r) ∧ Aside0 (kq ≤ k) ∧ Aside0 (wc.heap[gb291]? = some (.cells #[.int .i64 a0_0, .string a0_1, .string a0_2, (.slice A0_3 l0_3.length c0_3)] 39 (0, 0))) ∧ Aside0 (Below w.heap.size w wc))
 case first =>
  have H := HC15.out
  clear HC15
  replace H := Option.bind_eq_some_iff.mp H
  obtain ⟨t293, A180, H⟩ := H
  replace H : (if t293 = true then (if a0_2.toList = ([] : List UInt8) then (impl_Item_isGood.j0 k (decide ((l0_3.length : Int) > 10)) a0_0 a0_1 a0_2 l0_3) else (impl_Item_isGood.j0 k true a0_0 a0_1 a0_2 l0_3)) else (impl_Item_isGood.j0 k true a0_0 a0_1 a0_2 l0_3)) = some r := H
  have A18 := Aside0.mk A180
  clear A180
  by_cases c19 : t293 = true
  rotate_left
  ·replace c19 := Bool.eq_false_iff.mpr c19
   subst c19
   have H1 : (impl_Item_isGood.j0 k true a0_0 a0_1 a0_2 l0_3) = some r := by rw [if_neg (show ¬ (false = true) by decide)] at H; exact H
   clear H
   have H := H1
   clear H1
   have H' := Aside0.mk H
   clear H
   obtain ⟨⟨hcz27_0, hcz27_1, hcz27_2, hcz27_3⟩, hfz27_0, hfz27_1, hfz27_2, hfz27_3⟩ := blkC4 BK291.out
   go_wp2_with (first | ((with_reducible refine gate_callee (f := 97) rfl ?_); refine goesL_ (some 26) rfl rfl Tryd.func97 dq24 rfl #[.string a0_1] rfl dq23 ?_; (with_reducible refine (impl_isQualified.calls k a0_1 false _ A18.out).mono ?_); rintro e w28 ⟨rfl, hb⟩; refine ⟨_, rfl, ?_⟩; have n0_ := Aside0.mk (blk_below (g := gb291) (o := .cells #[.int .i64 a0_0, .string a0_1, .string a0_2, .slice A0_3 l0_3.length c0_3] 39 (0, 0)) dq98 hb); have n1_ := Aside0.mk (below_step dq97 hb); clear BK291; clear HB; have BK291 := n0_; have HB := n1_; clear n0_ n1_; (try clear hb); (try clear hb2); (try clear hk); (try clear hi)))
   go_meet
   case rel => exact ⟨_, (true), dq19, H', ⟨dq26⟩, ⟨dq98⟩, ⟨dq97⟩⟩
  subst c19
  have H1 : (if a0_2.toList = ([] : List UInt8) then (impl_Item_isGood.j0 k (decide ((l0_3.length : Int) > 10)) a0_0 a0_1 a0_2 l0_3) else (impl_Item_isGood.j0 k true a0_0 a0_1 a0_2 l0_3)) = some r := by rw [if_pos rfl] at H; exact H
  clear H
  have H := H1
  clear H1
  by_cases c20 : a0_2.toList = ([] : List UInt8)
  rotate_left
  ·rw [if_neg c20] at H
   have c20b0 := beq_eq_false_iff_ne.mpr c20
   have c20b1 := bne_iff_ne.mpr c20
   (first | rw [c20b0] | (simp only [i64_w, i32_w]; rw [c20b0]) | skip)
   have H' := Aside0.mk H
   clear H
   obtain ⟨⟨hcz24_0, hcz24_1, hcz24_2, hcz24_3⟩, hfz24_0, hfz24_1, hfz24_2, hfz24_3⟩ := blkC4 BK291.out
   go_wp2_with (first | ((with_reducible refine gate_callee (f := 97) rfl ?_); refine goesL_ (some 26) rfl rfl Tryd.func97 dq24 rfl #[.string a0_1] rfl dq23 ?_; (with_reducible refine (impl_isQualified.calls k a0_1 true _ A18.out).mono ?_); rintro e w25 ⟨rfl, hb⟩; refine ⟨_, rfl, ?_⟩; have n0_ := Aside0.mk (blk_below (g := gb291) (o := .cells #[.int .i64 a0_0, .string a0_1, .string a0_2, .slice A0_3 l0_3.length c0_3] 39 (0, 0)) dq98 hb); have n1_ := Aside0.mk (below_step dq97 hb); clear BK291; clear HB; have BK291 := n0_; have HB := n1_; clear n0_ n1_; (try clear hb); (try clear hb2); (try clear hk); (try clear hi); obtain ⟨⟨hcz26_0, hcz26_1, hcz26_2, hcz26_3⟩, hfz26_0, hfz26_1, hfz26_2, hfz26_3⟩ := blkC4 BK291.out))
   go_meet
   case rel => exact ⟨_, (true), dq19, H', ⟨dq26⟩, ⟨dq98⟩, ⟨dq97⟩⟩
  rw [if_pos c20] at H
  have c20b0 := beq_iff_eq.mpr c20
  have c20b1 := bne_eq_false_iff_eq.mpr c20
  clear c20
  (first | rw [c20b0] | (simp only [i64_w, i32_w]; rw [c20b0]) | skip)
  have H' := Aside0.mk H
  clear H
  obtain ⟨⟨hcz21_0, hcz21_1, hcz21_2, hcz21_3⟩, hfz21_0, hfz21_1, hfz21_2, hfz21_3⟩ := blkC4 BK291.out
  go_wp2_with (first | ((with_reducible refine gate_callee (f := 97) rfl ?_); refine goesL_ (some 26) rfl rfl Tryd.func97 dq24 rfl #[.string a0_1] rfl dq23 ?_; (with_reducible refine (impl_isQualified.calls k a0_1 true _ A18.out).mono ?_); rintro e w22 ⟨rfl, hb⟩; refine ⟨_, rfl, ?_⟩; have n0_ := Aside0.mk (blk_below (g := gb291) (o := .cells #[.int .i64 a0_0, .string a0_1, .string a0_2, .slice A0_3 l0_3.length c0_3] 39 (0, 0)) dq98 hb); have n1_ := Aside0.mk (below_step dq97 hb); clear BK291; clear HB; have BK291 := n0_; have HB := n1_; clear n0_ n1_; (try clear hb); (try clear hb2); (try clear hk); (try clear hi); obtain ⟨⟨hcz23_0, hcz23_1, hcz23_2, hcz23_3⟩, hfz23_0, hfz23_1, hfz23_2, hfz23_3⟩ := blkC4 BK291.out))
  go_meet
  case rel => exact ⟨_, (decide ((l0_3.length : Int) > 10)), dq19, H', ⟨dq26⟩, ⟨dq98⟩, ⟨dq97⟩⟩
 clear HC15
 try clear c2
 try clear c2b0
 try clear c2b1
 try clear hcz17_0
 try clear hcz17_1
 try clear hcz17_2
 try clear hcz17_3
 try clear hfz17_0
 try clear hfz17_1
 try clear hfz17_2
 try clear hfz17_3
 obtain ⟨kq, x38_14, rfl, HA, HJ14, BK291, HB⟩ := hcut
 cases kq with
 | zero => exact absurd HA.out (by simp [impl_Item_isGood.j0])
 | succ kj14 =>
  have H := HA.out
  clear HA
  simp only [impl_Item_isGood.j0] at H
  by_cases c29 : x38_14 = true
  ·subst c29
   have H1 : (some false) = some r := by rw [if_pos rfl] at H; exact H
   clear H
   have H := H1
   clear H1
   obtain rfl := Option.some.inj H
   go_wp2
   go_ret
   exact ⟨dq29, dq97⟩
  replace c29 := Bool.eq_false_iff.mpr c29
  subst c29
  have H1 : (impl_Item_isGood.l0 kj14 l0_3 (l0_3.length : Int) 0 a0_0 a0_1 a0_2 l0_3) = some r := by rw [if_neg (show ¬ (false = true) by decide)] at H; exact H
  clear H
  have H := H1
  clear H1
  have H' := Aside0.mk H
  clear H
  obtain ⟨⟨hcz30_0, hcz30_1, hcz30_2, hcz30_3⟩, hfz30_0, hfz30_1, hfz30_2, hfz30_3⟩ := blkC4 BK291.out
  go_wp2
  go_loopg [42] kj14 (fun kq v42 w' => ∃ (x42_2 : Int), v42 = .int .i64 x42_2 ∧ Aside0 (impl_Item_isGood.l0 kq l0_3 (l0_3.length : Int) x42_2 a0_0 a0_1 a0_2 l0_3 = some r) ∧ Aside0 (kq ≤ kj14) ∧ Aside0 (w'.heap[gb291]? = some (.cells #[.int .i64 a0_0, .string a0_1, .string a0_2, (.slice A0_3 l0_3.length c0_3)] 39 (0, 0))) ∧ Aside0 (Below w.heap.size w w'))
  case atStart => exact ⟨(0), dq19, H', ⟨Nat.le_refl _⟩, ⟨dq98⟩, ⟨dq97⟩⟩
  clear H'
  try clear hcz30_0
  try clear hcz30_1
  try clear hcz30_2
  try clear hcz30_3
  try clear hfz30_0
  try clear hfz30_1
  try clear hfz30_2
  try clear hfz30_3
  obtain ⟨x42_2, rfl, HA, HK2, BK291, HB⟩ := hrel
  cases gk with
  | zero => exact absurd HA.out (by simp [impl_Item_isGood.l0])
  | succ k2 =>
   have H := HA.out
   clear HA
   simp only [impl_Item_isGood.l0] at H
   by_cases c31 : x42_2 < (l0_3.length : Int)
   rotate_left
   ·rw [if_neg c31] at H
    have c31b0 := decide_eq_false c31
    clear c31
    obtain rfl := Option.some.inj H
    go_wp2
    go_ret
    exact ⟨dq29, dq97⟩
   rw [if_pos c31] at H
   have c31b0 := decide_eq_true c31
   clear c31
   by_cases c32 : 0 ≤ x42_2
   rotate_left
   ·rw [if_neg c32] at H
    exact absurd H dq22
   rw [if_pos c32] at H
   have c32b0 := decide_eq_true c32
   clear c32
   by_cases c33 : x42_2 < (l0_3.length : Int)
   rotate_left
   ·rw [if_neg c33] at H
    exact absurd H dq22
   rw [if_pos c33] at H
   have c33b0 := decide_eq_true c33
   clear c33
   have HC34 := Aside0.mk H
   clear H
   have p294 : 0 ≤ (x42_2 : Int) := of_decide_eq_true dq20
   have q294 : x42_2 < (l0_3.length : Int) := of_decide_eq_true dq20
   obtain ⟨ad294, e294, hx294_0, hx294_1⟩ := at_T46 HR0_3.out x42_2 p294 q294
   cases e294
   replace hx294_0 := (HB.out.cell (World.block_lt_of_cell? w _ hx294_0)).trans hx294_0
   replace hx294_1 := (HB.out.cell (World.block_lt_of_cell? w _ hx294_1)).trans hx294_1
   replace p294 := eq_true p294
   replace q294 := eq_true q294
   go_upto_region 8 with (first | ((with_reducible refine gate_dst (N := 4) rfl ?_); (try (refine gate_guard (by rfl) ?_; dsimp only)); refine box_event ?hg (N := 4) ?hd (cs := #[.string (⟨#[]⟩ : ByteArray), .string (⟨#[]⟩ : ByteArray)]) (t := 46) ?hr ?_; (case hd => rfl); (case hg => rfl); (case hr => exact dq0); intro gb295 hg w35 hbox hb; have n0_ := Aside0.mk (blk_below (g := gb291) (o := .cells #[.int .i64 a0_0, .string a0_1, .string a0_2, .slice (some ad294) l0_3.length c0_3] 39 (0, 0)) dq98 hb); have n1_ := Aside0.mk (below_step dq97 hb); have n2_ := Aside0.mk (hbox); have n3_ := Aside0.mk ((dq101 : w.heap.size ≤ gb295)); have n4_ := Aside0.mk ((dq101 : w.heap.size ≤ gb295)); have n5_ := Aside0.mk ((dq100 : gb291 ≠ gb295)); have n6_ := Aside0.mk ((dq99 : gb295 ≠ gb291)); clear BK291; clear HB; have BK291 := n0_; have HB := n1_; have BK295 := n2_; have GW295 := n3_; have GE295 := n4_; have NB291_295 := n5_; have NB295_291 := n6_; clear n0_ n1_ n2_ n3_ n4_ n5_ n6_; clear hb hbox hg; have hnb36 := NB295_291.out; have hnc36 := NB291_295.out; obtain ⟨⟨hcz37_0, hcz37_1⟩, hfz37_0, hfz37_1⟩ := blkC2 BK295.out))
   (try simp only [Act.put, List.setIfInBounds_toArray, List.set_cons_zero, List.set_cons_succ])
   go_cut [56] (fun v56 wc => ∃ (kq : Nat) (x56_33 : Bool), v56 = .bool x56_33 ∧ Aside0 (impl_Item_isGood.j2 kq x42_2 l0_3 (l0_3.length : Int) x42_2 x56_33 a0_0 a0_1 a0_2 l0_3 ((rd_T46 l0_3 x42_2).f0) ((rd_T46 l0_3 x42_2).f1) = some r) ∧ Aside0 (kq ≤ k2) ∧ Aside0 (wc.heap[gb291]? = some (.cells #[.int .i64 a0_0, .string a0_1, .string a0_2, (.slice (some ad294) l0_3.length c0_3)] 39 (0, 0))) ∧ Aside0 (wc.heap[gb295]? = some (.cells #[.string ((rd_T46 l0_3 x42_2).f0), .string ((rd_T46 l0_3 x42_2).f1)] 46 (0, 0))) ∧ Aside0 (Below w.heap.size w wc))
   case first =>
    have H := HC34.out
    clear HC34
    replace H := Option.bind_eq_some_iff.mp H
    obtain ⟨t296, A380, H⟩ := H
    replace H : (if t296 = true then ((impl_isPlain.f k2 ((rd_T46 l0_3 x42_2).f1)).bind fun t297 => (impl_Item_isGood.j2 k2 x42_2 l0_3 (l0_3.length : Int) x42_2 (!t297) a0_0 a0_1 a0_2 l0_3 ((rd_T46 l0_3 x42_2).f0) ((rd_T46 l0_3 x42_2).f1))) else (impl_Item_isGood.j2 k2 x42_2 l0_3 (l0_3.length : Int) x42_2 true a0_0 a0_1 a0_2 l0_3 ((rd_T46 l0_3 x42_2).f0) ((rd_T46 l0_3 x42_2).f1))) = some r := H
    have A38 := Aside0.mk A380
    clear A380
    by_cases c39 : t296 = true
    rotate_left
    ·replace c39 := Bool.eq_false_iff.mpr c39
     subst c39
     have H1 : (impl_Item_isGood.j2 k2 x42_2 l0_3 (l0_3.length : Int) x42_2 true a0_0 a0_1 a0_2 l0_3 ((rd_T46 l0_3 x42_2).f0) ((rd_T46 l0_3 x42_2).f1)) = some r := by rw [if_neg (show ¬ (false = true) by decide)] at H; exact H
     clear H
     have H := H1
     clear H1
     have H' := Aside0.mk H
     clear H
     have hnb46 := NB295_291.out
     have hnc46 := NB291_295.out
     obtain ⟨⟨hcz47_0, hcz47_1⟩, hfz47_0, hfz47_1⟩ := blkC2 BK295.out
     go_wp2_with (first | ((with_reducible refine gate_callee (f := 97) rfl ?_); refine goesL_ (some 49) rfl rfl Tryd.func97 dq24 rfl #[.string ((rd_T46 l0_3 x42_2).f0)] rfl dq23 ?_; (with_reducible refine (impl_isQualified.calls k2 ((rd_T46 l0_3 x42_2).f0) false _ A38.out).mono ?_); rintro e w48 ⟨rfl, hb⟩; refine ⟨_, rfl, ?_⟩; have n0_ := Aside0.mk (blk_below (g := gb291) (o := .cells #[.int .i64 a0_0, .string a0_1, .string a0_2, .slice (some ad294) l0_3.length c0_3] 39 (0, 0)) dq105 hb); have n1_ := Aside0.mk (blk_below (g := gb295) (o := .cells #[.string ((rd_T46 l0_3 x42_2).f0), .string ((rd_T46 l0_3 x42_2).f1)] 46 (0, 0)) dq104 hb); have n2_ := Aside0.mk (below_step dq102 hb); clear BK291; clear BK295; clear HB; have BK291 := n0_; have BK295 := n1_; have HB := n2_; clear n0_ n1_ n2_; (try clear hb); (try clear hb2); (try clear hk); (try clear hi)))
     go_meet
     case rel => exact ⟨_, (true), dq19, H', ⟨by have := HJ14.out; have := HK2.out; first | omega | exact Nat.le_refl _⟩, ⟨dq98⟩, ⟨dq103⟩, ⟨dq102⟩⟩
    subst c39
    have H1 : ((impl_isPlain.f k2 ((rd_T46 l0_3 x42_2).f1)).bind fun t297 => (impl_Item_isGood.j2 k2 x42_2 l0_3 (l0_3.length : Int) x42_2 (!t297) a0_0 a0_1 a0_2 l0_3 ((rd_T46 l0_3 x42_2).f0) ((rd_T46 l0_3 x42_2).f1))) = some r := by rw [if_pos rfl] at H; exact H
    clear H
    have H := H1
    clear H1
    replace H := Option.bind_eq_some_iff.mp H
    obtain ⟨t297, A400, H⟩ := H
    replace H : (impl_Item_isGood.j2 k2 x42_2 l0_3 (l0_3.length : Int) x42_2 (!t297) a0_0 a0_1 a0_2 l0_3 ((rd_T46 l0_3 x42_2).f0) ((rd_T46 l0_3 x42_2).f1)) = some r := H
    have A40 := Aside0.mk A400
    clear A400
    have H' := Aside0.mk H
    clear H
    have hnb41 := NB295_291.out
    have hnc41 := NB291_295.out
    obtain ⟨⟨hcz42_0, hcz42_1⟩, hfz42_0, hfz42_1⟩ := blkC2 BK295.out
    go_wp2_with (first | ((with_reducible refine gate_callee (f := 97) rfl ?_); refine goesL_ (some 49) rfl rfl Tryd.func97 dq24 rfl #[.string ((rd_T46 l0_3 x42_2).f0)] rfl dq23 ?_; (with_reducible refine (impl_isQualified.calls k2 ((rd_T46 l0_3 x42_2).f0) true _ A38.out).mono ?_); rintro e w43 ⟨rfl, hb⟩; refine ⟨_, rfl, ?_⟩; have n0_ := Aside0.mk (blk_below (g := gb291) (o := .cells #[.int .i64 a0_0, .string a0_1, .string a0_2, .slice (some ad294) l0_3.length c0_3] 39 (0, 0)) dq105 hb); have n1_ := Aside0.mk (blk_below (g := gb295) (o := .cells #[.string ((rd_T46 l0_3 x42_2).f0), .string ((rd_T46 l0_3 x42_2).f1)] 46 (0, 0)) dq104 hb); have n2_ := Aside0.mk (below_step dq102 hb); clear BK291; clear BK295; clear HB; have BK291 := n0_; have BK295 := n1_; have HB := n2_; clear n0_ n1_ n2_; (try clear hb); (try clear hb2); (try clear hk); (try clear hi); obtain ⟨⟨hcz44_0, hcz44_1⟩, hfz44_0, hfz44_1⟩ := blkC2 BK295.out) | (go_at_call 96; (with_reducible refine (impl_isPlain.calls k2 ((rd_T46 l0_3 x42_2).f1) t297 _ ?side1 A40.out).mono ?_); (case side1 => exact Gl_below HT.out dq102); rintro e w45 ⟨rfl, hb⟩; have n0_ := Aside0.mk (blk_below (g := gb291) (o := .cells #[.int .i64 a0_0, .string a0_1, .string a0_2, .slice (some ad294) l0_3.length c0_3] 39 (0, 0)) dq98 hb); have n1_ := Aside0.mk (blk_below (g := gb295) (o := .cells #[.string ((rd_T46 l0_3 x42_2).f0), .string ((rd_T46 l0_3 x42_2).f1)] 46 (0, 0)) dq103 hb); have n2_ := Aside0.mk (below_step dq102 hb); clear BK291; clear BK295; clear HB; have BK291 := n0_; have BK295 := n1_; have HB := n2_; clear n0_ n1_ n2_; (try clear hb); (try clear hb2); (try clear hk); (try clear hi)))
    go_meet
    case rel => exact ⟨_, (!t297), dq19, H', ⟨by have := HJ14.out; have := HK2.out; first | omega | exact Nat.le_refl _⟩, ⟨dq98⟩, ⟨dq103⟩, ⟨dq102⟩⟩
   clear HC34
   try clear c31b0
   try clear c32b0
   try clear c33b0
   try clear hcz37_0
   try clear hcz37_1
   try clear hfz37_0
   try clear hfz37_1
   try clear hx294_0
   try clear hx294_1
   try clear p294
   try clear q294
   obtain ⟨kq, x56_33, rfl, HA, HJ33, BK291, BK295, HB⟩ := hcut
   cases kq with
   | zero => exact absurd HA.out (by simp [impl_Item_isGood.j2])
   | succ kj33 =>
    have H := HA.out
    clear HA
    simp only [impl_Item_isGood.j2] at H
    by_cases c49 : x56_33 = true
    ·subst c49
     have H1 : (some false) = some r := by rw [if_pos rfl] at H; exact H
     clear H
     have H := H1
     clear H1
     obtain rfl := Option.some.inj H
     go_wp2
     go_ret
     exact ⟨dq29, dq102⟩
    replace c49 := Bool.eq_false_iff.mpr c49
    subst c49
    have H1 : (if 0 ≤ x42_2 then (if x42_2 ≤ (l0_3.length : Int) then ((some (l0_3.take (x42_2 : Int).toNat : List (S46))).bind fun y298 => (impl_Item_isGood.l1 kj33 l0_3 (l0_3.length : Int) x42_2 y298 (y298.length : Int) 0 a0_0 a0_1 a0_2 l0_3 ((rd_T46 l0_3 x42_2).f0) ((rd_T46 l0_3 x42_2).f1))) else (none)) else (none)) = some r := by rw [if_neg (show ¬ (false = true) by decide)] at H; exact H
    clear H
    have H := H1
    clear H1
    by_cases c50 : 0 ≤ x42_2
    rotate_left
    ·rw [if_neg c50] at H
     exact absurd H dq22
    rw [if_pos c50] at H
    have c50b0 := eq_true c50
    have c50b1 := decide_eq_true c50
    clear c50
    by_cases c51 : x42_2 ≤ (l0_3.length : Int)
    rotate_left
    ·rw [if_neg c51] at H
     exact absurd H dq22
    rw [if_pos c51] at H
    have c51b0 := eq_true c51
    have c51b1 := decide_eq_true c51
    clear c51
    obtain ⟨y298, hy298⟩ : ∃ y_ : List (S46), y_ = (l0_3.take (x42_2 : Int).toNat) := ⟨_, rfl⟩
    replace H : (impl_Item_isGood.l1 kj33 l0_3 (l0_3.length : Int) x42_2 y298 (y298.length : Int) 0 a0_0 a0_1 a0_2 l0_3 ((rd_T46 l0_3 x42_2).f0) ((rd_T46 l0_3 x42_2).f1)) = some r := by first | (rw [hy298]; with_reducible exact H) | (have H2_ := (Option.bind_some _ _).symm.trans H; rw [hy298]; with_reducible exact H2_) | (have H2_ := (Option.bind_some _ _).symm.trans H; with_reducible exact H2_) | with_reducible exact H | (rw [hy298]; exact H) | exact H
    have Ny298 := Aside0.mk hy298
    clear hy298
    have H' := Aside0.mk H
    clear H
    have hnb52 := NB291_295.out
    have hnc52 := NB295_291.out
    obtain ⟨⟨hcz53_0, hcz53_1, hcz53_2, hcz53_3⟩, hfz53_0, hfz53_1, hfz53_2, hfz53_3⟩ := blkC4 BK291.out
    have q54 : (x42_2 : Int) ≤ ((l0_3.length : Int) : Int) := of_decide_eq_true dq20
    obtain ⟨i054, hi054, _, hsz54, _⟩ := info_parts info46
    have hroom54 : l0_3.length ≤ c0_3 := HC0_3.out
    have hC54 : Kd.C k46 _ (some ad294) l0_3.length l0_3 := HR0_3.out
    have hcut54 := cut_to (P := Tryd.prog) 37 46 .i64 Tryd.underlying37 hi054 (some ad294) l0_3.length c0_3 x42_2 (of_decide_eq_true dq20) q54 hroom54
    have hr54 := Kd.C_take (m := (x42_2 : Int).toNat) hC54 dq25
    have hy54 : y298.length = (x42_2 : Int).toNat := (by rw [Ny298.out, List.length_take]; omega)
    rw [← Ny298.out] at hr54
    rw [← hy54] at hcut54
    have HR301 := Aside0.mk hr54
    have HC301 := Aside0.mk (show y298.length ≤ c0_3 from by omega)
    clear hr54 hC54 hroom54 hi054 hsz54
    have KY54 := Aside0.mk hy54
    clear hy54
    replace q54 := eq_true q54
    go_wp2
    go_loopg [62] kj33 (fun kq v62 w' => ∃ (x62_4 : Int), v62 = .int .i64 x62_4 ∧ Aside0 (impl_Item_isGood.l1 kq l0_3 (l0_3.length : Int) x42_2 y298 (y298.length : Int) x62_4 a0_0 a0_1 a0_2 l0_3 ((rd_T46 l0_3 x42_2).f0) ((rd_T46 l0_3 x42_2).f1) = some r) ∧ Aside0 (kq ≤ kj33) ∧ Aside0 (w'.heap[gb291]? = some (.cells #[.int .i64 a0_0, .string a0_1, .string a0_2, (.slice (some ad294) l0_3.length c0_3)] 39 (0, 0))) ∧ Aside0 (w'.heap[gb295]? = some (.cells #[.string ((rd_T46 l0_3 x42_2).f0), .string ((rd_T46 l0_3 x42_2).f1)] 46 (0, 0))) ∧ Aside0 (Below w.heap.size w w'))
    case atStart => exact ⟨(0), dq19, H', ⟨Nat.le_refl _⟩, ⟨dq98⟩, ⟨dq103⟩, ⟨dq102⟩⟩
    clear H'
    try clear c50b0
    try clear c50b1
    try clear c51b0
    try clear c51b1
    try clear q54
    try clear hcz53_0
    try clear hcz53_1
    try clear hcz53_2
    try clear hcz53_3
    try clear hfz53_0
    try clear hfz53_1
    try clear hfz53_2
    try clear hfz53_3
    obtain ⟨x62_4, rfl, HA, HK4, BK291, BK295, HB⟩ := hrel
    cases gk with
    | zero => exact absurd HA.out (by simp [impl_Item_isGood.l1])
    | succ k4 =>
     have H := HA.out
     clear HA
     simp only [impl_Item_isGood.l1] at H
     by_cases c55 : x62_4 < (y298.length : Int)
     rotate_left
     ·rw [if_neg c55] at H
      have c55b0 := decide_eq_false c55
      clear c55
      have H' := Aside0.mk H
      clear H
      go_wp2
      go_roundg k4
      case measure => have := HJ14.out; have := HK2.out; have := HJ33.out; have := HK4.out; omega
      case rel => exact ⟨(wrap64 (x42_2 + 1)), dq19, H', ⟨by have := HJ14.out; have := HK2.out; have := HJ33.out; have := HK4.out; omega⟩, ⟨dq98⟩, ⟨dq102⟩⟩
     rw [if_pos c55] at H
     have c55b0 := decide_eq_true c55
     clear c55
     by_cases c56 : 0 ≤ x62_4
     rotate_left
     ·rw [if_neg c56] at H
      exact absurd H dq22
     rw [if_pos c56] at H
     have c56b0 := decide_eq_true c56
     clear c56
     by_cases c57 : x62_4 < (y298.length : Int)
     rotate_left
     ·rw [if_neg c57] at H
      exact absurd H dq22
     rw [if_pos c57] at H
     have c57b0 := decide_eq_true c57
     clear c57
     by_cases c58 : ((rd_T46 l0_3 x42_2).f0).toList = ((rd_T46 y298 x62_4).f0).toList
     ·rw [if_pos c58] at H
      have c58b0 := beq_iff_eq.mpr c58
      have c58b1 := bne_eq_false_iff_eq.mpr c58
      clear c58
      obtain rfl := Option.some.inj H
      have p302 : 0 ≤ (x62_4 : Int) := of_decide_eq_true dq20
      have q302 : x62_4 < (y298.length : Int) := of_decide_eq_true dq20
      obtain ⟨ad302, e302, hx302_0, hx302_1⟩ := at_T46 HR301.out x62_4 p302 q302
      obtain rfl : ad294 = ad302 := (by injection e302)
      replace hx302_0 := (HB.out.cell (World.block_lt_of_cell? w _ hx302_0)).trans hx302_0
      replace hx302_1 := (HB.out.cell (World.block_lt_of_cell? w _ hx302_1)).trans hx302_1
      replace p302 := eq_true p302
      replace q302 := eq_true q302
      go_wp2_with (first | ((with_reducible refine gate_dst (N := 6) rfl ?_); (try (refine gate_guard (by rfl) ?_; dsimp only)); refine box_event ?hg (N := 6) ?hd (cs := #[.string (⟨#[]⟩ : ByteArray), .string (⟨#[]⟩ : ByteArray)]) (t := 46) ?hr ?_; (case hd => rfl); (case hg => rfl); (case hr => exact dq0); intro gb303 hg w59 hbox hb; have n0_ := Aside0.mk (blk_below (g := gb291) (o := .cells #[.int .i64 a0_0, .string a0_1, .string a0_2, .slice (some ad294) l0_3.length c0_3] 39 (0, 0)) dq98 hb); have n1_ := Aside0.mk (blk_below (g := gb295) (o := .cells #[.string ((rd_T46 l0_3 x42_2).f0), .string ((rd_T46 l0_3 x42_2).f1)] 46 (0, 0)) dq103 hb); have n2_ := Aside0.mk (below_step dq102 hb); have n3_ := Aside0.mk (hbox); have n4_ := Aside0.mk ((dq108 : w.heap.size ≤ gb303)); have n5_ := Aside0.mk ((dq108 : w.heap.size ≤ gb303)); have n6_ := Aside0.mk ((dq100 : gb291 ≠ gb303)); have n7_ := Aside0.mk ((dq99 : gb303 ≠ gb291)); have n8_ := Aside0.mk ((dq107 : gb295 ≠ gb303)); have n9_ := Aside0.mk ((dq106 : gb303 ≠ gb295)); clear BK291; clear BK295; clear HB; have BK291 := n0_; have BK295 := n1_; have HB := n2_; have BK303 := n3_; have GW303 := n4_; have GE303 := n5_; have NB291_303 := n6_; have NB303_291 := n7_; have NB295_303 := n8_; have NB303_295 := n9_; clear n0_ n1_ n2_ n3_ n4_ n5_ n6_ n7_ n8_ n9_; clear hb hbox hg; have hnb60 := NB303_291.out; have hnc60 := NB291_303.out; have hnb61 := NB303_295.out; have hnc61 := NB295_303.out; obtain ⟨⟨hcz62_0, hcz62_1⟩, hfz62_0, hfz62_1⟩ := blkC2 BK303.out; have hnb63 := NB295_291.out; have hnc63 := NB291_295.out; obtain ⟨⟨hcz64_0, hcz64_1⟩, hfz64_0, hfz64_1⟩ := blkC2 BK295.out))
      go_ret
      exact ⟨dq29, dq109⟩
     rw [if_neg c58] at H
     have c58b0 := beq_eq_false_iff_ne.mpr c58
     have c58b1 := bne_iff_ne.mpr c58
     have H' := Aside0.mk H
     clear H
     have p302 : 0 ≤ (x62_4 : Int) := of_decide_eq_true dq20
     have q302 : x62_4 < (y298.length : Int) := of_decide_eq_true dq20
     obtain ⟨ad302, e302, hx302_0, hx302_1⟩ := at_T46 HR301.out x62_4 p302 q302
     obtain rfl : ad294 = ad302 := (by injection e302)
     replace hx302_0 := (HB.out.cell (World.block_lt_of_cell? w _ hx302_0)).trans hx302_0
     replace hx302_1 := (HB.out.cell (World.block_lt_of_cell? w _ hx302_1)).trans hx302_1
     replace p302 := eq_true p302
     replace q302 := eq_true q302
     go_wp2_with (first | ((with_reducible refine gate_dst (N := 6) rfl ?_); (try (refine gate_guard (by rfl) ?_; dsimp only)); refine box_event ?hg (N := 6) ?hd (cs := #[.string (⟨#[]⟩ : ByteArray), .string (⟨#[]⟩ : ByteArray)]) (t := 46) ?hr ?_; (case hd => rfl); (case hg => rfl); (case hr => exact dq0); intro gb303 hg w65 hbox hb; have n0_ := Aside0.mk (blk_below (g := gb291) (o := .cells #[.int .i64 a0_0, .string a0_1, .string a0_2, .slice (some ad294) l0_3.length c0_3] 39 (0, 0)) dq98 hb); have n1_ := Aside0.mk (blk_below (g := gb295) (o := .cells #[.string ((rd_T46 l0_3 x42_2).f0), .string ((rd_T46 l0_3 x42_2).f1)] 46 (0, 0)) dq103 hb); have n2_ := Aside0.mk (below_step dq102 hb); have n3_ := Aside0.mk (hbox); have n4_ := Aside0.mk ((dq108 : w.heap.size ≤ gb303)); have n5_ := Aside0.mk ((dq108 : w.heap.size ≤ gb303)); have n6_ := Aside0.mk ((dq100 : gb291 ≠ gb303)); have n7_ := Aside0.mk ((dq99 : gb303 ≠ gb291)); have n8_ := Aside0.mk ((dq107 : gb295 ≠ gb303)); have n9_ := Aside0.mk ((dq106 : gb303 ≠ gb295)); clear BK291; clear BK295; clear HB; have BK291 := n0_; have BK295 := n1_; have HB := n2_; have BK303 := n3_; have GW303 := n4_; have GE303 := n5_; have NB291_303 := n6_; have NB303_291 := n7_; have NB295_303 := n8_; have NB303_295 := n9_; clear n0_ n1_ n2_ n3_ n4_ n5_ n6_ n7_ n8_ n9_; clear hb hbox hg; have hnb66 := NB303_291.out; have hnc66 := NB291_303.out; have hnb67 := NB303_295.out; have hnc67 := NB295_303.out; obtain ⟨⟨hcz68_0, hcz68_1⟩, hfz68_0, hfz68_1⟩ := blkC2 BK303.out; have hnb69 := NB295_291.out; have hnc69 := NB291_295.out; obtain ⟨⟨hcz70_0, hcz70_1⟩, hfz70_0, hfz70_1⟩ := blkC2 BK295.out))
     go_roundg k4
     case measure => have := HJ14.out; have := HK2.out; have := HJ33.out; have := HK4.out; omega
     case rel => exact ⟨(wrap64 (x62_4 + 1)), dq19, H', ⟨by have := HJ14.out; have := HK2.out; have := HJ33.out; have := HK4.out; omega⟩, ⟨by refine blk_up ?_; refine blk_far ?_ NB291_303.out _; refine blk_up ?_; refine blk_far ?_ NB291_303.out _; refine blk_up ?_; exact BK291.out⟩, ⟨by refine blk_up ?_; refine blk_far ?_ NB295_303.out _; refine blk_up ?_; refine blk_far ?_ NB295_303.out _; refine blk_up ?_; exact BK295.out⟩, ⟨dq109⟩⟩

/-! ### impl_Item_bytes: function 72 -/
def impl_Item_bytes.l0 : Nat → Int → List (S46) → Int → Int → Option (Int)
 | 0, _, _, _, _ => none
 | k + 1, x3, x14, x15, x16 => if x16 < x15 then (if 0 ≤ x16 then (if x16 < (x14.length : Int) then (impl_Item_bytes.l0 k (wrap64 (x3 + (wrap64 ((((rd_T46 x14 x16).f0).size : Int) + (((rd_T46 x14 x16).f1).size : Int))))) x14 x15 (wrap64 (x16 + 1))) else (none)) else (none)) else (some x3)
def impl_Item_bytes.f (k : Nat) (a0_0 : Int) (a0_1 : ByteArray) (a0_2 : ByteArray) (l0_3 : List (S46)) : Option (Int) := impl_Item_bytes.l0 k (wrap64 ((a0_1.size : Int) + (a0_2.size : Int))) l0_3 (l0_3.length : Int) 0
set_option maxHeartbeats 8000000 in
set_option maxRecDepth 100000 in
theorem impl_Item_bytes.calls (k : Nat) (a0_0 : Int) (a0_1 : ByteArray) (a0_2 : ByteArray) (A0_3 : Option Addr) (c0_3 : Nat) (l0_3 : List (S46)) (r : Int) (w : World) (hr0_3 : Kd.C k46 w A0_3 l0_3.length l0_3) (hc0_3 : l0_3.length ≤ c0_3) (h : impl_Item_bytes.f k a0_0 a0_1 a0_2 l0_3 = some r) :
  Calls Tryd.prog 72 #[.agg #[.int .i64 a0_0, .string a0_1, .string a0_2, .slice A0_3 l0_3.length c0_3]] w fun e w' => e = .returned (.int .i64 r) ∧ Below w.heap.size w w' := by
 have hu39 := Tryd.underlying39
 have hu46 := Tryd.underlying46
 have HR0_3 := Aside0.mk hr0_3
 have HC0_3 := Aside0.mk hc0_3
 clear hr0_3 hc0_3
 have HB := Aside0.mk (Below.refl w.heap.size w)
 have H : (impl_Item_bytes.l0 k (wrap64 ((a0_1.size : Int) + (a0_2.size : Int))) l0_3 (l0_3.length : Int) 0) = some r := h
 clear h
 have H' := Aside0.mk H
 clear H
 go_enter Tryd.func72, Tryd.ntmps72
 go_wp2_with (first | ((with_reducible refine gate_dst (N := 1) rfl ?_); refine box_event ?hg (N := 1) ?hd (cs := #[.int .i64 a0_0, .string a0_1, .string a0_2, .slice A0_3 l0_3.length c0_3]) (t := 39) ?hr ?_; (case hd => rfl); (case hg => rfl); (case hr => exact dq0); intro gb304 hg w2 hbox hb; have n0_ := Aside0.mk (below_step dq27 hb); have n1_ := Aside0.mk (hbox); have n2_ := Aside0.mk ((dq33 : w.heap.size ≤ gb304)); have n3_ := Aside0.mk ((dq33 : w.heap.size ≤ gb304)); clear HB; have HB := n0_; have BK304 := n1_; have GW304 := n2_; have GE304 := n3_; clear n0_ n1_ n2_ n3_; clear hb hbox hg; obtain ⟨⟨hcz3_0, hcz3_1, hcz3_2, hcz3_3⟩, hfz3_0, hfz3_1, hfz3_2, hfz3_3⟩ := blkC4 BK304.out))
 go_loopg [3, 16] k (fun kq v3 v16 w' => ∃ (x3_1 : Int) (x16_1 : Int), v3 = .int .i64 x3_1 ∧ v16 = .int .i64 x16_1 ∧ Aside0 (impl_Item_bytes.l0 kq x3_1 l0_3 (l0_3.length : Int) x16_1 = some r) ∧ Aside0 (kq ≤ k) ∧ Aside0 (w'.heap[gb304]? = some (.cells #[.int .i64 a0_0, .string a0_1, .string a0_2, (.slice A0_3 l0_3.length c0_3)] 39 (0, 0))) ∧ Aside0 (Below w.heap.size w w'))
 case atStart => exact ⟨(wrap64 ((a0_1.size : Int) + (a0_2.size : Int))), (0), dq19, dq19, H', ⟨Nat.le_refl _⟩, ⟨by refine blk_up ?_; exact BK304.out⟩, ⟨dq110⟩⟩
 clear H'
 try clear p2
 try clear hcz3_0
 try clear hcz3_1
 try clear hcz3_2
 try clear hcz3_3
 try clear hfz3_0
 try clear hfz3_1
 try clear hfz3_2
 try clear hfz3_3
 obtain ⟨x3_1, x16_1, rfl, rfl, HA, HK1, BK304, HB⟩ := hrel
 cases gk with
 | zero => exact absurd HA.out (by simp [impl_Item_bytes.l0])
 | succ k1 =>
  have H := HA.out
  clear HA
  simp only [impl_Item_bytes.l0] at H
  by_cases c4 : x16_1 < (l0_3.length : Int)
  rotate_left
  ·rw [if_neg c4] at H
   have c4b0 := decide_eq_false c4
   clear c4
   obtain rfl := Option.some.inj H
   go_wp2
   go_ret
   exact ⟨dq29, dq110⟩
  rw [if_pos c4] at H
  have c4b0 := decide_eq_true c4
  clear c4
  by_cases c5 : 0 ≤ x16_1
  rotate_left
  ·rw [if_neg c5] at H
   exact absurd H dq22
  rw [if_pos c5] at H
  have c5b0 := decide_eq_true c5
  clear c5
  by_cases c6 : x16_1 < (l0_3.length : Int)
  rotate_left
  ·rw [if_neg c6] at H
   exact absurd H dq22
  rw [if_pos c6] at H
  have c6b0 := decide_eq_true c6
  clear c6
  have H' := Aside0.mk H
  clear H
  have p305 : 0 ≤ (x16_1 : Int) := of_decide_eq_true dq20
  have q305 : x16_1 < (l0_3.length : Int) := of_decide_eq_true dq20
  obtain ⟨ad305, e305, hx305_0, hx305_1⟩ := at_T46 HR0_3.out x16_1 p305 q305
  cases e305
  replace hx305_0 := (HB.out.cell (World.block_lt_of_cell? w _ hx305_0)).trans hx305_0
  replace hx305_1 := (HB.out.cell (World.block_lt_of_cell? w _ hx305_1)).trans hx305_1
  replace p305 := eq_true p305
  replace q305 := eq_true q305
  go_wp2_with (first | ((with_reducible refine gate_dst (N := 5) rfl ?_); refine box_event ?hg (N := 5) ?hd (cs := #[.string (⟨#[]⟩ : ByteArray), .string (⟨#[]⟩ : ByteArray)]) (t := 46) ?hr ?_; (case hd => rfl); (case hg => rfl); (case hr => exact dq0); intro gb306 hg w7 hbox hb; have n0_ := Aside0.mk (blk_below (g := gb304) (o := .cells #[.int .i64 a0_0, .string a0_1, .string a0_2, .slice (some ad305) l0_3.length c0_3] 39 (0, 0)) (by refine blk_up ?_; exact BK304.out) hb); have n1_ := Aside0.mk (below_step dq110 hb); have n2_ := Aside0.mk (hbox); have n3_ := Aside0.mk ((dq111 : w.heap.size ≤ gb306)); have n4_ := Aside0.mk ((dq111 : w.heap.size ≤ gb306)); have n5_ := Aside0.mk ((by rw [hg]; exact Nat.ne_of_lt (blk_lt (g := gb304) (o := .cells #[.int .i64 a0_0, .string a0_1, .string a0_2, .slice (some ad305) l0_3.length c0_3] 39 (0, 0)) (by refine blk_up ?_; exact BK304.out)) : gb304 ≠ gb306)); have n6_ := Aside0.mk ((by rw [hg]; exact Nat.ne_of_gt (blk_lt (g := gb304) (o := .cells #[.int .i64 a0_0, .string a0_1, .string a0_2, .slice (some ad305) l0_3.length c0_3] 39 (0, 0)) (by refine blk_up ?_; exact BK304.out)) : gb306 ≠ gb304)); clear BK304; clear HB; have BK304 := n0_; have HB := n1_; have BK306 := n2_; have GW306 := n3_; have GE306 := n4_; have NB304_306 := n5_; have NB306_304 := n6_; clear n0_ n1_ n2_ n3_ n4_ n5_ n6_; clear hb hbox hg; have hnb8 := NB306_304.out; have hnc8 := NB304_306.out; obtain ⟨⟨hcz9_0, hcz9_1⟩, hfz9_0, hfz9_1⟩ := blkC2 BK306.out))
  go_roundg k1
  case measure => have := HK1.out; omega
  case rel => exact ⟨(wrap64 (x3_1 + (wrap64 ((((rd_T46 l0_3 x16_1).f0).size : Int) + (((rd_T46 l0_3 x16_1).f1).size : Int))))), (wrap64 (x16_1 + 1)), dq19, dq19, H', ⟨dq21⟩, ⟨by refine blk_up ?_; refine blk_far ?_ NB304_306.out _; refine blk_up ?_; refine blk_far ?_ NB304_306.out _; refine blk_up ?_; exact BK304.out⟩, ⟨by repeat (first | (with_reducible first | exact HB.out | apply below_alloc | apply pw_below_drewN | apply below_drew1 | refine below_set ?_ GE304.out | refine below_set ?_ GE306.out) | exact HB.out)⟩⟩

end Go.Proofs.YtpmjpbaeecnpiaaDoor.L
