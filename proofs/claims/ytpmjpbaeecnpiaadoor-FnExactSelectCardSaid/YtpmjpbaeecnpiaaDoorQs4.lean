/- Words and contracts for the row RowFnExactSelect: what the Go functions answer that it calls; printed by programs of the kit and of this session, and merged. -/
import Derived.Test.YtpmjpbaeecnpiaaDoorQs3
import Derived.Lib.SlBy
import Derived.Lib.Hide
import Derived.Outline
namespace Go.Proofs.YtpmjpbaeecnpiaaDoor.L
open Go.RowKit Go.Proofs.YtpmjpbaeecnpiaaDoorW.PrintWords Go.Proofs.YtpmjpbaeecnpiaaDoorW.PrintLast Go.Proofs.YtpmjpbaeecnpiaaDoorW.PrintMore
attribute [local go_sem] max2_int min2_int max_two min_two max_three min_three max_four min_four
set_option linter.unusedVariables false
set_option linter.unusedSimpArgs false

/-! ### impl_DocOk: function 34 -/
mutual
def impl_DocOk.j0 : Nat → List (S39) → Bool → Option (Bool)
 | 0, _, _ => none
 | k + 1, x0, x24 => if x24 = true then (some false) else (impl_DocOk.l0 k x0 0 (([] : List Int)) x0 (x0.length : Int) 0)
def impl_DocOk.l0 : Nat → List (S39) → Int → List Int → List (S39) → Int → Int → Option (Bool)
 | 0, _, _, _, _, _, _ => none
 | k + 1, x0, x3, x4, x26, x27, x28 => if x28 < x27 then (if 0 ≤ x28 then (if x28 < (x26.length : Int) then ((impl_Item_isGood.f k ((rd_T39 x26 x28).f0) ((rd_T39 x26 x28).f1) ((rd_T39 x26 x28).f2) ((rd_T39 x26 x28).f3)).bind fun t349 => (if t349 = true then ((impl_Item_bytes.f k ((rd_T39 x26 x28).f0) ((rd_T39 x26 x28).f1) ((rd_T39 x26 x28).f2) ((rd_T39 x26 x28).f3)).bind fun t350 => (impl_DocOk.l1 k x0 (wrap64 (x3 + t350)) x4 x28 x26 x27 x28 ((rd_T39 x26 x28).f0) ((rd_T39 x26 x28).f1) ((rd_T39 x26 x28).f2) ((rd_T39 x26 x28).f3))) else (some false))) else (none)) else (none)) else (some (decide (x3 ≤ 2500)))
def impl_DocOk.j3 : Nat → List (S39) → Int → List Int → Int → List (S39) → Int → Int → Int → ByteArray → ByteArray → List (S46) → Option (Bool)
 | 0, _, _, _, _, _, _, _, _, _, _, _ => none
 | k + 1, x0, x3, x4, x5, x26, x27, x28, x349000, x349001, x349002, x349003 => if x5 > 0 then (if (x4.length : Int) = 0 then (impl_DocOk.j4 k x0 x3 x4 x5 x26 x27 x28 true x349000 x349001 x349002 x349003) else (impl_DocOk.j4 k x0 x3 x4 x5 x26 x27 x28 (decide ((x4.length : Int) ≥ 20)) x349000 x349001 x349002 x349003)) else (impl_DocOk.j4 k x0 x3 x4 x5 x26 x27 x28 (decide ((x4.length : Int) ≥ 20)) x349000 x349001 x349002 x349003)
def impl_DocOk.j4 : Nat → List (S39) → Int → List Int → Int → List (S39) → Int → Int → Bool → Int → ByteArray → ByteArray → List (S46) → Option (Bool)
 | 0, _, _, _, _, _, _, _, _, _, _, _, _ => none
 | k + 1, x0, x3, x4, x5, x26, x27, x28, x70, x349000, x349001, x349002, x349003 => if x70 = true then (some false) else (if x349001.toList = ([] : List UInt8) then (if x5 > 0 then (if 0 ≤ (wrap64 (x5 - 1)) then (if (wrap64 (x5 - 1)) < (x0.length : Int) then (if ((rd_T39 x0 (wrap64 (x5 - 1))).f1).toList = ([] : List UInt8) then (if ((rd_T39 x0 (wrap64 (x5 - 1))).f0) = x349000 then (some false) else (impl_DocOk.l0 k x0 x3 x4 x26 x27 (wrap64 (x28 + 1)))) else (impl_DocOk.l0 k x0 x3 x4 x26 x27 (wrap64 (x28 + 1)))) else (none)) else (none)) else (impl_DocOk.l0 k x0 x3 x4 x26 x27 (wrap64 (x28 + 1)))) else (if x4.length < 17592186044416 then (impl_DocOk.l0 k x0 x3 (x4 ++ [x5]) x26 x27 (wrap64 (x28 + 1))) else (none)))
def impl_DocOk.l1 : Nat → List (S39) → Int → List Int → Int → List (S39) → Int → Int → Int → ByteArray → ByteArray → List (S46) → Option (Bool)
 | 0, _, _, _, _, _, _, _, _, _, _, _ => none
 | k + 1, x0, x3, x4, x5, x26, x27, x28, x349000, x349001, x349002, x349003 => if (x4.length : Int) > 0 then (if 0 ≤ (wrap64 ((x4.length : Int) - 1)) then (if (wrap64 ((x4.length : Int) - 1)) < (x4.length : Int) then (if (rd x4 (wrap64 ((x4.length : Int) - 1))) = x349000 then (impl_DocOk.j3 k x0 x3 x4 x5 x26 x27 x28 x349000 x349001 x349002 x349003) else (if (wrap64 ((x4.length : Int) - 1)) ≤ (x4.length : Int) then (impl_DocOk.l1 k x0 x3 (x4.take ((wrap64 ((x4.length : Int) - 1)) : Int).toNat) x5 x26 x27 x28 x349000 x349001 x349002 x349003) else (none))) else (none)) else (none)) else (impl_DocOk.j3 k x0 x3 x4 x5 x26 x27 x28 x349000 x349001 x349002 x349003)
end
def impl_DocOk.f (k : Nat) (l0 : List (S39)) : Option (Bool) := (impl_in.f (l0.length : Int) 1 200).bind fun t341 => (if t341 = true then (if 0 < (l0.length : Int) then (if ((rd_T39 l0 0).f0) = (-1) then (impl_DocOk.j0 k l0 (((rd_T39 l0 0).f1).toList == ([] : List UInt8))) else (impl_DocOk.j0 k l0 true)) else (none)) else (impl_DocOk.j0 k l0 true))
set_option maxHeartbeats 8000000 in
set_option maxRecDepth 100000 in
theorem impl_DocOk.calls (k : Nat) (A0 : Option Addr) (c0 : Nat) (l0 : List (S39)) (r : Bool) (w : World) (hT : Gl w) (hr0 : Kd.C k39 w A0 l0.length l0) (hc0 : l0.length ≤ c0) (h : impl_DocOk.f k l0 = some r) :
  Calls Tryd.prog 34 #[.slice A0 l0.length c0] w fun e w' => e = .returned (.bool r) ∧ Below w.heap.size w w' := by
 have hu39 := Tryd.underlying39
 have HR0 := Aside0.mk hr0
 have HC0 := Aside0.mk hc0
 clear hr0 hc0
 have HT := Aside0.mk hT
 clear hT
 have HB := Aside0.mk (Below.refl w.heap.size w)
 have H : ((impl_in.f (l0.length : Int) 1 200).bind fun t341 => (if t341 = true then (if 0 < (l0.length : Int) then (if ((rd_T39 l0 0).f0) = (-1) then (impl_DocOk.j0 k l0 (((rd_T39 l0 0).f1).toList == ([] : List UInt8))) else (impl_DocOk.j0 k l0 true)) else (none)) else (impl_DocOk.j0 k l0 true))) = some r := h
 clear h
 have HC2 := Aside0.mk H
 clear H
 go_enter Tryd.func34, Tryd.ntmps34
 go_upto_region 1 with (fail)
 repeat (go_quiet (fail); go_upto_region 1 with (fail))
 go_cut [24] (fun v24 wc => ∃ (kq : Nat) (x24_1 : Bool), v24 = .bool x24_1 ∧ Aside0 (impl_DocOk.j0 kq l0 x24_1 = some r) ∧ Aside0 (kq ≤ k) ∧ Aside0 (Below w.heap.size w wc))
 case first =>
  have H := HC2.out
  clear HC2
  replace H := Option.bind_eq_some_iff.mp H
  obtain ⟨t341, A30, H⟩ := H
  replace H : (if t341 = true then (if 0 < (l0.length : Int) then (if ((rd_T39 l0 0).f0) = (-1) then (impl_DocOk.j0 k l0 (((rd_T39 l0 0).f1).toList == ([] : List UInt8))) else (impl_DocOk.j0 k l0 true)) else (none)) else (impl_DocOk.j0 k l0 true)) = some r := H
  have A3 := Aside0.mk A30
  clear A30
  by_cases c4 : t341 = true
  ·subst c4
   have H1 : (if 0 < (l0.length : Int) then (if ((rd_T39 l0 0).f0) = (-1) then (impl_DocOk.j0 k l0 (((rd_T39 l0 0).f1).toList == ([] : List UInt8))) else (impl_DocOk.j0 k l0 true)) else (none)) = some r := by rw [if_pos rfl] at H; exact H
   clear H
   have H := H1
   clear H1
   by_cases c5 : 0 < (l0.length : Int)
   ·rw [if_pos c5] at H
    have c5b0 := decide_eq_true c5
    have c5b1 : decide (0 < l0.length) = true := decide_eq_true dq34
    clear c5
    (first | rw [c5b0] | (simp only [i64_w, i32_w]; rw [c5b0]) | skip)
    by_cases c6 : ((rd_T39 l0 0).f0) = (-1)
    ·rw [if_pos c6] at H
     have c6b0 := beq_iff_eq.mpr c6
     have c6b1 := bne_eq_false_iff_eq.mpr c6
     clear c6
     have H' := Aside0.mk H
     clear H
     go_wp2_with (first | (go_at_call 56; (with_reducible refine (impl_in.calls (l0.length : Int) 1 200 true _ A3.out).mono ?_); rintro e w' ⟨rfl, ⟨nd, rfl⟩⟩; (try first | exact ⟨rfl, _, World.drewN_drewN _ _ _⟩ | exact ⟨rfl, _, Eq.trans (World.drewN_drewN _ _ _) (congrArg (World.drewN _) (Nat.add_assoc _ _ _))⟩); have p342 : 0 ≤ (0 : Int) := dq34; have q342 : 0 < (l0.length : Int) := of_decide_eq_true dq27; obtain ⟨ad342, A342_3, c342_3, e342, hx342_0, hx342_1, hx342_2, hx342_3, hl342_3, hi342_3⟩ := at_T39 HR0.out 0 p342 q342; cases e342; have qi342 : (0 < l0.length) = True := eq_true dq34; (try rw [show ((0 : Int)).toNat = 0 from rfl] at hx342_0); (try rw [show 0 * 4 = 0 from rfl] at hx342_0); (try rw [Addr.add_zero'] at hx342_0); (try rw [show ((0 : Int)).toNat = 0 from rfl] at hx342_1); (try rw [show 0 * 4 = 0 from rfl] at hx342_1); (try rw [Addr.add_zero'] at hx342_1); (try rw [show ((0 : Int)).toNat = 0 from rfl] at hx342_2); (try rw [show 0 * 4 = 0 from rfl] at hx342_2); (try rw [Addr.add_zero'] at hx342_2); (try rw [show ((0 : Int)).toNat = 0 from rfl] at hx342_3); (try rw [show 0 * 4 = 0 from rfl] at hx342_3); (try rw [Addr.add_zero'] at hx342_3); replace hx342_0 := (HB.out.cell (World.block_lt_of_cell? w _ hx342_0)).trans hx342_0; replace hx342_1 := (HB.out.cell (World.block_lt_of_cell? w _ hx342_1)).trans hx342_1; replace hx342_2 := (HB.out.cell (World.block_lt_of_cell? w _ hx342_2)).trans hx342_2; replace hx342_3 := (HB.out.cell (World.block_lt_of_cell? w _ hx342_3)).trans hx342_3; have HR342_3 := Aside0.mk hi342_3; have HC342_3 := Aside0.mk hl342_3; clear hi342_3 hl342_3; replace p342 := eq_true p342; replace q342 := eq_true q342; have p343 : 0 ≤ (0 : Int) := dq34; have q343 : 0 < (l0.length : Int) := of_decide_eq_true dq27; obtain ⟨ad343, A343_3, c343_3, e343, hx343_0, hx343_1, hx343_2, hx343_3, hl343_3, hi343_3⟩ := at_T39 HR0.out 0 p343 q343; obtain rfl : ad342 = ad343 := (by injection e343); have qi343 : (0 < l0.length) = True := eq_true dq34; (try rw [show ((0 : Int)).toNat = 0 from rfl] at hx343_0); (try rw [show 0 * 4 = 0 from rfl] at hx343_0); (try rw [Addr.add_zero'] at hx343_0); (try rw [show ((0 : Int)).toNat = 0 from rfl] at hx343_1); (try rw [show 0 * 4 = 0 from rfl] at hx343_1); (try rw [Addr.add_zero'] at hx343_1); (try rw [show ((0 : Int)).toNat = 0 from rfl] at hx343_2); (try rw [show 0 * 4 = 0 from rfl] at hx343_2); (try rw [Addr.add_zero'] at hx343_2); (try rw [show ((0 : Int)).toNat = 0 from rfl] at hx343_3); (try rw [show 0 * 4 = 0 from rfl] at hx343_3); (try rw [Addr.add_zero'] at hx343_3); replace hx343_0 := (HB.out.cell (World.block_lt_of_cell? w _ hx343_0)).trans hx343_0; replace hx343_1 := (HB.out.cell (World.block_lt_of_cell? w _ hx343_1)).trans hx343_1; replace hx343_2 := (HB.out.cell (World.block_lt_of_cell? w _ hx343_2)).trans hx343_2; replace hx343_3 := (HB.out.cell (World.block_lt_of_cell? w _ hx343_3)).trans hx343_3; have HR343_3 := Aside0.mk hi343_3; have HC343_3 := Aside0.mk hl343_3; clear hi343_3 hl343_3; replace p343 := eq_true p343; replace q343 := eq_true q343; have ea_ := Option.some.inj (hx342_3.symm.trans hx343_3); injection ea_ with ea_ en_ ec_; subst ea_; subst ec_; clear en_))
     repeat (go_quiet (first | (go_at_call 56; (with_reducible refine (impl_in.calls (l0.length : Int) 1 200 true _ A3.out).mono ?_); rintro e w' ⟨rfl, ⟨nd, rfl⟩⟩; (try first | exact ⟨rfl, _, World.drewN_drewN _ _ _⟩ | exact ⟨rfl, _, Eq.trans (World.drewN_drewN _ _ _) (congrArg (World.drewN _) (Nat.add_assoc _ _ _))⟩); have p342 : 0 ≤ (0 : Int) := dq34; have q342 : 0 < (l0.length : Int) := of_decide_eq_true dq27; obtain ⟨ad342, A342_3, c342_3, e342, hx342_0, hx342_1, hx342_2, hx342_3, hl342_3, hi342_3⟩ := at_T39 HR0.out 0 p342 q342; cases e342; have qi342 : (0 < l0.length) = True := eq_true dq34; (try rw [show ((0 : Int)).toNat = 0 from rfl] at hx342_0); (try rw [show 0 * 4 = 0 from rfl] at hx342_0); (try rw [Addr.add_zero'] at hx342_0); (try rw [show ((0 : Int)).toNat = 0 from rfl] at hx342_1); (try rw [show 0 * 4 = 0 from rfl] at hx342_1); (try rw [Addr.add_zero'] at hx342_1); (try rw [show ((0 : Int)).toNat = 0 from rfl] at hx342_2); (try rw [show 0 * 4 = 0 from rfl] at hx342_2); (try rw [Addr.add_zero'] at hx342_2); (try rw [show ((0 : Int)).toNat = 0 from rfl] at hx342_3); (try rw [show 0 * 4 = 0 from rfl] at hx342_3); (try rw [Addr.add_zero'] at hx342_3); replace hx342_0 := (HB.out.cell (World.block_lt_of_cell? w _ hx342_0)).trans hx342_0; replace hx342_1 := (HB.out.cell (World.block_lt_of_cell? w _ hx342_1)).trans hx342_1; replace hx342_2 := (HB.out.cell (World.block_lt_of_cell? w _ hx342_2)).trans hx342_2; replace hx342_3 := (HB.out.cell (World.block_lt_of_cell? w _ hx342_3)).trans hx342_3; have HR342_3 := Aside0.mk hi342_3; have HC342_3 := Aside0.mk hl342_3; clear hi342_3 hl342_3; replace p342 := eq_true p342; replace q342 := eq_true q342; have p343 : 0 ≤ (0 : Int) := dq34; have q343 : 0 < (l0.length : Int) := of_decide_eq_true dq27; obtain ⟨ad343, A343_3, c343_3, e343, hx343_0, hx343_1, hx343_2, hx343_3, hl343_3, hi343_3⟩ := at_T39 HR0.out 0 p343 q343; obtain rfl : ad342 = ad343 := (by injection e343); have qi343 : (0 < l0.length) = True := eq_true dq34; (try rw [show ((0 : Int)).toNat = 0 from rfl] at hx343_0); (try rw [show 0 * 4 = 0 from rfl] at hx343_0); (try rw [Addr.add_zero'] at hx343_0); (try rw [show ((0 : Int)).toNat = 0 from rfl] at hx343_1); (try rw [show 0 * 4 = 0 from rfl] at hx343_1); (try rw [Addr.add_zero'] at hx343_1); (try rw [show ((0 : Int)).toNat = 0 from rfl] at hx343_2); (try rw [show 0 * 4 = 0 from rfl] at hx343_2); (try rw [Addr.add_zero'] at hx343_2); (try rw [show ((0 : Int)).toNat = 0 from rfl] at hx343_3); (try rw [show 0 * 4 = 0 from rfl] at hx343_3); (try rw [Addr.add_zero'] at hx343_3); replace hx343_0 := (HB.out.cell (World.block_lt_of_cell? w _ hx343_0)).trans hx343_0; replace hx343_1 := (HB.out.cell (World.block_lt_of_cell? w _ hx343_1)).trans hx343_1; replace hx343_2 := (HB.out.cell (World.block_lt_of_cell? w _ hx343_2)).trans hx343_2; replace hx343_3 := (HB.out.cell (World.block_lt_of_cell? w _ hx343_3)).trans hx343_3; have HR343_3 := Aside0.mk hi343_3; have HC343_3 := Aside0.mk hl343_3; clear hi343_3 hl343_3; replace p343 := eq_true p343; replace q343 := eq_true q343; have ea_ := Option.some.inj (hx342_3.symm.trans hx343_3); injection ea_ with ea_ en_ ec_; subst ea_; subst ec_; clear en_)); try go_wp2_with (first | (go_at_call 56; (with_reducible refine (impl_in.calls (l0.length : Int) 1 200 true _ A3.out).mono ?_); rintro e w' ⟨rfl, ⟨nd, rfl⟩⟩; (try first | exact ⟨rfl, _, World.drewN_drewN _ _ _⟩ | exact ⟨rfl, _, Eq.trans (World.drewN_drewN _ _ _) (congrArg (World.drewN _) (Nat.add_assoc _ _ _))⟩); have p342 : 0 ≤ (0 : Int) := dq34; have q342 : 0 < (l0.length : Int) := of_decide_eq_true dq27; obtain ⟨ad342, A342_3, c342_3, e342, hx342_0, hx342_1, hx342_2, hx342_3, hl342_3, hi342_3⟩ := at_T39 HR0.out 0 p342 q342; cases e342; have qi342 : (0 < l0.length) = True := eq_true dq34; (try rw [show ((0 : Int)).toNat = 0 from rfl] at hx342_0); (try rw [show 0 * 4 = 0 from rfl] at hx342_0); (try rw [Addr.add_zero'] at hx342_0); (try rw [show ((0 : Int)).toNat = 0 from rfl] at hx342_1); (try rw [show 0 * 4 = 0 from rfl] at hx342_1); (try rw [Addr.add_zero'] at hx342_1); (try rw [show ((0 : Int)).toNat = 0 from rfl] at hx342_2); (try rw [show 0 * 4 = 0 from rfl] at hx342_2); (try rw [Addr.add_zero'] at hx342_2); (try rw [show ((0 : Int)).toNat = 0 from rfl] at hx342_3); (try rw [show 0 * 4 = 0 from rfl] at hx342_3); (try rw [Addr.add_zero'] at hx342_3); replace hx342_0 := (HB.out.cell (World.block_lt_of_cell? w _ hx342_0)).trans hx342_0; replace hx342_1 := (HB.out.cell (World.block_lt_of_cell? w _ hx342_1)).trans hx342_1; replace hx342_2 := (HB.out.cell (World.block_lt_of_cell? w _ hx342_2)).trans hx342_2; replace hx342_3 := (HB.out.cell (World.block_lt_of_cell? w _ hx342_3)).trans hx342_3; have HR342_3 := Aside0.mk hi342_3; have HC342_3 := Aside0.mk hl342_3; clear hi342_3 hl342_3; replace p342 := eq_true p342; replace q342 := eq_true q342; have p343 : 0 ≤ (0 : Int) := dq34; have q343 : 0 < (l0.length : Int) := of_decide_eq_true dq27; obtain ⟨ad343, A343_3, c343_3, e343, hx343_0, hx343_1, hx343_2, hx343_3, hl343_3, hi343_3⟩ := at_T39 HR0.out 0 p343 q343; obtain rfl : ad342 = ad343 := (by injection e343); have qi343 : (0 < l0.length) = True := eq_true dq34; (try rw [show ((0 : Int)).toNat = 0 from rfl] at hx343_0); (try rw [show 0 * 4 = 0 from rfl] at hx343_0); (try rw [Addr.add_zero'] at hx343_0); (try rw [show ((0 : Int)).toNat = 0 from rfl] at hx343_1); (try rw [show 0 * 4 = 0 from rfl] at hx343_1); (try rw [Addr.add_zero'] at hx343_1); (try rw [show ((0 : Int)).toNat = 0 from rfl] at hx343_2); (try rw [show 0 * 4 = 0 from rfl] at hx343_2); (try rw [Addr.add_zero'] at hx343_2); (try rw [show ((0 : Int)).toNat = 0 from rfl] at hx343_3); (try rw [show 0 * 4 = 0 from rfl] at hx343_3); (try rw [Addr.add_zero'] at hx343_3); replace hx343_0 := (HB.out.cell (World.block_lt_of_cell? w _ hx343_0)).trans hx343_0; replace hx343_1 := (HB.out.cell (World.block_lt_of_cell? w _ hx343_1)).trans hx343_1; replace hx343_2 := (HB.out.cell (World.block_lt_of_cell? w _ hx343_2)).trans hx343_2; replace hx343_3 := (HB.out.cell (World.block_lt_of_cell? w _ hx343_3)).trans hx343_3; have HR343_3 := Aside0.mk hi343_3; have HC343_3 := Aside0.mk hl343_3; clear hi343_3 hl343_3; replace p343 := eq_true p343; replace q343 := eq_true q343; have ea_ := Option.some.inj (hx342_3.symm.trans hx343_3); injection ea_ with ea_ en_ ec_; subst ea_; subst ec_; clear en_)))
     go_meet
     case rel => exact ⟨_, ((((rd_T39 l0 0).f1).toList == ([] : List UInt8))), dq26, H', ⟨dq35⟩, ⟨dq23⟩⟩
    ·rw [if_neg c6] at H
     have c6b0 := beq_eq_false_iff_ne.mpr c6
     have c6b1 := bne_iff_ne.mpr c6
     have H' := Aside0.mk H
     clear H
     go_wp2_with (first | (go_at_call 56; (with_reducible refine (impl_in.calls (l0.length : Int) 1 200 true _ A3.out).mono ?_); rintro e w' ⟨rfl, ⟨nd, rfl⟩⟩; (try first | exact ⟨rfl, _, World.drewN_drewN _ _ _⟩ | exact ⟨rfl, _, Eq.trans (World.drewN_drewN _ _ _) (congrArg (World.drewN _) (Nat.add_assoc _ _ _))⟩); have p342 : 0 ≤ (0 : Int) := dq34; have q342 : 0 < (l0.length : Int) := of_decide_eq_true dq27; obtain ⟨ad342, A342_3, c342_3, e342, hx342_0, hx342_1, hx342_2, hx342_3, hl342_3, hi342_3⟩ := at_T39 HR0.out 0 p342 q342; cases e342; have qi342 : (0 < l0.length) = True := eq_true dq34; (try rw [show ((0 : Int)).toNat = 0 from rfl] at hx342_0); (try rw [show 0 * 4 = 0 from rfl] at hx342_0); (try rw [Addr.add_zero'] at hx342_0); (try rw [show ((0 : Int)).toNat = 0 from rfl] at hx342_1); (try rw [show 0 * 4 = 0 from rfl] at hx342_1); (try rw [Addr.add_zero'] at hx342_1); (try rw [show ((0 : Int)).toNat = 0 from rfl] at hx342_2); (try rw [show 0 * 4 = 0 from rfl] at hx342_2); (try rw [Addr.add_zero'] at hx342_2); (try rw [show ((0 : Int)).toNat = 0 from rfl] at hx342_3); (try rw [show 0 * 4 = 0 from rfl] at hx342_3); (try rw [Addr.add_zero'] at hx342_3); replace hx342_0 := (HB.out.cell (World.block_lt_of_cell? w _ hx342_0)).trans hx342_0; replace hx342_1 := (HB.out.cell (World.block_lt_of_cell? w _ hx342_1)).trans hx342_1; replace hx342_2 := (HB.out.cell (World.block_lt_of_cell? w _ hx342_2)).trans hx342_2; replace hx342_3 := (HB.out.cell (World.block_lt_of_cell? w _ hx342_3)).trans hx342_3; have HR342_3 := Aside0.mk hi342_3; have HC342_3 := Aside0.mk hl342_3; clear hi342_3 hl342_3; replace p342 := eq_true p342; replace q342 := eq_true q342))
     repeat (go_quiet (first | (go_at_call 56; (with_reducible refine (impl_in.calls (l0.length : Int) 1 200 true _ A3.out).mono ?_); rintro e w' ⟨rfl, ⟨nd, rfl⟩⟩; (try first | exact ⟨rfl, _, World.drewN_drewN _ _ _⟩ | exact ⟨rfl, _, Eq.trans (World.drewN_drewN _ _ _) (congrArg (World.drewN _) (Nat.add_assoc _ _ _))⟩); have p342 : 0 ≤ (0 : Int) := dq34; have q342 : 0 < (l0.length : Int) := of_decide_eq_true dq27; obtain ⟨ad342, A342_3, c342_3, e342, hx342_0, hx342_1, hx342_2, hx342_3, hl342_3, hi342_3⟩ := at_T39 HR0.out 0 p342 q342; cases e342; have qi342 : (0 < l0.length) = True := eq_true dq34; (try rw [show ((0 : Int)).toNat = 0 from rfl] at hx342_0); (try rw [show 0 * 4 = 0 from rfl] at hx342_0); (try rw [Addr.add_zero'] at hx342_0); (try rw [show ((0 : Int)).toNat = 0 from rfl] at hx342_1); (try rw [show 0 * 4 = 0 from rfl] at hx342_1); (try rw [Addr.add_zero'] at hx342_1); (try rw [show ((0 : Int)).toNat = 0 from rfl] at hx342_2); (try rw [show 0 * 4 = 0 from rfl] at hx342_2); (try rw [Addr.add_zero'] at hx342_2); (try rw [show ((0 : Int)).toNat = 0 from rfl] at hx342_3); (try rw [show 0 * 4 = 0 from rfl] at hx342_3); (try rw [Addr.add_zero'] at hx342_3); replace hx342_0 := (HB.out.cell (World.block_lt_of_cell? w _ hx342_0)).trans hx342_0; replace hx342_1 := (HB.out.cell (World.block_lt_of_cell? w _ hx342_1)).trans hx342_1; replace hx342_2 := (HB.out.cell (World.block_lt_of_cell? w _ hx342_2)).trans hx342_2; replace hx342_3 := (HB.out.cell (World.block_lt_of_cell? w _ hx342_3)).trans hx342_3; have HR342_3 := Aside0.mk hi342_3; have HC342_3 := Aside0.mk hl342_3; clear hi342_3 hl342_3; replace p342 := eq_true p342; replace q342 := eq_true q342)); try go_wp2_with (first | (go_at_call 56; (with_reducible refine (impl_in.calls (l0.length : Int) 1 200 true _ A3.out).mono ?_); rintro e w' ⟨rfl, ⟨nd, rfl⟩⟩; (try first | exact ⟨rfl, _, World.drewN_drewN _ _ _⟩ | exact ⟨rfl, _, Eq.trans (World.drewN_drewN _ _ _) (congrArg (World.drewN _) (Nat.add_assoc _ _ _))⟩); have p342 : 0 ≤ (0 : Int) := dq34; have q342 : 0 < (l0.length : Int) := of_decide_eq_true dq27; obtain ⟨ad342, A342_3, c342_3, e342, hx342_0, hx342_1, hx342_2, hx342_3, hl342_3, hi342_3⟩ := at_T39 HR0.out 0 p342 q342; cases e342; have qi342 : (0 < l0.length) = True := eq_true dq34; (try rw [show ((0 : Int)).toNat = 0 from rfl] at hx342_0); (try rw [show 0 * 4 = 0 from rfl] at hx342_0); (try rw [Addr.add_zero'] at hx342_0); (try rw [show ((0 : Int)).toNat = 0 from rfl] at hx342_1); (try rw [show 0 * 4 = 0 from rfl] at hx342_1); (try rw [Addr.add_zero'] at hx342_1); (try rw [show ((0 : Int)).toNat = 0 from rfl] at hx342_2); (try rw [show 0 * 4 = 0 from rfl] at hx342_2); (try rw [Addr.add_zero'] at hx342_2); (try rw [show ((0 : Int)).toNat = 0 from rfl] at hx342_3); (try rw [show 0 * 4 = 0 from rfl] at hx342_3); (try rw [Addr.add_zero'] at hx342_3); replace hx342_0 := (HB.out.cell (World.block_lt_of_cell? w _ hx342_0)).trans hx342_0; replace hx342_1 := (HB.out.cell (World.block_lt_of_cell? w _ hx342_1)).trans hx342_1; replace hx342_2 := (HB.out.cell (World.block_lt_of_cell? w _ hx342_2)).trans hx342_2; replace hx342_3 := (HB.out.cell (World.block_lt_of_cell? w _ hx342_3)).trans hx342_3; have HR342_3 := Aside0.mk hi342_3; have HC342_3 := Aside0.mk hl342_3; clear hi342_3 hl342_3; replace p342 := eq_true p342; replace q342 := eq_true q342)))
     go_meet
     case rel => exact ⟨_, (true), dq26, H', ⟨dq35⟩, ⟨dq23⟩⟩
   ·rw [if_neg c5] at H
    exact absurd H dq31
  ·replace c4 := Bool.eq_false_iff.mpr c4
   subst c4
   have H1 : (impl_DocOk.j0 k l0 true) = some r := by rw [if_neg (show ¬ (false = true) by decide)] at H; exact H
   clear H
   have H := H1
   clear H1
   have H' := Aside0.mk H
   clear H
   go_wp2_with (first | (go_at_call 56; (with_reducible refine (impl_in.calls (l0.length : Int) 1 200 false _ A3.out).mono ?_); rintro e w' ⟨rfl, ⟨nd, rfl⟩⟩; (try first | exact ⟨rfl, _, World.drewN_drewN _ _ _⟩ | exact ⟨rfl, _, Eq.trans (World.drewN_drewN _ _ _) (congrArg (World.drewN _) (Nat.add_assoc _ _ _))⟩)))
   repeat (go_quiet (first | (go_at_call 56; (with_reducible refine (impl_in.calls (l0.length : Int) 1 200 false _ A3.out).mono ?_); rintro e w' ⟨rfl, ⟨nd, rfl⟩⟩; (try first | exact ⟨rfl, _, World.drewN_drewN _ _ _⟩ | exact ⟨rfl, _, Eq.trans (World.drewN_drewN _ _ _) (congrArg (World.drewN _) (Nat.add_assoc _ _ _))⟩))); try go_wp2_with (first | (go_at_call 56; (with_reducible refine (impl_in.calls (l0.length : Int) 1 200 false _ A3.out).mono ?_); rintro e w' ⟨rfl, ⟨nd, rfl⟩⟩; (try first | exact ⟨rfl, _, World.drewN_drewN _ _ _⟩ | exact ⟨rfl, _, Eq.trans (World.drewN_drewN _ _ _) (congrArg (World.drewN _) (Nat.add_assoc _ _ _))⟩))))
   go_meet
   case rel => exact ⟨_, (true), dq26, H', ⟨dq35⟩, ⟨dq23⟩⟩
 case rest =>
  clear HC2
  try clear p2
  try clear c3
  try clear p3
  try clear q3
  try clear hx3
  try clear qi3
  try clear c4
  try clear c5
  try clear c5b0
  try clear c5b1
  try clear c6
  try clear c6b0
  try clear c6b1
  try clear hx342_0
  try clear hx342_1
  try clear hx342_2
  try clear hx342_3
  try clear hx343_0
  try clear hx343_1
  try clear hx343_2
  try clear hx343_3
  try clear p342
  try clear p343
  try clear q342
  try clear q343
  obtain ⟨kq, x24_1, rfl, HA, HJ1, HB⟩ := hcut
  cases kq with
  | zero => exact absurd HA.out (by simp [impl_DocOk.j0])
  | succ kj1 =>
   have H := HA.out
   clear HA
   simp only [impl_DocOk.j0] at H
   by_cases c7 : x24_1 = true
   ·subst c7
    have H1 : (some false) = some r := by rw [if_pos rfl] at H; exact H
    clear H
    have H := H1
    clear H1
    obtain rfl := Option.some.inj H
    go_wp2
    repeat (go_quiet (fail); try go_wp2)
    go_ret
    exact ⟨dq25, dq23⟩
   ·replace c7 := Bool.eq_false_iff.mpr c7
    subst c7
    have H1 : (impl_DocOk.l0 kj1 l0 0 (([] : List Int)) l0 (l0.length : Int) 0) = some r := by rw [if_neg (show ¬ (false = true) by decide)] at H; exact H
    clear H
    have H := H1
    clear H1
    obtain ⟨y344, hy344⟩ : ∃ y_ : List Int, y_ = (([] : List Int)) := ⟨_, rfl⟩
    replace H : (impl_DocOk.l0 kj1 l0 0 y344 l0 (l0.length : Int) 0) = some r := by first | (rw [hy344]; with_reducible exact H) | (have H2_ := (Option.bind_some _ _).symm.trans H; rw [hy344]; with_reducible exact H2_) | (have H2_ := (Option.bind_some _ _).symm.trans H; with_reducible exact H2_) | with_reducible exact H | (rw [hy344]; exact H) | exact H
    have Ny344 := Aside0.mk hy344
    clear hy344
    have H' := Aside0.mk H
    clear H
    go_wp2_with (first | ((with_reducible refine gate_dst (N := 25) rfl ?_); (try (refine gate_guard (by rfl) ?_; dsimp only)); refine Kd.R_lit (Kd.int .i64) _ 2 ?hg (N := 25) ?hd (xs := ([] : List Int)) (inner := []) (ok := fun _ => True) (okp := fun _ => True) ?hr ?hp (fun _ hk => hk) trivial (Below.refl _ _) (Nat.le_refl _) dq31 ?_; (case hd => rfl); (case hg => rfl); (case hr => exact dq0); (case hp => exact dq2); intro v345 w8 ho9 hb hg_ hnew_; clear hg_ hnew_; (first | rw [← Ny344.out] at ho9 | (simp only [Int.reduceToNat] at ho9; rw [← Ny344.out] at ho9)); have n0_ := Aside0.mk (Kd.R_lower ho9 (below_size dq23)); have n1_ := Aside0.mk (below_step dq23 hb); clear HB; have HO346 := n0_; have HB := n1_; clear n0_ n1_; clear hb ho9))
    repeat (go_quiet (first | ((with_reducible refine gate_dst (N := 25) rfl ?_); (try (refine gate_guard (by rfl) ?_; dsimp only)); refine Kd.R_lit (Kd.int .i64) _ 2 ?hg (N := 25) ?hd (xs := ([] : List Int)) (inner := []) (ok := fun _ => True) (okp := fun _ => True) ?hr ?hp (fun _ hk => hk) trivial (Below.refl _ _) (Nat.le_refl _) dq31 ?_; (case hd => rfl); (case hg => rfl); (case hr => exact dq0); (case hp => exact dq2); intro v345 w8 ho9 hb hg_ hnew_; clear hg_ hnew_; (first | rw [← Ny344.out] at ho9 | (simp only [Int.reduceToNat] at ho9; rw [← Ny344.out] at ho9)); have n0_ := Aside0.mk (Kd.R_lower ho9 (below_size dq23)); have n1_ := Aside0.mk (below_step dq23 hb); clear HB; have HO346 := n0_; have HB := n1_; clear n0_ n1_; clear hb ho9)); try go_wp2_with (first | ((with_reducible refine gate_dst (N := 25) rfl ?_); (try (refine gate_guard (by rfl) ?_; dsimp only)); refine Kd.R_lit (Kd.int .i64) _ 2 ?hg (N := 25) ?hd (xs := ([] : List Int)) (inner := []) (ok := fun _ => True) (okp := fun _ => True) ?hr ?hp (fun _ hk => hk) trivial (Below.refl _ _) (Nat.le_refl _) dq31 ?_; (case hd => rfl); (case hg => rfl); (case hr => exact dq0); (case hp => exact dq2); intro v345 w8 ho9 hb hg_ hnew_; clear hg_ hnew_; (first | rw [← Ny344.out] at ho9 | (simp only [Int.reduceToNat] at ho9; rw [← Ny344.out] at ho9)); have n0_ := Aside0.mk (Kd.R_lower ho9 (below_size dq23)); have n1_ := Aside0.mk (below_step dq23 hb); clear HB; have HO346 := n0_; have HB := n1_; clear n0_ n1_; clear hb ho9)))
    go_loopg [3, 4, 28] kj1 (fun kq v3 v4 v28 w' => ∃ (x3_2 : Int) (x4_2 : List Int) (x28_2 : Int), v3 = .int .i64 x3_2 ∧ v28 = .int .i64 x28_2 ∧ Aside0 (impl_DocOk.l0 kq l0 x3_2 x4_2 l0 (l0.length : Int) x28_2 = some r) ∧ Aside0 (kq ≤ kj1) ∧ Aside0 (Kd.R (Kd.int .i64) 2 w' w.heap.size (fun _ => True) v4 x4_2) ∧ Aside0 (Below w.heap.size w w'))
    case atStart => exact ⟨(0), (y344), (0), dq26, dq26, H', ⟨Nat.le_refl _⟩, ⟨by (with_reducible repeat (first | apply Kd.R_alloc | apply Kd.R_drewN | apply Kd.R_drew)); exact HO346.out⟩, ⟨dq23⟩⟩
    case round =>
     clear H'
     try clear p2
     try clear c3
     try clear p3
     try clear q3
     try clear hx3
     try clear qi3
     try clear c4
     try clear c5
     try clear c5b0
     try clear c5b1
     try clear c6
     try clear c6b0
     try clear c6b1
     try clear c7
     try clear hx342_0
     try clear hx342_1
     try clear hx342_2
     try clear hx342_3
     try clear hx343_0
     try clear hx343_1
     try clear hx343_2
     try clear hx343_3
     try clear p2
     try clear p3
     try clear p342
     try clear p343
     try clear q3
     try clear q342
     try clear q343
     obtain ⟨x3_2, x4_2, x28_2, rfl, rfl, HA, HK2, HO_4, HB⟩ := hrel
     cases gk with
     | zero => exact absurd HA.out (by simp [impl_DocOk.l0])
     | succ k2 =>
      have H := HA.out
      clear HA
      simp only [impl_DocOk.l0] at H
      by_cases c10 : x28_2 < (l0.length : Int)
      ·rw [if_pos c10] at H
       have c10b0 := decide_eq_true c10
       clear c10
       by_cases c11 : 0 ≤ x28_2
       ·rw [if_pos c11] at H
        have c11b0 := decide_eq_true c11
        clear c11
        by_cases c12 : x28_2 < (l0.length : Int)
        ·rw [if_pos c12] at H
         have c12b0 := decide_eq_true c12
         clear c12
         replace H := Option.bind_eq_some_iff.mp H
         obtain ⟨t349, A130, H⟩ := H
         replace H : (if t349 = true then ((impl_Item_bytes.f k2 ((rd_T39 l0 x28_2).f0) ((rd_T39 l0 x28_2).f1) ((rd_T39 l0 x28_2).f2) ((rd_T39 l0 x28_2).f3)).bind fun t350 => (impl_DocOk.l1 k2 l0 (wrap64 (x3_2 + t350)) x4_2 x28_2 l0 (l0.length : Int) x28_2 ((rd_T39 l0 x28_2).f0) ((rd_T39 l0 x28_2).f1) ((rd_T39 l0 x28_2).f2) ((rd_T39 l0 x28_2).f3))) else (some false)) = some r := H
         have A13 := Aside0.mk A130
         clear A130
         by_cases c14 : t349 = true
         ·subst c14
          have H1 : ((impl_Item_bytes.f k2 ((rd_T39 l0 x28_2).f0) ((rd_T39 l0 x28_2).f1) ((rd_T39 l0 x28_2).f2) ((rd_T39 l0 x28_2).f3)).bind fun t350 => (impl_DocOk.l1 k2 l0 (wrap64 (x3_2 + t350)) x4_2 x28_2 l0 (l0.length : Int) x28_2 ((rd_T39 l0 x28_2).f0) ((rd_T39 l0 x28_2).f1) ((rd_T39 l0 x28_2).f2) ((rd_T39 l0 x28_2).f3))) = some r := by rw [if_pos rfl] at H; exact H
          clear H
          have H := H1
          clear H1
          replace H := Option.bind_eq_some_iff.mp H
          obtain ⟨t350, A150, H⟩ := H
          replace H : (impl_DocOk.l1 k2 l0 (wrap64 (x3_2 + t350)) x4_2 x28_2 l0 (l0.length : Int) x28_2 ((rd_T39 l0 x28_2).f0) ((rd_T39 l0 x28_2).f1) ((rd_T39 l0 x28_2).f2) ((rd_T39 l0 x28_2).f3)) = some r := H
          have A15 := Aside0.mk A150
          clear A150
          have HC16 := Aside0.mk H
          clear H
          have p347 : 0 ≤ (x28_2 : Int) := of_decide_eq_true dq27
          have q347 : x28_2 < (l0.length : Int) := of_decide_eq_true dq27
          obtain ⟨ad347, A347_3, c347_3, e347, hx347_0, hx347_1, hx347_2, hx347_3, hl347_3, hi347_3⟩ := at_T39 HR0.out x28_2 p347 q347
          cases e347
          replace hx347_0 := (HB.out.cell (World.block_lt_of_cell? w _ hx347_0)).trans hx347_0
          replace hx347_1 := (HB.out.cell (World.block_lt_of_cell? w _ hx347_1)).trans hx347_1
          replace hx347_2 := (HB.out.cell (World.block_lt_of_cell? w _ hx347_2)).trans hx347_2
          replace hx347_3 := (HB.out.cell (World.block_lt_of_cell? w _ hx347_3)).trans hx347_3
          have HR347_3 := Aside0.mk hi347_3
          have HC347_3 := Aside0.mk hl347_3
          clear hi347_3 hl347_3
          replace p347 := eq_true p347
          replace q347 := eq_true q347
          go_upto_block 2 with (first | ((with_reducible refine gate_dst (N := 6) rfl ?_); (try (refine gate_guard (by rfl) ?_; dsimp only)); refine box_event ?hg (N := 6) ?hd (cs := #[.int .i64 0, .string (⟨#[]⟩ : ByteArray), .string (⟨#[]⟩ : ByteArray), .slice none 0 0]) (t := 39) ?hr ?_; (case hd => rfl); (case hg => rfl); (case hr => exact dq0); intro gb348 hg w17 hbox hb; have n0_ := Aside0.mk (Kd.R_below dq37 hb); have n1_ := Aside0.mk (below_step dq23 hb); have n2_ := Aside0.mk (hbox); have n3_ := Aside0.mk ((dq22 : w.heap.size ≤ gb348)); have n4_ := Aside0.mk ((dq22 : w.heap.size ≤ gb348)); clear HO_4; clear HB; have HO_4 := n0_; have HB := n1_; have BK348 := n2_; have GW348 := n3_; have GE348 := n4_; clear n0_ n1_ n2_ n3_ n4_; clear hb hbox hg; obtain ⟨⟨hcz18_0, hcz18_1, hcz18_2, hcz18_3⟩, hfz18_0, hfz18_1, hfz18_2, hfz18_3⟩ := blkC4 BK348.out) | (go_at_call 71; (with_reducible refine (impl_Item_isGood.calls k2 ((rd_T39 l0 x28_2).f0) ((rd_T39 l0 x28_2).f1) ((rd_T39 l0 x28_2).f2) _ _ ((rd_T39 l0 x28_2).f3) true _ ?side3 ?side1 ?side2 A13.out).mono ?_); (case side1 => exact dq10); (case side2 => exact HC347_3.out); (case side3 => exact dq11); rintro e w19 ⟨rfl, hb⟩; have n0_ := Aside0.mk (Kd.R_below dq111 hb); have n1_ := Aside0.mk (blk_below (g := gb348) (o := .cells #[.int .i64 ((rd_T39 l0 x28_2).f0), .string ((rd_T39 l0 x28_2).f1), .string ((rd_T39 l0 x28_2).f2), .slice A347_3 ((rd_T39 l0 x28_2).f3).length c347_3] 39 (0, 0)) dq110 hb); have n2_ := Aside0.mk (below_step dq108 hb); clear HO_4; clear BK348; clear HB; have HO_4 := n0_; have BK348 := n1_; have HB := n2_; clear n0_ n1_ n2_; (try clear hb); (try clear hb2); (try clear hk); (try clear hi); obtain ⟨⟨hcz20_0, hcz20_1, hcz20_2, hcz20_3⟩, hfz20_0, hfz20_1, hfz20_2, hfz20_3⟩ := blkC4 BK348.out) | (go_at_call 72; (with_reducible refine (impl_Item_bytes.calls k2 ((rd_T39 l0 x28_2).f0) ((rd_T39 l0 x28_2).f1) ((rd_T39 l0 x28_2).f2) _ _ ((rd_T39 l0 x28_2).f3) t350 _ ?side1 ?side2 A15.out).mono ?_); (case side1 => exact dq12); (case side2 => exact HC347_3.out); rintro e w21 ⟨rfl, hb⟩; have n0_ := Aside0.mk (Kd.R_below dq37 hb); have n1_ := Aside0.mk (blk_below (g := gb348) (o := .cells #[.int .i64 ((rd_T39 l0 x28_2).f0), .string ((rd_T39 l0 x28_2).f1), .string ((rd_T39 l0 x28_2).f2), .slice A347_3 ((rd_T39 l0 x28_2).f3).length c347_3] 39 (0, 0)) dq109 hb); have n2_ := Aside0.mk (below_step dq108 hb); clear HO_4; clear BK348; clear HB; have HO_4 := n0_; have BK348 := n1_; have HB := n2_; clear n0_ n1_ n2_; (try clear hb); (try clear hb2); (try clear hk); (try clear hi)))
          repeat (go_quiet (first | ((with_reducible refine gate_dst (N := 6) rfl ?_); (try (refine gate_guard (by rfl) ?_; dsimp only)); refine box_event ?hg (N := 6) ?hd (cs := #[.int .i64 0, .string (⟨#[]⟩ : ByteArray), .string (⟨#[]⟩ : ByteArray), .slice none 0 0]) (t := 39) ?hr ?_; (case hd => rfl); (case hg => rfl); (case hr => exact dq0); intro gb348 hg w17 hbox hb; have n0_ := Aside0.mk (Kd.R_below dq37 hb); have n1_ := Aside0.mk (below_step dq23 hb); have n2_ := Aside0.mk (hbox); have n3_ := Aside0.mk ((dq22 : w.heap.size ≤ gb348)); have n4_ := Aside0.mk ((dq22 : w.heap.size ≤ gb348)); clear HO_4; clear HB; have HO_4 := n0_; have HB := n1_; have BK348 := n2_; have GW348 := n3_; have GE348 := n4_; clear n0_ n1_ n2_ n3_ n4_; clear hb hbox hg; obtain ⟨⟨hcz18_0, hcz18_1, hcz18_2, hcz18_3⟩, hfz18_0, hfz18_1, hfz18_2, hfz18_3⟩ := blkC4 BK348.out) | (go_at_call 71; (with_reducible refine (impl_Item_isGood.calls k2 ((rd_T39 l0 x28_2).f0) ((rd_T39 l0 x28_2).f1) ((rd_T39 l0 x28_2).f2) _ _ ((rd_T39 l0 x28_2).f3) true _ ?side3 ?side1 ?side2 A13.out).mono ?_); (case side1 => exact dq10); (case side2 => exact HC347_3.out); (case side3 => exact dq11); rintro e w19 ⟨rfl, hb⟩; have n0_ := Aside0.mk (Kd.R_below dq111 hb); have n1_ := Aside0.mk (blk_below (g := gb348) (o := .cells #[.int .i64 ((rd_T39 l0 x28_2).f0), .string ((rd_T39 l0 x28_2).f1), .string ((rd_T39 l0 x28_2).f2), .slice A347_3 ((rd_T39 l0 x28_2).f3).length c347_3] 39 (0, 0)) dq110 hb); have n2_ := Aside0.mk (below_step dq108 hb); clear HO_4; clear BK348; clear HB; have HO_4 := n0_; have BK348 := n1_; have HB := n2_; clear n0_ n1_ n2_; (try clear hb); (try clear hb2); (try clear hk); (try clear hi); obtain ⟨⟨hcz20_0, hcz20_1, hcz20_2, hcz20_3⟩, hfz20_0, hfz20_1, hfz20_2, hfz20_3⟩ := blkC4 BK348.out) | (go_at_call 72; (with_reducible refine (impl_Item_bytes.calls k2 ((rd_T39 l0 x28_2).f0) ((rd_T39 l0 x28_2).f1) ((rd_T39 l0 x28_2).f2) _ _ ((rd_T39 l0 x28_2).f3) t350 _ ?side1 ?side2 A15.out).mono ?_); (case side1 => exact dq12); (case side2 => exact HC347_3.out); rintro e w21 ⟨rfl, hb⟩; have n0_ := Aside0.mk (Kd.R_below dq37 hb); have n1_ := Aside0.mk (blk_below (g := gb348) (o := .cells #[.int .i64 ((rd_T39 l0 x28_2).f0), .string ((rd_T39 l0 x28_2).f1), .string ((rd_T39 l0 x28_2).f2), .slice A347_3 ((rd_T39 l0 x28_2).f3).length c347_3] 39 (0, 0)) dq109 hb); have n2_ := Aside0.mk (below_step dq108 hb); clear HO_4; clear BK348; clear HB; have HO_4 := n0_; have BK348 := n1_; have HB := n2_; clear n0_ n1_ n2_; (try clear hb); (try clear hb2); (try clear hk); (try clear hi))); go_upto_block 2 with (first | ((with_reducible refine gate_dst (N := 6) rfl ?_); (try (refine gate_guard (by rfl) ?_; dsimp only)); refine box_event ?hg (N := 6) ?hd (cs := #[.int .i64 0, .string (⟨#[]⟩ : ByteArray), .string (⟨#[]⟩ : ByteArray), .slice none 0 0]) (t := 39) ?hr ?_; (case hd => rfl); (case hg => rfl); (case hr => exact dq0); intro gb348 hg w17 hbox hb; have n0_ := Aside0.mk (Kd.R_below dq37 hb); have n1_ := Aside0.mk (below_step dq23 hb); have n2_ := Aside0.mk (hbox); have n3_ := Aside0.mk ((dq22 : w.heap.size ≤ gb348)); have n4_ := Aside0.mk ((dq22 : w.heap.size ≤ gb348)); clear HO_4; clear HB; have HO_4 := n0_; have HB := n1_; have BK348 := n2_; have GW348 := n3_; have GE348 := n4_; clear n0_ n1_ n2_ n3_ n4_; clear hb hbox hg; obtain ⟨⟨hcz18_0, hcz18_1, hcz18_2, hcz18_3⟩, hfz18_0, hfz18_1, hfz18_2, hfz18_3⟩ := blkC4 BK348.out) | (go_at_call 71; (with_reducible refine (impl_Item_isGood.calls k2 ((rd_T39 l0 x28_2).f0) ((rd_T39 l0 x28_2).f1) ((rd_T39 l0 x28_2).f2) _ _ ((rd_T39 l0 x28_2).f3) true _ ?side3 ?side1 ?side2 A13.out).mono ?_); (case side1 => exact dq10); (case side2 => exact HC347_3.out); (case side3 => exact dq11); rintro e w19 ⟨rfl, hb⟩; have n0_ := Aside0.mk (Kd.R_below dq111 hb); have n1_ := Aside0.mk (blk_below (g := gb348) (o := .cells #[.int .i64 ((rd_T39 l0 x28_2).f0), .string ((rd_T39 l0 x28_2).f1), .string ((rd_T39 l0 x28_2).f2), .slice A347_3 ((rd_T39 l0 x28_2).f3).length c347_3] 39 (0, 0)) dq110 hb); have n2_ := Aside0.mk (below_step dq108 hb); clear HO_4; clear BK348; clear HB; have HO_4 := n0_; have BK348 := n1_; have HB := n2_; clear n0_ n1_ n2_; (try clear hb); (try clear hb2); (try clear hk); (try clear hi); obtain ⟨⟨hcz20_0, hcz20_1, hcz20_2, hcz20_3⟩, hfz20_0, hfz20_1, hfz20_2, hfz20_3⟩ := blkC4 BK348.out) | (go_at_call 72; (with_reducible refine (impl_Item_bytes.calls k2 ((rd_T39 l0 x28_2).f0) ((rd_T39 l0 x28_2).f1) ((rd_T39 l0 x28_2).f2) _ _ ((rd_T39 l0 x28_2).f3) t350 _ ?side1 ?side2 A15.out).mono ?_); (case side1 => exact dq12); (case side2 => exact HC347_3.out); rintro e w21 ⟨rfl, hb⟩; have n0_ := Aside0.mk (Kd.R_below dq37 hb); have n1_ := Aside0.mk (blk_below (g := gb348) (o := .cells #[.int .i64 ((rd_T39 l0 x28_2).f0), .string ((rd_T39 l0 x28_2).f1), .string ((rd_T39 l0 x28_2).f2), .slice A347_3 ((rd_T39 l0 x28_2).f3).length c347_3] 39 (0, 0)) dq109 hb); have n2_ := Aside0.mk (below_step dq108 hb); clear HO_4; clear BK348; clear HB; have HO_4 := n0_; have BK348 := n1_; have HB := n2_; clear n0_ n1_ n2_; (try clear hb); (try clear hb2); (try clear hk); (try clear hi))))
          (try simp only [Act.put, List.setIfInBounds_toArray, List.set_cons_zero, List.set_cons_succ])
          go_cut [4] (fun v4 wc => ∃ (kq : Nat) (x4_15 : List Int), Aside0 (impl_DocOk.j3 kq l0 (wrap64 (x3_2 + t350)) x4_15 x28_2 l0 (l0.length : Int) x28_2 ((rd_T39 l0 x28_2).f0) ((rd_T39 l0 x28_2).f1) ((rd_T39 l0 x28_2).f2) ((rd_T39 l0 x28_2).f3) = some r) ∧ Aside0 (kq ≤ k2) ∧ Aside0 (Kd.R (Kd.int .i64) 2 wc w.heap.size (fun _ => True) v4 x4_15) ∧ Aside0 (wc.heap[gb348]? = some (.cells #[.int .i64 ((rd_T39 l0 x28_2).f0), .string ((rd_T39 l0 x28_2).f1), .string ((rd_T39 l0 x28_2).f2), (.slice A347_3 ((rd_T39 l0 x28_2).f3).length c347_3)] 39 (0, 0))) ∧ Aside0 (Below w.heap.size w wc))
          case first =>
           have H := HC16.out
           clear HC16
           have H' := Aside0.mk H
           clear H
           go_wp2
           repeat (go_quiet (fail); try go_wp2)
           go_loopg [4] k2 (fun kq v4 w' => ∃ (x4_3 : List Int), Aside0 (impl_DocOk.l1 kq l0 (wrap64 (x3_2 + t350)) x4_3 x28_2 l0 (l0.length : Int) x28_2 ((rd_T39 l0 x28_2).f0) ((rd_T39 l0 x28_2).f1) ((rd_T39 l0 x28_2).f2) ((rd_T39 l0 x28_2).f3) = some r) ∧ Aside0 (kq ≤ k2) ∧ Aside0 (Kd.R (Kd.int .i64) 2 w' w.heap.size (fun _ => True) v4 x4_3) ∧ Aside0 (w'.heap[gb348]? = some (.cells #[.int .i64 ((rd_T39 l0 x28_2).f0), .string ((rd_T39 l0 x28_2).f1), .string ((rd_T39 l0 x28_2).f2), (.slice A347_3 ((rd_T39 l0 x28_2).f3).length c347_3)] 39 (0, 0))) ∧ Aside0 (Below w.heap.size w w'))
           case atStart => exact ⟨(x4_2), H', ⟨Nat.le_refl _⟩, ⟨dq37⟩, ⟨dq109⟩, ⟨dq108⟩⟩
           case round =>
            clear H'
            try clear c1
            try clear p2
            try clear c3
            try clear p3
            try clear q3
            try clear hx3
            try clear qi3
            try clear c4
            try clear c5
            try clear c5b0
            try clear c5b1
            try clear c6
            try clear c6b0
            try clear c6b1
            try clear p6
            try clear c7
            try clear c10
            try clear c10b0
            try clear c11
            try clear c11b0
            try clear c12
            try clear c12b0
            try clear c14
            try clear hcz18_0
            try clear hcz18_1
            try clear hcz18_2
            try clear hcz18_3
            try clear hcz20_0
            try clear hcz20_1
            try clear hcz20_2
            try clear hcz20_3
            try clear hfz18_0
            try clear hfz18_1
            try clear hfz18_2
            try clear hfz18_3
            try clear hfz20_0
            try clear hfz20_1
            try clear hfz20_2
            try clear hfz20_3
            try clear hx342_0
            try clear hx342_1
            try clear hx342_2
            try clear hx342_3
            try clear hx343_0
            try clear hx343_1
            try clear hx343_2
            try clear hx343_3
            try clear hx347_0
            try clear hx347_1
            try clear hx347_2
            try clear hx347_3
            try clear p2
            try clear p3
            try clear p342
            try clear p343
            try clear p347
            try clear q3
            try clear q342
            try clear q343
            try clear q347
            obtain ⟨x4_3, HA, HK3, HO_4, BK348, HB⟩ := hrel
            cases gk with
            | zero => exact absurd HA.out (by simp [impl_DocOk.l1])
            | succ k3 =>
             have H := HA.out
             clear HA
             simp only [impl_DocOk.l1] at H
             by_cases c22 : (x4_3.length : Int) > 0
             ·rw [if_pos c22] at H
              have c22b0 : decide (0 < (x4_3.length : Int)) = true := decide_eq_true c22
              have c22b1 : decide (0 < x4_3.length) = true := decide_eq_true dq34
              clear c22
              (first | rw [c22b0] | (simp only [i64_w, i32_w]; rw [c22b0]) | skip)
              obtain ⟨ji23, hji23⟩ : ∃ j_ : Int, (wrap64 ((x4_3.length : Int) - 1)) = j_ := ⟨_, rfl⟩
              replace H : (if 0 ≤ (ji23) then (if (ji23) < (x4_3.length : Int) then (if (rd x4_3 (ji23)) = ((rd_T39 l0 x28_2).f0) then (impl_DocOk.j3 k3 l0 (wrap64 (x3_2 + t350)) x4_3 x28_2 l0 (l0.length : Int) x28_2 ((rd_T39 l0 x28_2).f0) ((rd_T39 l0 x28_2).f1) ((rd_T39 l0 x28_2).f2) ((rd_T39 l0 x28_2).f3)) else (if (ji23) ≤ (x4_3.length : Int) then (impl_DocOk.l1 k3 l0 (wrap64 (x3_2 + t350)) (x4_3.take ((ji23) : Int).toNat) x28_2 l0 (l0.length : Int) x28_2 ((rd_T39 l0 x28_2).f0) ((rd_T39 l0 x28_2).f1) ((rd_T39 l0 x28_2).f2) ((rd_T39 l0 x28_2).f3)) else (none))) else (none)) else (none)) = some r := by first | (rw [hji23] at H; exact H) | (simp only [hji23] at H ⊢; exact H)
              have hji23w : (IntKind.i64.wrap ((x4_3.length : Int) - 1)) = ji23 := (i64_w _).trans hji23
              by_cases c24 : 0 ≤ (ji23)
              ·rw [if_pos c24] at H
               have c24b0 := decide_eq_true c24
               clear c24
               by_cases c25 : (ji23) < (x4_3.length : Int)
               ·rw [if_pos c25] at H
                have c25b0 := decide_eq_true c25
                clear c25
                by_cases c26 : (rd x4_3 (ji23)) = ((rd_T39 l0 x28_2).f0)
                ·rw [if_pos c26] at H
                 have c26b0 := beq_iff_eq.mpr c26
                 have c26b1 := bne_eq_false_iff_eq.mpr c26
                 clear c26
                 have H' := Aside0.mk H
                 clear H
                 obtain ⟨Ao27, co27, eo27⟩ := Kd.R_slice HO_4.out
                 subst eo27
                 have p351 : 0 ≤ ((ji23) : Int) := of_decide_eq_true dq27
                 have q351 : (ji23) < (x4_3.length : Int) := of_decide_eq_true dq27
                 obtain ⟨ad351, e351, hx351_0⟩ := Kd.at_int (Kd.R_reads' HO_4.out).2.2 (ji23) p351 q351
                 cases e351
                 replace p351 := eq_true p351
                 replace q351 := eq_true q351
                 obtain ⟨⟨hcz28_0, hcz28_1, hcz28_2, hcz28_3⟩, hfz28_0, hfz28_1, hfz28_2, hfz28_3⟩ := blkC4 BK348.out
                 go_wp2
                 repeat (go_quiet (fail); try go_wp2)
                 go_meet
                 case rel => exact ⟨_, (x4_3), H', ⟨dq43⟩, ⟨dq37⟩, ⟨dq109⟩, ⟨dq108⟩⟩
                ·rw [if_neg c26] at H
                 have c26b0 := beq_eq_false_iff_ne.mpr c26
                 have c26b1 := bne_iff_ne.mpr c26
                 by_cases c29 : (ji23) ≤ (x4_3.length : Int)
                 ·rw [if_pos c29] at H
                  have c29b0 := eq_true c29
                  have c29b1 := decide_eq_true c29
                  clear c29
                  obtain ⟨y352, hy352⟩ : ∃ y_ : List Int, y_ = (x4_3.take ((ji23) : Int).toNat) := ⟨_, rfl⟩
                  replace H : (impl_DocOk.l1 k3 l0 (wrap64 (x3_2 + t350)) y352 x28_2 l0 (l0.length : Int) x28_2 ((rd_T39 l0 x28_2).f0) ((rd_T39 l0 x28_2).f1) ((rd_T39 l0 x28_2).f2) ((rd_T39 l0 x28_2).f3)) = some r := by first | (rw [hy352]; with_reducible exact H) | (have H2_ := (Option.bind_some _ _).symm.trans H; rw [hy352]; with_reducible exact H2_) | (have H2_ := (Option.bind_some _ _).symm.trans H; with_reducible exact H2_) | with_reducible exact H | (rw [hy352]; exact H) | exact H
                  have Ny352 := Aside0.mk hy352
                  clear hy352
                  have H' := Aside0.mk H
                  clear H
                  obtain ⟨Ao30, co30, eo30⟩ := Kd.R_slice HO_4.out
                  subst eo30
                  have p351 : 0 ≤ ((ji23) : Int) := of_decide_eq_true dq27
                  have q351 : (ji23) < (x4_3.length : Int) := of_decide_eq_true dq27
                  obtain ⟨ad351, e351, hx351_0⟩ := Kd.at_int (Kd.R_reads' HO_4.out).2.2 (ji23) p351 q351
                  cases e351
                  replace p351 := eq_true p351
                  replace q351 := eq_true q351
                  obtain ⟨⟨hcz31_0, hcz31_1, hcz31_2, hcz31_3⟩, hfz31_0, hfz31_1, hfz31_2, hfz31_3⟩ := blkC4 BK348.out
                  have q32 : ((ji23) : Int) ≤ ((x4_3.length : Int) : Int) := of_decide_eq_true dq27
                  obtain ⟨i032, hi032, _, hsz32, _⟩ := info_parts info2
                  have hcut32 := cut_to (P := Tryd.prog) 24 2 .i64 Tryd.underlying24 hi032 (some ad351) x4_3.length co30 (ji23) (of_decide_eq_true dq27) q32 (Kd.R_reads' HO_4.out).2.1
                  have hr32 := Kd.R_take (m := ((ji23) : Int).toNat) HO_4.out dq34
                  have hy32 : y352.length = ((ji23) : Int).toNat := (by rw [Ny352.out, List.length_take]; omega)
                  rw [← Ny352.out] at hr32
                  rw [← hy32] at hr32 hcut32
                  clear hy32 hi032 hsz32 HO_4
                  have HO354 := Aside0.mk hr32
                  clear hr32
                  replace q32 := eq_true q32
                  go_wp2
                  repeat (go_quiet (fail); try go_wp2)
                  go_roundg k3
                  case measure => have := HJ1.out; have := HK2.out; have := HK3.out; omega
                  case rel => exact ⟨(y352), H', ⟨by have := HJ1.out; have := HK2.out; have := HK3.out; omega⟩, ⟨by (with_reducible repeat (first | apply Kd.R_alloc | apply Kd.R_drewN | apply Kd.R_drew)); exact HO354.out⟩, ⟨dq109⟩, ⟨dq108⟩⟩
                 ·rw [if_neg c29] at H
                  exact absurd H dq31
               ·rw [if_neg c25] at H
                exact absurd H dq31
              ·rw [if_neg c24] at H
               exact absurd H dq31
             ·rw [if_neg c22] at H
              have c22b0 : decide (0 < (x4_3.length : Int)) = false := decide_eq_false c22
              have c22b1 : decide (0 < x4_3.length) = false := decide_eq_false dq34
              clear c22
              (first | rw [c22b0] | (simp only [i64_w, i32_w]; rw [c22b0]) | skip)
              have H' := Aside0.mk H
              clear H
              obtain ⟨Ao33, co33, eo33⟩ := Kd.R_slice HO_4.out
              subst eo33
              go_wp2
              repeat (go_quiet (fail); try go_wp2)
              go_meet
              case rel => exact ⟨_, (x4_3), H', ⟨dq43⟩, ⟨dq37⟩, ⟨dq109⟩, ⟨dq108⟩⟩
          case rest =>
           clear HC16
           try clear c1
           try clear c2
           try clear p2
           try clear c3
           try clear p3
           try clear q3
           try clear hx3
           try clear qi3
           try clear c4
           try clear c5
           try clear c5b0
           try clear c5b1
           try clear c6
           try clear c6b0
           try clear c6b1
           try clear p6
           try clear c7
           try clear c10
           try clear c10b0
           try clear c11
           try clear c11b0
           try clear c12
           try clear c12b0
           try clear c14
           try clear c22
           try clear c22b0
           try clear c22b1
           try clear c24
           try clear c24b0
           try clear c25
           try clear c25b0
           try clear c26
           try clear c26b0
           try clear c26b1
           try clear c29
           try clear c29b0
           try clear c29b1
           try clear q32
           try clear hcz18_0
           try clear hcz18_1
           try clear hcz18_2
           try clear hcz18_3
           try clear hcz20_0
           try clear hcz20_1
           try clear hcz20_2
           try clear hcz20_3
           try clear hcz28_0
           try clear hcz28_1
           try clear hcz28_2
           try clear hcz28_3
           try clear hcz31_0
           try clear hcz31_1
           try clear hcz31_2
           try clear hcz31_3
           try clear hfz18_0
           try clear hfz18_1
           try clear hfz18_2
           try clear hfz18_3
           try clear hfz20_0
           try clear hfz20_1
           try clear hfz20_2
           try clear hfz20_3
           try clear hfz28_0
           try clear hfz28_1
           try clear hfz28_2
           try clear hfz28_3
           try clear hfz31_0
           try clear hfz31_1
           try clear hfz31_2
           try clear hfz31_3
           try clear hx342_0
           try clear hx342_1
           try clear hx342_2
           try clear hx342_3
           try clear hx343_0
           try clear hx343_1
           try clear hx343_2
           try clear hx343_3
           try clear hx347_0
           try clear hx347_1
           try clear hx347_2
           try clear hx347_3
           try clear hx351_0
           try clear p2
           try clear p3
           try clear p342
           try clear p343
           try clear p347
           try clear p351
           try clear p6
           try clear q3
           try clear q32
           try clear q342
           try clear q343
           try clear q347
           try clear q351
           obtain ⟨kq, x4_15, HA, HJ15, HO_4, BK348, HB⟩ := hcut
           cases kq with
           | zero => exact absurd HA.out (by simp [impl_DocOk.j3])
           | succ kj15 =>
            have H := HA.out
            clear HA
            simp only [impl_DocOk.j3] at H
            have HC34 := Aside0.mk H
            clear H
            go_upto_region 12 with (fail)
            repeat (go_quiet (fail); go_upto_region 12 with (fail))
            go_cut [70] (fun v70 wc => ∃ (kq : Nat) (x70_33 : Bool), v70 = .bool x70_33 ∧ Aside0 (impl_DocOk.j4 kq l0 (wrap64 (x3_2 + t350)) x4_15 x28_2 l0 (l0.length : Int) x28_2 x70_33 ((rd_T39 l0 x28_2).f0) ((rd_T39 l0 x28_2).f1) ((rd_T39 l0 x28_2).f2) ((rd_T39 l0 x28_2).f3) = some r) ∧ Aside0 (kq ≤ kj15) ∧ Aside0 (Kd.R (Kd.int .i64) 2 wc w.heap.size (fun _ => True) u4 x4_15) ∧ Aside0 (wc.heap[gb348]? = some (.cells #[.int .i64 ((rd_T39 l0 x28_2).f0), .string ((rd_T39 l0 x28_2).f1), .string ((rd_T39 l0 x28_2).f2), (.slice A347_3 ((rd_T39 l0 x28_2).f3).length c347_3)] 39 (0, 0))) ∧ Aside0 (Below w.heap.size w wc))
            case first =>
             have H := HC34.out
             clear HC34
             by_cases c35 : x28_2 > 0
             ·rw [if_pos c35] at H
              have c35b0 : decide (0 < x28_2) = true := decide_eq_true c35
              clear c35
              (first | rw [c35b0] | (simp only [i64_w, i32_w]; rw [c35b0]) | skip)
              by_cases c36 : (x4_15.length : Int) = 0
              ·rw [if_pos c36] at H
               have c36b0 := beq_iff_eq.mpr c36
               have c36b1 := bne_eq_false_iff_eq.mpr c36
               clear c36
               have H' := Aside0.mk H
               clear H
               obtain ⟨Ao37, co37, eo37⟩ := Kd.R_slice HO_4.out
               subst eo37
               go_wp2
               repeat (go_quiet (fail); try go_wp2)
               go_meet
               case rel => exact ⟨_, (true), dq26, H', ⟨dq112⟩, ⟨dq37⟩, ⟨dq109⟩, ⟨dq108⟩⟩
              ·rw [if_neg c36] at H
               have c36b0 := beq_eq_false_iff_ne.mpr c36
               have c36b1 := bne_iff_ne.mpr c36
               have c36b2 : ¬ (x4_15 = []) := fun h_ => c36 (by rw [h_]; rfl)
               have H' := Aside0.mk H
               clear H
               obtain ⟨Ao38, co38, eo38⟩ := Kd.R_slice HO_4.out
               subst eo38
               go_wp2
               repeat (go_quiet (fail); try go_wp2)
               go_meet
               case rel => exact ⟨_, (decide ((x4_15.length : Int) ≥ 20)), dq26, H', ⟨dq112⟩, ⟨dq37⟩, ⟨dq109⟩, ⟨dq108⟩⟩
             ·rw [if_neg c35] at H
              have c35b0 : decide (0 < x28_2) = false := decide_eq_false c35
              clear c35
              (first | rw [c35b0] | (simp only [i64_w, i32_w]; rw [c35b0]) | skip)
              have H' := Aside0.mk H
              clear H
              obtain ⟨Ao39, co39, eo39⟩ := Kd.R_slice HO_4.out
              subst eo39
              go_wp2
              repeat (go_quiet (fail); try go_wp2)
              go_meet
              case rel => exact ⟨_, (decide ((x4_15.length : Int) ≥ 20)), dq26, H', ⟨dq112⟩, ⟨dq37⟩, ⟨dq109⟩, ⟨dq108⟩⟩
            case rest =>
             clear HC34
             try clear c1
             try clear c2
             try clear p2
             try clear c3
             try clear p3
             try clear q3
             try clear hx3
             try clear qi3
             try clear c4
             try clear c5
             try clear c5b0
             try clear c5b1
             try clear c6
             try clear c6b0
             try clear c6b1
             try clear p6
             try clear c7
             try clear c10
             try clear c10b0
             try clear c11
             try clear c11b0
             try clear c12
             try clear c12b0
             try clear c14
             try clear c22
             try clear c22b0
             try clear c22b1
             try clear c24
             try clear c24b0
             try clear c25
             try clear c25b0
             try clear c26
             try clear c26b0
             try clear c26b1
             try clear c29
             try clear c29b0
             try clear c29b1
             try clear q32
             try clear c34
             try clear p34
             try clear q34
             try clear hx34
             try clear qi34
             try clear c35
             try clear c35b0
             try clear p35
             try clear q35
             try clear hx35
             try clear c36
             try clear c36b0
             try clear c36b1
             try clear c36b2
             try clear hcz18_0
             try clear hcz18_1
             try clear hcz18_2
             try clear hcz18_3
             try clear hcz20_0
             try clear hcz20_1
             try clear hcz20_2
             try clear hcz20_3
             try clear hcz28_0
             try clear hcz28_1
             try clear hcz28_2
             try clear hcz28_3
             try clear hcz31_0
             try clear hcz31_1
             try clear hcz31_2
             try clear hcz31_3
             try clear hfz18_0
             try clear hfz18_1
             try clear hfz18_2
             try clear hfz18_3
             try clear hfz20_0
             try clear hfz20_1
             try clear hfz20_2
             try clear hfz20_3
             try clear hfz28_0
             try clear hfz28_1
             try clear hfz28_2
             try clear hfz28_3
             try clear hfz31_0
             try clear hfz31_1
             try clear hfz31_2
             try clear hfz31_3
             try clear hx342_0
             try clear hx342_1
             try clear hx342_2
             try clear hx342_3
             try clear hx343_0
             try clear hx343_1
             try clear hx343_2
             try clear hx343_3
             try clear hx347_0
             try clear hx347_1
             try clear hx347_2
             try clear hx347_3
             try clear hx351_0
             try clear p2
             try clear p3
             try clear p342
             try clear p343
             try clear p347
             try clear p351
             try clear p6
             try clear q3
             try clear q32
             try clear q342
             try clear q343
             try clear q347
             try clear q351
             obtain ⟨kq, x70_33, rfl, HA, HJ33, HO_4, BK348, HB⟩ := hcut
             cases kq with
             | zero => exact absurd HA.out (by simp [impl_DocOk.j4])
             | succ kj33 =>
              have H := HA.out
              clear HA
              simp only [impl_DocOk.j4] at H
              by_cases c40 : x70_33 = true
              ·subst c40
               have H1 : (some false) = some r := by rw [if_pos rfl] at H; exact H
               clear H
               have H := H1
               clear H1
               obtain rfl := Option.some.inj H
               go_wp2
               repeat (go_quiet (fail); try go_wp2)
               go_ret
               exact ⟨dq25, dq108⟩
              ·replace c40 := Bool.eq_false_iff.mpr c40
               subst c40
               have H1 : (if ((rd_T39 l0 x28_2).f1).toList = ([] : List UInt8) then (if x28_2 > 0 then (if 0 ≤ (wrap64 (x28_2 - 1)) then (if (wrap64 (x28_2 - 1)) < (l0.length : Int) then (if ((rd_T39 l0 (wrap64 (x28_2 - 1))).f1).toList = ([] : List UInt8) then (if ((rd_T39 l0 (wrap64 (x28_2 - 1))).f0) = ((rd_T39 l0 x28_2).f0) then (some false) else (impl_DocOk.l0 kj33 l0 (wrap64 (x3_2 + t350)) x4_15 l0 (l0.length : Int) (wrap64 (x28_2 + 1)))) else (impl_DocOk.l0 kj33 l0 (wrap64 (x3_2 + t350)) x4_15 l0 (l0.length : Int) (wrap64 (x28_2 + 1)))) else (none)) else (none)) else (impl_DocOk.l0 kj33 l0 (wrap64 (x3_2 + t350)) x4_15 l0 (l0.length : Int) (wrap64 (x28_2 + 1)))) else (if x4_15.length < 17592186044416 then (impl_DocOk.l0 kj33 l0 (wrap64 (x3_2 + t350)) (x4_15 ++ [x28_2]) l0 (l0.length : Int) (wrap64 (x28_2 + 1))) else (none))) = some r := by rw [if_neg (show ¬ (false = true) by decide)] at H; exact H
               clear H
               have H := H1
               clear H1
               by_cases c41 : ((rd_T39 l0 x28_2).f1).toList = ([] : List UInt8)
               ·rw [if_pos c41] at H
                have c41b0 := beq_iff_eq.mpr c41
                have c41b1 := bne_eq_false_iff_eq.mpr c41
                clear c41
                by_cases c42 : x28_2 > 0
                ·rw [if_pos c42] at H
                 have c42b0 : decide (0 < x28_2) = true := decide_eq_true c42
                 clear c42
                 obtain ⟨ji43, hji43⟩ : ∃ j_ : Int, (wrap64 (x28_2 - 1)) = j_ := ⟨_, rfl⟩
                 replace H : (if 0 ≤ (ji43) then (if (ji43) < (l0.length : Int) then (if ((rd_T39 l0 (ji43)).f1).toList = ([] : List UInt8) then (if ((rd_T39 l0 (ji43)).f0) = ((rd_T39 l0 x28_2).f0) then (some false) else (impl_DocOk.l0 kj33 l0 (wrap64 (x3_2 + t350)) x4_15 l0 (l0.length : Int) (wrap64 (x28_2 + 1)))) else (impl_DocOk.l0 kj33 l0 (wrap64 (x3_2 + t350)) x4_15 l0 (l0.length : Int) (wrap64 (x28_2 + 1)))) else (none)) else (none)) = some r := by first | (rw [hji43] at H; exact H) | (simp only [hji43] at H ⊢; exact H)
                 have hji43w : (IntKind.i64.wrap (x28_2 - 1)) = ji43 := (i64_w _).trans hji43
                 by_cases c44 : 0 ≤ (ji43)
                 ·rw [if_pos c44] at H
                  have c44b0 := decide_eq_true c44
                  clear c44
                  by_cases c45 : (ji43) < (l0.length : Int)
                  ·rw [if_pos c45] at H
                   have c45b0 := decide_eq_true c45
                   clear c45
                   by_cases c46 : ((rd_T39 l0 (ji43)).f1).toList = ([] : List UInt8)
                   ·rw [if_pos c46] at H
                    have c46b0 := beq_iff_eq.mpr c46
                    have c46b1 := bne_eq_false_iff_eq.mpr c46
                    clear c46
                    by_cases c47 : ((rd_T39 l0 (ji43)).f0) = ((rd_T39 l0 x28_2).f0)
                    ·rw [if_pos c47] at H
                     have c47b0 := beq_iff_eq.mpr c47
                     have c47b1 := bne_eq_false_iff_eq.mpr c47
                     clear c47
                     obtain rfl := Option.some.inj H
                     obtain ⟨⟨hcz48_0, hcz48_1, hcz48_2, hcz48_3⟩, hfz48_0, hfz48_1, hfz48_2, hfz48_3⟩ := blkC4 BK348.out
                     have p355 : 0 ≤ ((ji43) : Int) := of_decide_eq_true dq27
                     have q355 : (ji43) < (l0.length : Int) := of_decide_eq_true dq27
                     obtain ⟨ad355, A355_3, c355_3, e355, hx355_0, hx355_1, hx355_2, hx355_3, hl355_3, hi355_3⟩ := at_T39 HR0.out (ji43) p355 q355
                     obtain rfl : ad347 = ad355 := (by injection e355)
                     replace hx355_0 := (HB.out.cell (World.block_lt_of_cell? w _ hx355_0)).trans hx355_0
                     replace hx355_1 := (HB.out.cell (World.block_lt_of_cell? w _ hx355_1)).trans hx355_1
                     replace hx355_2 := (HB.out.cell (World.block_lt_of_cell? w _ hx355_2)).trans hx355_2
                     replace hx355_3 := (HB.out.cell (World.block_lt_of_cell? w _ hx355_3)).trans hx355_3
                     have HR355_3 := Aside0.mk hi355_3
                     have HC355_3 := Aside0.mk hl355_3
                     clear hi355_3 hl355_3
                     replace p355 := eq_true p355
                     replace q355 := eq_true q355
                     have p356 : 0 ≤ ((ji43) : Int) := of_decide_eq_true dq27
                     have q356 : (ji43) < (l0.length : Int) := of_decide_eq_true dq27
                     obtain ⟨ad356, A356_3, c356_3, e356, hx356_0, hx356_1, hx356_2, hx356_3, hl356_3, hi356_3⟩ := at_T39 HR0.out (ji43) p356 q356
                     obtain rfl : ad347 = ad356 := (by injection e356)
                     replace hx356_0 := (HB.out.cell (World.block_lt_of_cell? w _ hx356_0)).trans hx356_0
                     replace hx356_1 := (HB.out.cell (World.block_lt_of_cell? w _ hx356_1)).trans hx356_1
                     replace hx356_2 := (HB.out.cell (World.block_lt_of_cell? w _ hx356_2)).trans hx356_2
                     replace hx356_3 := (HB.out.cell (World.block_lt_of_cell? w _ hx356_3)).trans hx356_3
                     have HR356_3 := Aside0.mk hi356_3
                     have HC356_3 := Aside0.mk hl356_3
                     clear hi356_3 hl356_3
                     replace p356 := eq_true p356
                     replace q356 := eq_true q356
                     have ea_ := Option.some.inj (hx355_3.symm.trans hx356_3)
                     injection ea_ with ea_ en_ ec_
                     subst ea_
                     subst ec_
                     clear en_
                     go_wp2
                     repeat (go_quiet (fail); try go_wp2)
                     go_ret
                     exact ⟨by first | rfl | (simp [errW_none, errW_some] <;> rfl) | (simp only [← hji43]; first | rfl | (simp [errW_none, errW_some] <;> rfl)) | (simp [*, errW_none, errW_some] <;> rfl), dq108⟩
                    ·rw [if_neg c47] at H
                     have c47b0 := beq_eq_false_iff_ne.mpr c47
                     have c47b1 := bne_iff_ne.mpr c47
                     have H' := Aside0.mk H
                     clear H
                     obtain ⟨⟨hcz49_0, hcz49_1, hcz49_2, hcz49_3⟩, hfz49_0, hfz49_1, hfz49_2, hfz49_3⟩ := blkC4 BK348.out
                     have p355 : 0 ≤ ((ji43) : Int) := of_decide_eq_true dq27
                     have q355 : (ji43) < (l0.length : Int) := of_decide_eq_true dq27
                     obtain ⟨ad355, A355_3, c355_3, e355, hx355_0, hx355_1, hx355_2, hx355_3, hl355_3, hi355_3⟩ := at_T39 HR0.out (ji43) p355 q355
                     obtain rfl : ad347 = ad355 := (by injection e355)
                     replace hx355_0 := (HB.out.cell (World.block_lt_of_cell? w _ hx355_0)).trans hx355_0
                     replace hx355_1 := (HB.out.cell (World.block_lt_of_cell? w _ hx355_1)).trans hx355_1
                     replace hx355_2 := (HB.out.cell (World.block_lt_of_cell? w _ hx355_2)).trans hx355_2
                     replace hx355_3 := (HB.out.cell (World.block_lt_of_cell? w _ hx355_3)).trans hx355_3
                     have HR355_3 := Aside0.mk hi355_3
                     have HC355_3 := Aside0.mk hl355_3
                     clear hi355_3 hl355_3
                     replace p355 := eq_true p355
                     replace q355 := eq_true q355
                     have p356 : 0 ≤ ((ji43) : Int) := of_decide_eq_true dq27
                     have q356 : (ji43) < (l0.length : Int) := of_decide_eq_true dq27
                     obtain ⟨ad356, A356_3, c356_3, e356, hx356_0, hx356_1, hx356_2, hx356_3, hl356_3, hi356_3⟩ := at_T39 HR0.out (ji43) p356 q356
                     obtain rfl : ad347 = ad356 := (by injection e356)
                     replace hx356_0 := (HB.out.cell (World.block_lt_of_cell? w _ hx356_0)).trans hx356_0
                     replace hx356_1 := (HB.out.cell (World.block_lt_of_cell? w _ hx356_1)).trans hx356_1
                     replace hx356_2 := (HB.out.cell (World.block_lt_of_cell? w _ hx356_2)).trans hx356_2
                     replace hx356_3 := (HB.out.cell (World.block_lt_of_cell? w _ hx356_3)).trans hx356_3
                     have HR356_3 := Aside0.mk hi356_3
                     have HC356_3 := Aside0.mk hl356_3
                     clear hi356_3 hl356_3
                     replace p356 := eq_true p356
                     replace q356 := eq_true q356
                     have ea_ := Option.some.inj (hx355_3.symm.trans hx356_3)
                     injection ea_ with ea_ en_ ec_
                     subst ea_
                     subst ec_
                     clear en_
                     go_wp2
                     repeat (go_quiet (fail); try go_wp2)
                     go_roundg kj33
                     case measure => have := HJ1.out; have := HK2.out; have := HJ15.out; have := HJ33.out; omega
                     case rel => exact ⟨((wrap64 (x3_2 + t350))), (x4_15), (wrap64 (x28_2 + 1)), dq26, dq26, H', ⟨dq113⟩, ⟨dq37⟩, ⟨dq108⟩⟩
                   ·rw [if_neg c46] at H
                    have c46b0 := beq_eq_false_iff_ne.mpr c46
                    have c46b1 := bne_iff_ne.mpr c46
                    have H' := Aside0.mk H
                    clear H
                    obtain ⟨⟨hcz50_0, hcz50_1, hcz50_2, hcz50_3⟩, hfz50_0, hfz50_1, hfz50_2, hfz50_3⟩ := blkC4 BK348.out
                    have p355 : 0 ≤ ((ji43) : Int) := of_decide_eq_true dq27
                    have q355 : (ji43) < (l0.length : Int) := of_decide_eq_true dq27
                    obtain ⟨ad355, A355_3, c355_3, e355, hx355_0, hx355_1, hx355_2, hx355_3, hl355_3, hi355_3⟩ := at_T39 HR0.out (ji43) p355 q355
                    obtain rfl : ad347 = ad355 := (by injection e355)
                    replace hx355_0 := (HB.out.cell (World.block_lt_of_cell? w _ hx355_0)).trans hx355_0
                    replace hx355_1 := (HB.out.cell (World.block_lt_of_cell? w _ hx355_1)).trans hx355_1
                    replace hx355_2 := (HB.out.cell (World.block_lt_of_cell? w _ hx355_2)).trans hx355_2
                    replace hx355_3 := (HB.out.cell (World.block_lt_of_cell? w _ hx355_3)).trans hx355_3
                    have HR355_3 := Aside0.mk hi355_3
                    have HC355_3 := Aside0.mk hl355_3
                    clear hi355_3 hl355_3
                    replace p355 := eq_true p355
                    replace q355 := eq_true q355
                    go_wp2
                    repeat (go_quiet (fail); try go_wp2)
                    go_roundg kj33
                    case measure => have := HJ1.out; have := HK2.out; have := HJ15.out; have := HJ33.out; omega
                    case rel => exact ⟨((wrap64 (x3_2 + t350))), (x4_15), (wrap64 (x28_2 + 1)), dq26, dq26, H', ⟨dq113⟩, ⟨dq37⟩, ⟨dq108⟩⟩
                  ·rw [if_neg c45] at H
                   exact absurd H dq31
                 ·rw [if_neg c44] at H
                  exact absurd H dq31
                ·rw [if_neg c42] at H
                 have c42b0 : decide (0 < x28_2) = false := decide_eq_false c42
                 clear c42
                 have H' := Aside0.mk H
                 clear H
                 obtain ⟨⟨hcz51_0, hcz51_1, hcz51_2, hcz51_3⟩, hfz51_0, hfz51_1, hfz51_2, hfz51_3⟩ := blkC4 BK348.out
                 go_wp2
                 repeat (go_quiet (fail); try go_wp2)
                 go_roundg kj33
                 case measure => have := HJ1.out; have := HK2.out; have := HJ15.out; have := HJ33.out; omega
                 case rel => exact ⟨((wrap64 (x3_2 + t350))), (x4_15), (wrap64 (x28_2 + 1)), dq26, dq26, H', ⟨dq113⟩, ⟨dq37⟩, ⟨dq108⟩⟩
               ·rw [if_neg c41] at H
                have c41b0 := beq_eq_false_iff_ne.mpr c41
                have c41b1 := bne_iff_ne.mpr c41
                by_cases c52 : x4_15.length < 17592186044416
                ·rw [if_pos c52] at H
                 have LMc52 := Aside0.mk c52
                 clear c52
                 obtain ⟨y357, hy357⟩ : ∃ y_ : List Int, y_ = (x4_15 ++ [x28_2]) := ⟨_, rfl⟩
                 replace H : (impl_DocOk.l0 kj33 l0 (wrap64 (x3_2 + t350)) y357 l0 (l0.length : Int) (wrap64 (x28_2 + 1))) = some r := by first | (rw [hy357]; with_reducible exact H) | (have H2_ := (Option.bind_some _ _).symm.trans H; rw [hy357]; with_reducible exact H2_) | (have H2_ := (Option.bind_some _ _).symm.trans H; with_reducible exact H2_) | with_reducible exact H | (rw [hy357]; exact H) | exact H
                 have Ny357 := Aside0.mk hy357
                 clear hy357
                 have H' := Aside0.mk H
                 clear H
                 obtain ⟨⟨hcz53_0, hcz53_1, hcz53_2, hcz53_3⟩, hfz53_0, hfz53_1, hfz53_2, hfz53_3⟩ := blkC4 BK348.out
                 go_wp2_with (first | ((with_reducible refine gate_builtin (b := .append) (xs := #[.tmp 74, .tmp 76]) rfl ?_); (try (refine gate_guard (by rfl) ?_; dsimp only)); at_builtin; refine Kd.R_append (Kd.int .i64) (w0 := w) w.heap.size rfl (.tmp 74) (.tmp 76) 24 2 (.int .i64 0) 8 rfl Tryd.underlying24 info2 rfl dq38 dq34 u4 x4_15 x28_2 [.int .i64 x28_2] (fun _ => True) (fun _ => False) rfl rfl ?aP (fun _ hk => hk.elim) ?aF ?aO ?aB ?aS ?aL ?_; (case aP => exact rfl); (case aB => exact dq108); (case aF => exact (fun _ _ => trivial)); (case aO => exact dq37); (case aS => exact (below_size dq108)); (case aL => have := LMc52.out; omega); intro v358 w54 ho hb hg hat; rw [← Ny357.out] at ho; have n0_ := Aside0.mk (blk_grown (g := gb348) (o := .cells #[.int .i64 ((rd_T39 l0 x28_2).f0), .string ((rd_T39 l0 x28_2).f1), .string ((rd_T39 l0 x28_2).f2), .slice A347_3 ((rd_T39 l0 x28_2).f3).length c347_3] 39 (0, 0)) dq109 hg (Kd.R_ne HO_4.out BK348.out dq38)); have n1_ := Aside0.mk (hb); have n2_ := Aside0.mk (ho); clear BK348; clear HB; clear HO_4; have BK348 := n0_; have HB := n1_; have HO359 := n2_; clear n0_ n1_ n2_; clear ho hb hg hat))
                 repeat (go_quiet (first | ((with_reducible refine gate_builtin (b := .append) (xs := #[.tmp 74, .tmp 76]) rfl ?_); (try (refine gate_guard (by rfl) ?_; dsimp only)); at_builtin; refine Kd.R_append (Kd.int .i64) (w0 := w) w.heap.size rfl (.tmp 74) (.tmp 76) 24 2 (.int .i64 0) 8 rfl Tryd.underlying24 info2 rfl dq38 dq34 u4 x4_15 x28_2 [.int .i64 x28_2] (fun _ => True) (fun _ => False) rfl rfl ?aP (fun _ hk => hk.elim) ?aF ?aO ?aB ?aS ?aL ?_; (case aP => exact rfl); (case aB => exact dq108); (case aF => exact (fun _ _ => trivial)); (case aO => exact dq37); (case aS => exact (below_size dq108)); (case aL => have := LMc52.out; omega); intro v358 w54 ho hb hg hat; rw [← Ny357.out] at ho; have n0_ := Aside0.mk (blk_grown (g := gb348) (o := .cells #[.int .i64 ((rd_T39 l0 x28_2).f0), .string ((rd_T39 l0 x28_2).f1), .string ((rd_T39 l0 x28_2).f2), .slice A347_3 ((rd_T39 l0 x28_2).f3).length c347_3] 39 (0, 0)) dq109 hg (Kd.R_ne HO_4.out BK348.out dq38)); have n1_ := Aside0.mk (hb); have n2_ := Aside0.mk (ho); clear BK348; clear HB; clear HO_4; have BK348 := n0_; have HB := n1_; have HO359 := n2_; clear n0_ n1_ n2_; clear ho hb hg hat)); try go_wp2_with (first | ((with_reducible refine gate_builtin (b := .append) (xs := #[.tmp 74, .tmp 76]) rfl ?_); (try (refine gate_guard (by rfl) ?_; dsimp only)); at_builtin; refine Kd.R_append (Kd.int .i64) (w0 := w) w.heap.size rfl (.tmp 74) (.tmp 76) 24 2 (.int .i64 0) 8 rfl Tryd.underlying24 info2 rfl dq38 dq34 u4 x4_15 x28_2 [.int .i64 x28_2] (fun _ => True) (fun _ => False) rfl rfl ?aP (fun _ hk => hk.elim) ?aF ?aO ?aB ?aS ?aL ?_; (case aP => exact rfl); (case aB => exact dq108); (case aF => exact (fun _ _ => trivial)); (case aO => exact dq37); (case aS => exact (below_size dq108)); (case aL => have := LMc52.out; omega); intro v358 w54 ho hb hg hat; rw [← Ny357.out] at ho; have n0_ := Aside0.mk (blk_grown (g := gb348) (o := .cells #[.int .i64 ((rd_T39 l0 x28_2).f0), .string ((rd_T39 l0 x28_2).f1), .string ((rd_T39 l0 x28_2).f2), .slice A347_3 ((rd_T39 l0 x28_2).f3).length c347_3] 39 (0, 0)) dq109 hg (Kd.R_ne HO_4.out BK348.out dq38)); have n1_ := Aside0.mk (hb); have n2_ := Aside0.mk (ho); clear BK348; clear HB; clear HO_4; have BK348 := n0_; have HB := n1_; have HO359 := n2_; clear n0_ n1_ n2_; clear ho hb hg hat)))
                 go_roundg kj33
                 case measure => have := HJ1.out; have := HK2.out; have := HJ15.out; have := HJ33.out; omega
                 case rel => exact ⟨((wrap64 (x3_2 + t350))), (y357), (wrap64 (x28_2 + 1)), dq26, dq26, H', ⟨dq113⟩, ⟨by (with_reducible repeat (first | apply Kd.R_alloc | apply Kd.R_drewN | apply Kd.R_drew)); exact HO359.out⟩, ⟨dq108⟩⟩
                ·rw [if_neg c52] at H
                 exact absurd H dq31
         ·replace c14 := Bool.eq_false_iff.mpr c14
          subst c14
          have H1 : (some false) = some r := by rw [if_neg (show ¬ (false = true) by decide)] at H; exact H
          clear H
          have H := H1
          clear H1
          obtain rfl := Option.some.inj H
          have p347 : 0 ≤ (x28_2 : Int) := of_decide_eq_true dq27
          have q347 : x28_2 < (l0.length : Int) := of_decide_eq_true dq27
          obtain ⟨ad347, A347_3, c347_3, e347, hx347_0, hx347_1, hx347_2, hx347_3, hl347_3, hi347_3⟩ := at_T39 HR0.out x28_2 p347 q347
          cases e347
          replace hx347_0 := (HB.out.cell (World.block_lt_of_cell? w _ hx347_0)).trans hx347_0
          replace hx347_1 := (HB.out.cell (World.block_lt_of_cell? w _ hx347_1)).trans hx347_1
          replace hx347_2 := (HB.out.cell (World.block_lt_of_cell? w _ hx347_2)).trans hx347_2
          replace hx347_3 := (HB.out.cell (World.block_lt_of_cell? w _ hx347_3)).trans hx347_3
          have HR347_3 := Aside0.mk hi347_3
          have HC347_3 := Aside0.mk hl347_3
          clear hi347_3 hl347_3
          replace p347 := eq_true p347
          replace q347 := eq_true q347
          go_wp2_with (first | ((with_reducible refine gate_dst (N := 6) rfl ?_); (try (refine gate_guard (by rfl) ?_; dsimp only)); refine box_event ?hg (N := 6) ?hd (cs := #[.int .i64 0, .string (⟨#[]⟩ : ByteArray), .string (⟨#[]⟩ : ByteArray), .slice none 0 0]) (t := 39) ?hr ?_; (case hd => rfl); (case hg => rfl); (case hr => exact dq0); intro gb348 hg w55 hbox hb; have n0_ := Aside0.mk (Kd.R_below dq37 hb); have n1_ := Aside0.mk (below_step dq23 hb); have n2_ := Aside0.mk (hbox); have n3_ := Aside0.mk ((dq22 : w.heap.size ≤ gb348)); have n4_ := Aside0.mk ((dq22 : w.heap.size ≤ gb348)); clear HO_4; clear HB; have HO_4 := n0_; have HB := n1_; have BK348 := n2_; have GW348 := n3_; have GE348 := n4_; clear n0_ n1_ n2_ n3_ n4_; clear hb hbox hg; obtain ⟨⟨hcz56_0, hcz56_1, hcz56_2, hcz56_3⟩, hfz56_0, hfz56_1, hfz56_2, hfz56_3⟩ := blkC4 BK348.out) | (go_at_call 71; (with_reducible refine (impl_Item_isGood.calls k2 ((rd_T39 l0 x28_2).f0) ((rd_T39 l0 x28_2).f1) ((rd_T39 l0 x28_2).f2) _ _ ((rd_T39 l0 x28_2).f3) false _ ?side3 ?side1 ?side2 A13.out).mono ?_); (case side1 => exact dq10); (case side2 => exact HC347_3.out); (case side3 => exact dq11); rintro e w57 ⟨rfl, hb⟩; have n0_ := Aside0.mk (Kd.R_below dq111 hb); have n1_ := Aside0.mk (blk_below (g := gb348) (o := .cells #[.int .i64 ((rd_T39 l0 x28_2).f0), .string ((rd_T39 l0 x28_2).f1), .string ((rd_T39 l0 x28_2).f2), .slice A347_3 ((rd_T39 l0 x28_2).f3).length c347_3] 39 (0, 0)) dq110 hb); have n2_ := Aside0.mk (below_step dq108 hb); clear HO_4; clear BK348; clear HB; have HO_4 := n0_; have BK348 := n1_; have HB := n2_; clear n0_ n1_ n2_; (try clear hb); (try clear hb2); (try clear hk); (try clear hi)))
          repeat (go_quiet (first | ((with_reducible refine gate_dst (N := 6) rfl ?_); (try (refine gate_guard (by rfl) ?_; dsimp only)); refine box_event ?hg (N := 6) ?hd (cs := #[.int .i64 0, .string (⟨#[]⟩ : ByteArray), .string (⟨#[]⟩ : ByteArray), .slice none 0 0]) (t := 39) ?hr ?_; (case hd => rfl); (case hg => rfl); (case hr => exact dq0); intro gb348 hg w55 hbox hb; have n0_ := Aside0.mk (Kd.R_below dq37 hb); have n1_ := Aside0.mk (below_step dq23 hb); have n2_ := Aside0.mk (hbox); have n3_ := Aside0.mk ((dq22 : w.heap.size ≤ gb348)); have n4_ := Aside0.mk ((dq22 : w.heap.size ≤ gb348)); clear HO_4; clear HB; have HO_4 := n0_; have HB := n1_; have BK348 := n2_; have GW348 := n3_; have GE348 := n4_; clear n0_ n1_ n2_ n3_ n4_; clear hb hbox hg; obtain ⟨⟨hcz56_0, hcz56_1, hcz56_2, hcz56_3⟩, hfz56_0, hfz56_1, hfz56_2, hfz56_3⟩ := blkC4 BK348.out) | (go_at_call 71; (with_reducible refine (impl_Item_isGood.calls k2 ((rd_T39 l0 x28_2).f0) ((rd_T39 l0 x28_2).f1) ((rd_T39 l0 x28_2).f2) _ _ ((rd_T39 l0 x28_2).f3) false _ ?side3 ?side1 ?side2 A13.out).mono ?_); (case side1 => exact dq10); (case side2 => exact HC347_3.out); (case side3 => exact dq11); rintro e w57 ⟨rfl, hb⟩; have n0_ := Aside0.mk (Kd.R_below dq111 hb); have n1_ := Aside0.mk (blk_below (g := gb348) (o := .cells #[.int .i64 ((rd_T39 l0 x28_2).f0), .string ((rd_T39 l0 x28_2).f1), .string ((rd_T39 l0 x28_2).f2), .slice A347_3 ((rd_T39 l0 x28_2).f3).length c347_3] 39 (0, 0)) dq110 hb); have n2_ := Aside0.mk (below_step dq108 hb); clear HO_4; clear BK348; clear HB; have HO_4 := n0_; have BK348 := n1_; have HB := n2_; clear n0_ n1_ n2_; (try clear hb); (try clear hb2); (try clear hk); (try clear hi))); try go_wp2_with (first | ((with_reducible refine gate_dst (N := 6) rfl ?_); (try (refine gate_guard (by rfl) ?_; dsimp only)); refine box_event ?hg (N := 6) ?hd (cs := #[.int .i64 0, .string (⟨#[]⟩ : ByteArray), .string (⟨#[]⟩ : ByteArray), .slice none 0 0]) (t := 39) ?hr ?_; (case hd => rfl); (case hg => rfl); (case hr => exact dq0); intro gb348 hg w55 hbox hb; have n0_ := Aside0.mk (Kd.R_below dq37 hb); have n1_ := Aside0.mk (below_step dq23 hb); have n2_ := Aside0.mk (hbox); have n3_ := Aside0.mk ((dq22 : w.heap.size ≤ gb348)); have n4_ := Aside0.mk ((dq22 : w.heap.size ≤ gb348)); clear HO_4; clear HB; have HO_4 := n0_; have HB := n1_; have BK348 := n2_; have GW348 := n3_; have GE348 := n4_; clear n0_ n1_ n2_ n3_ n4_; clear hb hbox hg; obtain ⟨⟨hcz56_0, hcz56_1, hcz56_2, hcz56_3⟩, hfz56_0, hfz56_1, hfz56_2, hfz56_3⟩ := blkC4 BK348.out) | (go_at_call 71; (with_reducible refine (impl_Item_isGood.calls k2 ((rd_T39 l0 x28_2).f0) ((rd_T39 l0 x28_2).f1) ((rd_T39 l0 x28_2).f2) _ _ ((rd_T39 l0 x28_2).f3) false _ ?side3 ?side1 ?side2 A13.out).mono ?_); (case side1 => exact dq10); (case side2 => exact HC347_3.out); (case side3 => exact dq11); rintro e w57 ⟨rfl, hb⟩; have n0_ := Aside0.mk (Kd.R_below dq111 hb); have n1_ := Aside0.mk (blk_below (g := gb348) (o := .cells #[.int .i64 ((rd_T39 l0 x28_2).f0), .string ((rd_T39 l0 x28_2).f1), .string ((rd_T39 l0 x28_2).f2), .slice A347_3 ((rd_T39 l0 x28_2).f3).length c347_3] 39 (0, 0)) dq110 hb); have n2_ := Aside0.mk (below_step dq108 hb); clear HO_4; clear BK348; clear HB; have HO_4 := n0_; have BK348 := n1_; have HB := n2_; clear n0_ n1_ n2_; (try clear hb); (try clear hb2); (try clear hk); (try clear hi))))
          go_ret
          exact ⟨dq25, dq108⟩
        ·rw [if_neg c12] at H
         exact absurd H dq31
       ·rw [if_neg c11] at H
        exact absurd H dq31
      ·rw [if_neg c10] at H
       have c10b0 := decide_eq_false c10
       clear c10
       obtain rfl := Option.some.inj H
       go_wp2
       repeat (go_quiet (fail); try go_wp2)
       go_ret
       exact ⟨dq25, dq23⟩

/-! ### impl_has: function 64 -/
def impl_has.f (k : Nat) (l0 : List (S39)) (a1 : Int) : Option (Bool) := (impl_DocOk.f k l0).bind fun t360 => (if t360 = true then ((impl_in.f a1 0 (wrap64 ((l0.length : Int) - 1))).bind fun t361 => (some t361)) else (some false))
set_option maxHeartbeats 8000000 in
set_option maxRecDepth 100000 in
theorem impl_has.calls (k : Nat) (A0 : Option Addr) (c0 : Nat) (l0 : List (S39)) (a1 : Int) (r : Bool) (w : World) (hT : Gl w) (hr0 : Kd.C k39 w A0 l0.length l0) (hc0 : l0.length ≤ c0) (h : impl_has.f k l0 a1 = some r) :
  Calls Tryd.prog 64 #[.slice A0 l0.length c0, .int .i64 a1] w fun e w' => e = .returned (.bool r) ∧ Below w.heap.size w w' := by
 have HR0 := Aside0.mk hr0
 have HC0 := Aside0.mk hc0
 clear hr0 hc0
 have HT := Aside0.mk hT
 clear hT
 have HB := Aside0.mk (Below.refl w.heap.size w)
 have H : ((impl_DocOk.f k l0).bind fun t360 => (if t360 = true then ((impl_in.f a1 0 (wrap64 ((l0.length : Int) - 1))).bind fun t361 => (some t361)) else (some false))) = some r := h
 clear h
 replace H := Option.bind_eq_some_iff.mp H
 obtain ⟨t360, A30, H⟩ := H
 replace H : (if t360 = true then ((impl_in.f a1 0 (wrap64 ((l0.length : Int) - 1))).bind fun t361 => (some t361)) else (some false)) = some r := H
 have A3 := Aside0.mk A30
 clear A30
 by_cases c4 : t360 = true
 ·subst c4
  have H1 : ((impl_in.f a1 0 (wrap64 ((l0.length : Int) - 1))).bind fun t361 => (some t361)) = some r := by rw [if_pos rfl] at H; exact H
  clear H
  have H := H1
  clear H1
  replace H := Option.bind_eq_some_iff.mp H
  obtain ⟨t361, A50, H⟩ := H
  replace H : (some t361) = some r := H
  have A5 := Aside0.mk A50
  clear A50
  obtain rfl := Option.some.inj H
  go_enter Tryd.func64, Tryd.ntmps64
  go_wp2_with (first | ((with_reducible refine gate_callee (f := 34) rfl ?_); refine goesL_ (some 6) rfl rfl Tryd.func34 dq29 rfl #[.slice A0 l0.length c0] rfl dq28 ?_; (with_reducible refine (impl_DocOk.calls k _ _ l0 true _ ?side3 ?side1 ?side2 A3.out).mono ?_); (case side1 => exact dq7); (case side2 => exact dq4); (case side3 => exact dq8); rintro e w6 ⟨rfl, hb⟩; refine ⟨_, rfl, ?_⟩; have n0_ := Aside0.mk (below_step dq23 hb); clear HB; have HB := n0_; clear n0_; (try clear hb); (try clear hb2); (try clear hk); (try clear hi)) | (go_at_call 56; (with_reducible refine (impl_in.calls a1 0 (wrap64 ((l0.length : Int) - 1)) t361 _ A5.out).mono ?_); rintro e w' ⟨rfl, ⟨nd, rfl⟩⟩))
  go_ret
  exact ⟨dq25, dq23⟩
 ·replace c4 := Bool.eq_false_iff.mpr c4
  subst c4
  have H1 : (some false) = some r := by rw [if_neg (show ¬ (false = true) by decide)] at H; exact H
  clear H
  have H := H1
  clear H1
  obtain rfl := Option.some.inj H
  go_enter Tryd.func64, Tryd.ntmps64
  go_wp2_with (first | ((with_reducible refine gate_callee (f := 34) rfl ?_); refine goesL_ (some 6) rfl rfl Tryd.func34 dq29 rfl #[.slice A0 l0.length c0] rfl dq28 ?_; (with_reducible refine (impl_DocOk.calls k _ _ l0 false _ ?side3 ?side1 ?side2 A3.out).mono ?_); (case side1 => exact dq7); (case side2 => exact dq4); (case side3 => exact dq8); rintro e w7 ⟨rfl, hb⟩; refine ⟨_, rfl, ?_⟩; have n0_ := Aside0.mk (below_step dq23 hb); clear HB; have HB := n0_; clear n0_; (try clear hb); (try clear hb2); (try clear hk); (try clear hi)))
  go_ret
  exact ⟨dq25, dq23⟩

theorem bne_nil_46 (l : List UInt8) : (l != ([] : List UInt8)) = !l.isEmpty := by cases l <;> rfl
theorem beq_nil_46 (l : List UInt8) : (l == ([] : List UInt8)) = l.isEmpty := by cases l <;> rfl
/-! ### impl_isElement: function 45 -/
def impl_isElement.f (k : Nat) (l0 : List (S39)) (a1 : Int) : Option (Bool) := (impl_has.f k l0 a1).bind fun t362 => (if t362 = true then (if 0 ≤ a1 then (if a1 < (l0.length : Int) then (some (((rd_T39 l0 a1).f1).toList != ([] : List UInt8))) else (none)) else (none)) else (some false))
set_option maxHeartbeats 8000000 in
set_option maxRecDepth 100000 in
theorem impl_isElement.calls (k : Nat) (A0 : Option Addr) (c0 : Nat) (l0 : List (S39)) (a1 : Int) (r : Bool) (w : World) (hT : Gl w) (hr0 : Kd.C k39 w A0 l0.length l0) (hc0 : l0.length ≤ c0) (h : impl_isElement.f k l0 a1 = some r) :
  Calls Tryd.prog 45 #[.slice A0 l0.length c0, .int .i64 a1] w fun e w' => e = .returned (.bool r) ∧ Below w.heap.size w w' := by
 have HR0 := Aside0.mk hr0
 have HC0 := Aside0.mk hc0
 clear hr0 hc0
 have HT := Aside0.mk hT
 clear hT
 have HB := Aside0.mk (Below.refl w.heap.size w)
 have H : ((impl_has.f k l0 a1).bind fun t362 => (if t362 = true then (if 0 ≤ a1 then (if a1 < (l0.length : Int) then (some (((rd_T39 l0 a1).f1).toList != ([] : List UInt8))) else (none)) else (none)) else (some false))) = some r := h
 clear h
 replace H := Option.bind_eq_some_iff.mp H
 obtain ⟨t362, A30, H⟩ := H
 replace H : (if t362 = true then (if 0 ≤ a1 then (if a1 < (l0.length : Int) then (some (((rd_T39 l0 a1).f1).toList != ([] : List UInt8))) else (none)) else (none)) else (some false)) = some r := H
 have A3 := Aside0.mk A30
 clear A30
 by_cases c4 : t362 = true
 ·subst c4
  have H1 : (if 0 ≤ a1 then (if a1 < (l0.length : Int) then (some (((rd_T39 l0 a1).f1).toList != ([] : List UInt8))) else (none)) else (none)) = some r := by rw [if_pos rfl] at H; exact H
  clear H
  have H := H1
  clear H1
  by_cases c5 : 0 ≤ a1
  ·rw [if_pos c5] at H
   have c5b0 := decide_eq_true c5
   clear c5
   by_cases c6 : a1 < (l0.length : Int)
   ·rw [if_pos c6] at H
    have c6b0 := decide_eq_true c6
    clear c6
    obtain rfl := Option.some.inj H
    go_enter Tryd.func45, Tryd.ntmps45
    go_wp2_with (first | ((with_reducible refine gate_callee (f := 64) rfl ?_); refine goesL_ (some 7) rfl rfl Tryd.func64 dq29 rfl #[.slice A0 l0.length c0, .int .i64 a1] rfl dq28 ?_; (with_reducible refine (impl_has.calls k _ _ l0 a1 true _ ?side3 ?side1 ?side2 A3.out).mono ?_); (case side1 => exact dq7); (case side2 => exact dq4); (case side3 => exact dq8); rintro e w7 ⟨rfl, hb⟩; refine ⟨_, rfl, ?_⟩; have n0_ := Aside0.mk (below_step dq23 hb); clear HB; have HB := n0_; clear n0_; (try clear hb); (try clear hb2); (try clear hk); (try clear hi); have p363 : 0 ≤ (a1 : Int) := of_decide_eq_true dq27; have q363 : a1 < (l0.length : Int) := of_decide_eq_true dq27; obtain ⟨ad363, A363_3, c363_3, e363, hx363_0, hx363_1, hx363_2, hx363_3, hl363_3, hi363_3⟩ := at_T39 HR0.out a1 p363 q363; cases e363; replace hx363_0 := (HB.out.cell (World.block_lt_of_cell? w _ hx363_0)).trans hx363_0; replace hx363_1 := (HB.out.cell (World.block_lt_of_cell? w _ hx363_1)).trans hx363_1; replace hx363_2 := (HB.out.cell (World.block_lt_of_cell? w _ hx363_2)).trans hx363_2; replace hx363_3 := (HB.out.cell (World.block_lt_of_cell? w _ hx363_3)).trans hx363_3; have HR363_3 := Aside0.mk hi363_3; have HC363_3 := Aside0.mk hl363_3; clear hi363_3 hl363_3; replace p363 := eq_true p363; replace q363 := eq_true q363))
    go_ret
    exact ⟨dq114, dq23⟩
   ·rw [if_neg c6] at H
    exact absurd H dq31
  ·rw [if_neg c5] at H
   exact absurd H dq31
 ·replace c4 := Bool.eq_false_iff.mpr c4
  subst c4
  have H1 : (some false) = some r := by rw [if_neg (show ¬ (false = true) by decide)] at H; exact H
  clear H
  have H := H1
  clear H1
  obtain rfl := Option.some.inj H
  go_enter Tryd.func45, Tryd.ntmps45
  go_wp2_with (first | ((with_reducible refine gate_callee (f := 64) rfl ?_); refine goesL_ (some 7) rfl rfl Tryd.func64 dq29 rfl #[.slice A0 l0.length c0, .int .i64 a1] rfl dq28 ?_; (with_reducible refine (impl_has.calls k _ _ l0 a1 false _ ?side3 ?side1 ?side2 A3.out).mono ?_); (case side1 => exact dq7); (case side2 => exact dq4); (case side3 => exact dq8); rintro e w8 ⟨rfl, hb⟩; refine ⟨_, rfl, ?_⟩; have n0_ := Aside0.mk (below_step dq23 hb); clear HB; have HB := n0_; clear n0_; (try clear hb); (try clear hb2); (try clear hk); (try clear hi)))
  go_ret
  exact ⟨dq114, dq23⟩

/-! ### impl_within: function 84 -/
def impl_within.l0 : Nat → List (S39) → Int → Int → Option (Bool)
 | 0, _, _, _ => none
 | k + 1, x0, x1, x2 => if x1 > x2 then (if 0 ≤ x1 then (if x1 < (x0.length : Int) then (impl_within.l0 k x0 ((rd_T39 x0 x1).f0) x2) else (none)) else (none)) else (some (x1 == x2))
def impl_within.f (k : Nat) (l0 : List (S39)) (a1 : Int) (a2 : Int) : Option (Bool) := impl_within.l0 k l0 a1 a2
set_option maxHeartbeats 8000000 in
set_option maxRecDepth 100000 in
theorem impl_within.calls (k : Nat) (A0 : Option Addr) (c0 : Nat) (l0 : List (S39)) (a1 : Int) (a2 : Int) (r : Bool) (w : World) (hr0 : Kd.C k39 w A0 l0.length l0) (hc0 : l0.length ≤ c0) (h : impl_within.f k l0 a1 a2 = some r) :
  Calls Tryd.prog 84 #[.slice A0 l0.length c0, .int .i64 a1, .int .i64 a2] w fun e w' => e = .returned (.bool r) ∧ Drawn0 w w' := by
 have HR0 := Aside0.mk hr0
 have HC0 := Aside0.mk hc0
 clear hr0 hc0
 have H : (impl_within.l0 k l0 a1 a2) = some r := h
 clear h
 have H' := Aside0.mk H
 clear H
 go_enter Tryd.func84, Tryd.ntmps84
 go_wp2
 go_loopg [1] k (fun kq v1 w' => ∃ (x1_1 : Int), v1 = .int .i64 x1_1 ∧ Aside0 (impl_within.l0 kq l0 x1_1 a2 = some r) ∧ Aside0 (kq ≤ k) ∧ Drawn0 w w')
 case atStart => exact ⟨(a1), dq26, H', ⟨Nat.le_refl _⟩, dq33⟩
 case round =>
  clear H'
  try clear p2
  obtain ⟨x1_1, rfl, HA, HK1, ⟨m1, rfl⟩⟩ := hrel
  cases gk with
  | zero => exact absurd HA.out (by simp [impl_within.l0])
  | succ k1 =>
   have H := HA.out
   clear HA
   simp only [impl_within.l0] at H
   by_cases c4 : x1_1 > a2
   ·rw [if_pos c4] at H
    have c4b0 : decide (a2 < x1_1) = true := decide_eq_true c4
    clear c4
    by_cases c5 : 0 ≤ x1_1
    ·rw [if_pos c5] at H
     have c5b0 := decide_eq_true c5
     clear c5
     by_cases c6 : x1_1 < (l0.length : Int)
     ·rw [if_pos c6] at H
      have c6b0 := decide_eq_true c6
      clear c6
      have H' := Aside0.mk H
      clear H
      have p364 : 0 ≤ (x1_1 : Int) := of_decide_eq_true dq27
      have q364 : x1_1 < (l0.length : Int) := of_decide_eq_true dq27
      obtain ⟨ad364, A364_3, c364_3, e364, hx364_0, hx364_1, hx364_2, hx364_3, hl364_3, hi364_3⟩ := at_T39 HR0.out x1_1 p364 q364
      cases e364
      have HR364_3 := Aside0.mk hi364_3
      have HC364_3 := Aside0.mk hl364_3
      clear hi364_3 hl364_3
      replace p364 := eq_true p364
      replace q364 := eq_true q364
      go_wp2
      go_roundg k1
      case measure => have := HK1.out; omega
      case rel => exact ⟨((rd_T39 l0 x1_1).f0), dq26, H', ⟨dq30⟩, dq33⟩
     ·rw [if_neg c6] at H
      exact absurd H dq31
    ·rw [if_neg c5] at H
     exact absurd H dq31
   ·rw [if_neg c4] at H
    have c4b0 : decide (a2 < x1_1) = false := decide_eq_false c4
    clear c4
    obtain rfl := Option.some.inj H
    go_wp2
    go_ret
    exact ⟨dq26, dq33⟩

/-! ### impl_led: function 46 -/
mutual
def impl_led.l0 : Nat → List (S39) → Int → List ByteArray → Bool → List Bool → List (S39) → Int → Int → Option (List Int)
 | 0, _, _, _, _, _, _, _, _ => none
 | k + 1, x0, x1, x2, x3, x9, x23, x24, x25 => if x25 < x24 then (if 0 ≤ x25 then (if x25 < (x23.length : Int) then (if x25 = x1 then (if x25 < (x9.length : Int) then (impl_led.l0 k x0 x1 x2 x3 (x9.set (x25 : Int).toNat true) x23 x24 (wrap64 (x25 + 1))) else (none)) else (if x3 = true then (if ((rd_T39 x23 x25).f1).toList = ([] : List UInt8) then (if x25 < (x9.length : Int) then (impl_led.l0 k x0 x1 x2 x3 (x9.set (x25 : Int).toNat false) x23 x24 (wrap64 (x25 + 1))) else (none)) else ((impl_within.f k x0 x25 x1).bind fun t372 => (if x25 < (x9.length : Int) then (impl_led.l0 k x0 x1 x2 x3 (x9.set (x25 : Int).toNat t372) x23 x24 (wrap64 (x25 + 1))) else (none)))) else (if x25 < (x9.length : Int) then (impl_led.l0 k x0 x1 x2 x3 (x9.set (x25 : Int).toNat false) x23 x24 (wrap64 (x25 + 1))) else (none)))) else (none)) else (none)) else (impl_led.l1 k x0 x9 x2 (x2.length : Int) 0)
def impl_led.l1 : Nat → List (S39) → List Bool → List ByteArray → Int → Int → Option (List Int)
 | 0, _, _, _, _, _ => none
 | k + 1, x0, x9, x51, x52, x53 => if x53 < x52 then (if 0 ≤ x53 then (if x53 < (x51.length : Int) then (if 0 ≤ (x0.length : Int) then (if ((x0.length : Int) : Int).toNat ≤ 281474976710656 then (impl_led.l2 k x0 x9 (rdOf ByteArray.empty x51 x53) (List.replicate ((x0.length : Int) : Int).toNat false) x51 x52 x53 x0 (x0.length : Int) 0) else (none)) else (none)) else (none)) else (none)) else (impl_led.l3 k (([] : List Int)) x9 (x9.length : Int) 0)
def impl_led.l2 : Nat → List (S39) → List Bool → ByteArray → List Bool → List ByteArray → Int → Int → List (S39) → Int → Int → Option (List Int)
 | 0, _, _, _, _, _, _, _, _, _, _ => none
 | k + 1, x0, x9, x13, x14, x51, x52, x53, x60, x61, x62 => if x62 < x61 then (if 0 ≤ x62 then (if x62 < (x60.length : Int) then (if ((rd_T39 x60 x62).f0) ≥ 0 then (if 0 ≤ ((rd_T39 x60 x62).f0) then (if ((rd_T39 x60 x62).f0) < (x9.length : Int) then (if rdOf false x9 ((rd_T39 x60 x62).f0) = true then (if x62 < (x14.length : Int) then (impl_led.l2 k x0 x9 x13 (x14.set (x62 : Int).toNat (((rd_T39 x60 x62).f1).toList == x13.toList)) x51 x52 x53 x60 x61 (wrap64 (x62 + 1))) else (none)) else (if x62 < (x14.length : Int) then (impl_led.l2 k x0 x9 x13 (x14.set (x62 : Int).toNat false) x51 x52 x53 x60 x61 (wrap64 (x62 + 1))) else (none))) else (none)) else (none)) else (if x62 < (x14.length : Int) then (impl_led.l2 k x0 x9 x13 (x14.set (x62 : Int).toNat false) x51 x52 x53 x60 x61 (wrap64 (x62 + 1))) else (none))) else (none)) else (none)) else (impl_led.l1 k x0 x14 x51 x52 (wrap64 (x53 + 1)))
def impl_led.l3 : Nat → List Int → List Bool → Int → Int → Option (List Int)
 | 0, _, _, _, _ => none
 | k + 1, x17, x90, x91, x92 => if x92 < x91 then (if 0 ≤ x92 then (if x92 < (x90.length : Int) then (if rdOf false x90 x92 = true then (if x17.length < 17592186044416 then (impl_led.l3 k (x17 ++ [x92]) x90 x91 (wrap64 (x92 + 1))) else (none)) else (impl_led.l3 k x17 x90 x91 (wrap64 (x92 + 1)))) else (none)) else (none)) else (some x17)
end
def impl_led.f (k : Nat) (l0 : List (S39)) (a1 : Int) (l2 : List ByteArray) (a3 : Bool) : Option (List Int) := if 0 ≤ (l0.length : Int) then (if ((l0.length : Int) : Int).toNat ≤ 281474976710656 then (impl_led.l0 k l0 a1 l2 a3 (List.replicate ((l0.length : Int) : Int).toNat false) l0 (l0.length : Int) 0) else (none)) else (none)
set_option maxHeartbeats 8000000 in
set_option maxRecDepth 100000 in
theorem impl_led.calls (k : Nat) (A0 : Option Addr) (c0 : Nat) (l0 : List (S39)) (a1 : Int) (A2 : Option Addr) (c2 : Nat) (l2 : List ByteArray) (a3 : Bool) (r : List Int) (w : World) (hr0 : Kd.C k39 w A0 l0.length l0) (hc0 : l0.length ≤ c0) (hr2 : Kd.C Kd.string w A2 l2.length l2) (hc2 : l2.length ≤ c2) (h : impl_led.f k l0 a1 l2 a3 = some r) :
  Calls Tryd.prog 46 #[.slice A0 l0.length c0, .int .i64 a1, .slice A2 l2.length c2, .bool a3] w fun e w' => ∃ v0_ : Value, e = .returned (v0_) ∧ Kd.R (Kd.int .i64) 2 w' w.heap.size (fun _ => True) v0_ r ∧ Below w.heap.size w w' := by
 have hu39 := Tryd.underlying39
 have HR0 := Aside0.mk hr0
 have HC0 := Aside0.mk hc0
 clear hr0 hc0
 have HR2 := Aside0.mk hr2
 have HC2 := Aside0.mk hc2
 clear hr2 hc2
 have HB := Aside0.mk (Below.refl w.heap.size w)
 have H : (if 0 ≤ (l0.length : Int) then (if ((l0.length : Int) : Int).toNat ≤ 281474976710656 then (impl_led.l0 k l0 a1 l2 a3 (List.replicate ((l0.length : Int) : Int).toNat false) l0 (l0.length : Int) 0) else (none)) else (none)) = some r := h
 clear h
 by_cases c5 : 0 ≤ (l0.length : Int)
 ·rw [if_pos c5] at H
  have c5b0 := eq_true c5
  have c5b1 := decide_eq_true c5
  clear c5
  by_cases c6 : ((l0.length : Int) : Int).toNat ≤ 281474976710656
  ·rw [if_pos c6] at H
   have c6b0 := eq_true c6
   have c6b1 := decide_eq_true c6
   clear c6
   obtain ⟨y365, hy365⟩ : ∃ y_ : List Bool, y_ = (List.replicate ((l0.length : Int) : Int).toNat false) := ⟨_, rfl⟩
   replace H : (impl_led.l0 k l0 a1 l2 a3 y365 l0 (l0.length : Int) 0) = some r := by first | (rw [hy365]; with_reducible exact H) | (have H2_ := (Option.bind_some _ _).symm.trans H; rw [hy365]; with_reducible exact H2_) | (have H2_ := (Option.bind_some _ _).symm.trans H; with_reducible exact H2_) | with_reducible exact H | (rw [hy365]; exact H) | exact H
   have Ny365 := Aside0.mk hy365
   clear hy365
   have H' := Aside0.mk H
   clear H
   go_enter Tryd.func46, Tryd.ntmps46
   go_wp2_with (first | ((with_reducible refine gate_dst (N := 22) rfl ?_); refine Kd.R_make Kd.bool _ 4 rfl (N := 22) rfl 95 _ _ rfl (l0.length : Int) rfl rfl Tryd.underlying95 (.bool false) 1 info4 rfl dq38 dq34 false (ok := fun _ => True) (okp := fun _ => True) rfl (fun _ hk => hk) trivial (of_decide_eq_true dq27) (Nat.le_trans (Nat.mul_le_mul_right _ (of_decide_eq_true dq27 : (l0.length : Int).toNat ≤ 281474976710656)) dq34) (Below.refl _ _) (Nat.le_refl _) ?_; intro v366 w7 ho8 hb hg_ hnew_; clear hg_ hnew_; (first | rw [← Ny365.out] at ho8 | (simp only [Int.reduceToNat] at ho8; rw [← Ny365.out] at ho8)); have n0_ := Aside0.mk (Kd.R_lower ho8 (below_size dq23)); have n1_ := Aside0.mk (below_step dq23 hb); clear HB; have HO367 := n0_; have HB := n1_; clear n0_ n1_; clear hb ho8))
   go_loopg [25] k (fun kq v25 w' => ∃ (x9_1 : List Bool) (x25_1 : Int), v25 = .int .i64 x25_1 ∧ Aside0 (impl_led.l0 kq l0 a1 l2 a3 x9_1 l0 (l0.length : Int) x25_1 = some r) ∧ Aside0 (kq ≤ k) ∧ Aside0 (Kd.R Kd.bool 4 w' w.heap.size (fun _ => True) v366 x9_1) ∧ Aside0 (Below w.heap.size w w'))
   case atStart => exact ⟨(y365), (0), dq26, H', ⟨Nat.le_refl _⟩, ⟨by (with_reducible repeat (first | apply Kd.R_alloc | apply Kd.R_drewN | apply Kd.R_drew)); exact HO367.out⟩, ⟨dq23⟩⟩
   case round =>
    clear H'
    try clear c2
    try clear p2
    try clear c4
    try clear c5
    try clear c5b0
    try clear c5b1
    try clear c6
    try clear c6b0
    try clear c6b1
    obtain ⟨x9_1, x25_1, rfl, HA, HK1, HO_9, HB⟩ := hrel
    cases gk with
    | zero => exact absurd HA.out (by simp [impl_led.l0])
    | succ k1 =>
     have H := HA.out
     clear HA
     simp only [impl_led.l0] at H
     by_cases c9 : x25_1 < (l0.length : Int)
     ·rw [if_pos c9] at H
      have c9b0 := decide_eq_true c9
      clear c9
      by_cases c10 : 0 ≤ x25_1
      ·rw [if_pos c10] at H
       have c10b0 := decide_eq_true c10
       clear c10
       by_cases c11 : x25_1 < (l0.length : Int)
       ·rw [if_pos c11] at H
        have c11b0 := decide_eq_true c11
        clear c11
        by_cases c12 : x25_1 = a1
        ·rw [if_pos c12] at H
         have c12b0 := beq_iff_eq.mpr c12
         have c12b1 := bne_eq_false_iff_eq.mpr c12
         clear c12
         by_cases c13 : x25_1 < (x9_1.length : Int)
         ·rw [if_pos c13] at H
          have c13b0 := decide_eq_true c13
          clear c13
          obtain ⟨y370, hy370⟩ : ∃ y_ : List Bool, y_ = (x9_1.set (x25_1 : Int).toNat true) := ⟨_, rfl⟩
          replace H : (impl_led.l0 k1 l0 a1 l2 a3 y370 l0 (l0.length : Int) (wrap64 (x25_1 + 1))) = some r := by first | (rw [hy370]; with_reducible exact H) | (have H2_ := (Option.bind_some _ _).symm.trans H; rw [hy370]; with_reducible exact H2_) | (have H2_ := (Option.bind_some _ _).symm.trans H; with_reducible exact H2_) | with_reducible exact H | (rw [hy370]; exact H) | exact H
          have Ny370 := Aside0.mk hy370
          clear hy370
          have H' := Aside0.mk H
          clear H
          have p368 : 0 ≤ (x25_1 : Int) := of_decide_eq_true dq27
          have q368 : x25_1 < (l0.length : Int) := of_decide_eq_true dq27
          obtain ⟨ad368, A368_3, c368_3, e368, hx368_0, hx368_1, hx368_2, hx368_3, hl368_3, hi368_3⟩ := at_T39 HR0.out x25_1 p368 q368
          cases e368
          replace hx368_0 := (HB.out.cell (World.block_lt_of_cell? w _ hx368_0)).trans hx368_0
          replace hx368_1 := (HB.out.cell (World.block_lt_of_cell? w _ hx368_1)).trans hx368_1
          replace hx368_2 := (HB.out.cell (World.block_lt_of_cell? w _ hx368_2)).trans hx368_2
          replace hx368_3 := (HB.out.cell (World.block_lt_of_cell? w _ hx368_3)).trans hx368_3
          have HR368_3 := Aside0.mk hi368_3
          have HC368_3 := Aside0.mk hl368_3
          clear hi368_3 hl368_3
          replace p368 := eq_true p368
          replace q368 := eq_true q368
          go_wp2_with (first | ((with_reducible refine gate_dst (N := 11) rfl ?_); refine box_event ?hg (N := 11) ?hd (cs := #[.int .i64 0, .string (⟨#[]⟩ : ByteArray), .string (⟨#[]⟩ : ByteArray), .slice none 0 0]) (t := 39) ?hr ?_; (case hd => rfl); (case hg => rfl); (case hr => exact dq0); intro gb369 hg w15 hbox hb; have n0_ := Aside0.mk (Kd.R_below dq118 hb); have n1_ := Aside0.mk (below_step dq23 hb); have n2_ := Aside0.mk (hbox); have n3_ := Aside0.mk ((dq22 : w.heap.size ≤ gb369)); have n4_ := Aside0.mk ((dq22 : w.heap.size ≤ gb369)); clear HO_9; clear HB; have HO_9 := n0_; have HB := n1_; have BK369 := n2_; have GW369 := n3_; have GE369 := n4_; clear n0_ n1_ n2_ n3_ n4_; clear hb hbox hg; obtain ⟨⟨hcz16_0, hcz16_1, hcz16_2, hcz16_3⟩, hfz16_0, hfz16_1, hfz16_2, hfz16_3⟩ := blkC4 BK369.out) | ((with_reducible refine gate_store (t := 39) (p := 11) rfl ?_); refine store_event (t := 39) (p := 11) (v := ?vo_w17) (w1 := ((((w15.setCell ⟨gb369, 0, none⟩ (.int .i64 ((rd_T39 l0 x25_1).f0))).setCell ⟨gb369, 1, none⟩ (.string ((rd_T39 l0 x25_1).f1))).setCell ⟨gb369, 2, none⟩ (.string ((rd_T39 l0 x25_1).f2))).setCell ⟨gb369, 3, none⟩ (.slice A368_3 ((rd_T39 l0 x25_1).f3).length c368_3))) ?hg ?ho ?hn ?hr ?_; (case ho => rfl); (case hg => rfl); (case hn => rfl); (case hr => exact dq0); intro w17 hw; have n0_ : Aside0 (Kd.R Kd.bool 4 w17 w.heap.size (fun _ => True) v366 x9_1) := ⟨dq117⟩; have n1_ : Aside0 (w17.heap[gb369]? = some (.cells #[.int .i64 ((rd_T39 l0 x25_1).f0), .string ((rd_T39 l0 x25_1).f1), .string ((rd_T39 l0 x25_1).f2), .slice A368_3 ((rd_T39 l0 x25_1).f3).length c368_3] 39 (0, 0))) := ⟨dq116⟩; have n2_ : Aside0 (Below w.heap.size w w17) := ⟨dq115⟩; clear hw; clear HO_9; clear BK369; clear HB; have HO_9 := n0_; have BK369 := n1_; have HB := n2_; clear n0_ n1_ n2_; have p14 : 0 ≤ (x25_1 : Int) := of_decide_eq_true dq27; have q14 : (x25_1 : Int) < ((x9_1.length : Int) : Int) := of_decide_eq_true dq27; obtain ⟨go14, co14, eo14, gb14, gl14, cl14, HG14⟩ := Kd.R_form HO_9.out dq34; (first | cases eo14 | (injection eo14 with ea_ en_ ec_; (first | subst ea_ | (injection ea_ with ea_; subst ea_)); subst ec_; clear en_)); have GB14 := Aside0.mk gb14; have GG14 := Aside0.mk HG14; clear gb14 gl14 HG14; obtain ⟨hx14_0, hf14_0⟩ := Kd.R_celln false HO_9.out (x25_1 : Int) p14 q14; replace p14 := eq_true p14; replace q14 := eq_true q14; obtain ⟨hy18_, hz18_⟩ := Kd.R_celln false HO_9.out (x25_1 : Int) (of_decide_eq_true dq27) (of_decide_eq_true dq27); have HP18 := Kd.R_putg HO_9.out (x25_1 : Int) true) | ((with_reducible refine gate_store (t := 4) (p := 49) rfl ?_); refine store_event (t := 4) (p := 49) (v := ?vo_w19) (w1 := (w17.setCell ⟨go14, (x25_1 : Int).toNat, none⟩ (.bool true))) ?hg ?ho ?hn ?hr ?_; (case ho => rfl); (case hg => rfl); (case hn => rfl); (case hr => exact dq0); intro w19 hw; have hg : w17.grownBy w19 (some go14) := (by rw [hw]; exact HP18.2); have hp_ : Kd.R Kd.bool 4 w19 w.heap.size (fun _ => True) (.slice (some ⟨go14, 0, none⟩) x9_1.length co14) y370 := (by rw [hw, Ny370.out]; exact HP18.1); clear HP18; have n0_ := Aside0.mk (hp_); have n1_ := Aside0.mk (blk_grown (g := gb369) (o := .cells #[.int .i64 ((rd_T39 l0 x25_1).f0), .string ((rd_T39 l0 x25_1).f1), .string ((rd_T39 l0 x25_1).f2), .slice A368_3 ((rd_T39 l0 x25_1).f3).length c368_3] 39 (0, 0)) (by refine blk_up ?_; exact BK369.out) hg (Kd.R_ne HO_9.out BK369.out dq38)); have n2_ := Aside0.mk ((by rw [hw]; exact below_set (HB.out) GB14.out : Below w.heap.size w w19)); clear HO_9; clear BK369; clear HB; have HO_9 := n0_; have BK369 := n1_; have HB := n2_; clear n0_ n1_ n2_; clear hg hw hp_))
          go_roundg k1
          case measure => have := HK1.out; omega
          case rel => exact ⟨(y370), (wrap64 (x25_1 + 1)), dq26, H', ⟨dq30⟩, ⟨dq118⟩, ⟨dq119⟩⟩
         ·rw [if_neg c13] at H
          exact absurd H dq31
        ·rw [if_neg c12] at H
         have c12b0 := beq_eq_false_iff_ne.mpr c12
         have c12b1 := bne_iff_ne.mpr c12
         by_cases c20 : a3 = true
         ·subst c20
          have H1 : (if ((rd_T39 l0 x25_1).f1).toList = ([] : List UInt8) then (if x25_1 < (x9_1.length : Int) then (impl_led.l0 k1 l0 a1 l2 true (x9_1.set (x25_1 : Int).toNat false) l0 (l0.length : Int) (wrap64 (x25_1 + 1))) else (none)) else ((impl_within.f k1 l0 x25_1 a1).bind fun t372 => (if x25_1 < (x9_1.length : Int) then (impl_led.l0 k1 l0 a1 l2 true (x9_1.set (x25_1 : Int).toNat t372) l0 (l0.length : Int) (wrap64 (x25_1 + 1))) else (none)))) = some r := by rw [if_pos rfl] at H; exact H
          clear H
          have H := H1
          clear H1
          by_cases c21 : ((rd_T39 l0 x25_1).f1).toList = ([] : List UInt8)
          ·rw [if_pos c21] at H
           have c21b0 := beq_iff_eq.mpr c21
           have c21b1 := bne_eq_false_iff_eq.mpr c21
           clear c21
           by_cases c22 : x25_1 < (x9_1.length : Int)
           ·rw [if_pos c22] at H
            have c22b0 := decide_eq_true c22
            clear c22
            obtain ⟨y371, hy371⟩ : ∃ y_ : List Bool, y_ = (x9_1.set (x25_1 : Int).toNat false) := ⟨_, rfl⟩
            replace H : (impl_led.l0 k1 l0 a1 l2 true y371 l0 (l0.length : Int) (wrap64 (x25_1 + 1))) = some r := by first | (rw [hy371]; with_reducible exact H) | (have H2_ := (Option.bind_some _ _).symm.trans H; rw [hy371]; with_reducible exact H2_) | (have H2_ := (Option.bind_some _ _).symm.trans H; with_reducible exact H2_) | with_reducible exact H | (rw [hy371]; exact H) | exact H
            have Ny371 := Aside0.mk hy371
            clear hy371
            have H' := Aside0.mk H
            clear H
            have p368 : 0 ≤ (x25_1 : Int) := of_decide_eq_true dq27
            have q368 : x25_1 < (l0.length : Int) := of_decide_eq_true dq27
            obtain ⟨ad368, A368_3, c368_3, e368, hx368_0, hx368_1, hx368_2, hx368_3, hl368_3, hi368_3⟩ := at_T39 HR0.out x25_1 p368 q368
            cases e368
            replace hx368_0 := (HB.out.cell (World.block_lt_of_cell? w _ hx368_0)).trans hx368_0
            replace hx368_1 := (HB.out.cell (World.block_lt_of_cell? w _ hx368_1)).trans hx368_1
            replace hx368_2 := (HB.out.cell (World.block_lt_of_cell? w _ hx368_2)).trans hx368_2
            replace hx368_3 := (HB.out.cell (World.block_lt_of_cell? w _ hx368_3)).trans hx368_3
            have HR368_3 := Aside0.mk hi368_3
            have HC368_3 := Aside0.mk hl368_3
            clear hi368_3 hl368_3
            replace p368 := eq_true p368
            replace q368 := eq_true q368
            go_wp2_with (first | ((with_reducible refine gate_dst (N := 11) rfl ?_); refine box_event ?hg (N := 11) ?hd (cs := #[.int .i64 0, .string (⟨#[]⟩ : ByteArray), .string (⟨#[]⟩ : ByteArray), .slice none 0 0]) (t := 39) ?hr ?_; (case hd => rfl); (case hg => rfl); (case hr => exact dq0); intro gb369 hg w24 hbox hb; have n0_ := Aside0.mk (Kd.R_below dq118 hb); have n1_ := Aside0.mk (below_step dq23 hb); have n2_ := Aside0.mk (hbox); have n3_ := Aside0.mk ((dq22 : w.heap.size ≤ gb369)); have n4_ := Aside0.mk ((dq22 : w.heap.size ≤ gb369)); clear HO_9; clear HB; have HO_9 := n0_; have HB := n1_; have BK369 := n2_; have GW369 := n3_; have GE369 := n4_; clear n0_ n1_ n2_ n3_ n4_; clear hb hbox hg; obtain ⟨⟨hcz25_0, hcz25_1, hcz25_2, hcz25_3⟩, hfz25_0, hfz25_1, hfz25_2, hfz25_3⟩ := blkC4 BK369.out) | ((with_reducible refine gate_store (t := 39) (p := 11) rfl ?_); refine store_event (t := 39) (p := 11) (v := ?vo_w26) (w1 := ((((w24.setCell ⟨gb369, 0, none⟩ (.int .i64 ((rd_T39 l0 x25_1).f0))).setCell ⟨gb369, 1, none⟩ (.string ((rd_T39 l0 x25_1).f1))).setCell ⟨gb369, 2, none⟩ (.string ((rd_T39 l0 x25_1).f2))).setCell ⟨gb369, 3, none⟩ (.slice A368_3 ((rd_T39 l0 x25_1).f3).length c368_3))) ?hg ?ho ?hn ?hr ?_; (case ho => rfl); (case hg => rfl); (case hn => rfl); (case hr => exact dq0); intro w26 hw; have n0_ : Aside0 (Kd.R Kd.bool 4 w26 w.heap.size (fun _ => True) v366 x9_1) := ⟨dq117⟩; have n1_ : Aside0 (w26.heap[gb369]? = some (.cells #[.int .i64 ((rd_T39 l0 x25_1).f0), .string ((rd_T39 l0 x25_1).f1), .string ((rd_T39 l0 x25_1).f2), .slice A368_3 ((rd_T39 l0 x25_1).f3).length c368_3] 39 (0, 0))) := ⟨dq116⟩; have n2_ : Aside0 (Below w.heap.size w w26) := ⟨dq115⟩; clear hw; clear HO_9; clear BK369; clear HB; have HO_9 := n0_; have BK369 := n1_; have HB := n2_; clear n0_ n1_ n2_; obtain ⟨⟨hcz27_0, hcz27_1, hcz27_2, hcz27_3⟩, hfz27_0, hfz27_1, hfz27_2, hfz27_3⟩ := blkC4 BK369.out; have p23 : 0 ≤ (x25_1 : Int) := of_decide_eq_true dq27; have q23 : (x25_1 : Int) < ((x9_1.length : Int) : Int) := of_decide_eq_true dq27; obtain ⟨go23, co23, eo23, gb23, gl23, cl23, HG23⟩ := Kd.R_form HO_9.out dq34; (first | cases eo23 | (injection eo23 with ea_ en_ ec_; (first | subst ea_ | (injection ea_ with ea_; subst ea_)); subst ec_; clear en_)); have GB23 := Aside0.mk gb23; have GG23 := Aside0.mk HG23; clear gb23 gl23 HG23; obtain ⟨hx23_0, hf23_0⟩ := Kd.R_celln false HO_9.out (x25_1 : Int) p23 q23; replace p23 := eq_true p23; replace q23 := eq_true q23; obtain ⟨hy28_, hz28_⟩ := Kd.R_celln false HO_9.out (x25_1 : Int) (of_decide_eq_true dq27) (of_decide_eq_true dq27); have HP28 := Kd.R_putg HO_9.out (x25_1 : Int) false) | ((with_reducible refine gate_store (t := 4) (p := 49) rfl ?_); refine store_event (t := 4) (p := 49) (v := ?vo_w29) (w1 := (w26.setCell ⟨go23, (x25_1 : Int).toNat, none⟩ (.bool false))) ?hg ?ho ?hn ?hr ?_; (case ho => rfl); (case hg => rfl); (case hn => rfl); (case hr => exact dq0); intro w29 hw; have hg : w26.grownBy w29 (some go23) := (by rw [hw]; exact HP28.2); have hp_ : Kd.R Kd.bool 4 w29 w.heap.size (fun _ => True) (.slice (some ⟨go23, 0, none⟩) x9_1.length co23) y371 := (by rw [hw, Ny371.out]; exact HP28.1); clear HP28; have n0_ := Aside0.mk (hp_); have n1_ := Aside0.mk (blk_grown (g := gb369) (o := .cells #[.int .i64 ((rd_T39 l0 x25_1).f0), .string ((rd_T39 l0 x25_1).f1), .string ((rd_T39 l0 x25_1).f2), .slice A368_3 ((rd_T39 l0 x25_1).f3).length c368_3] 39 (0, 0)) (by refine blk_up ?_; exact BK369.out) hg (Kd.R_ne HO_9.out BK369.out dq38)); have n2_ := Aside0.mk ((by rw [hw]; exact below_set (HB.out) GB23.out : Below w.heap.size w w29)); clear HO_9; clear BK369; clear HB; have HO_9 := n0_; have BK369 := n1_; have HB := n2_; clear n0_ n1_ n2_; clear hg hw hp_))
            go_roundg k1
            case measure => have := HK1.out; omega
            case rel => exact ⟨(y371), (wrap64 (x25_1 + 1)), dq26, H', ⟨dq30⟩, ⟨dq118⟩, ⟨dq119⟩⟩
           ·rw [if_neg c22] at H
            exact absurd H dq31
          ·rw [if_neg c21] at H
           have c21b0 := beq_eq_false_iff_ne.mpr c21
           have c21b1 := bne_iff_ne.mpr c21
           replace H := Option.bind_eq_some_iff.mp H
           obtain ⟨t372, A300, H⟩ := H
           replace H : (if x25_1 < (x9_1.length : Int) then (impl_led.l0 k1 l0 a1 l2 true (x9_1.set (x25_1 : Int).toNat t372) l0 (l0.length : Int) (wrap64 (x25_1 + 1))) else (none)) = some r := H
           have A30 := Aside0.mk A300
           clear A300
           by_cases c31 : x25_1 < (x9_1.length : Int)
           ·rw [if_pos c31] at H
            have c31b0 := decide_eq_true c31
            clear c31
            obtain ⟨y373, hy373⟩ : ∃ y_ : List Bool, y_ = (x9_1.set (x25_1 : Int).toNat t372) := ⟨_, rfl⟩
            replace H : (impl_led.l0 k1 l0 a1 l2 true y373 l0 (l0.length : Int) (wrap64 (x25_1 + 1))) = some r := by first | (rw [hy373]; with_reducible exact H) | (have H2_ := (Option.bind_some _ _).symm.trans H; rw [hy373]; with_reducible exact H2_) | (have H2_ := (Option.bind_some _ _).symm.trans H; with_reducible exact H2_) | with_reducible exact H | (rw [hy373]; exact H) | exact H
            have Ny373 := Aside0.mk hy373
            clear hy373
            have H' := Aside0.mk H
            clear H
            have p368 : 0 ≤ (x25_1 : Int) := of_decide_eq_true dq27
            have q368 : x25_1 < (l0.length : Int) := of_decide_eq_true dq27
            obtain ⟨ad368, A368_3, c368_3, e368, hx368_0, hx368_1, hx368_2, hx368_3, hl368_3, hi368_3⟩ := at_T39 HR0.out x25_1 p368 q368
            cases e368
            replace hx368_0 := (HB.out.cell (World.block_lt_of_cell? w _ hx368_0)).trans hx368_0
            replace hx368_1 := (HB.out.cell (World.block_lt_of_cell? w _ hx368_1)).trans hx368_1
            replace hx368_2 := (HB.out.cell (World.block_lt_of_cell? w _ hx368_2)).trans hx368_2
            replace hx368_3 := (HB.out.cell (World.block_lt_of_cell? w _ hx368_3)).trans hx368_3
            have HR368_3 := Aside0.mk hi368_3
            have HC368_3 := Aside0.mk hl368_3
            clear hi368_3 hl368_3
            replace p368 := eq_true p368
            replace q368 := eq_true q368
            go_wp2_with (first | ((with_reducible refine gate_dst (N := 11) rfl ?_); refine box_event ?hg (N := 11) ?hd (cs := #[.int .i64 0, .string (⟨#[]⟩ : ByteArray), .string (⟨#[]⟩ : ByteArray), .slice none 0 0]) (t := 39) ?hr ?_; (case hd => rfl); (case hg => rfl); (case hr => exact dq0); intro gb369 hg w33 hbox hb; have n0_ := Aside0.mk (Kd.R_below dq118 hb); have n1_ := Aside0.mk (below_step dq23 hb); have n2_ := Aside0.mk (hbox); have n3_ := Aside0.mk ((dq22 : w.heap.size ≤ gb369)); have n4_ := Aside0.mk ((dq22 : w.heap.size ≤ gb369)); clear HO_9; clear HB; have HO_9 := n0_; have HB := n1_; have BK369 := n2_; have GW369 := n3_; have GE369 := n4_; clear n0_ n1_ n2_ n3_ n4_; clear hb hbox hg; obtain ⟨⟨hcz34_0, hcz34_1, hcz34_2, hcz34_3⟩, hfz34_0, hfz34_1, hfz34_2, hfz34_3⟩ := blkC4 BK369.out) | ((with_reducible refine gate_store (t := 39) (p := 11) rfl ?_); refine store_event (t := 39) (p := 11) (v := ?vo_w35) (w1 := ((((w33.setCell ⟨gb369, 0, none⟩ (.int .i64 ((rd_T39 l0 x25_1).f0))).setCell ⟨gb369, 1, none⟩ (.string ((rd_T39 l0 x25_1).f1))).setCell ⟨gb369, 2, none⟩ (.string ((rd_T39 l0 x25_1).f2))).setCell ⟨gb369, 3, none⟩ (.slice A368_3 ((rd_T39 l0 x25_1).f3).length c368_3))) ?hg ?ho ?hn ?hr ?_; (case ho => rfl); (case hg => rfl); (case hn => rfl); (case hr => exact dq0); intro w35 hw; have n0_ : Aside0 (Kd.R Kd.bool 4 w35 w.heap.size (fun _ => True) v366 x9_1) := ⟨dq117⟩; have n1_ : Aside0 (w35.heap[gb369]? = some (.cells #[.int .i64 ((rd_T39 l0 x25_1).f0), .string ((rd_T39 l0 x25_1).f1), .string ((rd_T39 l0 x25_1).f2), .slice A368_3 ((rd_T39 l0 x25_1).f3).length c368_3] 39 (0, 0))) := ⟨dq116⟩; have n2_ : Aside0 (Below w.heap.size w w35) := ⟨dq115⟩; clear hw; clear HO_9; clear BK369; clear HB; have HO_9 := n0_; have BK369 := n1_; have HB := n2_; clear n0_ n1_ n2_; obtain ⟨⟨hcz36_0, hcz36_1, hcz36_2, hcz36_3⟩, hfz36_0, hfz36_1, hfz36_2, hfz36_3⟩ := blkC4 BK369.out) | (go_at_call 84; (with_reducible refine (impl_within.calls k1 _ _ l0 x25_1 a1 t372 _ ?side1 ?side2 A30.out).mono ?_); (case side1 => exact dq3); (case side2 => exact dq4); rintro e w' ⟨rfl, ⟨nd, rfl⟩⟩; (try (rw [drewN_self w35]; generalize hq_ : World.drewN w35 _ = w35; have n0_ : Aside0 (Kd.R Kd.bool 4 w35 w.heap.size (fun _ => True) v366 x9_1) := ⟨by rw [← hq_]; exact dq118⟩; have n1_ : Aside0 (w35.heap[gb369]? = some (.cells #[.int .i64 ((rd_T39 l0 x25_1).f0), .string ((rd_T39 l0 x25_1).f1), .string ((rd_T39 l0 x25_1).f2), .slice A368_3 ((rd_T39 l0 x25_1).f3).length c368_3] 39 (0, 0))) := ⟨by rw [← hq_]; exact (by refine blk_up ?_; exact BK369.out)⟩; have n2_ : Aside0 (Below w.heap.size w w35) := ⟨by rw [← hq_]; exact dq119⟩; clear HO_9 BK369 HB hq_; have HO_9 := n0_; have BK369 := n1_; have HB := n2_; clear n0_ n1_ n2_)); have p32 : 0 ≤ (x25_1 : Int) := of_decide_eq_true dq27; have q32 : (x25_1 : Int) < ((x9_1.length : Int) : Int) := of_decide_eq_true dq27; obtain ⟨go32, co32, eo32, gb32, gl32, cl32, HG32⟩ := Kd.R_form HO_9.out dq34; (first | cases eo32 | (injection eo32 with ea_ en_ ec_; (first | subst ea_ | (injection ea_ with ea_; subst ea_)); subst ec_; clear en_)); have GB32 := Aside0.mk gb32; have GG32 := Aside0.mk HG32; clear gb32 gl32 HG32; obtain ⟨hx32_0, hf32_0⟩ := Kd.R_celln false HO_9.out (x25_1 : Int) p32 q32; replace p32 := eq_true p32; replace q32 := eq_true q32; obtain ⟨hy37_, hz37_⟩ := Kd.R_celln false HO_9.out (x25_1 : Int) (of_decide_eq_true dq27) (of_decide_eq_true dq27); have HP37 := Kd.R_putg HO_9.out (x25_1 : Int) t372) | ((with_reducible refine gate_store (t := 4) (p := 49) rfl ?_); refine store_event (t := 4) (p := 49) (v := ?vo_w38) (w1 := (w35.setCell ⟨go32, (x25_1 : Int).toNat, none⟩ (.bool t372))) ?hg ?ho ?hn ?hr ?_; (case ho => rfl); (case hg => rfl); (case hn => rfl); (case hr => exact dq0); intro w38 hw; have hg : w35.grownBy w38 (some go32) := (by rw [hw]; exact HP37.2); have hp_ : Kd.R Kd.bool 4 w38 w.heap.size (fun _ => True) (.slice (some ⟨go32, 0, none⟩) x9_1.length co32) y373 := (by rw [hw, Ny373.out]; exact HP37.1); clear HP37; have n0_ := Aside0.mk (hp_); have n1_ := Aside0.mk (blk_grown (g := gb369) (o := .cells #[.int .i64 ((rd_T39 l0 x25_1).f0), .string ((rd_T39 l0 x25_1).f1), .string ((rd_T39 l0 x25_1).f2), .slice A368_3 ((rd_T39 l0 x25_1).f3).length c368_3] 39 (0, 0)) (by refine blk_up ?_; exact BK369.out) hg (Kd.R_ne HO_9.out BK369.out dq38)); have n2_ := Aside0.mk ((by rw [hw]; exact below_set (HB.out) GB32.out : Below w.heap.size w w38)); clear HO_9; clear BK369; clear HB; have HO_9 := n0_; have BK369 := n1_; have HB := n2_; clear n0_ n1_ n2_; clear hg hw hp_))
            go_roundg k1
            case measure => have := HK1.out; omega
            case rel => exact ⟨(y373), (wrap64 (x25_1 + 1)), dq26, H', ⟨dq30⟩, ⟨dq118⟩, ⟨dq119⟩⟩
           ·rw [if_neg c31] at H
            exact absurd H dq31
         ·replace c20 := Bool.eq_false_iff.mpr c20
          subst c20
          have H1 : (if x25_1 < (x9_1.length : Int) then (impl_led.l0 k1 l0 a1 l2 false (x9_1.set (x25_1 : Int).toNat false) l0 (l0.length : Int) (wrap64 (x25_1 + 1))) else (none)) = some r := by rw [if_neg (show ¬ (false = true) by decide)] at H; exact H
          clear H
          have H := H1
          clear H1
          by_cases c39 : x25_1 < (x9_1.length : Int)
          ·rw [if_pos c39] at H
           have c39b0 := decide_eq_true c39
           clear c39
           obtain ⟨y374, hy374⟩ : ∃ y_ : List Bool, y_ = (x9_1.set (x25_1 : Int).toNat false) := ⟨_, rfl⟩
           replace H : (impl_led.l0 k1 l0 a1 l2 false y374 l0 (l0.length : Int) (wrap64 (x25_1 + 1))) = some r := by first | (rw [hy374]; with_reducible exact H) | (have H2_ := (Option.bind_some _ _).symm.trans H; rw [hy374]; with_reducible exact H2_) | (have H2_ := (Option.bind_some _ _).symm.trans H; with_reducible exact H2_) | with_reducible exact H | (rw [hy374]; exact H) | exact H
           have Ny374 := Aside0.mk hy374
           clear hy374
           have H' := Aside0.mk H
           clear H
           have p368 : 0 ≤ (x25_1 : Int) := of_decide_eq_true dq27
           have q368 : x25_1 < (l0.length : Int) := of_decide_eq_true dq27
           obtain ⟨ad368, A368_3, c368_3, e368, hx368_0, hx368_1, hx368_2, hx368_3, hl368_3, hi368_3⟩ := at_T39 HR0.out x25_1 p368 q368
           cases e368
           replace hx368_0 := (HB.out.cell (World.block_lt_of_cell? w _ hx368_0)).trans hx368_0
           replace hx368_1 := (HB.out.cell (World.block_lt_of_cell? w _ hx368_1)).trans hx368_1
           replace hx368_2 := (HB.out.cell (World.block_lt_of_cell? w _ hx368_2)).trans hx368_2
           replace hx368_3 := (HB.out.cell (World.block_lt_of_cell? w _ hx368_3)).trans hx368_3
           have HR368_3 := Aside0.mk hi368_3
           have HC368_3 := Aside0.mk hl368_3
           clear hi368_3 hl368_3
           replace p368 := eq_true p368
           replace q368 := eq_true q368
           go_wp2_with (first | ((with_reducible refine gate_dst (N := 11) rfl ?_); refine box_event ?hg (N := 11) ?hd (cs := #[.int .i64 0, .string (⟨#[]⟩ : ByteArray), .string (⟨#[]⟩ : ByteArray), .slice none 0 0]) (t := 39) ?hr ?_; (case hd => rfl); (case hg => rfl); (case hr => exact dq0); intro gb369 hg w41 hbox hb; have n0_ := Aside0.mk (Kd.R_below dq118 hb); have n1_ := Aside0.mk (below_step dq23 hb); have n2_ := Aside0.mk (hbox); have n3_ := Aside0.mk ((dq22 : w.heap.size ≤ gb369)); have n4_ := Aside0.mk ((dq22 : w.heap.size ≤ gb369)); clear HO_9; clear HB; have HO_9 := n0_; have HB := n1_; have BK369 := n2_; have GW369 := n3_; have GE369 := n4_; clear n0_ n1_ n2_ n3_ n4_; clear hb hbox hg; obtain ⟨⟨hcz42_0, hcz42_1, hcz42_2, hcz42_3⟩, hfz42_0, hfz42_1, hfz42_2, hfz42_3⟩ := blkC4 BK369.out) | ((with_reducible refine gate_store (t := 39) (p := 11) rfl ?_); refine store_event (t := 39) (p := 11) (v := ?vo_w43) (w1 := ((((w41.setCell ⟨gb369, 0, none⟩ (.int .i64 ((rd_T39 l0 x25_1).f0))).setCell ⟨gb369, 1, none⟩ (.string ((rd_T39 l0 x25_1).f1))).setCell ⟨gb369, 2, none⟩ (.string ((rd_T39 l0 x25_1).f2))).setCell ⟨gb369, 3, none⟩ (.slice A368_3 ((rd_T39 l0 x25_1).f3).length c368_3))) ?hg ?ho ?hn ?hr ?_; (case ho => rfl); (case hg => rfl); (case hn => rfl); (case hr => exact dq0); intro w43 hw; have n0_ : Aside0 (Kd.R Kd.bool 4 w43 w.heap.size (fun _ => True) v366 x9_1) := ⟨dq117⟩; have n1_ : Aside0 (w43.heap[gb369]? = some (.cells #[.int .i64 ((rd_T39 l0 x25_1).f0), .string ((rd_T39 l0 x25_1).f1), .string ((rd_T39 l0 x25_1).f2), .slice A368_3 ((rd_T39 l0 x25_1).f3).length c368_3] 39 (0, 0))) := ⟨dq116⟩; have n2_ : Aside0 (Below w.heap.size w w43) := ⟨dq115⟩; clear hw; clear HO_9; clear BK369; clear HB; have HO_9 := n0_; have BK369 := n1_; have HB := n2_; clear n0_ n1_ n2_; have p40 : 0 ≤ (x25_1 : Int) := of_decide_eq_true dq27; have q40 : (x25_1 : Int) < ((x9_1.length : Int) : Int) := of_decide_eq_true dq27; obtain ⟨go40, co40, eo40, gb40, gl40, cl40, HG40⟩ := Kd.R_form HO_9.out dq34; (first | cases eo40 | (injection eo40 with ea_ en_ ec_; (first | subst ea_ | (injection ea_ with ea_; subst ea_)); subst ec_; clear en_)); have GB40 := Aside0.mk gb40; have GG40 := Aside0.mk HG40; clear gb40 gl40 HG40; obtain ⟨hx40_0, hf40_0⟩ := Kd.R_celln false HO_9.out (x25_1 : Int) p40 q40; replace p40 := eq_true p40; replace q40 := eq_true q40; obtain ⟨hy44_, hz44_⟩ := Kd.R_celln false HO_9.out (x25_1 : Int) (of_decide_eq_true dq27) (of_decide_eq_true dq27); have HP44 := Kd.R_putg HO_9.out (x25_1 : Int) false) | ((with_reducible refine gate_store (t := 4) (p := 49) rfl ?_); refine store_event (t := 4) (p := 49) (v := ?vo_w45) (w1 := (w43.setCell ⟨go40, (x25_1 : Int).toNat, none⟩ (.bool false))) ?hg ?ho ?hn ?hr ?_; (case ho => rfl); (case hg => rfl); (case hn => rfl); (case hr => exact dq0); intro w45 hw; have hg : w43.grownBy w45 (some go40) := (by rw [hw]; exact HP44.2); have hp_ : Kd.R Kd.bool 4 w45 w.heap.size (fun _ => True) (.slice (some ⟨go40, 0, none⟩) x9_1.length co40) y374 := (by rw [hw, Ny374.out]; exact HP44.1); clear HP44; have n0_ := Aside0.mk (hp_); have n1_ := Aside0.mk (blk_grown (g := gb369) (o := .cells #[.int .i64 ((rd_T39 l0 x25_1).f0), .string ((rd_T39 l0 x25_1).f1), .string ((rd_T39 l0 x25_1).f2), .slice A368_3 ((rd_T39 l0 x25_1).f3).length c368_3] 39 (0, 0)) (by refine blk_up ?_; exact BK369.out) hg (Kd.R_ne HO_9.out BK369.out dq38)); have n2_ := Aside0.mk ((by rw [hw]; exact below_set (HB.out) GB40.out : Below w.heap.size w w45)); clear HO_9; clear BK369; clear HB; have HO_9 := n0_; have BK369 := n1_; have HB := n2_; clear n0_ n1_ n2_; clear hg hw hp_))
           go_roundg k1
           case measure => have := HK1.out; omega
           case rel => exact ⟨(y374), (wrap64 (x25_1 + 1)), dq26, H', ⟨dq30⟩, ⟨dq118⟩, ⟨dq119⟩⟩
          ·rw [if_neg c39] at H
           exact absurd H dq31
       ·rw [if_neg c11] at H
        exact absurd H dq31
      ·rw [if_neg c10] at H
       exact absurd H dq31
     ·rw [if_neg c9] at H
      have c9b0 := decide_eq_false c9
      clear c9
      have H' := Aside0.mk H
      clear H
      go_wp2
      go_loopg [9, 53] k1 (fun kq v9 v53 w' => ∃ (x9_2 : List Bool) (x53_2 : Int), v53 = .int .i64 x53_2 ∧ Aside0 (impl_led.l1 kq l0 x9_2 l2 (l2.length : Int) x53_2 = some r) ∧ Aside0 (kq ≤ k1) ∧ Aside0 (Kd.R Kd.bool 4 w' w.heap.size (fun _ => True) v9 x9_2) ∧ Aside0 (Below w.heap.size w w'))
      case atStart => exact ⟨(x9_1), (0), dq26, H', ⟨Nat.le_refl _⟩, ⟨dq118⟩, ⟨dq23⟩⟩
      case round =>
       clear H'
       try clear c1
       try clear p1
       try clear q1
       try clear hx1
       try clear c2
       try clear p2
       try clear q2
       try clear hx2
       try clear c3
       try clear p3
       try clear q3
       try clear hx3
       try clear c4
       try clear p4
       try clear q4
       try clear hx4
       try clear hf4
       try clear c5
       try clear c5b0
       try clear c5b1
       try clear c6
       try clear c6b0
       try clear c6b1
       try clear p6
       try clear c9
       try clear c9b0
       try clear c10
       try clear c10b0
       try clear c11
       try clear c11b0
       try clear c12
       try clear c12b0
       try clear c12b1
       try clear c13
       try clear c13b0
       try clear p14
       try clear q14
       try clear hx14
       try clear hf14
       try clear c20
       try clear c21
       try clear c21b0
       try clear c21b1
       try clear c22
       try clear c22b0
       try clear p23
       try clear q23
       try clear hx23
       try clear hf23
       try clear c31
       try clear c31b0
       try clear p32
       try clear q32
       try clear hx32
       try clear hf32
       try clear c36
       try clear p36
       try clear q36
       try clear hx36
       try clear c39
       try clear c39b0
       try clear p40
       try clear q40
       try clear hx40
       try clear hf40
       try clear hcz16_0
       try clear hcz16_1
       try clear hcz16_2
       try clear hcz16_3
       try clear hcz25_0
       try clear hcz25_1
       try clear hcz25_2
       try clear hcz25_3
       try clear hcz27_0
       try clear hcz27_1
       try clear hcz27_2
       try clear hcz27_3
       try clear hcz34_0
       try clear hcz34_1
       try clear hcz34_2
       try clear hcz34_3
       try clear hcz36_0
       try clear hcz36_1
       try clear hcz36_2
       try clear hcz36_3
       try clear hcz42_0
       try clear hcz42_1
       try clear hcz42_2
       try clear hcz42_3
       try clear hfz16_0
       try clear hfz16_1
       try clear hfz16_2
       try clear hfz16_3
       try clear hfz25_0
       try clear hfz25_1
       try clear hfz25_2
       try clear hfz25_3
       try clear hfz27_0
       try clear hfz27_1
       try clear hfz27_2
       try clear hfz27_3
       try clear hfz34_0
       try clear hfz34_1
       try clear hfz34_2
       try clear hfz34_3
       try clear hfz36_0
       try clear hfz36_1
       try clear hfz36_2
       try clear hfz36_3
       try clear hfz42_0
       try clear hfz42_1
       try clear hfz42_2
       try clear hfz42_3
       try clear hx14_0
       try clear hx23_0
       try clear hx32_0
       try clear hx368_0
       try clear hx368_1
       try clear hx368_2
       try clear hx368_3
       try clear hx40_0
       try clear p14
       try clear p2
       try clear p23
       try clear p32
       try clear p368
       try clear p40
       try clear q14
       try clear q23
       try clear q32
       try clear q368
       try clear q40
       obtain ⟨x9_2, x53_2, rfl, HA, HK2, HO_9, HB⟩ := hrel
       cases gk with
       | zero => exact absurd HA.out (by simp [impl_led.l1])
       | succ k2 =>
        have H := HA.out
        clear HA
        simp only [impl_led.l1] at H
        by_cases c46 : x53_2 < (l2.length : Int)
        ·rw [if_pos c46] at H
         have c46b0 := decide_eq_true c46
         clear c46
         by_cases c47 : 0 ≤ x53_2
         ·rw [if_pos c47] at H
          have c47b0 := decide_eq_true c47
          clear c47
          by_cases c48 : x53_2 < (l2.length : Int)
          ·rw [if_pos c48] at H
           have c48b0 := decide_eq_true c48
           clear c48
           by_cases c49 : 0 ≤ (l0.length : Int)
           ·rw [if_pos c49] at H
            have c49b0 := eq_true c49
            have c49b1 := decide_eq_true c49
            clear c49
            by_cases c50 : ((l0.length : Int) : Int).toNat ≤ 281474976710656
            ·rw [if_pos c50] at H
             have c50b0 := eq_true c50
             have c50b1 := decide_eq_true c50
             clear c50
             obtain ⟨y376, hy376⟩ : ∃ y_ : List Bool, y_ = (List.replicate ((l0.length : Int) : Int).toNat false) := ⟨_, rfl⟩
             replace H : (impl_led.l2 k2 l0 x9_2 (rdOf ByteArray.empty l2 x53_2) y376 l2 (l2.length : Int) x53_2 l0 (l0.length : Int) 0) = some r := by first | (rw [hy376]; with_reducible exact H) | (have H2_ := (Option.bind_some _ _).symm.trans H; rw [hy376]; with_reducible exact H2_) | (have H2_ := (Option.bind_some _ _).symm.trans H; with_reducible exact H2_) | with_reducible exact H | (rw [hy376]; exact H) | exact H
             have Ny376 := Aside0.mk hy376
             clear hy376
             have H' := Aside0.mk H
             clear H
             have p375 : 0 ≤ (x53_2 : Int) := of_decide_eq_true dq27
             have q375 : x53_2 < (l2.length : Int) := of_decide_eq_true dq27
             obtain ⟨ad375, e375, hx375_0⟩ := Kd.at_string HR2.out x53_2 p375 q375
             cases e375
             replace hx375_0 := (HB.out.cell (World.block_lt_of_cell? w _ hx375_0)).trans hx375_0
             replace p375 := eq_true p375
             replace q375 := eq_true q375
             go_wp2_with (first | ((with_reducible refine gate_dst (N := 59) rfl ?_); refine Kd.R_make Kd.bool _ 4 rfl (N := 59) rfl 95 _ _ rfl (l0.length : Int) rfl rfl Tryd.underlying95 (.bool false) 1 info4 rfl dq38 dq34 false (ok := fun _ => True) (okp := fun _ => True) rfl (fun _ hk => hk) trivial (of_decide_eq_true dq27) (Nat.le_trans (Nat.mul_le_mul_right _ (of_decide_eq_true dq27 : (l0.length : Int).toNat ≤ 281474976710656)) dq34) (Below.refl _ _) (Nat.le_refl _) ?_; intro v377 w51 ho52 hb hg_ hnew_; clear hg_ hnew_; (first | rw [← Ny376.out] at ho52 | (simp only [Int.reduceToNat] at ho52; rw [← Ny376.out] at ho52)); have n0_ := Aside0.mk (Kd.R_elder' dq118 (Kd.R_base ho52) hb); have n1_ := Aside0.mk (Kd.R_lower (Kd.R_new' ho52 (Kd.R_lt dq118)) (below_size dq23)); have n2_ := Aside0.mk (below_step dq23 hb); clear HO_9; clear HB; have HO_9 := n0_; have HO378 := n1_; have HB := n2_; clear n0_ n1_ n2_; clear hb ho52))
             go_loopg [62] k2 (fun kq v62 w' => ∃ (x14_3 : List Bool) (x62_3 : Int), v62 = .int .i64 x62_3 ∧ Aside0 (impl_led.l2 kq l0 x9_2 (rdOf ByteArray.empty l2 x53_2) x14_3 l2 (l2.length : Int) x53_2 l0 (l0.length : Int) x62_3 = some r) ∧ Aside0 (kq ≤ k2) ∧ Aside0 (Kd.R Kd.bool 4 w' w.heap.size (fun k_ => some k_ ≠ (v377 : Value).ownBlock) u9 x9_2) ∧ Aside0 (Kd.R Kd.bool 4 w' w.heap.size (fun k_ => some k_ ≠ (u9 : Value).ownBlock) v377 x14_3) ∧ Aside0 (Below w.heap.size w w'))
             case atStart => exact ⟨(y376), (0), dq26, H', ⟨Nat.le_refl _⟩, ⟨dq120⟩, ⟨by (with_reducible repeat (first | apply Kd.R_alloc | apply Kd.R_drewN | apply Kd.R_drew)); exact Kd.R_mono HO378.out (fun _ hk => hk.2)⟩, ⟨dq23⟩⟩
             case round =>
              clear H'
              try clear c1
              try clear p1
              try clear q1
              try clear hx1
              try clear c2
              try clear p2
              try clear q2
              try clear hx2
              try clear c3
              try clear p3
              try clear q3
              try clear hx3
              try clear c4
              try clear p4
              try clear q4
              try clear hx4
              try clear hf4
              try clear c5
              try clear c5b0
              try clear c5b1
              try clear c6
              try clear c6b0
              try clear c6b1
              try clear p6
              try clear c9
              try clear c9b0
              try clear c10
              try clear c10b0
              try clear c11
              try clear c11b0
              try clear c12
              try clear c12b0
              try clear c12b1
              try clear c13
              try clear c13b0
              try clear p14
              try clear q14
              try clear hx14
              try clear hf14
              try clear c20
              try clear c21
              try clear c21b0
              try clear c21b1
              try clear c22
              try clear c22b0
              try clear p23
              try clear q23
              try clear hx23
              try clear hf23
              try clear c31
              try clear c31b0
              try clear p32
              try clear q32
              try clear hx32
              try clear hf32
              try clear c36
              try clear p36
              try clear q36
              try clear hx36
              try clear p37
              try clear q37
              try clear hx37
              try clear c39
              try clear c39b0
              try clear p40
              try clear q40
              try clear hx40
              try clear hf40
              try clear c46
              try clear c46b0
              try clear c47
              try clear c47b0
              try clear c48
              try clear c48b0
              try clear c49
              try clear c49b0
              try clear c49b1
              try clear c50
              try clear c50b0
              try clear c50b1
              try clear hcz16_0
              try clear hcz16_1
              try clear hcz16_2
              try clear hcz16_3
              try clear hcz25_0
              try clear hcz25_1
              try clear hcz25_2
              try clear hcz25_3
              try clear hcz27_0
              try clear hcz27_1
              try clear hcz27_2
              try clear hcz27_3
              try clear hcz34_0
              try clear hcz34_1
              try clear hcz34_2
              try clear hcz34_3
              try clear hcz36_0
              try clear hcz36_1
              try clear hcz36_2
              try clear hcz36_3
              try clear hcz42_0
              try clear hcz42_1
              try clear hcz42_2
              try clear hcz42_3
              try clear hfz16_0
              try clear hfz16_1
              try clear hfz16_2
              try clear hfz16_3
              try clear hfz25_0
              try clear hfz25_1
              try clear hfz25_2
              try clear hfz25_3
              try clear hfz27_0
              try clear hfz27_1
              try clear hfz27_2
              try clear hfz27_3
              try clear hfz34_0
              try clear hfz34_1
              try clear hfz34_2
              try clear hfz34_3
              try clear hfz36_0
              try clear hfz36_1
              try clear hfz36_2
              try clear hfz36_3
              try clear hfz42_0
              try clear hfz42_1
              try clear hfz42_2
              try clear hfz42_3
              try clear hx14_0
              try clear hx23_0
              try clear hx32_0
              try clear hx368_0
              try clear hx368_1
              try clear hx368_2
              try clear hx368_3
              try clear hx375_0
              try clear hx40_0
              try clear p1
              try clear p14
              try clear p2
              try clear p23
              try clear p3
              try clear p32
              try clear p36
              try clear p368
              try clear p375
              try clear p4
              try clear p40
              try clear p6
              try clear q1
              try clear q14
              try clear q2
              try clear q23
              try clear q3
              try clear q32
              try clear q36
              try clear q368
              try clear q375
              try clear q4
              try clear q40
              obtain ⟨x14_3, x62_3, rfl, HA, HK3, HO_9, HO_14, HB⟩ := hrel
              cases gk with
              | zero => exact absurd HA.out (by simp [impl_led.l2])
              | succ k3 =>
               have H := HA.out
               clear HA
               simp only [impl_led.l2] at H
               by_cases c53 : x62_3 < (l0.length : Int)
               ·rw [if_pos c53] at H
                have c53b0 := decide_eq_true c53
                clear c53
                by_cases c54 : 0 ≤ x62_3
                ·rw [if_pos c54] at H
                 have c54b0 := decide_eq_true c54
                 clear c54
                 by_cases c55 : x62_3 < (l0.length : Int)
                 ·rw [if_pos c55] at H
                  have c55b0 := decide_eq_true c55
                  clear c55
                  by_cases c56 : ((rd_T39 l0 x62_3).f0) ≥ 0
                  ·rw [if_pos c56] at H
                   have c56b0 : decide (0 ≤ ((rd_T39 l0 x62_3).f0)) = true := decide_eq_true c56
                   clear c56
                   by_cases c57 : 0 ≤ ((rd_T39 l0 x62_3).f0)
                   ·rw [if_pos c57] at H
                    have c57b0 := decide_eq_true c57
                    clear c57
                    by_cases c58 : ((rd_T39 l0 x62_3).f0) < (x9_2.length : Int)
                    ·rw [if_pos c58] at H
                     have c58b0 := decide_eq_true c58
                     clear c58
                     obtain ⟨bq59, hbq59⟩ : ∃ b_ : Bool, b_ = (rdOf false x9_2 ((rd_T39 l0 x62_3).f0)) := ⟨_, rfl⟩
                     replace H : (if bq59 = true then (if x62_3 < (x14_3.length : Int) then (impl_led.l2 k3 l0 x9_2 (rdOf ByteArray.empty l2 x53_2) (x14_3.set (x62_3 : Int).toNat (((rd_T39 l0 x62_3).f1).toList == (rdOf ByteArray.empty l2 x53_2).toList)) l2 (l2.length : Int) x53_2 l0 (l0.length : Int) (wrap64 (x62_3 + 1))) else (none)) else (if x62_3 < (x14_3.length : Int) then (impl_led.l2 k3 l0 x9_2 (rdOf ByteArray.empty l2 x53_2) (x14_3.set (x62_3 : Int).toNat false) l2 (l2.length : Int) x53_2 l0 (l0.length : Int) (wrap64 (x62_3 + 1))) else (none))) = some r := by rw [← hbq59] at H; exact H
                     have Nbq59 := Aside0.mk hbq59
                     clear hbq59
                     by_cases c60 : bq59 = true
                     ·subst c60
                      have H1 : (if x62_3 < (x14_3.length : Int) then (impl_led.l2 k3 l0 x9_2 (rdOf ByteArray.empty l2 x53_2) (x14_3.set (x62_3 : Int).toNat (((rd_T39 l0 x62_3).f1).toList == (rdOf ByteArray.empty l2 x53_2).toList)) l2 (l2.length : Int) x53_2 l0 (l0.length : Int) (wrap64 (x62_3 + 1))) else (none)) = some r := by rw [if_pos rfl] at H; exact H
                      clear H
                      have H := H1
                      clear H1
                      by_cases c61 : x62_3 < (x14_3.length : Int)
                      ·rw [if_pos c61] at H
                       have c61b0 := decide_eq_true c61
                       clear c61
                       obtain ⟨y382, hy382⟩ : ∃ y_ : List Bool, y_ = (x14_3.set (x62_3 : Int).toNat (((rd_T39 l0 x62_3).f1).toList == (rdOf ByteArray.empty l2 x53_2).toList)) := ⟨_, rfl⟩
                       replace H : (impl_led.l2 k3 l0 x9_2 (rdOf ByteArray.empty l2 x53_2) y382 l2 (l2.length : Int) x53_2 l0 (l0.length : Int) (wrap64 (x62_3 + 1))) = some r := by first | (rw [hy382]; with_reducible exact H) | (have H2_ := (Option.bind_some _ _).symm.trans H; rw [hy382]; with_reducible exact H2_) | (have H2_ := (Option.bind_some _ _).symm.trans H; with_reducible exact H2_) | with_reducible exact H | (rw [hy382]; exact H) | exact H
                       have Ny382 := Aside0.mk hy382
                       clear hy382
                       have H' := Aside0.mk H
                       clear H
                       have p379 : 0 ≤ (x62_3 : Int) := of_decide_eq_true dq27
                       have q379 : x62_3 < (l0.length : Int) := of_decide_eq_true dq27
                       obtain ⟨ad379, A379_3, c379_3, e379, hx379_0, hx379_1, hx379_2, hx379_3, hl379_3, hi379_3⟩ := at_T39 HR0.out x62_3 p379 q379
                       cases e379
                       replace hx379_0 := (HB.out.cell (World.block_lt_of_cell? w _ hx379_0)).trans hx379_0
                       replace hx379_1 := (HB.out.cell (World.block_lt_of_cell? w _ hx379_1)).trans hx379_1
                       replace hx379_2 := (HB.out.cell (World.block_lt_of_cell? w _ hx379_2)).trans hx379_2
                       replace hx379_3 := (HB.out.cell (World.block_lt_of_cell? w _ hx379_3)).trans hx379_3
                       have HR379_3 := Aside0.mk hi379_3
                       have HC379_3 := Aside0.mk hl379_3
                       clear hi379_3 hl379_3
                       replace p379 := eq_true p379
                       replace q379 := eq_true q379
                       go_wp2_with (first | ((with_reducible refine gate_dst (N := 16) rfl ?_); refine box_event ?hg (N := 16) ?hd (cs := #[.int .i64 0, .string (⟨#[]⟩ : ByteArray), .string (⟨#[]⟩ : ByteArray), .slice none 0 0]) (t := 39) ?hr ?_; (case hd => rfl); (case hg => rfl); (case hr => exact dq0); intro gb380 hg w63 hbox hb; have n0_ := Aside0.mk (Kd.R_below dq118 hb); have n1_ := Aside0.mk (Kd.R_below dq69 hb); have n2_ := Aside0.mk (below_step dq23 hb); have n3_ := Aside0.mk (hbox); have n4_ := Aside0.mk ((dq22 : w.heap.size ≤ gb380)); have n5_ := Aside0.mk ((dq22 : w.heap.size ≤ gb380)); clear HO_9; clear HO_14; clear HB; have HO_9 := n0_; have HO_14 := n1_; have HB := n2_; have BK380 := n3_; have GW380 := n4_; have GE380 := n5_; clear n0_ n1_ n2_ n3_ n4_ n5_; clear hb hbox hg; obtain ⟨⟨hcz64_0, hcz64_1, hcz64_2, hcz64_3⟩, hfz64_0, hfz64_1, hfz64_2, hfz64_3⟩ := blkC4 BK380.out) | ((with_reducible refine gate_store (t := 39) (p := 16) rfl ?_); refine store_event (t := 39) (p := 16) (v := ?vo_w65) (w1 := ((((w63.setCell ⟨gb380, 0, none⟩ (.int .i64 ((rd_T39 l0 x62_3).f0))).setCell ⟨gb380, 1, none⟩ (.string ((rd_T39 l0 x62_3).f1))).setCell ⟨gb380, 2, none⟩ (.string ((rd_T39 l0 x62_3).f2))).setCell ⟨gb380, 3, none⟩ (.slice A379_3 ((rd_T39 l0 x62_3).f3).length c379_3))) ?hg ?ho ?hn ?hr ?_; (case ho => rfl); (case hg => rfl); (case hn => rfl); (case hr => exact dq0); intro w65 hw; have n0_ : Aside0 (Kd.R Kd.bool 4 w65 w.heap.size (fun k_ => some k_ ≠ (v377 : Value).ownBlock) u9 x9_2) := ⟨dq125⟩; have n1_ : Aside0 (Kd.R Kd.bool 4 w65 w.heap.size (fun k_ => some k_ ≠ (u9 : Value).ownBlock) v377 x14_3) := ⟨dq124⟩; have n2_ : Aside0 (w65.heap[gb380]? = some (.cells #[.int .i64 ((rd_T39 l0 x62_3).f0), .string ((rd_T39 l0 x62_3).f1), .string ((rd_T39 l0 x62_3).f2), .slice A379_3 ((rd_T39 l0 x62_3).f3).length c379_3] 39 (0, 0))) := ⟨dq123⟩; have n3_ : Aside0 (Below w.heap.size w w65) := ⟨dq122⟩; clear hw; clear HO_9; clear HO_14; clear BK380; clear HB; have HO_9 := n0_; have HO_14 := n1_; have BK380 := n2_; have HB := n3_; clear n0_ n1_ n2_ n3_; obtain ⟨⟨hcz66_0, hcz66_1, hcz66_2, hcz66_3⟩, hfz66_0, hfz66_1, hfz66_2, hfz66_3⟩ := blkC4 BK380.out; obtain ⟨Ao67, co67, eo67⟩ := Kd.R_slice HO_9.out; subst eo67; have p381 : 0 ≤ (((rd_T39 l0 x62_3).f0) : Int) := of_decide_eq_true dq27; have q381 : ((rd_T39 l0 x62_3).f0) < (x9_2.length : Int) := of_decide_eq_true dq27; obtain ⟨ad381, e381, hx381_0⟩ := Kd.at_bool (Kd.R_reads' HO_9.out).2.2 ((rd_T39 l0 x62_3).f0) p381 q381; (try rw [← Nbq59.out] at hx381_0); cases e381; replace p381 := eq_true p381; replace q381 := eq_true q381; have p62 : 0 ≤ (x62_3 : Int) := of_decide_eq_true dq27; have q62 : (x62_3 : Int) < ((x14_3.length : Int) : Int) := of_decide_eq_true dq27; obtain ⟨go62, co62, eo62, gb62, gl62, cl62, HG62⟩ := Kd.R_form HO_14.out dq34; (first | cases eo62 | (injection eo62 with ea_ en_ ec_; (first | subst ea_ | (injection ea_ with ea_; subst ea_)); subst ec_; clear en_)); have GB62 := Aside0.mk gb62; have GG62 := Aside0.mk HG62; clear gb62 gl62 HG62; obtain ⟨hx62_0, hf62_0⟩ := Kd.R_celln false HO_14.out (x62_3 : Int) p62 q62; replace p62 := eq_true p62; replace q62 := eq_true q62; obtain ⟨hy68_, hz68_⟩ := Kd.R_celln false HO_14.out (x62_3 : Int) (of_decide_eq_true dq27) (of_decide_eq_true dq27); have HP68 := Kd.R_putg HO_14.out (x62_3 : Int) (((rd_T39 l0 x62_3).f1).toList == (rdOf ByteArray.empty l2 x53_2).toList)) | ((with_reducible refine gate_store (t := 4) (p := 85) rfl ?_); refine store_event (t := 4) (p := 85) (v := ?vo_w69) (w1 := (w65.setCell ⟨go62, (x62_3 : Int).toNat, none⟩ (.bool (((rd_T39 l0 x62_3).f1).toList == (rdOf ByteArray.empty l2 x53_2).toList)))) ?hg ?ho ?hn ?hr ?_; (case ho => rfl); (case hg => rfl); (case hn => rfl); (case hr => exact dq0); intro w69 hw; have hg : w65.grownBy w69 (some go62) := (by rw [hw]; exact HP68.2); have hp_ : Kd.R Kd.bool 4 w69 w.heap.size (fun k_ => some k_ ≠ (.slice (some ad381) x9_2.length co67 : Value).ownBlock) (.slice (some ⟨go62, 0, none⟩) x14_3.length co62) y382 := (by rw [hw, Ny382.out]; exact HP68.1); clear HP68; have n0_ := Aside0.mk (Kd.R_after (v := (.slice (some ⟨go62, 0, none⟩) x14_3.length co62)) (v1 := (.slice (some ⟨go62, 0, none⟩) x14_3.length co62)) (ok := (fun _ => True)) dq121 hg (.inl rfl)); have n1_ := Aside0.mk (hp_); have n2_ := Aside0.mk (blk_grown (g := gb380) (o := .cells #[.int .i64 ((rd_T39 l0 x62_3).f0), .string ((rd_T39 l0 x62_3).f1), .string ((rd_T39 l0 x62_3).f2), .slice A379_3 ((rd_T39 l0 x62_3).f3).length c379_3] 39 (0, 0)) (by refine blk_up ?_; exact BK380.out) hg (Kd.R_ne HO_14.out BK380.out dq38)); have n3_ := Aside0.mk ((by rw [hw]; exact below_set (HB.out) GB62.out : Below w.heap.size w w69)); clear HO_9; clear HO_14; clear BK380; clear HB; have HO_9 := n0_; have HO_14 := n1_; have BK380 := n2_; have HB := n3_; clear n0_ n1_ n2_ n3_; clear hg hw hp_))
                       go_roundg k3
                       case measure => have := HK1.out; have := HK2.out; have := HK3.out; omega
                       case rel => exact ⟨(y382), (wrap64 (x62_3 + 1)), dq26, H', ⟨dq127⟩, ⟨dq120⟩, ⟨dq69⟩, ⟨dq126⟩⟩
                      ·rw [if_neg c61] at H
                       exact absurd H dq31
                     ·replace c60 := Bool.eq_false_iff.mpr c60
                      subst c60
                      have H1 : (if x62_3 < (x14_3.length : Int) then (impl_led.l2 k3 l0 x9_2 (rdOf ByteArray.empty l2 x53_2) (x14_3.set (x62_3 : Int).toNat false) l2 (l2.length : Int) x53_2 l0 (l0.length : Int) (wrap64 (x62_3 + 1))) else (none)) = some r := by rw [if_neg (show ¬ (false = true) by decide)] at H; exact H
                      clear H
                      have H := H1
                      clear H1
                      by_cases c70 : x62_3 < (x14_3.length : Int)
                      ·rw [if_pos c70] at H
                       have c70b0 := decide_eq_true c70
                       clear c70
                       obtain ⟨y383, hy383⟩ : ∃ y_ : List Bool, y_ = (x14_3.set (x62_3 : Int).toNat false) := ⟨_, rfl⟩
                       replace H : (impl_led.l2 k3 l0 x9_2 (rdOf ByteArray.empty l2 x53_2) y383 l2 (l2.length : Int) x53_2 l0 (l0.length : Int) (wrap64 (x62_3 + 1))) = some r := by first | (rw [hy383]; with_reducible exact H) | (have H2_ := (Option.bind_some _ _).symm.trans H; rw [hy383]; with_reducible exact H2_) | (have H2_ := (Option.bind_some _ _).symm.trans H; with_reducible exact H2_) | with_reducible exact H | (rw [hy383]; exact H) | exact H
                       have Ny383 := Aside0.mk hy383
                       clear hy383
                       have H' := Aside0.mk H
                       clear H
                       have p379 : 0 ≤ (x62_3 : Int) := of_decide_eq_true dq27
                       have q379 : x62_3 < (l0.length : Int) := of_decide_eq_true dq27
                       obtain ⟨ad379, A379_3, c379_3, e379, hx379_0, hx379_1, hx379_2, hx379_3, hl379_3, hi379_3⟩ := at_T39 HR0.out x62_3 p379 q379
                       cases e379
                       replace hx379_0 := (HB.out.cell (World.block_lt_of_cell? w _ hx379_0)).trans hx379_0
                       replace hx379_1 := (HB.out.cell (World.block_lt_of_cell? w _ hx379_1)).trans hx379_1
                       replace hx379_2 := (HB.out.cell (World.block_lt_of_cell? w _ hx379_2)).trans hx379_2
                       replace hx379_3 := (HB.out.cell (World.block_lt_of_cell? w _ hx379_3)).trans hx379_3
                       have HR379_3 := Aside0.mk hi379_3
                       have HC379_3 := Aside0.mk hl379_3
                       clear hi379_3 hl379_3
                       replace p379 := eq_true p379
                       replace q379 := eq_true q379
                       go_wp2_with (first | ((with_reducible refine gate_dst (N := 16) rfl ?_); refine box_event ?hg (N := 16) ?hd (cs := #[.int .i64 0, .string (⟨#[]⟩ : ByteArray), .string (⟨#[]⟩ : ByteArray), .slice none 0 0]) (t := 39) ?hr ?_; (case hd => rfl); (case hg => rfl); (case hr => exact dq0); intro gb380 hg w72 hbox hb; have n0_ := Aside0.mk (Kd.R_below dq118 hb); have n1_ := Aside0.mk (Kd.R_below dq69 hb); have n2_ := Aside0.mk (below_step dq23 hb); have n3_ := Aside0.mk (hbox); have n4_ := Aside0.mk ((dq22 : w.heap.size ≤ gb380)); have n5_ := Aside0.mk ((dq22 : w.heap.size ≤ gb380)); clear HO_9; clear HO_14; clear HB; have HO_9 := n0_; have HO_14 := n1_; have HB := n2_; have BK380 := n3_; have GW380 := n4_; have GE380 := n5_; clear n0_ n1_ n2_ n3_ n4_ n5_; clear hb hbox hg; obtain ⟨⟨hcz73_0, hcz73_1, hcz73_2, hcz73_3⟩, hfz73_0, hfz73_1, hfz73_2, hfz73_3⟩ := blkC4 BK380.out) | ((with_reducible refine gate_store (t := 39) (p := 16) rfl ?_); refine store_event (t := 39) (p := 16) (v := ?vo_w74) (w1 := ((((w72.setCell ⟨gb380, 0, none⟩ (.int .i64 ((rd_T39 l0 x62_3).f0))).setCell ⟨gb380, 1, none⟩ (.string ((rd_T39 l0 x62_3).f1))).setCell ⟨gb380, 2, none⟩ (.string ((rd_T39 l0 x62_3).f2))).setCell ⟨gb380, 3, none⟩ (.slice A379_3 ((rd_T39 l0 x62_3).f3).length c379_3))) ?hg ?ho ?hn ?hr ?_; (case ho => rfl); (case hg => rfl); (case hn => rfl); (case hr => exact dq0); intro w74 hw; have n0_ : Aside0 (Kd.R Kd.bool 4 w74 w.heap.size (fun k_ => some k_ ≠ (v377 : Value).ownBlock) u9 x9_2) := ⟨dq125⟩; have n1_ : Aside0 (Kd.R Kd.bool 4 w74 w.heap.size (fun k_ => some k_ ≠ (u9 : Value).ownBlock) v377 x14_3) := ⟨dq124⟩; have n2_ : Aside0 (w74.heap[gb380]? = some (.cells #[.int .i64 ((rd_T39 l0 x62_3).f0), .string ((rd_T39 l0 x62_3).f1), .string ((rd_T39 l0 x62_3).f2), .slice A379_3 ((rd_T39 l0 x62_3).f3).length c379_3] 39 (0, 0))) := ⟨dq123⟩; have n3_ : Aside0 (Below w.heap.size w w74) := ⟨dq122⟩; clear hw; clear HO_9; clear HO_14; clear BK380; clear HB; have HO_9 := n0_; have HO_14 := n1_; have BK380 := n2_; have HB := n3_; clear n0_ n1_ n2_ n3_; obtain ⟨⟨hcz75_0, hcz75_1, hcz75_2, hcz75_3⟩, hfz75_0, hfz75_1, hfz75_2, hfz75_3⟩ := blkC4 BK380.out; obtain ⟨Ao76, co76, eo76⟩ := Kd.R_slice HO_9.out; subst eo76; have p381 : 0 ≤ (((rd_T39 l0 x62_3).f0) : Int) := of_decide_eq_true dq27; have q381 : ((rd_T39 l0 x62_3).f0) < (x9_2.length : Int) := of_decide_eq_true dq27; obtain ⟨ad381, e381, hx381_0⟩ := Kd.at_bool (Kd.R_reads' HO_9.out).2.2 ((rd_T39 l0 x62_3).f0) p381 q381; (try rw [← Nbq59.out] at hx381_0); cases e381; replace p381 := eq_true p381; replace q381 := eq_true q381; have p71 : 0 ≤ (x62_3 : Int) := of_decide_eq_true dq27; have q71 : (x62_3 : Int) < ((x14_3.length : Int) : Int) := of_decide_eq_true dq27; obtain ⟨go71, co71, eo71, gb71, gl71, cl71, HG71⟩ := Kd.R_form HO_14.out dq34; (first | cases eo71 | (injection eo71 with ea_ en_ ec_; (first | subst ea_ | (injection ea_ with ea_; subst ea_)); subst ec_; clear en_)); have GB71 := Aside0.mk gb71; have GG71 := Aside0.mk HG71; clear gb71 gl71 HG71; obtain ⟨hx71_0, hf71_0⟩ := Kd.R_celln false HO_14.out (x62_3 : Int) p71 q71; replace p71 := eq_true p71; replace q71 := eq_true q71; obtain ⟨hy77_, hz77_⟩ := Kd.R_celln false HO_14.out (x62_3 : Int) (of_decide_eq_true dq27) (of_decide_eq_true dq27); have HP77 := Kd.R_putg HO_14.out (x62_3 : Int) false) | ((with_reducible refine gate_store (t := 4) (p := 85) rfl ?_); refine store_event (t := 4) (p := 85) (v := ?vo_w78) (w1 := (w74.setCell ⟨go71, (x62_3 : Int).toNat, none⟩ (.bool false))) ?hg ?ho ?hn ?hr ?_; (case ho => rfl); (case hg => rfl); (case hn => rfl); (case hr => exact dq0); intro w78 hw; have hg : w74.grownBy w78 (some go71) := (by rw [hw]; exact HP77.2); have hp_ : Kd.R Kd.bool 4 w78 w.heap.size (fun k_ => some k_ ≠ (.slice (some ad381) x9_2.length co76 : Value).ownBlock) (.slice (some ⟨go71, 0, none⟩) x14_3.length co71) y383 := (by rw [hw, Ny383.out]; exact HP77.1); clear HP77; have n0_ := Aside0.mk (Kd.R_after (v := (.slice (some ⟨go71, 0, none⟩) x14_3.length co71)) (v1 := (.slice (some ⟨go71, 0, none⟩) x14_3.length co71)) (ok := (fun _ => True)) dq121 hg (.inl rfl)); have n1_ := Aside0.mk (hp_); have n2_ := Aside0.mk (blk_grown (g := gb380) (o := .cells #[.int .i64 ((rd_T39 l0 x62_3).f0), .string ((rd_T39 l0 x62_3).f1), .string ((rd_T39 l0 x62_3).f2), .slice A379_3 ((rd_T39 l0 x62_3).f3).length c379_3] 39 (0, 0)) (by refine blk_up ?_; exact BK380.out) hg (Kd.R_ne HO_14.out BK380.out dq38)); have n3_ := Aside0.mk ((by rw [hw]; exact below_set (HB.out) GB71.out : Below w.heap.size w w78)); clear HO_9; clear HO_14; clear BK380; clear HB; have HO_9 := n0_; have HO_14 := n1_; have BK380 := n2_; have HB := n3_; clear n0_ n1_ n2_ n3_; clear hg hw hp_))
                       go_roundg k3
                       case measure => have := HK1.out; have := HK2.out; have := HK3.out; omega
                       case rel => exact ⟨(y383), (wrap64 (x62_3 + 1)), dq26, H', ⟨dq127⟩, ⟨dq120⟩, ⟨dq69⟩, ⟨dq126⟩⟩
                      ·rw [if_neg c70] at H
                       exact absurd H dq31
                    ·rw [if_neg c58] at H
                     exact absurd H dq31
                   ·rw [if_neg c57] at H
                    exact absurd H dq31
                  ·rw [if_neg c56] at H
                   have c56b0 : decide (0 ≤ ((rd_T39 l0 x62_3).f0)) = false := decide_eq_false c56
                   clear c56
                   by_cases c79 : x62_3 < (x14_3.length : Int)
                   ·rw [if_pos c79] at H
                    have c79b0 := decide_eq_true c79
                    clear c79
                    obtain ⟨y384, hy384⟩ : ∃ y_ : List Bool, y_ = (x14_3.set (x62_3 : Int).toNat false) := ⟨_, rfl⟩
                    replace H : (impl_led.l2 k3 l0 x9_2 (rdOf ByteArray.empty l2 x53_2) y384 l2 (l2.length : Int) x53_2 l0 (l0.length : Int) (wrap64 (x62_3 + 1))) = some r := by first | (rw [hy384]; with_reducible exact H) | (have H2_ := (Option.bind_some _ _).symm.trans H; rw [hy384]; with_reducible exact H2_) | (have H2_ := (Option.bind_some _ _).symm.trans H; with_reducible exact H2_) | with_reducible exact H | (rw [hy384]; exact H) | exact H
                    have Ny384 := Aside0.mk hy384
                    clear hy384
                    have H' := Aside0.mk H
                    clear H
                    have p379 : 0 ≤ (x62_3 : Int) := of_decide_eq_true dq27
                    have q379 : x62_3 < (l0.length : Int) := of_decide_eq_true dq27
                    obtain ⟨ad379, A379_3, c379_3, e379, hx379_0, hx379_1, hx379_2, hx379_3, hl379_3, hi379_3⟩ := at_T39 HR0.out x62_3 p379 q379
                    cases e379
                    replace hx379_0 := (HB.out.cell (World.block_lt_of_cell? w _ hx379_0)).trans hx379_0
                    replace hx379_1 := (HB.out.cell (World.block_lt_of_cell? w _ hx379_1)).trans hx379_1
                    replace hx379_2 := (HB.out.cell (World.block_lt_of_cell? w _ hx379_2)).trans hx379_2
                    replace hx379_3 := (HB.out.cell (World.block_lt_of_cell? w _ hx379_3)).trans hx379_3
                    have HR379_3 := Aside0.mk hi379_3
                    have HC379_3 := Aside0.mk hl379_3
                    clear hi379_3 hl379_3
                    replace p379 := eq_true p379
                    replace q379 := eq_true q379
                    go_wp2_with (first | ((with_reducible refine gate_dst (N := 16) rfl ?_); refine box_event ?hg (N := 16) ?hd (cs := #[.int .i64 0, .string (⟨#[]⟩ : ByteArray), .string (⟨#[]⟩ : ByteArray), .slice none 0 0]) (t := 39) ?hr ?_; (case hd => rfl); (case hg => rfl); (case hr => exact dq0); intro gb380 hg w81 hbox hb; have n0_ := Aside0.mk (Kd.R_below dq118 hb); have n1_ := Aside0.mk (Kd.R_below dq69 hb); have n2_ := Aside0.mk (below_step dq23 hb); have n3_ := Aside0.mk (hbox); have n4_ := Aside0.mk ((dq22 : w.heap.size ≤ gb380)); have n5_ := Aside0.mk ((dq22 : w.heap.size ≤ gb380)); clear HO_9; clear HO_14; clear HB; have HO_9 := n0_; have HO_14 := n1_; have HB := n2_; have BK380 := n3_; have GW380 := n4_; have GE380 := n5_; clear n0_ n1_ n2_ n3_ n4_ n5_; clear hb hbox hg; obtain ⟨⟨hcz82_0, hcz82_1, hcz82_2, hcz82_3⟩, hfz82_0, hfz82_1, hfz82_2, hfz82_3⟩ := blkC4 BK380.out) | ((with_reducible refine gate_store (t := 39) (p := 16) rfl ?_); refine store_event (t := 39) (p := 16) (v := ?vo_w83) (w1 := ((((w81.setCell ⟨gb380, 0, none⟩ (.int .i64 ((rd_T39 l0 x62_3).f0))).setCell ⟨gb380, 1, none⟩ (.string ((rd_T39 l0 x62_3).f1))).setCell ⟨gb380, 2, none⟩ (.string ((rd_T39 l0 x62_3).f2))).setCell ⟨gb380, 3, none⟩ (.slice A379_3 ((rd_T39 l0 x62_3).f3).length c379_3))) ?hg ?ho ?hn ?hr ?_; (case ho => rfl); (case hg => rfl); (case hn => rfl); (case hr => exact dq0); intro w83 hw; have n0_ : Aside0 (Kd.R Kd.bool 4 w83 w.heap.size (fun k_ => some k_ ≠ (v377 : Value).ownBlock) u9 x9_2) := ⟨dq125⟩; have n1_ : Aside0 (Kd.R Kd.bool 4 w83 w.heap.size (fun k_ => some k_ ≠ (u9 : Value).ownBlock) v377 x14_3) := ⟨dq124⟩; have n2_ : Aside0 (w83.heap[gb380]? = some (.cells #[.int .i64 ((rd_T39 l0 x62_3).f0), .string ((rd_T39 l0 x62_3).f1), .string ((rd_T39 l0 x62_3).f2), .slice A379_3 ((rd_T39 l0 x62_3).f3).length c379_3] 39 (0, 0))) := ⟨dq123⟩; have n3_ : Aside0 (Below w.heap.size w w83) := ⟨dq122⟩; clear hw; clear HO_9; clear HO_14; clear BK380; clear HB; have HO_9 := n0_; have HO_14 := n1_; have BK380 := n2_; have HB := n3_; clear n0_ n1_ n2_ n3_; obtain ⟨⟨hcz84_0, hcz84_1, hcz84_2, hcz84_3⟩, hfz84_0, hfz84_1, hfz84_2, hfz84_3⟩ := blkC4 BK380.out; have p80 : 0 ≤ (x62_3 : Int) := of_decide_eq_true dq27; have q80 : (x62_3 : Int) < ((x14_3.length : Int) : Int) := of_decide_eq_true dq27; obtain ⟨go80, co80, eo80, gb80, gl80, cl80, HG80⟩ := Kd.R_form HO_14.out dq34; (first | cases eo80 | (injection eo80 with ea_ en_ ec_; (first | subst ea_ | (injection ea_ with ea_; subst ea_)); subst ec_; clear en_)); have GB80 := Aside0.mk gb80; have GG80 := Aside0.mk HG80; clear gb80 gl80 HG80; obtain ⟨hx80_0, hf80_0⟩ := Kd.R_celln false HO_14.out (x62_3 : Int) p80 q80; replace p80 := eq_true p80; replace q80 := eq_true q80; obtain ⟨hy85_, hz85_⟩ := Kd.R_celln false HO_14.out (x62_3 : Int) (of_decide_eq_true dq27) (of_decide_eq_true dq27); have HP85 := Kd.R_putg HO_14.out (x62_3 : Int) false) | ((with_reducible refine gate_store (t := 4) (p := 85) rfl ?_); refine store_event (t := 4) (p := 85) (v := ?vo_w86) (w1 := (w83.setCell ⟨go80, (x62_3 : Int).toNat, none⟩ (.bool false))) ?hg ?ho ?hn ?hr ?_; (case ho => rfl); (case hg => rfl); (case hn => rfl); (case hr => exact dq0); intro w86 hw; have hg : w83.grownBy w86 (some go80) := (by rw [hw]; exact HP85.2); have hp_ : Kd.R Kd.bool 4 w86 w.heap.size (fun k_ => some k_ ≠ (u9 : Value).ownBlock) (.slice (some ⟨go80, 0, none⟩) x14_3.length co80) y384 := (by rw [hw, Ny384.out]; exact HP85.1); clear HP85; have n0_ := Aside0.mk (Kd.R_after (v := (.slice (some ⟨go80, 0, none⟩) x14_3.length co80)) (v1 := (.slice (some ⟨go80, 0, none⟩) x14_3.length co80)) (ok := (fun _ => True)) dq121 hg (.inl rfl)); have n1_ := Aside0.mk (hp_); have n2_ := Aside0.mk (blk_grown (g := gb380) (o := .cells #[.int .i64 ((rd_T39 l0 x62_3).f0), .string ((rd_T39 l0 x62_3).f1), .string ((rd_T39 l0 x62_3).f2), .slice A379_3 ((rd_T39 l0 x62_3).f3).length c379_3] 39 (0, 0)) (by refine blk_up ?_; exact BK380.out) hg (Kd.R_ne HO_14.out BK380.out dq38)); have n3_ := Aside0.mk ((by rw [hw]; exact below_set (HB.out) GB80.out : Below w.heap.size w w86)); clear HO_9; clear HO_14; clear BK380; clear HB; have HO_9 := n0_; have HO_14 := n1_; have BK380 := n2_; have HB := n3_; clear n0_ n1_ n2_ n3_; clear hg hw hp_))
                    go_roundg k3
                    case measure => have := HK1.out; have := HK2.out; have := HK3.out; omega
                    case rel => exact ⟨(y384), (wrap64 (x62_3 + 1)), dq26, H', ⟨dq127⟩, ⟨dq120⟩, ⟨dq69⟩, ⟨dq126⟩⟩
                   ·rw [if_neg c79] at H
                    exact absurd H dq31
                 ·rw [if_neg c55] at H
                  exact absurd H dq31
                ·rw [if_neg c54] at H
                 exact absurd H dq31
               ·rw [if_neg c53] at H
                have c53b0 := decide_eq_false c53
                clear c53
                have H' := Aside0.mk H
                clear H
                go_wp2
                go_roundg k3
                case measure => have := HK1.out; have := HK2.out; have := HK3.out; omega
                case rel => exact ⟨(x14_3), (wrap64 (x53_2 + 1)), dq26, H', ⟨dq127⟩, ⟨by (with_reducible repeat (first | apply Kd.R_alloc | apply Kd.R_drewN | apply Kd.R_drew)); exact Kd.R_mono HO_14.out (fun _ hk => trivial)⟩, ⟨dq23⟩⟩
            ·rw [if_neg c50] at H
             exact absurd H dq31
           ·rw [if_neg c49] at H
            exact absurd H dq31
          ·rw [if_neg c48] at H
           exact absurd H dq31
         ·rw [if_neg c47] at H
          exact absurd H dq31
        ·rw [if_neg c46] at H
         have c46b0 := decide_eq_false c46
         clear c46
         obtain ⟨y385, hy385⟩ : ∃ y_ : List Int, y_ = (([] : List Int)) := ⟨_, rfl⟩
         replace H : (impl_led.l3 k2 y385 x9_2 (x9_2.length : Int) 0) = some r := by first | (rw [hy385]; with_reducible exact H) | (have H2_ := (Option.bind_some _ _).symm.trans H; rw [hy385]; with_reducible exact H2_) | (have H2_ := (Option.bind_some _ _).symm.trans H; with_reducible exact H2_) | with_reducible exact H | (rw [hy385]; exact H) | exact H
         have Ny385 := Aside0.mk hy385
         clear hy385
         have H' := Aside0.mk H
         clear H
         go_wp2_with (first | ((with_reducible refine gate_dst (N := 89) rfl ?_); refine Kd.R_lit (Kd.int .i64) _ 2 ?hg (N := 89) ?hd (xs := ([] : List Int)) (inner := []) (ok := fun _ => True) (okp := fun _ => True) ?hr ?hp (fun _ hk => hk) trivial (Below.refl _ _) (Nat.le_refl _) dq31 ?_; (case hd => rfl); (case hg => rfl); (case hr => exact dq0); (case hp => exact dq2); intro v386 w87 ho88 hb hg_ hnew_; clear hg_ hnew_; (first | rw [← Ny385.out] at ho88 | (simp only [Int.reduceToNat] at ho88; rw [← Ny385.out] at ho88)); have n0_ := Aside0.mk (Kd.R_below dq118 hb); have n1_ := Aside0.mk (Kd.R_lower ho88 (below_size dq23)); have n2_ := Aside0.mk (below_step dq23 hb); clear HO_9; clear HB; have HO_9 := n0_; have HO387 := n1_; have HB := n2_; clear n0_ n1_ n2_; clear hb ho88; obtain ⟨Ao89, co89, eo89⟩ := Kd.R_slice HO_9.out; subst eo89))
         go_loopg [17, 92] k2 (fun kq v17 v92 w' => ∃ (x17_3 : List Int) (x92_3 : Int), v92 = .int .i64 x92_3 ∧ Aside0 (impl_led.l3 kq x17_3 x9_2 (x9_2.length : Int) x92_3 = some r) ∧ Aside0 (kq ≤ k2) ∧ Aside0 (Kd.R (Kd.int .i64) 2 w' w.heap.size (fun _ => True) v17 x17_3) ∧ Aside0 (Kd.R Kd.bool 4 w' w.heap.size (fun _ => True) (.slice Ao89 x9_2.length co89) x9_2) ∧ Aside0 (Below w.heap.size w w'))
         case atStart => exact ⟨(y385), (0), dq26, H', ⟨Nat.le_refl _⟩, ⟨by (with_reducible repeat (first | apply Kd.R_alloc | apply Kd.R_drewN | apply Kd.R_drew)); exact HO387.out⟩, ⟨dq118⟩, ⟨dq23⟩⟩
         case round =>
          clear H'
          try clear c1
          try clear p1
          try clear q1
          try clear hx1
          try clear c2
          try clear p2
          try clear q2
          try clear hx2
          try clear c3
          try clear p3
          try clear q3
          try clear hx3
          try clear c4
          try clear p4
          try clear q4
          try clear hx4
          try clear hf4
          try clear c5
          try clear c5b0
          try clear c5b1
          try clear q5
          try clear c6
          try clear c6b0
          try clear c6b1
          try clear p6
          try clear q6
          try clear hx6
          try clear hf6
          try clear c7
          try clear p7
          try clear q7
          try clear hx7
          try clear hf7
          try clear p8
          try clear q8
          try clear hx8
          try clear hf8
          try clear c9
          try clear c9b0
          try clear c10
          try clear c10b0
          try clear c11
          try clear c11b0
          try clear c12
          try clear c12b0
          try clear c12b1
          try clear c13
          try clear c13b0
          try clear p14
          try clear q14
          try clear hx14
          try clear hf14
          try clear c20
          try clear c21
          try clear c21b0
          try clear c21b1
          try clear c22
          try clear c22b0
          try clear p23
          try clear q23
          try clear hx23
          try clear hf23
          try clear c31
          try clear c31b0
          try clear p32
          try clear q32
          try clear hx32
          try clear hf32
          try clear c36
          try clear p36
          try clear q36
          try clear hx36
          try clear c37
          try clear p37
          try clear q37
          try clear hx37
          try clear p38
          try clear q38
          try clear hx38
          try clear c39
          try clear c39b0
          try clear p40
          try clear q40
          try clear hx40
          try clear hf40
          try clear c46
          try clear c46b0
          try clear c47
          try clear c47b0
          try clear c48
          try clear c48b0
          try clear c49
          try clear c49b0
          try clear c49b1
          try clear c50
          try clear c50b0
          try clear c50b1
          try clear c53
          try clear c53b0
          try clear c54
          try clear c54b0
          try clear c55
          try clear c55b0
          try clear c56
          try clear c56b0
          try clear c57
          try clear c57b0
          try clear c58
          try clear c58b0
          try clear q59
          try clear c60
          try clear c61
          try clear c61b0
          try clear p62
          try clear q62
          try clear hx62
          try clear hf62
          try clear p64
          try clear c70
          try clear c70b0
          try clear p71
          try clear q71
          try clear hx71
          try clear hf71
          try clear c79
          try clear c79b0
          try clear p80
          try clear q80
          try clear hx80
          try clear hf80
          try clear hcz16_0
          try clear hcz16_1
          try clear hcz16_2
          try clear hcz16_3
          try clear hcz25_0
          try clear hcz25_1
          try clear hcz25_2
          try clear hcz25_3
          try clear hcz27_0
          try clear hcz27_1
          try clear hcz27_2
          try clear hcz27_3
          try clear hcz34_0
          try clear hcz34_1
          try clear hcz34_2
          try clear hcz34_3
          try clear hcz36_0
          try clear hcz36_1
          try clear hcz36_2
          try clear hcz36_3
          try clear hcz42_0
          try clear hcz42_1
          try clear hcz42_2
          try clear hcz42_3
          try clear hcz64_0
          try clear hcz64_1
          try clear hcz64_2
          try clear hcz64_3
          try clear hcz66_0
          try clear hcz66_1
          try clear hcz66_2
          try clear hcz66_3
          try clear hcz73_0
          try clear hcz73_1
          try clear hcz73_2
          try clear hcz73_3
          try clear hcz75_0
          try clear hcz75_1
          try clear hcz75_2
          try clear hcz75_3
          try clear hcz82_0
          try clear hcz82_1
          try clear hcz82_2
          try clear hcz82_3
          try clear hcz84_0
          try clear hcz84_1
          try clear hcz84_2
          try clear hcz84_3
          try clear hfz16_0
          try clear hfz16_1
          try clear hfz16_2
          try clear hfz16_3
          try clear hfz25_0
          try clear hfz25_1
          try clear hfz25_2
          try clear hfz25_3
          try clear hfz27_0
          try clear hfz27_1
          try clear hfz27_2
          try clear hfz27_3
          try clear hfz34_0
          try clear hfz34_1
          try clear hfz34_2
          try clear hfz34_3
          try clear hfz36_0
          try clear hfz36_1
          try clear hfz36_2
          try clear hfz36_3
          try clear hfz42_0
          try clear hfz42_1
          try clear hfz42_2
          try clear hfz42_3
          try clear hfz64_0
          try clear hfz64_1
          try clear hfz64_2
          try clear hfz64_3
          try clear hfz66_0
          try clear hfz66_1
          try clear hfz66_2
          try clear hfz66_3
          try clear hfz73_0
          try clear hfz73_1
          try clear hfz73_2
          try clear hfz73_3
          try clear hfz75_0
          try clear hfz75_1
          try clear hfz75_2
          try clear hfz75_3
          try clear hfz82_0
          try clear hfz82_1
          try clear hfz82_2
          try clear hfz82_3
          try clear hfz84_0
          try clear hfz84_1
          try clear hfz84_2
          try clear hfz84_3
          try clear hx14_0
          try clear hx23_0
          try clear hx32_0
          try clear hx368_0
          try clear hx368_1
          try clear hx368_2
          try clear hx368_3
          try clear hx375_0
          try clear hx379_0
          try clear hx379_1
          try clear hx379_2
          try clear hx379_3
          try clear hx381_0
          try clear hx40_0
          try clear hx62_0
          try clear hx71_0
          try clear hx80_0
          try clear p1
          try clear p14
          try clear p2
          try clear p23
          try clear p3
          try clear p32
          try clear p36
          try clear p368
          try clear p37
          try clear p375
          try clear p379
          try clear p381
          try clear p4
          try clear p40
          try clear p6
          try clear p62
          try clear p71
          try clear p80
          try clear q1
          try clear q14
          try clear q2
          try clear q23
          try clear q3
          try clear q32
          try clear q36
          try clear q368
          try clear q37
          try clear q375
          try clear q379
          try clear q381
          try clear q4
          try clear q40
          try clear q62
          try clear q71
          try clear q80
          obtain ⟨x17_3, x92_3, rfl, HA, HK3, HO_17, HO_90, HB⟩ := hrel
          cases gk with
          | zero => exact absurd HA.out (by simp [impl_led.l3])
          | succ k3 =>
           have H := HA.out
           clear HA
           simp only [impl_led.l3] at H
           by_cases c90 : x92_3 < (x9_2.length : Int)
           ·rw [if_pos c90] at H
            have c90b0 := decide_eq_true c90
            clear c90
            by_cases c91 : 0 ≤ x92_3
            ·rw [if_pos c91] at H
             have c91b0 := decide_eq_true c91
             clear c91
             by_cases c92 : x92_3 < (x9_2.length : Int)
             ·rw [if_pos c92] at H
              have c92b0 := decide_eq_true c92
              clear c92
              obtain ⟨bq93, hbq93⟩ : ∃ b_ : Bool, b_ = (rdOf false x9_2 x92_3) := ⟨_, rfl⟩
              replace H : (if bq93 = true then (if x17_3.length < 17592186044416 then (impl_led.l3 k3 (x17_3 ++ [x92_3]) x9_2 (x9_2.length : Int) (wrap64 (x92_3 + 1))) else (none)) else (impl_led.l3 k3 x17_3 x9_2 (x9_2.length : Int) (wrap64 (x92_3 + 1)))) = some r := by rw [← hbq93] at H; exact H
              have Nbq93 := Aside0.mk hbq93
              clear hbq93
              by_cases c94 : bq93 = true
              ·subst c94
               have H1 : (if x17_3.length < 17592186044416 then (impl_led.l3 k3 (x17_3 ++ [x92_3]) x9_2 (x9_2.length : Int) (wrap64 (x92_3 + 1))) else (none)) = some r := by rw [if_pos rfl] at H; exact H
               clear H
               have H := H1
               clear H1
               by_cases c95 : x17_3.length < 17592186044416
               ·rw [if_pos c95] at H
                have LMc95 := Aside0.mk c95
                clear c95
                obtain ⟨y389, hy389⟩ : ∃ y_ : List Int, y_ = (x17_3 ++ [x92_3]) := ⟨_, rfl⟩
                replace H : (impl_led.l3 k3 y389 x9_2 (x9_2.length : Int) (wrap64 (x92_3 + 1))) = some r := by first | (rw [hy389]; with_reducible exact H) | (have H2_ := (Option.bind_some _ _).symm.trans H; rw [hy389]; with_reducible exact H2_) | (have H2_ := (Option.bind_some _ _).symm.trans H; with_reducible exact H2_) | with_reducible exact H | (rw [hy389]; exact H) | exact H
                have Ny389 := Aside0.mk hy389
                clear hy389
                have H' := Aside0.mk H
                clear H
                have p388 : 0 ≤ (x92_3 : Int) := of_decide_eq_true dq27
                have q388 : x92_3 < (x9_2.length : Int) := of_decide_eq_true dq27
                obtain ⟨ad388, e388, hx388_0⟩ := Kd.at_bool (Kd.R_reads' HO_90.out).2.2 x92_3 p388 q388
                (try rw [← Nbq93.out] at hx388_0)
                cases e388
                replace p388 := eq_true p388
                replace q388 := eq_true q388
                go_wp2_with (first | ((with_reducible refine gate_builtin (b := .append) (xs := #[.tmp 98, .tmp 100]) rfl ?_); at_builtin; refine Kd.R_append (Kd.int .i64) (w0 := w) w.heap.size rfl (.tmp 98) (.tmp 100) 24 2 (.int .i64 0) 8 rfl Tryd.underlying24 info2 rfl dq38 dq34 u17 x17_3 x92_3 [.int .i64 x92_3] (fun _ => True) (fun _ => False) rfl rfl ?aP (fun _ hk => hk.elim) ?aF ?aO ?aB ?aS ?aL ?_; (case aP => exact rfl); (case aB => exact dq23); (case aF => exact (fun _ _ => trivial)); (case aO => exact dq128); (case aS => exact (below_size dq23)); (case aL => have := LMc95.out; omega); intro v390 w96 ho hb hg hat; rw [← Ny389.out] at ho; have n0_ := Aside0.mk (Kd.R_over' dq129 (Kd.R_typed dq128) dq38 hg); have n1_ := Aside0.mk (hb); have n2_ := Aside0.mk (ho); clear HO_90; clear HB; clear HO_17; have HO_90 := n0_; have HB := n1_; have HO391 := n2_; clear n0_ n1_ n2_; clear ho hb hg hat))
                go_roundg k3
                case measure => have := HK1.out; have := HK2.out; have := HK3.out; omega
                case rel => exact ⟨(y389), (wrap64 (x92_3 + 1)), dq26, H', ⟨dq127⟩, ⟨by (with_reducible repeat (first | apply Kd.R_alloc | apply Kd.R_drewN | apply Kd.R_drew)); exact HO391.out⟩, ⟨dq129⟩, ⟨dq23⟩⟩
               ·rw [if_neg c95] at H
                exact absurd H dq31
              ·replace c94 := Bool.eq_false_iff.mpr c94
               subst c94
               have H1 : (impl_led.l3 k3 x17_3 x9_2 (x9_2.length : Int) (wrap64 (x92_3 + 1))) = some r := by rw [if_neg (show ¬ (false = true) by decide)] at H; exact H
               clear H
               have H := H1
               clear H1
               have H' := Aside0.mk H
               clear H
               have p388 : 0 ≤ (x92_3 : Int) := of_decide_eq_true dq27
               have q388 : x92_3 < (x9_2.length : Int) := of_decide_eq_true dq27
               obtain ⟨ad388, e388, hx388_0⟩ := Kd.at_bool (Kd.R_reads' HO_90.out).2.2 x92_3 p388 q388
               (try rw [← Nbq93.out] at hx388_0)
               cases e388
               replace p388 := eq_true p388
               replace q388 := eq_true q388
               go_wp2
               go_roundg k3
               case measure => have := HK1.out; have := HK2.out; have := HK3.out; omega
               case rel => exact ⟨(x17_3), (wrap64 (x92_3 + 1)), dq26, H', ⟨dq127⟩, ⟨dq128⟩, ⟨dq129⟩, ⟨dq23⟩⟩
             ·rw [if_neg c92] at H
              exact absurd H dq31
            ·rw [if_neg c91] at H
             exact absurd H dq31
           ·rw [if_neg c90] at H
            have c90b0 := decide_eq_false c90
            clear c90
            obtain rfl := Option.some.inj H
            go_wp2
            go_ret
            exact ⟨_, dq25, dq128, dq23⟩
  ·rw [if_neg c6] at H
   exact absurd H dq31
 ·rw [if_neg c5] at H
  exact absurd H dq31

/-! ### stringslite_HasPrefix: function 116 -/
def stringslite_HasPrefix.f (a0 : ByteArray) (a1 : ByteArray) : Option (Bool) := if (a0.size : Int) ≥ (a1.size : Int) then (if 0 ≤ (a1.size : Int) then (if (a1.size : Int) ≤ (a0.size : Int) then (some ((a0.extract 0 ((a1.size : Int) : Int).toNat).toList == a1.toList)) else (none)) else (none)) else (some false)
set_option maxHeartbeats 8000000 in
set_option maxRecDepth 100000 in
theorem stringslite_HasPrefix.calls (a0 : ByteArray) (a1 : ByteArray) (r : Bool) (w : World) (h : stringslite_HasPrefix.f a0 a1 = some r) :
  Calls Tryd.prog 116 #[.string a0, .string a1] w fun e w' => e = .returned (.bool r) ∧ Drawn0 w w' := by
 have H : (if (a0.size : Int) ≥ (a1.size : Int) then (if 0 ≤ (a1.size : Int) then (if (a1.size : Int) ≤ (a0.size : Int) then (some ((a0.extract 0 ((a1.size : Int) : Int).toNat).toList == a1.toList)) else (none)) else (none)) else (some false)) = some r := h
 clear h
 by_cases c3 : (a0.size : Int) ≥ (a1.size : Int)
 ·rw [if_pos c3] at H
  have c3b0 : decide ((a1.size : Int) ≤ (a0.size : Int)) = true := decide_eq_true c3
  have c3b1 : decide (a1.size ≤ a0.size) = true := decide_eq_true (Int.ofNat_le.mp c3)
  clear c3
  by_cases c4 : 0 ≤ (a1.size : Int)
  ·rw [if_pos c4] at H
   have c4b0 := eq_true c4
   have c4b1 := decide_eq_true c4
   clear c4
   by_cases c5 : (a1.size : Int) ≤ (a0.size : Int)
   ·rw [if_pos c5] at H
    have c5b0 := eq_true c5
    have c5b1 := decide_eq_true c5
    clear c5
    obtain rfl := Option.some.inj H
    go_enter Tryd.func116, Tryd.ntmps116
    go_wp2
    go_ret
    exact ⟨dq26, dq33⟩
   ·rw [if_neg c5] at H
    exact absurd H dq31
  ·rw [if_neg c4] at H
   exact absurd H dq31
 ·rw [if_neg c3] at H
  have c3b0 : decide ((a1.size : Int) ≤ (a0.size : Int)) = false := decide_eq_false c3
  have c3b1 : decide (a1.size ≤ a0.size) = false := decide_eq_false (fun h => c3 (Int.ofNat_le.mpr h))
  clear c3
  obtain rfl := Option.some.inj H
  go_enter Tryd.func116, Tryd.ntmps116
  go_wp2
  go_ret
  exact ⟨dq26, dq33⟩

/-! ### stringslite_CutPrefix: function 103 -/
def stringslite_CutPrefix.f (a0 : ByteArray) (a1 : ByteArray) : Option (ByteArray × Bool) := (stringslite_HasPrefix.f a0 a1).bind fun t304 => (if t304 = true then (if 0 ≤ (a1.size : Int) then (if (a1.size : Int) ≤ (a0.size : Int) then (some (a0.extract ((a1.size : Int) : Int).toNat a0.size, true)) else (none)) else (none)) else (some (a0, false)))
set_option maxHeartbeats 8000000 in
set_option maxRecDepth 100000 in
theorem stringslite_CutPrefix.calls (a0 : ByteArray) (a1 : ByteArray) (r1 : ByteArray) (r2 : Bool) (w : World) (h : stringslite_CutPrefix.f a0 a1 = some (r1, r2)) :
  Calls Tryd.prog 103 #[.string a0, .string a1] w fun e w' => e = .returned (.tuple #[.string r1, .bool r2]) ∧ Drawn0 w w' := by
 have H : ((stringslite_HasPrefix.f a0 a1).bind fun t304 => (if t304 = true then (if 0 ≤ (a1.size : Int) then (if (a1.size : Int) ≤ (a0.size : Int) then (some (a0.extract ((a1.size : Int) : Int).toNat a0.size, true)) else (none)) else (none)) else (some (a0, false)))) = some (r1, r2) := h
 clear h
 replace H := Option.bind_eq_some_iff.mp H
 obtain ⟨t304, A30, H⟩ := H
 replace H : (if t304 = true then (if 0 ≤ (a1.size : Int) then (if (a1.size : Int) ≤ (a0.size : Int) then (some (a0.extract ((a1.size : Int) : Int).toNat a0.size, true)) else (none)) else (none)) else (some (a0, false))) = some (r1, r2) := H
 have A3 := Aside0.mk A30
 clear A30
 by_cases c4 : t304 = true
 ·subst c4
  have H1 : (if 0 ≤ (a1.size : Int) then (if (a1.size : Int) ≤ (a0.size : Int) then (some (a0.extract ((a1.size : Int) : Int).toNat a0.size, true)) else (none)) else (none)) = some (r1, r2) := by rw [if_pos rfl] at H; exact H
  clear H
  have H := H1
  clear H1
  by_cases c5 : 0 ≤ (a1.size : Int)
  ·rw [if_pos c5] at H
   have c5b0 := eq_true c5
   have c5b1 := decide_eq_true c5
   clear c5
   by_cases c6 : (a1.size : Int) ≤ (a0.size : Int)
   ·rw [if_pos c6] at H
    have c6b0 := eq_true c6
    have c6b1 := decide_eq_true c6
    clear c6
    simp only [Option.some.injEq, Prod.mk.injEq] at H
    obtain ⟨rfl, rfl⟩ := H
    go_enter Tryd.func103, Tryd.ntmps103
    go_wp2_with (first | ((with_reducible refine gate_callee (f := 116) rfl ?_); refine goesL_ (some 8) rfl rfl Tryd.func116 dq29 rfl #[.string a0, .string a1] rfl dq28 ?_; (with_reducible refine (stringslite_HasPrefix.calls a0 a1 true _ A3.out).mono ?_); rintro e w' ⟨rfl, ⟨nd, rfl⟩⟩; refine ⟨_, rfl, ?_⟩))
    go_ret2
    exact ⟨dq26, dq33⟩
   ·rw [if_neg c6] at H
    exact absurd H dq31
  ·rw [if_neg c5] at H
   exact absurd H dq31
 ·replace c4 := Bool.eq_false_iff.mpr c4
  subst c4
  have H1 : (some (a0, false)) = some (r1, r2) := by rw [if_neg (show ¬ (false = true) by decide)] at H; exact H
  clear H
  have H := H1
  clear H1
  simp only [Option.some.injEq, Prod.mk.injEq] at H
  obtain ⟨rfl, rfl⟩ := H
  go_enter Tryd.func103, Tryd.ntmps103
  go_wp2_with (first | ((with_reducible refine gate_callee (f := 116) rfl ?_); refine goesL_ (some 8) rfl rfl Tryd.func116 dq29 rfl #[.string a0, .string a1] rfl dq28 ?_; (with_reducible refine (stringslite_HasPrefix.calls a0 a1 false _ A3.out).mono ?_); rintro e w' ⟨rfl, ⟨nd, rfl⟩⟩; refine ⟨_, rfl, ?_⟩))
  go_ret2
  exact ⟨dq26, dq33⟩

/-! ### strings_CutPrefix: function 80 -/
def strings_CutPrefix.f (a0 : ByteArray) (a1 : ByteArray) : Option (ByteArray × Bool) := (stringslite_CutPrefix.f a0 a1).bind fun bt305 => (some (bt305.1, bt305.2))
set_option maxHeartbeats 8000000 in
set_option maxRecDepth 100000 in
theorem strings_CutPrefix.calls (a0 : ByteArray) (a1 : ByteArray) (r1 : ByteArray) (r2 : Bool) (w : World) (h : strings_CutPrefix.f a0 a1 = some (r1, r2)) :
  Calls Tryd.prog 80 #[.string a0, .string a1] w fun e w' => e = .returned (.tuple #[.string r1, .bool r2]) ∧ Drawn0 w w' := by
 have H : ((stringslite_CutPrefix.f a0 a1).bind fun bt305 => (some (bt305.1, bt305.2))) = some (r1, r2) := h
 clear h
 replace H := Option.bind_eq_some_iff.mp H
 obtain ⟨⟨t305, t306⟩, A30, H⟩ := H
 replace H : (some (t305, t306)) = some (r1, r2) := H
 have A3 := Aside0.mk A30
 clear A30
 simp only [Option.some.injEq, Prod.mk.injEq] at H
 obtain ⟨rfl, rfl⟩ := H
 go_enter Tryd.func80, Tryd.ntmps80
 go_wp2_with (first | ((with_reducible refine gate_callee (f := 103) rfl ?_); refine goesL_ (some 8) rfl rfl Tryd.func103 dq29 rfl #[.string a0, .string a1] rfl dq28 ?_; (with_reducible refine (stringslite_CutPrefix.calls a0 a1 t305 t306 _ A3.out).mono ?_); rintro e w' ⟨rfl, ⟨nd, rfl⟩⟩; refine ⟨_, rfl, ?_⟩))
 go_ret2
 exact ⟨dq26, dq33⟩

end Go.Proofs.YtpmjpbaeecnpiaaDoor.L

namespace Go.Proofs.YtpmjpbaeecnpiaaDoor.L
open Go.RowKit Go.Proofs.YtpmjpbaeecnpiaaDoorW.PrintWords Go.Proofs.YtpmjpbaeecnpiaaDoorW.PrintLast Go.Proofs.YtpmjpbaeecnpiaaDoorW.PrintMore
set_option linter.unusedVariables false
set_option linter.unusedSimpArgs false

def slash : ByteArray := ⟨#[47]⟩
def namesOf (s : ByteArray) : List ByteArray := Lib.splitB slash 0 (Lib.countB s slash) s
def nameK (k : Nat) (s : ByteArray) : Bool := (impl_NameOk.f k s).getD false
def impl_stepsOf.f (k : Nat) (a0 : ByteArray) : Option (List ByteArray × Bool × Bool) :=
  (strings_CutPrefix.f a0 ⟨#[47, 47]⟩).bind fun t =>
    if t.1.size < 4294967281 ∧ (namesOf t.1).length = Lib.countB t.1 slash + 1 ∧ (namesOf t.1).length ≤ 4294967281 then
      if a0.size > 20000 then some ([], false, false)
      else if (namesOf t.1).length > 6 then some ([], false, false)
      else if (namesOf t.1).all (fun s => (impl_NameOk.f k s).isSome) = true then
        if (namesOf t.1).any (fun s => !nameK k s) = true then some ([], false, false) else some (namesOf t.1, t.2, true)
      else none
    else none
theorem steps_not (k : Nat) (s : ByteArray) (h : (impl_NameOk.f k s).isSome = true) (w : World) :
    Calls Tryd.prog 83 #[.string s] w fun e w' => e = .returned (.bool (!nameK k s)) ∧ ∃ q, w' = w.drewN q := by
  obtain ⟨b, hb⟩ := Option.isSome_iff_exists.1 h
  have e : nameK k s = b := by unfold nameK; rw [hb]; rfl
  have HB := Lib.hid hb
  clear hb h
  rw [e]
  go_enter Tryd.func83, Tryd.ntmps83
  go_wp2_with (go_at_call 21; refine (impl_NameOk.calls k s b _ HB.out).mono ?_; rintro e w' ⟨rfl, ⟨nd, rfl⟩⟩)
  go_ret
  exact ⟨rfl, nd, rfl⟩
set_option maxHeartbeats 1000000 in
theorem steps_index (p : ByteArray → Bool) (b n c : Nat) (zs : List ByteArray) (w : World)
    (hp : ∀ x ∈ zs, ∀ q, Calls Tryd.prog 83 #[.string x] (w.drewN q) fun e w' => e = .returned (.bool (p x)) ∧ ∃ q', w' = (w.drewN q).drewN q')
    (hz : n = zs.length) (hbig : n ≤ 9223372036854775807) (hc : ∀ j, j < zs.length → w.cell? ⟨b, j, none⟩ = some (.string zs[j]!)) :
    Calls Tryd.prog 105 #[.slice (some ⟨b, 0, none⟩) n c, .func (.func 83) #[] #[]] w fun e w' => e = .returned (.int .i64 (Lib.idxBy (fun _ y => p y) (zs.take n) default)) ∧ ∃ q, w' = w.drewN q := by
  have eg := enters_of Tryd.func83 (by kernel_rfl) rfl
  have HZ := Lib.hid hz
  clear hz
  go_enter Tryd.func105, Tryd.ntmps105
  go_wp2
  go_loopg [5, 8] n (fun gg _ s8 wr => ∃ kk q : Nat, kk ≤ n ∧ n - kk ≤ gg ∧ s8 = .int .i64 kk ∧ wr = w.drewN q ∧ Aside (∀ j, j < kk → p zs[j]! = false))
  case atStart => exact ⟨0, 0, Nat.zero_le _, by omega, rfl, rfl, fun j hj => absurd hj (Nat.not_lt_zero _)⟩
  case round =>
    obtain ⟨kk, q, hkk, hg, rfl, rfl, A⟩ := hrel
    by_cases hlt : kk < n
    · have hltz : (kk : Int) < (n : Int) := by omega
      have hcell : w.cell? ⟨b, kk, none⟩ = some (.string zs[kk]!) := hc kk (by have := HZ.out; omega)
      have hmem : zs[kk]! ∈ zs := by rw [getElem!_pos zs kk (by have := HZ.out; omega)]; exact List.getElem_mem _
      have hcall := hp zs[kk]! hmem
      clear hc hp hmem
      generalize hy : zs[kk]! = y at hcell hcall
      have B : Aside (zs[kk]! = y) := hy
      clear hy
      cases hq : p y with
      | true =>
        rw [hq] at hcall
        go_wp2_with (go_at_call 83; refine (hcall _).mono ?_; rintro e w' ⟨rfl, q', rfl⟩)
        go_ret
        refine ⟨?_, _, rfl⟩
        rw [Lib.idxBy_hit (fun _ y => p y) zs n kk default hlt (by have := HZ.out; omega) (by show p zs[kk]! = true; rw [B.out]; exact hq) A.out]
        rfl
      | false =>
        rw [hq] at hcall
        go_wp2_with (go_at_call 83; refine (hcall _).mono ?_; rintro e w' ⟨rfl, q', rfl⟩)
        go_roundg (n - (kk + 1))
        case measure => omega
        case rel =>
          refine ⟨kk + 1, _, by omega, by omega, by go_num, rfl, (show Aside _ from fun j hj => ?_)⟩
          by_cases e : j = kk
          · subst e
            rw [B.out]; exact hq
          · exact A.out j (by omega)
    · have hltz : ¬ (kk : Int) < (n : Int) := by omega
      have : kk = n := by omega
      subst this
      go_wp2
      go_ret
      refine ⟨?_, q, rfl⟩
      rw [Lib.idxBy_miss (fun _ y => p y) zs kk default A.out]
      rfl
theorem steps_any (p : ByteArray → Bool) (b n c : Nat) (zs : List ByteArray) (w : World)
    (hp : ∀ x ∈ zs, ∀ q, Calls Tryd.prog 83 #[.string x] (w.drewN q) fun e w' => e = .returned (.bool (p x)) ∧ ∃ q', w' = (w.drewN q).drewN q')
    (hz : n = zs.length) (hbig : n ≤ 9223372036854775807) (hc : ∀ j, j < zs.length → w.cell? ⟨b, j, none⟩ = some (.string zs[j]!)) :
    Calls Tryd.prog 82 #[.slice (some ⟨b, 0, none⟩) n c, .func (.func 83) #[] #[]] w fun e w' => e = .returned (.bool (zs.any p)) ∧ ∃ q, w' = w.drewN q := by
  have ez : zs.any p = decide (0 ≤ Lib.idxBy (fun _ y => p y) (zs.take n) default) := by
    rw [hz, List.take_length]; exact (Lib.idxBy_nonneg_iff (fun _ y => p y) zs default).symm
  rw [ez]
  have HZ := Lib.hid hz
  clear hz ez
  go_enter Tryd.func82, Tryd.ntmps82
  go_wp2_with (go_at_call 105; refine (steps_index p b n c zs _ hp HZ.out hbig hc).mono ?_; rintro e w' ⟨rfl, q, rfl⟩)
  go_ret
  exact ⟨rfl, q, rfl⟩
theorem R_names (L : List ByteArray) (w : World) (n : Nat) (hn : n = L.length) (hbig : n ≤ 9223372036854775807) :
    Kd.R Kd.string 9 (w.alloc (.cells (L.map Value.string).toArray 9)) w.heap.size (fun _ => True) (.slice (some ⟨w.heap.size, 0, none⟩) n n) L := by
  refine ⟨fun _ _ => trivial, L.map Value.string, ?_, ?_⟩
  · have h2 := World.ownsRow_lit (base := w.heap.size) (e := 9) (size := 1) w (L.map Value.string).toArray n (Nat.le_refl _) (by simpa [maxLen] using hbig) (by simp [hn])
    subst hn
    have h3 : (w.alloc (.cells (L.map Value.string).toArray 9)).ownsRow w.heap.size 9 1 (.slice (some ⟨w.heap.size, 0, none⟩) L.length L.length) L.length (L.map Value.string) := by simpa using h2
    exact h3
  · refine ⟨by simp [Kd.string, Kd.scalar], fun j x hj => ?_⟩
    obtain ⟨hjl, hx⟩ := List.getElem?_eq_some_iff.1 hj
    subst hx
    simp only [Kd.string, Kd.scalar, Nat.mul_one]
    rw [List.drop_eq_getElem_cons (by simpa using hjl)]
    simp
theorem cells_names (L : List ByteArray) (w : World) (q : Nat) : ∀ j, j < L.length → ((w.alloc (.cells (L.map Value.string).toArray 9)).drewN q).cell? ⟨w.heap.size, j, none⟩ = some (.string L[j]!) := by
  intro j hj
  rw [getElem!_pos L j hj]
  exact (blk_cell (blk_drewN (blk_new w _) q) j).trans (by simp [hj])
set_option maxHeartbeats 1000000 in
theorem impl_stepsOf.calls (k : Nat) (a0 : ByteArray) (r1 : List ByteArray) (r2 : Bool) (r3 : Bool) (w : World) (hT : Gl w) (h : impl_stepsOf.f k a0 = some (r1, r2, r3)) :
    Calls Tryd.prog 44 #[.string a0] w fun e w' => ∃ v0_ : Value, e = .returned (.tuple #[v0_, .bool r2, .bool r3]) ∧ Kd.R Kd.string 9 w' w.heap.size (fun _ => True) v0_ r1 ∧ Below w.heap.size w w' := by
  obtain ⟨m, hm⟩ := hT.most
  have HM := Lib.hid hm
  clear hm hT
  unfold impl_stepsOf.f at h
  obtain ⟨⟨t1, t2⟩, hcut, h⟩ := Option.bind_eq_some_iff.1 h
  have HC := Lib.hid hcut
  clear hcut
  simp only at h
  by_cases c0 : t1.size < 4294967281 ∧ (namesOf t1).length = Lib.countB t1 slash + 1 ∧ (namesOf t1).length ≤ 4294967281
  · rw [if_pos c0] at h
    obtain ⟨hs, hlen, hmost⟩ := c0
    obtain ⟨L, hL⟩ : ∃ L, namesOf t1 = L := ⟨_, rfl⟩
    obtain ⟨n, hn⟩ : ∃ n, Lib.countB t1 slash + 1 = n := ⟨_, rfl⟩
    rw [hL] at h hlen hmost
    rw [hn] at hlen
    have HS : ∀ q, Calls Tryd.prog 81 #[.string t1, .string ⟨#[47]⟩] (w.drewN q) fun e w' => e = .returned (.slice (some ⟨(w.drewN q).heap.size, 0, none⟩) n n) ∧ w' = (w.drewN q).alloc (.cells (L.map Value.string).toArray 9) := by
      intro q
      have := Tryd.strings_Split t1 slash m (w.drewN q) hs HM.out (by decide)
      rw [hn] at this
      unfold namesOf at hL
      rw [← hL]
      exact this
    have hbig : n ≤ 9223372036854775807 := by omega
    have HL := Lib.hid hlen
    clear hL hn hlen
    by_cases c1 : a0.size > 20000
    · rw [if_pos c1] at h
      simp only [Option.some.injEq, Prod.mk.injEq] at h
      obtain ⟨rfl, rfl, rfl⟩ := h
      have d1 : decide ((20000 : Int) < (a0.size : Int)) = true := decide_eq_true (by omega)
      go_enter Tryd.func44, Tryd.ntmps44
      go_wp2_with (first | (go_at_call 80; refine (strings_CutPrefix.calls a0 _ t1 t2 _ HC.out).mono ?_; rintro e w' ⟨rfl, ⟨nd, rfl⟩⟩) | (go_at_call 81; refine (HS _).mono ?_; rintro e w' ⟨rfl, rfl⟩))
      go_ret3
      exact ⟨_, rfl, Kd.R_nil _ _ _ _ _, pw_below_drewN (below_alloc (Below.refl _ _) _) _⟩
    · rw [if_neg c1] at h
      have d1 : decide ((20000 : Int) < (a0.size : Int)) = false := decide_eq_false (by omega)
      by_cases c2 : L.length > 6
      · rw [if_pos c2] at h
        simp only [Option.some.injEq, Prod.mk.injEq] at h
        obtain ⟨rfl, rfl, rfl⟩ := h
        have d2 : decide ((6 : Int) < (n : Int)) = true := decide_eq_true (by have := HL.out; omega)
        go_enter Tryd.func44, Tryd.ntmps44
        go_wp2_with (first | (go_at_call 80; refine (strings_CutPrefix.calls a0 _ t1 t2 _ HC.out).mono ?_; rintro e w' ⟨rfl, ⟨nd, rfl⟩⟩) | (go_at_call 81; refine (HS _).mono ?_; rintro e w' ⟨rfl, rfl⟩))
        go_ret3
        exact ⟨_, rfl, Kd.R_nil _ _ _ _ _, pw_below_drewN (below_alloc (Below.refl _ _) _) _⟩
      · rw [if_neg c2] at h
        have d2 : decide ((6 : Int) < (n : Int)) = false := decide_eq_false (by have := HL.out; omega)
        by_cases c3 : L.all (fun s => (impl_NameOk.f k s).isSome) = true
        · rw [if_pos c3] at h
          have HA : ∀ q, Calls Tryd.prog 82 #[.slice (some ⟨w.heap.size, 0, none⟩) n n, .func (.func 83) #[] #[]] ((w.alloc (.cells (L.map Value.string).toArray 9)).drewN q) fun e w' => e = .returned (.bool (L.any fun s => !nameK k s)) ∧ ∃ q', w' = ((w.alloc (.cells (L.map Value.string).toArray 9)).drewN q).drewN q' := fun q =>
            steps_any (fun s => !nameK k s) w.heap.size n n L _ (fun x hx q2 => steps_not k x (List.all_eq_true.1 c3 x hx) _) HL.out.symm hbig (cells_names L w q)
          clear c3
          cases hq : (L.any fun s => !nameK k s) with
          | true =>
            rw [hq] at h HA
            simp only [if_true, Option.some.injEq, Prod.mk.injEq] at h
            obtain ⟨rfl, rfl, rfl⟩ := h
            clear hq
            go_enter Tryd.func44, Tryd.ntmps44
            go_wp2_with (first | (go_at_call 80; refine (strings_CutPrefix.calls a0 _ t1 t2 _ HC.out).mono ?_; rintro e w' ⟨rfl, ⟨nd, rfl⟩⟩) | (go_at_call 81; refine (HS _).mono ?_; rintro e w' ⟨rfl, rfl⟩) | (go_at_call 82; refine (HA _).mono ?_; rintro e w' ⟨rfl, q', rfl⟩))
            go_ret3
            exact ⟨_, rfl, Kd.R_nil _ _ _ _ _, pw_below_drewN (below_alloc (Below.refl _ _) _) _⟩
          | false =>
            rw [hq] at h HA
            simp only [Bool.false_eq_true, if_false, Option.some.injEq, Prod.mk.injEq] at h
            obtain ⟨rfl, rfl, rfl⟩ := h
            clear hq
            go_enter Tryd.func44, Tryd.ntmps44
            go_wp2_with (first | (go_at_call 80; refine (strings_CutPrefix.calls a0 _ t1 t2 _ HC.out).mono ?_; rintro e w' ⟨rfl, ⟨nd, rfl⟩⟩) | (go_at_call 81; refine (HS _).mono ?_; rintro e w' ⟨rfl, rfl⟩) | (go_at_call 82; refine (HA _).mono ?_; rintro e w' ⟨rfl, q', rfl⟩))
            go_ret3
            exact ⟨_, rfl, Kd.R_drewN (R_names L w n HL.out.symm hbig) _, pw_below_drewN (below_alloc (Below.refl _ _) _) _⟩
        · rw [if_neg c3] at h
          cases h
  · rw [if_neg c0] at h
    cases h
end Go.Proofs.YtpmjpbaeecnpiaaDoor.L

namespace Go.Proofs.YtpmjpbaeecnpiaaDoor.L
open Go.RowKit Go.Proofs.YtpmjpbaeecnpiaaDoorW.PrintWords Go.Proofs.YtpmjpbaeecnpiaaDoorW.PrintLast Go.Proofs.YtpmjpbaeecnpiaaDoorW.PrintMore
attribute [local go_sem] max2_int min2_int max_two min_two max_three min_three max_four min_four
set_option linter.unusedVariables false
set_option linter.unusedSimpArgs false

/-! ### impl_Select: function 12 -/
def impl_Select.f (k : Nat) (l0 : List (S39)) (a1 : Int) (a2 : ByteArray) : Option (List Int) := (impl_stepsOf.f k a2).bind fun bt392 => (if bt392.2.2 = true then ((impl_isElement.f k l0 a1).bind fun t397 => (if t397 = true then ((impl_led.f k l0 a1 bt392.1 bt392.2.1).bind fun t398 => (some t398)) else (some ([] : List Int)))) else (some ([] : List Int)))
set_option maxHeartbeats 8000000 in
set_option maxRecDepth 100000 in
theorem impl_Select.calls (k : Nat) (A0 : Option Addr) (c0 : Nat) (l0 : List (S39)) (a1 : Int) (a2 : ByteArray) (r : List Int) (w : World) (hT : Gl w) (hr0 : Kd.C k39 w A0 l0.length l0) (hc0 : l0.length ≤ c0) (h : impl_Select.f k l0 a1 a2 = some r) :
  Calls Tryd.prog 12 #[.slice A0 l0.length c0, .int .i64 a1, .string a2] w fun e w' => ∃ v0_ : Value, e = .returned (v0_) ∧ Kd.R (Kd.int .i64) 2 w' w.heap.size (fun _ => True) v0_ r ∧ Below w.heap.size w w' := by
 have HR0 := Aside0.mk hr0
 have HC0 := Aside0.mk hc0
 clear hr0 hc0
 have HT := Aside0.mk hT
 clear hT
 have HB := Aside0.mk (Below.refl w.heap.size w)
 have H : ((impl_stepsOf.f k a2).bind fun bt392 => (if bt392.2.2 = true then ((impl_isElement.f k l0 a1).bind fun t397 => (if t397 = true then ((impl_led.f k l0 a1 bt392.1 bt392.2.1).bind fun t398 => (some t398)) else (some ([] : List Int)))) else (some ([] : List Int)))) = some r := h
 clear h
 replace H := Option.bind_eq_some_iff.mp H
 obtain ⟨⟨t392, t393, t394⟩, A40, H⟩ := H
 replace H : (if t394 = true then ((impl_isElement.f k l0 a1).bind fun t397 => (if t397 = true then ((impl_led.f k l0 a1 t392 t393).bind fun t398 => (some t398)) else (some ([] : List Int)))) else (some ([] : List Int))) = some r := H
 have A4 := Aside0.mk A40
 clear A40
 by_cases c5 : t394 = true
 ·subst c5
  have H1 : ((impl_isElement.f k l0 a1).bind fun t397 => (if t397 = true then ((impl_led.f k l0 a1 t392 t393).bind fun t398 => (some t398)) else (some ([] : List Int)))) = some r := by rw [if_pos rfl] at H; exact H
  clear H
  have H := H1
  clear H1
  replace H := Option.bind_eq_some_iff.mp H
  obtain ⟨t397, A60, H⟩ := H
  replace H : (if t397 = true then ((impl_led.f k l0 a1 t392 t393).bind fun t398 => (some t398)) else (some ([] : List Int))) = some r := H
  have A6 := Aside0.mk A60
  clear A60
  by_cases c7 : t397 = true
  ·subst c7
   have H1 : ((impl_led.f k l0 a1 t392 t393).bind fun t398 => (some t398)) = some r := by rw [if_pos rfl] at H; exact H
   clear H
   have H := H1
   clear H1
   replace H := Option.bind_eq_some_iff.mp H
   obtain ⟨t398, A80, H⟩ := H
   replace H : (some t398) = some r := H
   have A8 := Aside0.mk A80
   clear A80
   obtain rfl := Option.some.inj H
   go_enter Tryd.func12, Tryd.ntmps12
   go_wp2_with (first | ((with_reducible refine gate_callee (f := 44) rfl ?_); refine goesL_ (some 12) rfl rfl Tryd.func44 dq29 rfl #[.string a2] rfl dq28 ?_; (with_reducible refine (impl_stepsOf.calls k a2 t392 t393 true _ ?side1 A4.out).mono ?_); (case side1 => exact dq8); rintro e w9 ⟨v395, rfl, ho0, hb⟩; refine ⟨_, rfl, ?_⟩; have n0_ := Aside0.mk (Kd.R_lower ho0 (below_size dq23)); have n1_ := Aside0.mk (below_step dq23 hb); clear HB; have HO396 := n0_; have HB := n1_; clear n0_ n1_; (try clear hb); (try clear hb2); (try clear hk); (try clear hi); (try clear ho0)) | (go_at_call 45; (with_reducible refine (impl_isElement.calls k _ _ l0 a1 true _ ?side3 ?side1 ?side2 A6.out).mono ?_); (case side1 => exact dq3); (case side2 => exact dq4); (case side3 => exact dq8); rintro e w10 ⟨rfl, hb⟩; have n0_ := Aside0.mk (Kd.R_below dq130 hb); have n1_ := Aside0.mk (below_step dq23 hb); clear HO396; clear HB; have HO396 := n0_; have HB := n1_; clear n0_ n1_; (try clear hb); (try clear hb2); (try clear hk); (try clear hi); obtain ⟨Ao11, co11, eo11⟩ := Kd.R_slice HO396.out; subst eo11) | ((with_reducible refine gate_callee (f := 46) rfl ?_); refine goesL_ (some 28) rfl rfl Tryd.func46 dq29 rfl #[.slice A0 l0.length c0, .int .i64 a1, .slice Ao11 t392.length co11, .bool t393] rfl dq28 ?_; (with_reducible refine (impl_led.calls k _ _ l0 a1 _ _ t392 t393 t398 _ ?side1 ?side2 ?side3 ?side4 A8.out).mono ?_); (case side1 => exact dq3); (case side2 => exact dq4); (case side3 => repeat (first | exact (Kd.R_reads' HO396.out).2.2 | (with_reducible refine Kd.C_alloc ?_ _) | (with_reducible refine Kd.C_drewN ?_ _) | (with_reducible refine Kd.C_drew ?_))); (case side4 => exact (Kd.R_reads' HO396.out).2.1); rintro e w12 ⟨v399, rfl, ho0, hb⟩; refine ⟨_, rfl, ?_⟩; have n0_ := Aside0.mk (Kd.R_below dq130 hb); have n1_ := Aside0.mk (Kd.R_lower ho0 (below_size dq23)); have n2_ := Aside0.mk (below_step dq23 hb); clear HO396; clear HB; have HO396 := n0_; have HO400 := n1_; have HB := n2_; clear n0_ n1_ n2_; (try clear hb); (try clear hb2); (try clear hk); (try clear hi); (try clear ho0)))
   go_ret
   exact ⟨_, dq25, by (with_reducible repeat (first | apply Kd.R_alloc | apply Kd.R_drewN | apply Kd.R_drew)); exact HO400.out, dq23⟩
  ·replace c7 := Bool.eq_false_iff.mpr c7
   subst c7
   have H1 : (some ([] : List Int)) = some r := by rw [if_neg (show ¬ (false = true) by decide)] at H; exact H
   clear H
   have H := H1
   clear H1
   obtain rfl := Option.some.inj H
   go_enter Tryd.func12, Tryd.ntmps12
   go_wp2_with (first | ((with_reducible refine gate_callee (f := 44) rfl ?_); refine goesL_ (some 12) rfl rfl Tryd.func44 dq29 rfl #[.string a2] rfl dq28 ?_; (with_reducible refine (impl_stepsOf.calls k a2 t392 t393 true _ ?side1 A4.out).mono ?_); (case side1 => exact dq8); rintro e w13 ⟨v395, rfl, ho0, hb⟩; refine ⟨_, rfl, ?_⟩; have n0_ := Aside0.mk (Kd.R_lower ho0 (below_size dq23)); have n1_ := Aside0.mk (below_step dq23 hb); clear HB; have HO396 := n0_; have HB := n1_; clear n0_ n1_; (try clear hb); (try clear hb2); (try clear hk); (try clear hi); (try clear ho0)) | (go_at_call 45; (with_reducible refine (impl_isElement.calls k _ _ l0 a1 false _ ?side3 ?side1 ?side2 A6.out).mono ?_); (case side1 => exact dq3); (case side2 => exact dq4); (case side3 => exact dq8); rintro e w14 ⟨rfl, hb⟩; have n0_ := Aside0.mk (Kd.R_below dq130 hb); have n1_ := Aside0.mk (below_step dq23 hb); clear HO396; clear HB; have HO396 := n0_; have HB := n1_; clear n0_ n1_; (try clear hb); (try clear hb2); (try clear hk); (try clear hi)))
   go_ret
   exact ⟨_, dq25, dq36, dq23⟩
 ·replace c5 := Bool.eq_false_iff.mpr c5
  subst c5
  have H1 : (some ([] : List Int)) = some r := by rw [if_neg (show ¬ (false = true) by decide)] at H; exact H
  clear H
  have H := H1
  clear H1
  obtain rfl := Option.some.inj H
  go_enter Tryd.func12, Tryd.ntmps12
  go_wp2_with (first | ((with_reducible refine gate_callee (f := 44) rfl ?_); refine goesL_ (some 12) rfl rfl Tryd.func44 dq29 rfl #[.string a2] rfl dq28 ?_; (with_reducible refine (impl_stepsOf.calls k a2 t392 t393 false _ ?side1 A4.out).mono ?_); (case side1 => exact dq8); rintro e w15 ⟨v395, rfl, ho0, hb⟩; refine ⟨_, rfl, ?_⟩; have n0_ := Aside0.mk (Kd.R_lower ho0 (below_size dq23)); have n1_ := Aside0.mk (below_step dq23 hb); clear HB; have HO396 := n0_; have HB := n1_; clear n0_ n1_; (try clear hb); (try clear hb2); (try clear hk); (try clear hi); (try clear ho0)))
  go_ret
  exact ⟨_, dq25, dq36, dq23⟩

/-! ### laws_eqInt64S: function 13 -/
def laws_eqInt64S.l0 : Nat → List Int → List Int → Int → Option (Bool)
 | 0, _, _, _ => none
 | k + 1, x0, x1, x5 => if x5 < (x0.length : Int) then (if 0 ≤ x5 then (if x5 < (x1.length : Int) then (if (rd x0 x5) = (rd x1 x5) then (laws_eqInt64S.l0 k x0 x1 (wrap64 (x5 + 1))) else (some false)) else (none)) else (none)) else (some true)
def laws_eqInt64S.f (k : Nat) (l0 : List Int) (l1 : List Int) : Option (Bool) := if (l0.length : Int) = (l1.length : Int) then (laws_eqInt64S.l0 k l0 l1 0) else (some false)
set_option maxHeartbeats 8000000 in
set_option maxRecDepth 100000 in
theorem laws_eqInt64S.calls (k : Nat) (A0 : Option Addr) (c0 : Nat) (l0 : List Int) (A1 : Option Addr) (c1 : Nat) (l1 : List Int) (r : Bool) (w : World) (hr0 : Kd.C (Kd.int .i64) w A0 l0.length l0) (hc0 : l0.length ≤ c0) (hr1 : Kd.C (Kd.int .i64) w A1 l1.length l1) (hc1 : l1.length ≤ c1) (h : laws_eqInt64S.f k l0 l1 = some r) :
  Calls Tryd.prog 13 #[.slice A0 l0.length c0, .slice A1 l1.length c1] w fun e w' => e = .returned (.bool r) ∧ Drawn0 w w' := by
 have HR0 := Aside0.mk hr0
 have HC0 := Aside0.mk hc0
 clear hr0 hc0
 have HR1 := Aside0.mk hr1
 have HC1 := Aside0.mk hc1
 clear hr1 hc1
 have H : (if (l0.length : Int) = (l1.length : Int) then (laws_eqInt64S.l0 k l0 l1 0) else (some false)) = some r := h
 clear h
 by_cases c3 : (l0.length : Int) = (l1.length : Int)
 ·rw [if_pos c3] at H
  have c3b0 := beq_iff_eq.mpr c3
  have c3b1 := bne_eq_false_iff_eq.mpr c3
  have c3b2 : (l0.length == l1.length) = true := by first | simpa using c3 | (simp at c3 ⊢; omega)
  clear c3
  have H' := Aside0.mk H
  clear H
  go_enter Tryd.func13, Tryd.ntmps13
  go_wp2
  repeat (go_quiet (fail); try go_wp2)
  go_loopg [5] k (fun kq v5 w' => ∃ (x5_1 : Int), v5 = .int .i64 x5_1 ∧ Aside0 (laws_eqInt64S.l0 kq l0 l1 x5_1 = some r) ∧ Aside0 (kq ≤ k) ∧ Drawn0 w w')
  case atStart => exact ⟨(0), dq26, H', ⟨Nat.le_refl _⟩, dq33⟩
  case round =>
   clear H'
   try clear c1
   try clear p2
   try clear c3
   try clear c3b0
   try clear c3b1
   try clear c3b2
   obtain ⟨x5_1, rfl, HA, HK1, ⟨m1, rfl⟩⟩ := hrel
   cases gk with
   | zero => exact absurd HA.out (by simp [laws_eqInt64S.l0])
   | succ k1 =>
    have H := HA.out
    clear HA
    simp only [laws_eqInt64S.l0] at H
    by_cases c4 : x5_1 < (l0.length : Int)
    ·rw [if_pos c4] at H
     have c4b0 := decide_eq_true c4
     clear c4
     by_cases c5 : 0 ≤ x5_1
     ·rw [if_pos c5] at H
      have c5b0 := decide_eq_true c5
      clear c5
      by_cases c6 : x5_1 < (l1.length : Int)
      ·rw [if_pos c6] at H
       have c6b0 := decide_eq_true c6
       clear c6
       by_cases c7 : (rd l0 x5_1) = (rd l1 x5_1)
       ·rw [if_pos c7] at H
        have c7b0 := beq_iff_eq.mpr c7
        have c7b1 := bne_eq_false_iff_eq.mpr c7
        clear c7
        have H' := Aside0.mk H
        clear H
        have p401 : 0 ≤ (x5_1 : Int) := of_decide_eq_true dq27
        have q401 : x5_1 < (l0.length : Int) := of_decide_eq_true dq27
        obtain ⟨ad401, e401, hx401_0⟩ := Kd.at_int HR0.out x5_1 p401 q401
        cases e401
        replace p401 := eq_true p401
        replace q401 := eq_true q401
        have p402 : 0 ≤ (x5_1 : Int) := of_decide_eq_true dq27
        have q402 : x5_1 < (l1.length : Int) := of_decide_eq_true dq27
        obtain ⟨ad402, e402, hx402_0⟩ := Kd.at_int HR1.out x5_1 p402 q402
        cases e402
        replace p402 := eq_true p402
        replace q402 := eq_true q402
        go_wp2
        repeat (go_quiet (fail); try go_wp2)
        go_roundg k1
        case measure => have := HK1.out; omega
        case rel => exact ⟨(wrap64 (x5_1 + 1)), dq26, H', ⟨dq30⟩, dq33⟩
       ·rw [if_neg c7] at H
        have c7b0 := beq_eq_false_iff_ne.mpr c7
        have c7b1 := bne_iff_ne.mpr c7
        obtain rfl := Option.some.inj H
        have p401 : 0 ≤ (x5_1 : Int) := of_decide_eq_true dq27
        have q401 : x5_1 < (l0.length : Int) := of_decide_eq_true dq27
        obtain ⟨ad401, e401, hx401_0⟩ := Kd.at_int HR0.out x5_1 p401 q401
        cases e401
        replace p401 := eq_true p401
        replace q401 := eq_true q401
        have p402 : 0 ≤ (x5_1 : Int) := of_decide_eq_true dq27
        have q402 : x5_1 < (l1.length : Int) := of_decide_eq_true dq27
        obtain ⟨ad402, e402, hx402_0⟩ := Kd.at_int HR1.out x5_1 p402 q402
        cases e402
        replace p402 := eq_true p402
        replace q402 := eq_true q402
        go_wp2
        repeat (go_quiet (fail); try go_wp2)
        go_ret
        exact ⟨dq26, dq33⟩
      ·rw [if_neg c6] at H
       exact absurd H dq31
     ·rw [if_neg c5] at H
      exact absurd H dq31
    ·rw [if_neg c4] at H
     have c4b0 := decide_eq_false c4
     clear c4
     obtain rfl := Option.some.inj H
     go_wp2
     repeat (go_quiet (fail); try go_wp2)
     go_ret
     exact ⟨dq26, dq33⟩
 ·rw [if_neg c3] at H
  have c3b0 := beq_eq_false_iff_ne.mpr c3
  have c3b1 := bne_iff_ne.mpr c3
  have c3b2 : (l0.length == l1.length) = false := by first | simpa using c3 | (simp at c3 ⊢; omega)
  obtain rfl := Option.some.inj H
  go_enter Tryd.func13, Tryd.ntmps13
  go_wp2
  repeat (go_quiet (fail); try go_wp2)
  go_ret
  exact ⟨dq26, dq33⟩

/-! ### laws_eqAttr: function 106 -/
def laws_eqAttr.f (a0_0 : ByteArray) (a0_1 : ByteArray) (a1_0 : ByteArray) (a1_1 : ByteArray) : Option (Bool) := if a0_0.toList = a1_0.toList then (if a0_1.toList = a1_1.toList then (some true) else (some false)) else (some false)
set_option maxHeartbeats 8000000 in
set_option maxRecDepth 100000 in
theorem laws_eqAttr.calls (a0_0 : ByteArray) (a0_1 : ByteArray) (a1_0 : ByteArray) (a1_1 : ByteArray) (r : Bool) (w : World) (h : laws_eqAttr.f a0_0 a0_1 a1_0 a1_1 = some r) :
  Calls Tryd.prog 106 #[.agg #[.string a0_0, .string a0_1], .agg #[.string a1_0, .string a1_1]] w fun e w' => e = .returned (.bool r) ∧ Below w.heap.size w w' := by
 have hu46 := Tryd.underlying46
 have HB := Aside0.mk (Below.refl w.heap.size w)
 have H : (if a0_0.toList = a1_0.toList then (if a0_1.toList = a1_1.toList then (some true) else (some false)) else (some false)) = some r := h
 clear h
 by_cases c3 : a0_0.toList = a1_0.toList
 ·rw [if_pos c3] at H
  have c3b0 := beq_iff_eq.mpr c3
  have c3b1 := bne_eq_false_iff_eq.mpr c3
  clear c3
  by_cases c4 : a0_1.toList = a1_1.toList
  ·rw [if_pos c4] at H
   have c4b0 := beq_iff_eq.mpr c4
   have c4b1 := bne_eq_false_iff_eq.mpr c4
   clear c4
   obtain rfl := Option.some.inj H
   go_enter Tryd.func106, Tryd.ntmps106
   go_wp2_with (first | ((with_reducible refine gate_dst (N := 2) rfl ?_); refine box_event ?hg (N := 2) ?hd (cs := #[.string a0_0, .string a0_1]) (t := 46) ?hr ?_; (case hd => rfl); (case hg => rfl); (case hr => exact dq0); intro gb403 hg w5 hbox hb; have n0_ := Aside0.mk (below_step dq23 hb); have n1_ := Aside0.mk (hbox); have n2_ := Aside0.mk ((dq22 : w.heap.size ≤ gb403)); have n3_ := Aside0.mk ((dq22 : w.heap.size ≤ gb403)); clear HB; have HB := n0_; have BK403 := n1_; have GW403 := n2_; have GE403 := n3_; clear n0_ n1_ n2_ n3_; clear hb hbox hg) | ((with_reducible refine gate_dst (N := 3) rfl ?_); refine box_event ?hg (N := 3) ?hd (cs := #[.string a1_0, .string a1_1]) (t := 46) ?hr ?_; (case hd => rfl); (case hg => rfl); (case hr => exact dq0); intro gb404 hg w6 hbox hb; have n0_ := Aside0.mk (blk_below (g := gb403) (o := .cells #[.string a0_0, .string a0_1] 46 (0, 0)) dq135 hb); have n1_ := Aside0.mk (below_step dq134 hb); have n2_ := Aside0.mk (hbox); have n3_ := Aside0.mk ((dq133 : w.heap.size ≤ gb404)); have n4_ := Aside0.mk ((dq133 : w.heap.size ≤ gb404)); have n5_ := Aside0.mk ((dq132 : gb403 ≠ gb404)); have n6_ := Aside0.mk ((dq131 : gb404 ≠ gb403)); clear BK403; clear HB; have BK403 := n0_; have HB := n1_; have BK404 := n2_; have GW404 := n3_; have GE404 := n4_; have NB403_404 := n5_; have NB404_403 := n6_; clear n0_ n1_ n2_ n3_ n4_ n5_ n6_; clear hb hbox hg; have hnb7 := NB403_404.out; have hnc7 := NB404_403.out; obtain ⟨⟨hcz8_0, hcz8_1⟩, hfz8_0, hfz8_1⟩ := blkC2 BK403.out; obtain ⟨⟨hcz9_0, hcz9_1⟩, hfz9_0, hfz9_1⟩ := blkC2 BK404.out))
   go_ret
   exact ⟨dq25, dq136⟩
  ·rw [if_neg c4] at H
   have c4b0 := beq_eq_false_iff_ne.mpr c4
   have c4b1 := bne_iff_ne.mpr c4
   obtain rfl := Option.some.inj H
   go_enter Tryd.func106, Tryd.ntmps106
   go_wp2_with (first | ((with_reducible refine gate_dst (N := 2) rfl ?_); refine box_event ?hg (N := 2) ?hd (cs := #[.string a0_0, .string a0_1]) (t := 46) ?hr ?_; (case hd => rfl); (case hg => rfl); (case hr => exact dq0); intro gb403 hg w10 hbox hb; have n0_ := Aside0.mk (below_step dq23 hb); have n1_ := Aside0.mk (hbox); have n2_ := Aside0.mk ((dq22 : w.heap.size ≤ gb403)); have n3_ := Aside0.mk ((dq22 : w.heap.size ≤ gb403)); clear HB; have HB := n0_; have BK403 := n1_; have GW403 := n2_; have GE403 := n3_; clear n0_ n1_ n2_ n3_; clear hb hbox hg) | ((with_reducible refine gate_dst (N := 3) rfl ?_); refine box_event ?hg (N := 3) ?hd (cs := #[.string a1_0, .string a1_1]) (t := 46) ?hr ?_; (case hd => rfl); (case hg => rfl); (case hr => exact dq0); intro gb404 hg w11 hbox hb; have n0_ := Aside0.mk (blk_below (g := gb403) (o := .cells #[.string a0_0, .string a0_1] 46 (0, 0)) dq135 hb); have n1_ := Aside0.mk (below_step dq134 hb); have n2_ := Aside0.mk (hbox); have n3_ := Aside0.mk ((dq133 : w.heap.size ≤ gb404)); have n4_ := Aside0.mk ((dq133 : w.heap.size ≤ gb404)); have n5_ := Aside0.mk ((dq132 : gb403 ≠ gb404)); have n6_ := Aside0.mk ((dq131 : gb404 ≠ gb403)); clear BK403; clear HB; have BK403 := n0_; have HB := n1_; have BK404 := n2_; have GW404 := n3_; have GE404 := n4_; have NB403_404 := n5_; have NB404_403 := n6_; clear n0_ n1_ n2_ n3_ n4_ n5_ n6_; clear hb hbox hg; have hnb12 := NB403_404.out; have hnc12 := NB404_403.out; obtain ⟨⟨hcz13_0, hcz13_1⟩, hfz13_0, hfz13_1⟩ := blkC2 BK403.out; obtain ⟨⟨hcz14_0, hcz14_1⟩, hfz14_0, hfz14_1⟩ := blkC2 BK404.out))
   go_ret
   exact ⟨dq25, dq136⟩
 ·rw [if_neg c3] at H
  have c3b0 := beq_eq_false_iff_ne.mpr c3
  have c3b1 := bne_iff_ne.mpr c3
  obtain rfl := Option.some.inj H
  go_enter Tryd.func106, Tryd.ntmps106
  go_wp2_with (first | ((with_reducible refine gate_dst (N := 2) rfl ?_); refine box_event ?hg (N := 2) ?hd (cs := #[.string a0_0, .string a0_1]) (t := 46) ?hr ?_; (case hd => rfl); (case hg => rfl); (case hr => exact dq0); intro gb403 hg w15 hbox hb; have n0_ := Aside0.mk (below_step dq23 hb); have n1_ := Aside0.mk (hbox); have n2_ := Aside0.mk ((dq22 : w.heap.size ≤ gb403)); have n3_ := Aside0.mk ((dq22 : w.heap.size ≤ gb403)); clear HB; have HB := n0_; have BK403 := n1_; have GW403 := n2_; have GE403 := n3_; clear n0_ n1_ n2_ n3_; clear hb hbox hg) | ((with_reducible refine gate_dst (N := 3) rfl ?_); refine box_event ?hg (N := 3) ?hd (cs := #[.string a1_0, .string a1_1]) (t := 46) ?hr ?_; (case hd => rfl); (case hg => rfl); (case hr => exact dq0); intro gb404 hg w16 hbox hb; have n0_ := Aside0.mk (blk_below (g := gb403) (o := .cells #[.string a0_0, .string a0_1] 46 (0, 0)) dq135 hb); have n1_ := Aside0.mk (below_step dq134 hb); have n2_ := Aside0.mk (hbox); have n3_ := Aside0.mk ((dq133 : w.heap.size ≤ gb404)); have n4_ := Aside0.mk ((dq133 : w.heap.size ≤ gb404)); have n5_ := Aside0.mk ((dq132 : gb403 ≠ gb404)); have n6_ := Aside0.mk ((dq131 : gb404 ≠ gb403)); clear BK403; clear HB; have BK403 := n0_; have HB := n1_; have BK404 := n2_; have GW404 := n3_; have GE404 := n4_; have NB403_404 := n5_; have NB404_403 := n6_; clear n0_ n1_ n2_ n3_ n4_ n5_ n6_; clear hb hbox hg; have hnb17 := NB403_404.out; have hnc17 := NB404_403.out; obtain ⟨⟨hcz18_0, hcz18_1⟩, hfz18_0, hfz18_1⟩ := blkC2 BK403.out; obtain ⟨⟨hcz19_0, hcz19_1⟩, hfz19_0, hfz19_1⟩ := blkC2 BK404.out))
  go_ret
  exact ⟨dq25, dq136⟩

/-! ### laws_eqAttrS: function 85 -/
def laws_eqAttrS.l0 : Nat → List (S46) → List (S46) → Int → Option (Bool)
 | 0, _, _, _ => none
 | k + 1, x0, x1, x5 => if x5 < (x0.length : Int) then (if 0 ≤ x5 then (if x5 < (x1.length : Int) then ((laws_eqAttr.f ((rd_T46 x0 x5).f0) ((rd_T46 x0 x5).f1) ((rd_T46 x1 x5).f0) ((rd_T46 x1 x5).f1)).bind fun t407 => (if t407 = true then (laws_eqAttrS.l0 k x0 x1 (wrap64 (x5 + 1))) else (some false))) else (none)) else (none)) else (some true)
def laws_eqAttrS.f (k : Nat) (l0 : List (S46)) (l1 : List (S46)) : Option (Bool) := if (l0.length : Int) = (l1.length : Int) then (laws_eqAttrS.l0 k l0 l1 0) else (some false)
def laws_eqAttrS.T6 : Bool × List (List Nat × List Nat) := (true, [([], []), ([], []), ([0, 1], [0, 1]), ([2], [2]), ([], []), ([], []), ([4, 5], [4, 5]), ([6], [6]), ([3, 7], [3, 7]), ([8], [8])])
def laws_eqAttrS.B6 : List Nat := [0, 0, 3, 7, 0, 0, 48, 112, 255, 511]
theorem laws_eqAttrS.tab6 : rtab .any (opsOf Tryd.f85 6) = laws_eqAttrS.T6 := by kernel_rfl
theorem laws_eqAttrS.bits6 : waitsOk laws_eqAttrS.T6.2 laws_eqAttrS.B6 = true := by kernel_rfl
set_option maxHeartbeats 8000000 in
set_option maxRecDepth 100000 in
theorem laws_eqAttrS.calls (k : Nat) (A0 : Option Addr) (c0 : Nat) (l0 : List (S46)) (A1 : Option Addr) (c1 : Nat) (l1 : List (S46)) (r : Bool) (w : World) (hr0 : Kd.C k46 w A0 l0.length l0) (hc0 : l0.length ≤ c0) (hr1 : Kd.C k46 w A1 l1.length l1) (hc1 : l1.length ≤ c1) (h : laws_eqAttrS.f k l0 l1 = some r) :
  Calls Tryd.prog 85 #[.slice A0 l0.length c0, .slice A1 l1.length c1] w fun e w' => e = .returned (.bool r) ∧ Below w.heap.size w w' := by
 have hu46 := Tryd.underlying46
 have HR0 := Aside0.mk hr0
 have HC0 := Aside0.mk hc0
 clear hr0 hc0
 have HR1 := Aside0.mk hr1
 have HC1 := Aside0.mk hc1
 clear hr1 hc1
 have HB := Aside0.mk (Below.refl w.heap.size w)
 have H : (if (l0.length : Int) = (l1.length : Int) then (laws_eqAttrS.l0 k l0 l1 0) else (some false)) = some r := h
 clear h
 by_cases c3 : (l0.length : Int) = (l1.length : Int)
 ·rw [if_pos c3] at H
  have c3b0 := beq_iff_eq.mpr c3
  have c3b1 := bne_eq_false_iff_eq.mpr c3
  have c3b2 : (l0.length == l1.length) = true := by first | simpa using c3 | (simp at c3 ⊢; omega)
  clear c3
  have H' := Aside0.mk H
  clear H
  go_enter Tryd.func85, Tryd.ntmps85
  go_wp2
  go_loopg [5] k (fun kq v5 w' => ∃ (x5_1 : Int), v5 = .int .i64 x5_1 ∧ Aside0 (laws_eqAttrS.l0 kq l0 l1 x5_1 = some r) ∧ Aside0 (kq ≤ k) ∧ Aside0 (Below w.heap.size w w'))
  case atStart => exact ⟨(0), dq26, H', ⟨Nat.le_refl _⟩, ⟨dq23⟩⟩
  case round =>
   clear H'
   try clear c1
   try clear p2
   try clear c3
   try clear c3b0
   try clear c3b1
   try clear c3b2
   obtain ⟨x5_1, rfl, HA, HK1, HB⟩ := hrel
   cases gk with
   | zero => exact absurd HA.out (by simp [laws_eqAttrS.l0])
   | succ k1 =>
    have H := HA.out
    clear HA
    simp only [laws_eqAttrS.l0] at H
    by_cases c4 : x5_1 < (l0.length : Int)
    ·rw [if_pos c4] at H
     have c4b0 := decide_eq_true c4
     clear c4
     by_cases c5 : 0 ≤ x5_1
     ·rw [if_pos c5] at H
      have c5b0 := decide_eq_true c5
      clear c5
      by_cases c6 : x5_1 < (l1.length : Int)
      ·rw [if_pos c6] at H
       have c6b0 := decide_eq_true c6
       clear c6
       replace H := Option.bind_eq_some_iff.mp H
       obtain ⟨t407, A70, H⟩ := H
       replace H : (if t407 = true then (laws_eqAttrS.l0 k1 l0 l1 (wrap64 (x5_1 + 1))) else (some false)) = some r := H
       have A7 := Aside0.mk A70
       clear A70
       by_cases c8 : t407 = true
       ·subst c8
        have H1 : (laws_eqAttrS.l0 k1 l0 l1 (wrap64 (x5_1 + 1))) = some r := by rw [if_pos rfl] at H; exact H
        clear H
        have H := H1
        clear H1
        have H' := Aside0.mk H
        clear H
        try go_wp2
        have n0_ := Aside0.mk (below_drew1 HB.out)
        clear HB
        have HB := n0_
        clear n0_
        have p405 : 0 ≤ (x5_1 : Int) := of_decide_eq_true dq27
        have q405 : x5_1 < (l0.length : Int) := of_decide_eq_true dq27
        obtain ⟨ad405, e405, hx405_0, hx405_1⟩ := at_T46 HR0.out x5_1 p405 q405
        have hw405_1 := hx405_1
        have hw405_0 := hx405_0
        cases e405
        replace hx405_0 := (HB.out.cell (World.block_lt_of_cell? w _ hx405_0)).trans hx405_0
        replace hx405_1 := (HB.out.cell (World.block_lt_of_cell? w _ hx405_1)).trans hx405_1
        replace p405 := eq_true p405
        replace q405 := eq_true q405
        have p406 : 0 ≤ (x5_1 : Int) := of_decide_eq_true dq27
        have q406 : x5_1 < (l1.length : Int) := of_decide_eq_true dq27
        obtain ⟨ad406, e406, hx406_0, hx406_1⟩ := at_T46 HR1.out x5_1 p406 q406
        have hw406_1 := hx406_1
        have hw406_0 := hx406_0
        cases e406
        replace hx406_0 := (HB.out.cell (World.block_lt_of_cell? w _ hx406_0)).trans hx406_0
        replace hx406_1 := (HB.out.cell (World.block_lt_of_cell? w _ hx406_1)).trans hx406_1
        replace p406 := eq_true p406
        replace q406 := eq_true q406
        refine start_ (n := 10) (S := fun w' => w'.cell? (ad405.add ((x5_1).toNat * 2)) = some (.string ((rd_T46 l0 x5_1).f0)) ∧ w'.cell? ⟨(ad405.add ((x5_1).toNat * 2)).block, (ad405.add ((x5_1).toNat * 2)).off + 1, none⟩ = some (.string ((rd_T46 l0 x5_1).f1)) ∧ w'.cell? (ad406.add ((x5_1).toNat * 2)) = some (.string ((rd_T46 l1 x5_1).f0)) ∧ w'.cell? ⟨(ad406.add ((x5_1).toNat * 2)).block, (ad406.add ((x5_1).toNat * 2)).off + 1, none⟩ = some (.string ((rd_T46 l1 x5_1).f1))) (ds := []) #[false, false, false, false, false, false, false, false, false, false] dq29 rfl rfl ⟨((HB.out.cell (World.block_lt_of_cell? w _ hw405_0)).trans hw405_0), ((HB.out.cell (World.block_lt_of_cell? w _ hw405_1)).trans hw405_1), ((HB.out.cell (World.block_lt_of_cell? w _ hw406_0)).trans hw406_0), ((HB.out.cell (World.block_lt_of_cell? w _ hw406_1)).trans hw406_1)⟩ (fun hHeld => ?_); refine with_tabW laws_eqAttrS.tab6 laws_eqAttrS.bits6 (fun HT_ HW_ => ?_)
        generalize wr.drew = w9 at HB hx405_0 hx405_1 hx406_0 hx406_1 hHeld ⊢
        refine pureA (i := 0) (N := some 17) #[true, false, false, false, false, false, false, false, false, false] ?_
        refine pureA (i := 1) (N := some 18) #[true, true, false, false, false, false, false, false, false, false] ?_
        refine pureA (i := 2) (N := some 19) #[true, true, true, false, false, false, false, false, false, false] ?_
        refine pureA (i := 4) (N := some 21) #[true, true, true, false, true, false, false, false, false, false] ?_
        refine pureA (i := 5) (N := some 22) #[true, true, true, false, true, true, false, false, false, false] ?_
        refine pureA (i := 6) (N := some 23) #[true, true, true, false, true, true, true, false, false, false] ?_
        refine takeA4 (i := 3) (N := some 20) #[true, true, true, true, true, true, true, false, false, false] ?_
        refine takeA4 (i := 7) (N := some 24) #[true, true, true, true, true, true, true, true, false, false] ?_
        refine one_ (i := 8) (N := some 25) #[true, true, true, true, true, true, true, true, true, false] rfl rfl (one_of HT_.out dq29) dq38 (fun K hK => ?_)
        refine goes_ Tryd.func106 dq29 rfl #[.agg #[.string ((rd_T46 l0 x5_1).f0), .string ((rd_T46 l0 x5_1).f1)], .agg #[.string ((rd_T46 l1 x5_1).f0), .string ((rd_T46 l1 x5_1).f1)]] (by rfl) rfl rfl dq28 ?_
        with_reducible refine (laws_eqAttr.calls ((rd_T46 l0 x5_1).f0) ((rd_T46 l0 x5_1).f1) ((rd_T46 l1 x5_1).f0) ((rd_T46 l1 x5_1).f1) true _ A7.out).mono ?_
        rintro e w10 ⟨rfl, hb⟩
        refine ⟨_, rfl, ?_⟩
        have n0_ := Aside0.mk (below_step dq23 hb)
        clear HB
        have HB := n0_
        clear n0_
        (try clear hb)
        (try clear hb2)
        (try clear hk)
        (try clear hi)
        refine hK.out _ _ ⟨((HB.out.cell (World.block_lt_of_cell? w _ hw405_0)).trans hw405_0), ((HB.out.cell (World.block_lt_of_cell? w _ hw405_1)).trans hw405_1), ((HB.out.cell (World.block_lt_of_cell? w _ hw406_0)).trans hw406_0), ((HB.out.cell (World.block_lt_of_cell? w _ hw406_1)).trans hw406_1)⟩ (fun hHeld => ?_)
        clear hK K
        refine norm_ (a' := ?_) ?_ ?_
        rotate_left
        ·show Act.put _ (some 25) _ = _
         simp only [Act.put, List.setIfInBounds_toArray, List.set_cons_zero, List.set_cons_succ, i64_w, i32_w]
         rfl
        refine pureA (i := 9) (N := some 26) #[true, true, true, true, true, true, true, true, true, true] ?_
        refine done_ (done_of HT_.out dq29) ?_
        try go_wp2
        go_roundg k1
        case measure => have := HK1.out; omega
        case rel => exact ⟨(wrap64 (x5_1 + 1)), dq26, H', ⟨dq30⟩, ⟨dq23⟩⟩
       ·replace c8 := Bool.eq_false_iff.mpr c8
        subst c8
        have H1 : (some false) = some r := by rw [if_neg (show ¬ (false = true) by decide)] at H; exact H
        clear H
        have H := H1
        clear H1
        obtain rfl := Option.some.inj H
        try go_wp2
        have n0_ := Aside0.mk (below_drew1 HB.out)
        clear HB
        have HB := n0_
        clear n0_
        have p405 : 0 ≤ (x5_1 : Int) := of_decide_eq_true dq27
        have q405 : x5_1 < (l0.length : Int) := of_decide_eq_true dq27
        obtain ⟨ad405, e405, hx405_0, hx405_1⟩ := at_T46 HR0.out x5_1 p405 q405
        have hw405_1 := hx405_1
        have hw405_0 := hx405_0
        cases e405
        replace hx405_0 := (HB.out.cell (World.block_lt_of_cell? w _ hx405_0)).trans hx405_0
        replace hx405_1 := (HB.out.cell (World.block_lt_of_cell? w _ hx405_1)).trans hx405_1
        replace p405 := eq_true p405
        replace q405 := eq_true q405
        have p406 : 0 ≤ (x5_1 : Int) := of_decide_eq_true dq27
        have q406 : x5_1 < (l1.length : Int) := of_decide_eq_true dq27
        obtain ⟨ad406, e406, hx406_0, hx406_1⟩ := at_T46 HR1.out x5_1 p406 q406
        have hw406_1 := hx406_1
        have hw406_0 := hx406_0
        cases e406
        replace hx406_0 := (HB.out.cell (World.block_lt_of_cell? w _ hx406_0)).trans hx406_0
        replace hx406_1 := (HB.out.cell (World.block_lt_of_cell? w _ hx406_1)).trans hx406_1
        replace p406 := eq_true p406
        replace q406 := eq_true q406
        refine start_ (n := 10) (S := fun w' => w'.cell? (ad405.add ((x5_1).toNat * 2)) = some (.string ((rd_T46 l0 x5_1).f0)) ∧ w'.cell? ⟨(ad405.add ((x5_1).toNat * 2)).block, (ad405.add ((x5_1).toNat * 2)).off + 1, none⟩ = some (.string ((rd_T46 l0 x5_1).f1)) ∧ w'.cell? (ad406.add ((x5_1).toNat * 2)) = some (.string ((rd_T46 l1 x5_1).f0)) ∧ w'.cell? ⟨(ad406.add ((x5_1).toNat * 2)).block, (ad406.add ((x5_1).toNat * 2)).off + 1, none⟩ = some (.string ((rd_T46 l1 x5_1).f1))) (ds := []) #[false, false, false, false, false, false, false, false, false, false] dq29 rfl rfl ⟨((HB.out.cell (World.block_lt_of_cell? w _ hw405_0)).trans hw405_0), ((HB.out.cell (World.block_lt_of_cell? w _ hw405_1)).trans hw405_1), ((HB.out.cell (World.block_lt_of_cell? w _ hw406_0)).trans hw406_0), ((HB.out.cell (World.block_lt_of_cell? w _ hw406_1)).trans hw406_1)⟩ (fun hHeld => ?_); refine with_tabW laws_eqAttrS.tab6 laws_eqAttrS.bits6 (fun HT_ HW_ => ?_)
        generalize wr.drew = w11 at HB hx405_0 hx405_1 hx406_0 hx406_1 hHeld ⊢
        refine pureA (i := 0) (N := some 17) #[true, false, false, false, false, false, false, false, false, false] ?_
        refine pureA (i := 1) (N := some 18) #[true, true, false, false, false, false, false, false, false, false] ?_
        refine pureA (i := 2) (N := some 19) #[true, true, true, false, false, false, false, false, false, false] ?_
        refine pureA (i := 4) (N := some 21) #[true, true, true, false, true, false, false, false, false, false] ?_
        refine pureA (i := 5) (N := some 22) #[true, true, true, false, true, true, false, false, false, false] ?_
        refine pureA (i := 6) (N := some 23) #[true, true, true, false, true, true, true, false, false, false] ?_
        refine takeA4 (i := 3) (N := some 20) #[true, true, true, true, true, true, true, false, false, false] ?_
        refine takeA4 (i := 7) (N := some 24) #[true, true, true, true, true, true, true, true, false, false] ?_
        refine one_ (i := 8) (N := some 25) #[true, true, true, true, true, true, true, true, true, false] rfl rfl (one_of HT_.out dq29) dq38 (fun K hK => ?_)
        refine goes_ Tryd.func106 dq29 rfl #[.agg #[.string ((rd_T46 l0 x5_1).f0), .string ((rd_T46 l0 x5_1).f1)], .agg #[.string ((rd_T46 l1 x5_1).f0), .string ((rd_T46 l1 x5_1).f1)]] (by rfl) rfl rfl dq28 ?_
        with_reducible refine (laws_eqAttr.calls ((rd_T46 l0 x5_1).f0) ((rd_T46 l0 x5_1).f1) ((rd_T46 l1 x5_1).f0) ((rd_T46 l1 x5_1).f1) false _ A7.out).mono ?_
        rintro e w12 ⟨rfl, hb⟩
        refine ⟨_, rfl, ?_⟩
        have n0_ := Aside0.mk (below_step dq23 hb)
        clear HB
        have HB := n0_
        clear n0_
        (try clear hb)
        (try clear hb2)
        (try clear hk)
        (try clear hi)
        refine hK.out _ _ ⟨((HB.out.cell (World.block_lt_of_cell? w _ hw405_0)).trans hw405_0), ((HB.out.cell (World.block_lt_of_cell? w _ hw405_1)).trans hw405_1), ((HB.out.cell (World.block_lt_of_cell? w _ hw406_0)).trans hw406_0), ((HB.out.cell (World.block_lt_of_cell? w _ hw406_1)).trans hw406_1)⟩ (fun hHeld => ?_)
        clear hK K
        refine norm_ (a' := ?_) ?_ ?_
        rotate_left
        ·show Act.put _ (some 25) _ = _
         simp only [Act.put, List.setIfInBounds_toArray, List.set_cons_zero, List.set_cons_succ, i64_w, i32_w]
         rfl
        refine pureA (i := 9) (N := some 26) #[true, true, true, true, true, true, true, true, true, true] ?_
        refine done_ (done_of HT_.out dq29) ?_
        try go_wp2
        go_ret
        exact ⟨dq25, dq23⟩
      ·rw [if_neg c6] at H
       exact absurd H dq31
     ·rw [if_neg c5] at H
      exact absurd H dq31
    ·rw [if_neg c4] at H
     have c4b0 := decide_eq_false c4
     clear c4
     obtain rfl := Option.some.inj H
     go_wp2
     go_ret
     exact ⟨dq25, dq23⟩
 ·rw [if_neg c3] at H
  have c3b0 := beq_eq_false_iff_ne.mpr c3
  have c3b1 := bne_iff_ne.mpr c3
  have c3b2 : (l0.length == l1.length) = false := by first | simpa using c3 | (simp at c3 ⊢; omega)
  obtain rfl := Option.some.inj H
  go_enter Tryd.func85, Tryd.ntmps85
  go_wp2
  go_ret
  exact ⟨dq25, dq23⟩

/-! ### laws_eqItem: function 47 -/
def laws_eqItem.f (k : Nat) (a0_0 : Int) (a0_1 : ByteArray) (a0_2 : ByteArray) (l0_3 : List (S46)) (a1_0 : Int) (a1_1 : ByteArray) (a1_2 : ByteArray) (l1_3 : List (S46)) : Option (Bool) := if a0_0 = a1_0 then (if a0_1.toList = a1_1.toList then (if a0_2.toList = a1_2.toList then ((laws_eqAttrS.f k l0_3 l1_3).bind fun t410 => (if t410 = true then (some true) else (some false))) else (some false)) else (some false)) else (some false)
set_option maxHeartbeats 8000000 in
set_option maxRecDepth 100000 in
theorem laws_eqItem.calls (k : Nat) (a0_0 : Int) (a0_1 : ByteArray) (a0_2 : ByteArray) (A0_3 : Option Addr) (c0_3 : Nat) (l0_3 : List (S46)) (a1_0 : Int) (a1_1 : ByteArray) (a1_2 : ByteArray) (A1_3 : Option Addr) (c1_3 : Nat) (l1_3 : List (S46)) (r : Bool) (w : World) (hr0_3 : Kd.C k46 w A0_3 l0_3.length l0_3) (hc0_3 : l0_3.length ≤ c0_3) (hr1_3 : Kd.C k46 w A1_3 l1_3.length l1_3) (hc1_3 : l1_3.length ≤ c1_3) (h : laws_eqItem.f k a0_0 a0_1 a0_2 l0_3 a1_0 a1_1 a1_2 l1_3 = some r) :
  Calls Tryd.prog 47 #[.agg #[.int .i64 a0_0, .string a0_1, .string a0_2, .slice A0_3 l0_3.length c0_3], .agg #[.int .i64 a1_0, .string a1_1, .string a1_2, .slice A1_3 l1_3.length c1_3]] w fun e w' => e = .returned (.bool r) ∧ Below w.heap.size w w' := by
 have hu39 := Tryd.underlying39
 have HR0_3 := Aside0.mk hr0_3
 have HC0_3 := Aside0.mk hc0_3
 clear hr0_3 hc0_3
 have HR1_3 := Aside0.mk hr1_3
 have HC1_3 := Aside0.mk hc1_3
 clear hr1_3 hc1_3
 have HB := Aside0.mk (Below.refl w.heap.size w)
 have H : (if a0_0 = a1_0 then (if a0_1.toList = a1_1.toList then (if a0_2.toList = a1_2.toList then ((laws_eqAttrS.f k l0_3 l1_3).bind fun t410 => (if t410 = true then (some true) else (some false))) else (some false)) else (some false)) else (some false)) = some r := h
 clear h
 by_cases c3 : a0_0 = a1_0
 ·rw [if_pos c3] at H
  have c3b0 := beq_iff_eq.mpr c3
  have c3b1 := bne_eq_false_iff_eq.mpr c3
  clear c3
  by_cases c4 : a0_1.toList = a1_1.toList
  ·rw [if_pos c4] at H
   have c4b0 := beq_iff_eq.mpr c4
   have c4b1 := bne_eq_false_iff_eq.mpr c4
   clear c4
   by_cases c5 : a0_2.toList = a1_2.toList
   ·rw [if_pos c5] at H
    have c5b0 := beq_iff_eq.mpr c5
    have c5b1 := bne_eq_false_iff_eq.mpr c5
    clear c5
    replace H := Option.bind_eq_some_iff.mp H
    obtain ⟨t410, A60, H⟩ := H
    replace H : (if t410 = true then (some true) else (some false)) = some r := H
    have A6 := Aside0.mk A60
    clear A60
    by_cases c7 : t410 = true
    ·subst c7
     have H1 : (some true) = some r := by rw [if_pos rfl] at H; exact H
     clear H
     have H := H1
     clear H1
     obtain rfl := Option.some.inj H
     go_enter Tryd.func47, Tryd.ntmps47
     go_wp2_with (first | ((with_reducible refine gate_dst (N := 2) rfl ?_); refine box_event ?hg (N := 2) ?hd (cs := #[.int .i64 a0_0, .string a0_1, .string a0_2, .slice A0_3 l0_3.length c0_3]) (t := 39) ?hr ?_; (case hd => rfl); (case hg => rfl); (case hr => exact dq0); intro gb408 hg w8 hbox hb; have n0_ := Aside0.mk (below_step dq23 hb); have n1_ := Aside0.mk (hbox); have n2_ := Aside0.mk ((dq22 : w.heap.size ≤ gb408)); have n3_ := Aside0.mk ((dq22 : w.heap.size ≤ gb408)); clear HB; have HB := n0_; have BK408 := n1_; have GW408 := n2_; have GE408 := n3_; clear n0_ n1_ n2_ n3_; clear hb hbox hg) | ((with_reducible refine gate_dst (N := 3) rfl ?_); refine box_event ?hg (N := 3) ?hd (cs := #[.int .i64 a1_0, .string a1_1, .string a1_2, .slice A1_3 l1_3.length c1_3]) (t := 39) ?hr ?_; (case hd => rfl); (case hg => rfl); (case hr => exact dq0); intro gb409 hg w9 hbox hb; have n0_ := Aside0.mk (blk_below (g := gb408) (o := .cells #[.int .i64 a0_0, .string a0_1, .string a0_2, .slice A0_3 l0_3.length c0_3] 39 (0, 0)) dq138 hb); have n1_ := Aside0.mk (below_step dq142 hb); have n2_ := Aside0.mk (hbox); have n3_ := Aside0.mk ((dq141 : w.heap.size ≤ gb409)); have n4_ := Aside0.mk ((dq141 : w.heap.size ≤ gb409)); have n5_ := Aside0.mk ((dq140 : gb408 ≠ gb409)); have n6_ := Aside0.mk ((dq139 : gb409 ≠ gb408)); clear BK408; clear HB; have BK408 := n0_; have HB := n1_; have BK409 := n2_; have GW409 := n3_; have GE409 := n4_; have NB408_409 := n5_; have NB409_408 := n6_; clear n0_ n1_ n2_ n3_ n4_ n5_ n6_; clear hb hbox hg; have hnb10 := NB408_409.out; have hnc10 := NB409_408.out; obtain ⟨⟨hcz11_0, hcz11_1, hcz11_2, hcz11_3⟩, hfz11_0, hfz11_1, hfz11_2, hfz11_3⟩ := blkC4 BK408.out; obtain ⟨⟨hcz12_0, hcz12_1, hcz12_2, hcz12_3⟩, hfz12_0, hfz12_1, hfz12_2, hfz12_3⟩ := blkC4 BK409.out) | ((with_reducible refine gate_callee (f := 85) rfl ?_); refine goesL_ (some 24) rfl rfl Tryd.func85 dq29 rfl #[.slice A0_3 l0_3.length c0_3, .slice A1_3 l1_3.length c1_3] rfl dq28 ?_; (with_reducible refine (laws_eqAttrS.calls k _ _ l0_3 _ _ l1_3 true _ ?side1 ?side2 ?side3 ?side4 A6.out).mono ?_); (case side1 => exact dq1); (case side2 => exact HC0_3.out); (case side3 => repeat (first | exact (Kd.C_below HR1_3.out HB.out) | (with_reducible refine Kd.C_alloc ?_ _) | (with_reducible refine Kd.C_drewN ?_ _) | (with_reducible refine Kd.C_drew ?_))); (case side4 => exact HC1_3.out); rintro e w13 ⟨rfl, hb⟩; refine ⟨_, rfl, ?_⟩; have n0_ := Aside0.mk (blk_below (g := gb408) (o := .cells #[.int .i64 a0_0, .string a0_1, .string a0_2, .slice A0_3 l0_3.length c0_3] 39 (0, 0)) dq138 hb); have n1_ := Aside0.mk (blk_below (g := gb409) (o := .cells #[.int .i64 a1_0, .string a1_1, .string a1_2, .slice A1_3 l1_3.length c1_3] 39 (0, 0)) (by refine blk_up ?_; exact BK409.out) hb); have n2_ := Aside0.mk (below_step dq137 hb); clear BK408; clear BK409; clear HB; have BK408 := n0_; have BK409 := n1_; have HB := n2_; clear n0_ n1_ n2_; (try clear hb); (try clear hb2); (try clear hk); (try clear hi)))
     go_ret
     exact ⟨dq25, dq137⟩
    ·replace c7 := Bool.eq_false_iff.mpr c7
     subst c7
     have H1 : (some false) = some r := by rw [if_neg (show ¬ (false = true) by decide)] at H; exact H
     clear H
     have H := H1
     clear H1
     obtain rfl := Option.some.inj H
     go_enter Tryd.func47, Tryd.ntmps47
     go_wp2_with (first | ((with_reducible refine gate_dst (N := 2) rfl ?_); refine box_event ?hg (N := 2) ?hd (cs := #[.int .i64 a0_0, .string a0_1, .string a0_2, .slice A0_3 l0_3.length c0_3]) (t := 39) ?hr ?_; (case hd => rfl); (case hg => rfl); (case hr => exact dq0); intro gb408 hg w14 hbox hb; have n0_ := Aside0.mk (below_step dq23 hb); have n1_ := Aside0.mk (hbox); have n2_ := Aside0.mk ((dq22 : w.heap.size ≤ gb408)); have n3_ := Aside0.mk ((dq22 : w.heap.size ≤ gb408)); clear HB; have HB := n0_; have BK408 := n1_; have GW408 := n2_; have GE408 := n3_; clear n0_ n1_ n2_ n3_; clear hb hbox hg) | ((with_reducible refine gate_dst (N := 3) rfl ?_); refine box_event ?hg (N := 3) ?hd (cs := #[.int .i64 a1_0, .string a1_1, .string a1_2, .slice A1_3 l1_3.length c1_3]) (t := 39) ?hr ?_; (case hd => rfl); (case hg => rfl); (case hr => exact dq0); intro gb409 hg w15 hbox hb; have n0_ := Aside0.mk (blk_below (g := gb408) (o := .cells #[.int .i64 a0_0, .string a0_1, .string a0_2, .slice A0_3 l0_3.length c0_3] 39 (0, 0)) dq138 hb); have n1_ := Aside0.mk (below_step dq142 hb); have n2_ := Aside0.mk (hbox); have n3_ := Aside0.mk ((dq141 : w.heap.size ≤ gb409)); have n4_ := Aside0.mk ((dq141 : w.heap.size ≤ gb409)); have n5_ := Aside0.mk ((dq140 : gb408 ≠ gb409)); have n6_ := Aside0.mk ((dq139 : gb409 ≠ gb408)); clear BK408; clear HB; have BK408 := n0_; have HB := n1_; have BK409 := n2_; have GW409 := n3_; have GE409 := n4_; have NB408_409 := n5_; have NB409_408 := n6_; clear n0_ n1_ n2_ n3_ n4_ n5_ n6_; clear hb hbox hg; have hnb16 := NB408_409.out; have hnc16 := NB409_408.out; obtain ⟨⟨hcz17_0, hcz17_1, hcz17_2, hcz17_3⟩, hfz17_0, hfz17_1, hfz17_2, hfz17_3⟩ := blkC4 BK408.out; obtain ⟨⟨hcz18_0, hcz18_1, hcz18_2, hcz18_3⟩, hfz18_0, hfz18_1, hfz18_2, hfz18_3⟩ := blkC4 BK409.out) | ((with_reducible refine gate_callee (f := 85) rfl ?_); refine goesL_ (some 24) rfl rfl Tryd.func85 dq29 rfl #[.slice A0_3 l0_3.length c0_3, .slice A1_3 l1_3.length c1_3] rfl dq28 ?_; (with_reducible refine (laws_eqAttrS.calls k _ _ l0_3 _ _ l1_3 false _ ?side1 ?side2 ?side3 ?side4 A6.out).mono ?_); (case side1 => exact dq1); (case side2 => exact HC0_3.out); (case side3 => repeat (first | exact (Kd.C_below HR1_3.out HB.out) | (with_reducible refine Kd.C_alloc ?_ _) | (with_reducible refine Kd.C_drewN ?_ _) | (with_reducible refine Kd.C_drew ?_))); (case side4 => exact HC1_3.out); rintro e w19 ⟨rfl, hb⟩; refine ⟨_, rfl, ?_⟩; have n0_ := Aside0.mk (blk_below (g := gb408) (o := .cells #[.int .i64 a0_0, .string a0_1, .string a0_2, .slice A0_3 l0_3.length c0_3] 39 (0, 0)) dq138 hb); have n1_ := Aside0.mk (blk_below (g := gb409) (o := .cells #[.int .i64 a1_0, .string a1_1, .string a1_2, .slice A1_3 l1_3.length c1_3] 39 (0, 0)) (by refine blk_up ?_; exact BK409.out) hb); have n2_ := Aside0.mk (below_step dq137 hb); clear BK408; clear BK409; clear HB; have BK408 := n0_; have BK409 := n1_; have HB := n2_; clear n0_ n1_ n2_; (try clear hb); (try clear hb2); (try clear hk); (try clear hi)))
     go_ret
     exact ⟨dq25, dq137⟩
   ·rw [if_neg c5] at H
    have c5b0 := beq_eq_false_iff_ne.mpr c5
    have c5b1 := bne_iff_ne.mpr c5
    obtain rfl := Option.some.inj H
    go_enter Tryd.func47, Tryd.ntmps47
    go_wp2_with (first | ((with_reducible refine gate_dst (N := 2) rfl ?_); refine box_event ?hg (N := 2) ?hd (cs := #[.int .i64 a0_0, .string a0_1, .string a0_2, .slice A0_3 l0_3.length c0_3]) (t := 39) ?hr ?_; (case hd => rfl); (case hg => rfl); (case hr => exact dq0); intro gb408 hg w20 hbox hb; have n0_ := Aside0.mk (below_step dq23 hb); have n1_ := Aside0.mk (hbox); have n2_ := Aside0.mk ((dq22 : w.heap.size ≤ gb408)); have n3_ := Aside0.mk ((dq22 : w.heap.size ≤ gb408)); clear HB; have HB := n0_; have BK408 := n1_; have GW408 := n2_; have GE408 := n3_; clear n0_ n1_ n2_ n3_; clear hb hbox hg) | ((with_reducible refine gate_dst (N := 3) rfl ?_); refine box_event ?hg (N := 3) ?hd (cs := #[.int .i64 a1_0, .string a1_1, .string a1_2, .slice A1_3 l1_3.length c1_3]) (t := 39) ?hr ?_; (case hd => rfl); (case hg => rfl); (case hr => exact dq0); intro gb409 hg w21 hbox hb; have n0_ := Aside0.mk (blk_below (g := gb408) (o := .cells #[.int .i64 a0_0, .string a0_1, .string a0_2, .slice A0_3 l0_3.length c0_3] 39 (0, 0)) dq138 hb); have n1_ := Aside0.mk (below_step dq142 hb); have n2_ := Aside0.mk (hbox); have n3_ := Aside0.mk ((dq141 : w.heap.size ≤ gb409)); have n4_ := Aside0.mk ((dq141 : w.heap.size ≤ gb409)); have n5_ := Aside0.mk ((dq140 : gb408 ≠ gb409)); have n6_ := Aside0.mk ((dq139 : gb409 ≠ gb408)); clear BK408; clear HB; have BK408 := n0_; have HB := n1_; have BK409 := n2_; have GW409 := n3_; have GE409 := n4_; have NB408_409 := n5_; have NB409_408 := n6_; clear n0_ n1_ n2_ n3_ n4_ n5_ n6_; clear hb hbox hg; have hnb22 := NB408_409.out; have hnc22 := NB409_408.out; obtain ⟨⟨hcz23_0, hcz23_1, hcz23_2, hcz23_3⟩, hfz23_0, hfz23_1, hfz23_2, hfz23_3⟩ := blkC4 BK408.out; obtain ⟨⟨hcz24_0, hcz24_1, hcz24_2, hcz24_3⟩, hfz24_0, hfz24_1, hfz24_2, hfz24_3⟩ := blkC4 BK409.out))
    go_ret
    exact ⟨dq25, dq137⟩
  ·rw [if_neg c4] at H
   have c4b0 := beq_eq_false_iff_ne.mpr c4
   have c4b1 := bne_iff_ne.mpr c4
   obtain rfl := Option.some.inj H
   go_enter Tryd.func47, Tryd.ntmps47
   go_wp2_with (first | ((with_reducible refine gate_dst (N := 2) rfl ?_); refine box_event ?hg (N := 2) ?hd (cs := #[.int .i64 a0_0, .string a0_1, .string a0_2, .slice A0_3 l0_3.length c0_3]) (t := 39) ?hr ?_; (case hd => rfl); (case hg => rfl); (case hr => exact dq0); intro gb408 hg w25 hbox hb; have n0_ := Aside0.mk (below_step dq23 hb); have n1_ := Aside0.mk (hbox); have n2_ := Aside0.mk ((dq22 : w.heap.size ≤ gb408)); have n3_ := Aside0.mk ((dq22 : w.heap.size ≤ gb408)); clear HB; have HB := n0_; have BK408 := n1_; have GW408 := n2_; have GE408 := n3_; clear n0_ n1_ n2_ n3_; clear hb hbox hg) | ((with_reducible refine gate_dst (N := 3) rfl ?_); refine box_event ?hg (N := 3) ?hd (cs := #[.int .i64 a1_0, .string a1_1, .string a1_2, .slice A1_3 l1_3.length c1_3]) (t := 39) ?hr ?_; (case hd => rfl); (case hg => rfl); (case hr => exact dq0); intro gb409 hg w26 hbox hb; have n0_ := Aside0.mk (blk_below (g := gb408) (o := .cells #[.int .i64 a0_0, .string a0_1, .string a0_2, .slice A0_3 l0_3.length c0_3] 39 (0, 0)) dq138 hb); have n1_ := Aside0.mk (below_step dq142 hb); have n2_ := Aside0.mk (hbox); have n3_ := Aside0.mk ((dq141 : w.heap.size ≤ gb409)); have n4_ := Aside0.mk ((dq141 : w.heap.size ≤ gb409)); have n5_ := Aside0.mk ((dq140 : gb408 ≠ gb409)); have n6_ := Aside0.mk ((dq139 : gb409 ≠ gb408)); clear BK408; clear HB; have BK408 := n0_; have HB := n1_; have BK409 := n2_; have GW409 := n3_; have GE409 := n4_; have NB408_409 := n5_; have NB409_408 := n6_; clear n0_ n1_ n2_ n3_ n4_ n5_ n6_; clear hb hbox hg; have hnb27 := NB408_409.out; have hnc27 := NB409_408.out; obtain ⟨⟨hcz28_0, hcz28_1, hcz28_2, hcz28_3⟩, hfz28_0, hfz28_1, hfz28_2, hfz28_3⟩ := blkC4 BK408.out; obtain ⟨⟨hcz29_0, hcz29_1, hcz29_2, hcz29_3⟩, hfz29_0, hfz29_1, hfz29_2, hfz29_3⟩ := blkC4 BK409.out))
   go_ret
   exact ⟨dq25, dq137⟩
 ·rw [if_neg c3] at H
  have c3b0 := beq_eq_false_iff_ne.mpr c3
  have c3b1 := bne_iff_ne.mpr c3
  obtain rfl := Option.some.inj H
  go_enter Tryd.func47, Tryd.ntmps47
  go_wp2_with (first | ((with_reducible refine gate_dst (N := 2) rfl ?_); refine box_event ?hg (N := 2) ?hd (cs := #[.int .i64 a0_0, .string a0_1, .string a0_2, .slice A0_3 l0_3.length c0_3]) (t := 39) ?hr ?_; (case hd => rfl); (case hg => rfl); (case hr => exact dq0); intro gb408 hg w30 hbox hb; have n0_ := Aside0.mk (below_step dq23 hb); have n1_ := Aside0.mk (hbox); have n2_ := Aside0.mk ((dq22 : w.heap.size ≤ gb408)); have n3_ := Aside0.mk ((dq22 : w.heap.size ≤ gb408)); clear HB; have HB := n0_; have BK408 := n1_; have GW408 := n2_; have GE408 := n3_; clear n0_ n1_ n2_ n3_; clear hb hbox hg) | ((with_reducible refine gate_dst (N := 3) rfl ?_); refine box_event ?hg (N := 3) ?hd (cs := #[.int .i64 a1_0, .string a1_1, .string a1_2, .slice A1_3 l1_3.length c1_3]) (t := 39) ?hr ?_; (case hd => rfl); (case hg => rfl); (case hr => exact dq0); intro gb409 hg w31 hbox hb; have n0_ := Aside0.mk (blk_below (g := gb408) (o := .cells #[.int .i64 a0_0, .string a0_1, .string a0_2, .slice A0_3 l0_3.length c0_3] 39 (0, 0)) dq138 hb); have n1_ := Aside0.mk (below_step dq142 hb); have n2_ := Aside0.mk (hbox); have n3_ := Aside0.mk ((dq141 : w.heap.size ≤ gb409)); have n4_ := Aside0.mk ((dq141 : w.heap.size ≤ gb409)); have n5_ := Aside0.mk ((dq140 : gb408 ≠ gb409)); have n6_ := Aside0.mk ((dq139 : gb409 ≠ gb408)); clear BK408; clear HB; have BK408 := n0_; have HB := n1_; have BK409 := n2_; have GW409 := n3_; have GE409 := n4_; have NB408_409 := n5_; have NB409_408 := n6_; clear n0_ n1_ n2_ n3_ n4_ n5_ n6_; clear hb hbox hg; have hnb32 := NB408_409.out; have hnc32 := NB409_408.out; obtain ⟨⟨hcz33_0, hcz33_1, hcz33_2, hcz33_3⟩, hfz33_0, hfz33_1, hfz33_2, hfz33_3⟩ := blkC4 BK408.out; obtain ⟨⟨hcz34_0, hcz34_1, hcz34_2, hcz34_3⟩, hfz34_0, hfz34_1, hfz34_2, hfz34_3⟩ := blkC4 BK409.out))
  go_ret
  exact ⟨dq25, dq137⟩

/-! ### laws_eqItemS: function 14 -/
def laws_eqItemS.l0 : Nat → List (S39) → List (S39) → Int → Option (Bool)
 | 0, _, _, _ => none
 | k + 1, x0, x1, x5 => if x5 < (x0.length : Int) then (if 0 ≤ x5 then (if x5 < (x1.length : Int) then ((laws_eqItem.f k ((rd_T39 x0 x5).f0) ((rd_T39 x0 x5).f1) ((rd_T39 x0 x5).f2) ((rd_T39 x0 x5).f3) ((rd_T39 x1 x5).f0) ((rd_T39 x1 x5).f1) ((rd_T39 x1 x5).f2) ((rd_T39 x1 x5).f3)).bind fun t413 => (if t413 = true then (laws_eqItemS.l0 k x0 x1 (wrap64 (x5 + 1))) else (some false))) else (none)) else (none)) else (some true)
def laws_eqItemS.f (k : Nat) (l0 : List (S39)) (l1 : List (S39)) : Option (Bool) := if (l0.length : Int) = (l1.length : Int) then (laws_eqItemS.l0 k l0 l1 0) else (some false)
def laws_eqItemS.T6 : Bool × List (List Nat × List Nat) := (true, [([], []), ([], []), ([0, 1], [0, 1]), ([2], [2]), ([], []), ([], []), ([4, 5], [4, 5]), ([6], [6]), ([3, 7], [3, 7]), ([8], [8])])
def laws_eqItemS.B6 : List Nat := [0, 0, 3, 7, 0, 0, 48, 112, 255, 511]
theorem laws_eqItemS.tab6 : rtab .any (opsOf Tryd.f14 6) = laws_eqItemS.T6 := by kernel_rfl
theorem laws_eqItemS.bits6 : waitsOk laws_eqItemS.T6.2 laws_eqItemS.B6 = true := by kernel_rfl
set_option maxHeartbeats 8000000 in
set_option maxRecDepth 100000 in
theorem laws_eqItemS.calls (k : Nat) (A0 : Option Addr) (c0 : Nat) (l0 : List (S39)) (A1 : Option Addr) (c1 : Nat) (l1 : List (S39)) (r : Bool) (w : World) (hr0 : Kd.C k39 w A0 l0.length l0) (hc0 : l0.length ≤ c0) (hr1 : Kd.C k39 w A1 l1.length l1) (hc1 : l1.length ≤ c1) (h : laws_eqItemS.f k l0 l1 = some r) :
  Calls Tryd.prog 14 #[.slice A0 l0.length c0, .slice A1 l1.length c1] w fun e w' => e = .returned (.bool r) ∧ Below w.heap.size w w' := by
 have hu39 := Tryd.underlying39
 have HR0 := Aside0.mk hr0
 have HC0 := Aside0.mk hc0
 clear hr0 hc0
 have HR1 := Aside0.mk hr1
 have HC1 := Aside0.mk hc1
 clear hr1 hc1
 have HB := Aside0.mk (Below.refl w.heap.size w)
 have H : (if (l0.length : Int) = (l1.length : Int) then (laws_eqItemS.l0 k l0 l1 0) else (some false)) = some r := h
 clear h
 by_cases c3 : (l0.length : Int) = (l1.length : Int)
 ·rw [if_pos c3] at H
  have c3b0 := beq_iff_eq.mpr c3
  have c3b1 := bne_eq_false_iff_eq.mpr c3
  have c3b2 : (l0.length == l1.length) = true := by first | simpa using c3 | (simp at c3 ⊢; omega)
  clear c3
  have H' := Aside0.mk H
  clear H
  go_enter Tryd.func14, Tryd.ntmps14
  go_wp2
  go_loopg [5] k (fun kq v5 w' => ∃ (x5_1 : Int), v5 = .int .i64 x5_1 ∧ Aside0 (laws_eqItemS.l0 kq l0 l1 x5_1 = some r) ∧ Aside0 (kq ≤ k) ∧ Aside0 (Below w.heap.size w w'))
  case atStart => exact ⟨(0), dq26, H', ⟨Nat.le_refl _⟩, ⟨dq23⟩⟩
  case round =>
   clear H'
   try clear c1
   try clear p2
   try clear c3
   try clear c3b0
   try clear c3b1
   try clear c3b2
   obtain ⟨x5_1, rfl, HA, HK1, HB⟩ := hrel
   cases gk with
   | zero => exact absurd HA.out (by simp [laws_eqItemS.l0])
   | succ k1 =>
    have H := HA.out
    clear HA
    simp only [laws_eqItemS.l0] at H
    by_cases c4 : x5_1 < (l0.length : Int)
    ·rw [if_pos c4] at H
     have c4b0 := decide_eq_true c4
     clear c4
     by_cases c5 : 0 ≤ x5_1
     ·rw [if_pos c5] at H
      have c5b0 := decide_eq_true c5
      clear c5
      by_cases c6 : x5_1 < (l1.length : Int)
      ·rw [if_pos c6] at H
       have c6b0 := decide_eq_true c6
       clear c6
       replace H := Option.bind_eq_some_iff.mp H
       obtain ⟨t413, A70, H⟩ := H
       replace H : (if t413 = true then (laws_eqItemS.l0 k1 l0 l1 (wrap64 (x5_1 + 1))) else (some false)) = some r := H
       have A7 := Aside0.mk A70
       clear A70
       by_cases c8 : t413 = true
       ·subst c8
        have H1 : (laws_eqItemS.l0 k1 l0 l1 (wrap64 (x5_1 + 1))) = some r := by rw [if_pos rfl] at H; exact H
        clear H
        have H := H1
        clear H1
        have H' := Aside0.mk H
        clear H
        try go_wp2
        have n0_ := Aside0.mk (below_drew1 HB.out)
        clear HB
        have HB := n0_
        clear n0_
        have p411 : 0 ≤ (x5_1 : Int) := of_decide_eq_true dq27
        have q411 : x5_1 < (l0.length : Int) := of_decide_eq_true dq27
        obtain ⟨ad411, A411_3, c411_3, e411, hx411_0, hx411_1, hx411_2, hx411_3, hl411_3, hi411_3⟩ := at_T39 HR0.out x5_1 p411 q411
        have hw411_3 := hx411_3
        have hw411_2 := hx411_2
        have hw411_1 := hx411_1
        have hw411_0 := hx411_0
        cases e411
        replace hx411_0 := (HB.out.cell (World.block_lt_of_cell? w _ hx411_0)).trans hx411_0
        replace hx411_1 := (HB.out.cell (World.block_lt_of_cell? w _ hx411_1)).trans hx411_1
        replace hx411_2 := (HB.out.cell (World.block_lt_of_cell? w _ hx411_2)).trans hx411_2
        replace hx411_3 := (HB.out.cell (World.block_lt_of_cell? w _ hx411_3)).trans hx411_3
        have HR411_3 := Aside0.mk hi411_3
        have HC411_3 := Aside0.mk hl411_3
        clear hi411_3 hl411_3
        replace p411 := eq_true p411
        replace q411 := eq_true q411
        have p412 : 0 ≤ (x5_1 : Int) := of_decide_eq_true dq27
        have q412 : x5_1 < (l1.length : Int) := of_decide_eq_true dq27
        obtain ⟨ad412, A412_3, c412_3, e412, hx412_0, hx412_1, hx412_2, hx412_3, hl412_3, hi412_3⟩ := at_T39 HR1.out x5_1 p412 q412
        have hw412_3 := hx412_3
        have hw412_2 := hx412_2
        have hw412_1 := hx412_1
        have hw412_0 := hx412_0
        cases e412
        replace hx412_0 := (HB.out.cell (World.block_lt_of_cell? w _ hx412_0)).trans hx412_0
        replace hx412_1 := (HB.out.cell (World.block_lt_of_cell? w _ hx412_1)).trans hx412_1
        replace hx412_2 := (HB.out.cell (World.block_lt_of_cell? w _ hx412_2)).trans hx412_2
        replace hx412_3 := (HB.out.cell (World.block_lt_of_cell? w _ hx412_3)).trans hx412_3
        have HR412_3 := Aside0.mk hi412_3
        have HC412_3 := Aside0.mk hl412_3
        clear hi412_3 hl412_3
        replace p412 := eq_true p412
        replace q412 := eq_true q412
        refine start_ (n := 10) (S := fun w' => w'.cell? (ad411.add ((x5_1).toNat * 4)) = some (.int .i64 ((rd_T39 l0 x5_1).f0)) ∧ w'.cell? ⟨(ad411.add ((x5_1).toNat * 4)).block, (ad411.add ((x5_1).toNat * 4)).off + 1, none⟩ = some (.string ((rd_T39 l0 x5_1).f1)) ∧ w'.cell? ⟨(ad411.add ((x5_1).toNat * 4)).block, (ad411.add ((x5_1).toNat * 4)).off + 2, none⟩ = some (.string ((rd_T39 l0 x5_1).f2)) ∧ w'.cell? ⟨(ad411.add ((x5_1).toNat * 4)).block, (ad411.add ((x5_1).toNat * 4)).off + 3, none⟩ = some (.slice A411_3 ((rd_T39 l0 x5_1).f3).length c411_3) ∧ w'.cell? (ad412.add ((x5_1).toNat * 4)) = some (.int .i64 ((rd_T39 l1 x5_1).f0)) ∧ w'.cell? ⟨(ad412.add ((x5_1).toNat * 4)).block, (ad412.add ((x5_1).toNat * 4)).off + 1, none⟩ = some (.string ((rd_T39 l1 x5_1).f1)) ∧ w'.cell? ⟨(ad412.add ((x5_1).toNat * 4)).block, (ad412.add ((x5_1).toNat * 4)).off + 2, none⟩ = some (.string ((rd_T39 l1 x5_1).f2)) ∧ w'.cell? ⟨(ad412.add ((x5_1).toNat * 4)).block, (ad412.add ((x5_1).toNat * 4)).off + 3, none⟩ = some (.slice A412_3 ((rd_T39 l1 x5_1).f3).length c412_3)) (ds := []) #[false, false, false, false, false, false, false, false, false, false] dq29 rfl rfl ⟨((HB.out.cell (World.block_lt_of_cell? w _ hw411_0)).trans hw411_0), ((HB.out.cell (World.block_lt_of_cell? w _ hw411_1)).trans hw411_1), ((HB.out.cell (World.block_lt_of_cell? w _ hw411_2)).trans hw411_2), ((HB.out.cell (World.block_lt_of_cell? w _ hw411_3)).trans hw411_3), ((HB.out.cell (World.block_lt_of_cell? w _ hw412_0)).trans hw412_0), ((HB.out.cell (World.block_lt_of_cell? w _ hw412_1)).trans hw412_1), ((HB.out.cell (World.block_lt_of_cell? w _ hw412_2)).trans hw412_2), ((HB.out.cell (World.block_lt_of_cell? w _ hw412_3)).trans hw412_3)⟩ (fun hHeld => ?_); refine with_tabW laws_eqItemS.tab6 laws_eqItemS.bits6 (fun HT_ HW_ => ?_)
        generalize wr.drew = w9 at HB HR411_3 HR412_3 hx411_0 hx411_1 hx411_2 hx411_3 hx412_0 hx412_1 hx412_2 hx412_3 hHeld ⊢
        refine pureA (i := 0) (N := some 17) #[true, false, false, false, false, false, false, false, false, false] ?_
        refine pureA (i := 1) (N := some 18) #[true, true, false, false, false, false, false, false, false, false] ?_
        refine pureA (i := 2) (N := some 19) #[true, true, true, false, false, false, false, false, false, false] ?_
        refine pureA (i := 4) (N := some 21) #[true, true, true, false, true, false, false, false, false, false] ?_
        refine pureA (i := 5) (N := some 22) #[true, true, true, false, true, true, false, false, false, false] ?_
        refine pureA (i := 6) (N := some 23) #[true, true, true, false, true, true, true, false, false, false] ?_
        refine takeA8 (i := 3) (N := some 20) #[true, true, true, true, true, true, true, false, false, false] ?_
        refine takeA8 (i := 7) (N := some 24) #[true, true, true, true, true, true, true, true, false, false] ?_
        refine one_ (i := 8) (N := some 25) #[true, true, true, true, true, true, true, true, true, false] rfl rfl (one_of HT_.out dq29) dq38 (fun K hK => ?_)
        refine goes_ Tryd.func47 dq29 rfl #[.agg #[.int .i64 ((rd_T39 l0 x5_1).f0), .string ((rd_T39 l0 x5_1).f1), .string ((rd_T39 l0 x5_1).f2), .slice A411_3 ((rd_T39 l0 x5_1).f3).length c411_3], .agg #[.int .i64 ((rd_T39 l1 x5_1).f0), .string ((rd_T39 l1 x5_1).f1), .string ((rd_T39 l1 x5_1).f2), .slice A412_3 ((rd_T39 l1 x5_1).f3).length c412_3]] (by rfl) rfl rfl dq28 ?_
        with_reducible refine (laws_eqItem.calls k1 ((rd_T39 l0 x5_1).f0) ((rd_T39 l0 x5_1).f1) ((rd_T39 l0 x5_1).f2) _ _ ((rd_T39 l0 x5_1).f3) ((rd_T39 l1 x5_1).f0) ((rd_T39 l1 x5_1).f1) ((rd_T39 l1 x5_1).f2) _ _ ((rd_T39 l1 x5_1).f3) true _ ?side1 ?side2 ?side3 ?side4 A7.out).mono ?_
        (case side1 => repeat (first | exact (Kd.C_below HR411_3.out HB.out) | (with_reducible refine Kd.C_alloc ?_ _) | (with_reducible refine Kd.C_drewN ?_ _) | (with_reducible refine Kd.C_drew ?_)))
        (case side2 => exact HC411_3.out)
        (case side3 => repeat (first | exact (Kd.C_below HR412_3.out HB.out) | (with_reducible refine Kd.C_alloc ?_ _) | (with_reducible refine Kd.C_drewN ?_ _) | (with_reducible refine Kd.C_drew ?_)))
        (case side4 => exact HC412_3.out)
        rintro e w10 ⟨rfl, hb⟩
        refine ⟨_, rfl, ?_⟩
        have n0_ := Aside0.mk (below_step dq23 hb)
        clear HB
        have HB := n0_
        clear n0_
        (try clear hb)
        (try clear hb2)
        (try clear hk)
        (try clear hi)
        refine hK.out _ _ ⟨((HB.out.cell (World.block_lt_of_cell? w _ hw411_0)).trans hw411_0), ((HB.out.cell (World.block_lt_of_cell? w _ hw411_1)).trans hw411_1), ((HB.out.cell (World.block_lt_of_cell? w _ hw411_2)).trans hw411_2), ((HB.out.cell (World.block_lt_of_cell? w _ hw411_3)).trans hw411_3), ((HB.out.cell (World.block_lt_of_cell? w _ hw412_0)).trans hw412_0), ((HB.out.cell (World.block_lt_of_cell? w _ hw412_1)).trans hw412_1), ((HB.out.cell (World.block_lt_of_cell? w _ hw412_2)).trans hw412_2), ((HB.out.cell (World.block_lt_of_cell? w _ hw412_3)).trans hw412_3)⟩ (fun hHeld => ?_)
        clear hK K
        refine norm_ (a' := ?_) ?_ ?_
        rotate_left
        ·show Act.put _ (some 25) _ = _
         simp only [Act.put, List.setIfInBounds_toArray, List.set_cons_zero, List.set_cons_succ, i64_w, i32_w]
         rfl
        refine pureA (i := 9) (N := some 26) #[true, true, true, true, true, true, true, true, true, true] ?_
        refine done_ (done_of HT_.out dq29) ?_
        try go_wp2
        go_roundg k1
        case measure => have := HK1.out; omega
        case rel => exact ⟨(wrap64 (x5_1 + 1)), dq26, H', ⟨dq30⟩, ⟨dq23⟩⟩
       ·replace c8 := Bool.eq_false_iff.mpr c8
        subst c8
        have H1 : (some false) = some r := by rw [if_neg (show ¬ (false = true) by decide)] at H; exact H
        clear H
        have H := H1
        clear H1
        obtain rfl := Option.some.inj H
        try go_wp2
        have n0_ := Aside0.mk (below_drew1 HB.out)
        clear HB
        have HB := n0_
        clear n0_
        have p411 : 0 ≤ (x5_1 : Int) := of_decide_eq_true dq27
        have q411 : x5_1 < (l0.length : Int) := of_decide_eq_true dq27
        obtain ⟨ad411, A411_3, c411_3, e411, hx411_0, hx411_1, hx411_2, hx411_3, hl411_3, hi411_3⟩ := at_T39 HR0.out x5_1 p411 q411
        have hw411_3 := hx411_3
        have hw411_2 := hx411_2
        have hw411_1 := hx411_1
        have hw411_0 := hx411_0
        cases e411
        replace hx411_0 := (HB.out.cell (World.block_lt_of_cell? w _ hx411_0)).trans hx411_0
        replace hx411_1 := (HB.out.cell (World.block_lt_of_cell? w _ hx411_1)).trans hx411_1
        replace hx411_2 := (HB.out.cell (World.block_lt_of_cell? w _ hx411_2)).trans hx411_2
        replace hx411_3 := (HB.out.cell (World.block_lt_of_cell? w _ hx411_3)).trans hx411_3
        have HR411_3 := Aside0.mk hi411_3
        have HC411_3 := Aside0.mk hl411_3
        clear hi411_3 hl411_3
        replace p411 := eq_true p411
        replace q411 := eq_true q411
        have p412 : 0 ≤ (x5_1 : Int) := of_decide_eq_true dq27
        have q412 : x5_1 < (l1.length : Int) := of_decide_eq_true dq27
        obtain ⟨ad412, A412_3, c412_3, e412, hx412_0, hx412_1, hx412_2, hx412_3, hl412_3, hi412_3⟩ := at_T39 HR1.out x5_1 p412 q412
        have hw412_3 := hx412_3
        have hw412_2 := hx412_2
        have hw412_1 := hx412_1
        have hw412_0 := hx412_0
        cases e412
        replace hx412_0 := (HB.out.cell (World.block_lt_of_cell? w _ hx412_0)).trans hx412_0
        replace hx412_1 := (HB.out.cell (World.block_lt_of_cell? w _ hx412_1)).trans hx412_1
        replace hx412_2 := (HB.out.cell (World.block_lt_of_cell? w _ hx412_2)).trans hx412_2
        replace hx412_3 := (HB.out.cell (World.block_lt_of_cell? w _ hx412_3)).trans hx412_3
        have HR412_3 := Aside0.mk hi412_3
        have HC412_3 := Aside0.mk hl412_3
        clear hi412_3 hl412_3
        replace p412 := eq_true p412
        replace q412 := eq_true q412
        refine start_ (n := 10) (S := fun w' => w'.cell? (ad411.add ((x5_1).toNat * 4)) = some (.int .i64 ((rd_T39 l0 x5_1).f0)) ∧ w'.cell? ⟨(ad411.add ((x5_1).toNat * 4)).block, (ad411.add ((x5_1).toNat * 4)).off + 1, none⟩ = some (.string ((rd_T39 l0 x5_1).f1)) ∧ w'.cell? ⟨(ad411.add ((x5_1).toNat * 4)).block, (ad411.add ((x5_1).toNat * 4)).off + 2, none⟩ = some (.string ((rd_T39 l0 x5_1).f2)) ∧ w'.cell? ⟨(ad411.add ((x5_1).toNat * 4)).block, (ad411.add ((x5_1).toNat * 4)).off + 3, none⟩ = some (.slice A411_3 ((rd_T39 l0 x5_1).f3).length c411_3) ∧ w'.cell? (ad412.add ((x5_1).toNat * 4)) = some (.int .i64 ((rd_T39 l1 x5_1).f0)) ∧ w'.cell? ⟨(ad412.add ((x5_1).toNat * 4)).block, (ad412.add ((x5_1).toNat * 4)).off + 1, none⟩ = some (.string ((rd_T39 l1 x5_1).f1)) ∧ w'.cell? ⟨(ad412.add ((x5_1).toNat * 4)).block, (ad412.add ((x5_1).toNat * 4)).off + 2, none⟩ = some (.string ((rd_T39 l1 x5_1).f2)) ∧ w'.cell? ⟨(ad412.add ((x5_1).toNat * 4)).block, (ad412.add ((x5_1).toNat * 4)).off + 3, none⟩ = some (.slice A412_3 ((rd_T39 l1 x5_1).f3).length c412_3)) (ds := []) #[false, false, false, false, false, false, false, false, false, false] dq29 rfl rfl ⟨((HB.out.cell (World.block_lt_of_cell? w _ hw411_0)).trans hw411_0), ((HB.out.cell (World.block_lt_of_cell? w _ hw411_1)).trans hw411_1), ((HB.out.cell (World.block_lt_of_cell? w _ hw411_2)).trans hw411_2), ((HB.out.cell (World.block_lt_of_cell? w _ hw411_3)).trans hw411_3), ((HB.out.cell (World.block_lt_of_cell? w _ hw412_0)).trans hw412_0), ((HB.out.cell (World.block_lt_of_cell? w _ hw412_1)).trans hw412_1), ((HB.out.cell (World.block_lt_of_cell? w _ hw412_2)).trans hw412_2), ((HB.out.cell (World.block_lt_of_cell? w _ hw412_3)).trans hw412_3)⟩ (fun hHeld => ?_); refine with_tabW laws_eqItemS.tab6 laws_eqItemS.bits6 (fun HT_ HW_ => ?_)
        generalize wr.drew = w11 at HB HR411_3 HR412_3 hx411_0 hx411_1 hx411_2 hx411_3 hx412_0 hx412_1 hx412_2 hx412_3 hHeld ⊢
        refine pureA (i := 0) (N := some 17) #[true, false, false, false, false, false, false, false, false, false] ?_
        refine pureA (i := 1) (N := some 18) #[true, true, false, false, false, false, false, false, false, false] ?_
        refine pureA (i := 2) (N := some 19) #[true, true, true, false, false, false, false, false, false, false] ?_
        refine pureA (i := 4) (N := some 21) #[true, true, true, false, true, false, false, false, false, false] ?_
        refine pureA (i := 5) (N := some 22) #[true, true, true, false, true, true, false, false, false, false] ?_
        refine pureA (i := 6) (N := some 23) #[true, true, true, false, true, true, true, false, false, false] ?_
        refine takeA8 (i := 3) (N := some 20) #[true, true, true, true, true, true, true, false, false, false] ?_
        refine takeA8 (i := 7) (N := some 24) #[true, true, true, true, true, true, true, true, false, false] ?_
        refine one_ (i := 8) (N := some 25) #[true, true, true, true, true, true, true, true, true, false] rfl rfl (one_of HT_.out dq29) dq38 (fun K hK => ?_)
        refine goes_ Tryd.func47 dq29 rfl #[.agg #[.int .i64 ((rd_T39 l0 x5_1).f0), .string ((rd_T39 l0 x5_1).f1), .string ((rd_T39 l0 x5_1).f2), .slice A411_3 ((rd_T39 l0 x5_1).f3).length c411_3], .agg #[.int .i64 ((rd_T39 l1 x5_1).f0), .string ((rd_T39 l1 x5_1).f1), .string ((rd_T39 l1 x5_1).f2), .slice A412_3 ((rd_T39 l1 x5_1).f3).length c412_3]] (by rfl) rfl rfl dq28 ?_
        with_reducible refine (laws_eqItem.calls k1 ((rd_T39 l0 x5_1).f0) ((rd_T39 l0 x5_1).f1) ((rd_T39 l0 x5_1).f2) _ _ ((rd_T39 l0 x5_1).f3) ((rd_T39 l1 x5_1).f0) ((rd_T39 l1 x5_1).f1) ((rd_T39 l1 x5_1).f2) _ _ ((rd_T39 l1 x5_1).f3) false _ ?side1 ?side2 ?side3 ?side4 A7.out).mono ?_
        (case side1 => repeat (first | exact (Kd.C_below HR411_3.out HB.out) | (with_reducible refine Kd.C_alloc ?_ _) | (with_reducible refine Kd.C_drewN ?_ _) | (with_reducible refine Kd.C_drew ?_)))
        (case side2 => exact HC411_3.out)
        (case side3 => repeat (first | exact (Kd.C_below HR412_3.out HB.out) | (with_reducible refine Kd.C_alloc ?_ _) | (with_reducible refine Kd.C_drewN ?_ _) | (with_reducible refine Kd.C_drew ?_)))
        (case side4 => exact HC412_3.out)
        rintro e w12 ⟨rfl, hb⟩
        refine ⟨_, rfl, ?_⟩
        have n0_ := Aside0.mk (below_step dq23 hb)
        clear HB
        have HB := n0_
        clear n0_
        (try clear hb)
        (try clear hb2)
        (try clear hk)
        (try clear hi)
        refine hK.out _ _ ⟨((HB.out.cell (World.block_lt_of_cell? w _ hw411_0)).trans hw411_0), ((HB.out.cell (World.block_lt_of_cell? w _ hw411_1)).trans hw411_1), ((HB.out.cell (World.block_lt_of_cell? w _ hw411_2)).trans hw411_2), ((HB.out.cell (World.block_lt_of_cell? w _ hw411_3)).trans hw411_3), ((HB.out.cell (World.block_lt_of_cell? w _ hw412_0)).trans hw412_0), ((HB.out.cell (World.block_lt_of_cell? w _ hw412_1)).trans hw412_1), ((HB.out.cell (World.block_lt_of_cell? w _ hw412_2)).trans hw412_2), ((HB.out.cell (World.block_lt_of_cell? w _ hw412_3)).trans hw412_3)⟩ (fun hHeld => ?_)
        clear hK K
        refine norm_ (a' := ?_) ?_ ?_
        rotate_left
        ·show Act.put _ (some 25) _ = _
         simp only [Act.put, List.setIfInBounds_toArray, List.set_cons_zero, List.set_cons_succ, i64_w, i32_w]
         rfl
        refine pureA (i := 9) (N := some 26) #[true, true, true, true, true, true, true, true, true, true] ?_
        refine done_ (done_of HT_.out dq29) ?_
        try go_wp2
        go_ret
        exact ⟨dq25, dq23⟩
      ·rw [if_neg c6] at H
       exact absurd H dq31
     ·rw [if_neg c5] at H
      exact absurd H dq31
    ·rw [if_neg c4] at H
     have c4b0 := decide_eq_false c4
     clear c4
     obtain rfl := Option.some.inj H
     go_wp2
     go_ret
     exact ⟨dq25, dq23⟩
 ·rw [if_neg c3] at H
  have c3b0 := beq_eq_false_iff_ne.mpr c3
  have c3b1 := bne_iff_ne.mpr c3
  have c3b2 : (l0.length == l1.length) = false := by first | simpa using c3 | (simp at c3 ⊢; omega)
  obtain rfl := Option.some.inj H
  go_enter Tryd.func14, Tryd.ntmps14
  go_wp2
  go_ret
  exact ⟨dq25, dq23⟩

/-! ### laws_markInt64S: function 16 -/
def laws_markInt64S.l0 : Nat → List Int → Int → Int → Option (Int × List Int)
 | 0, _, _, _ => none
 | k + 1, x0, x1, x5 => if x5 < (x0.length : Int) then (if 0 ≤ x5 then (laws_markInt64S.l0 k (x0.set (x5 : Int).toNat x1) (wrap64 (x1 + 1)) (wrap64 (x5 + 1))) else (none)) else (some (x1, x0))
def laws_markInt64S.f (k : Nat) (l0 : List Int) (a1 : Int) : Option (Int × List Int) := laws_markInt64S.l0 k l0 a1 0
set_option maxHeartbeats 8000000 in
set_option maxRecDepth 100000 in
theorem laws_markInt64S.calls (k : Nat) (P0_ : Nat → Prop) (u9000_ : Value) (l0 : List Int) (a1 : Int) (r1 : Int) (r2 : List Int) (w0 w : World) (hB : Below w0.heap.size w0 w) (ho0 : Kd.R (Kd.int .i64) 2 w w0.heap.size P0_ u9000_ l0) (h : laws_markInt64S.f k l0 a1 = some (r1, r2)) :
  Calls Tryd.prog 16 #[u9000_, .int .i64 a1] w fun e w' => e = .returned (.int .i64 r1) ∧ Kd.R (Kd.int .i64) 2 w' w0.heap.size (fun k_ => (P0_ k_ ∨ w.heap.size ≤ k_)) u9000_ r2 ∧ Below w0.heap.size w0 w' ∧ Kept w w' (fun k_ => P0_ k_) := by
 have HO0 := Aside0.mk (show Kd.R (Kd.int .i64) 2 w w0.heap.size (fun k_ => (P0_ k_ ∨ w.heap.size ≤ k_)) u9000_ l0 from Kd.R_mono ho0 (fun k_ hk => (.inl hk)))
 have HK := Aside0.mk (Kept.refl w (fun k_ => P0_ k_))
 have HW0 := Aside0.mk hB.size
 have HB := Aside0.mk hB
 clear hB
 have H : (laws_markInt64S.l0 k l0 a1 0) = some (r1, r2) := h
 clear h
 have H' := Aside0.mk H
 clear H
 go_enter Tryd.func16, Tryd.ntmps16
 go_wp2
 go_loopg [1, 5] k (fun kq v1 v5 w' => ∃ (x0_1 : List Int) (x1_1 : Int) (x5_1 : Int), v1 = .int .i64 x1_1 ∧ v5 = .int .i64 x5_1 ∧ Aside0 (laws_markInt64S.l0 kq x0_1 x1_1 x5_1 = some (r1, r2)) ∧ Aside0 (kq ≤ k) ∧ Aside0 (Kd.R (Kd.int .i64) 2 w' w0.heap.size (fun k_ => (P0_ k_ ∨ w.heap.size ≤ k_)) u9000_ x0_1) ∧ Aside0 (Kept w w' (fun k_ => P0_ k_)) ∧ Aside0 (Below w0.heap.size w0 w'))
 case atStart => exact ⟨(l0), (a1), (0), dq26, dq26, H', ⟨Nat.le_refl _⟩, ⟨by (with_reducible repeat (first | apply Kd.R_alloc | apply Kd.R_drewN | apply Kd.R_drew)); exact HO0.out⟩, ⟨dq143⟩, ⟨dq23⟩⟩
 case round =>
  clear H'
  try clear c1
  try clear p2
  obtain ⟨x0_1, x1_1, x5_1, rfl, rfl, HA, HK1, HO_0, HK, HB⟩ := hrel
  cases gk with
  | zero => exact absurd HA.out (by simp [laws_markInt64S.l0])
  | succ k1 =>
   have H := HA.out
   clear HA
   simp only [laws_markInt64S.l0] at H
   by_cases c3 : x5_1 < (x0_1.length : Int)
   ·rw [if_pos c3] at H
    have c3b0 := decide_eq_true c3
    clear c3
    by_cases c4 : 0 ≤ x5_1
    ·rw [if_pos c4] at H
     have c4b0 := decide_eq_true c4
     clear c4
     obtain ⟨y421, hy421⟩ : ∃ y_ : List Int, y_ = (x0_1.set (x5_1 : Int).toNat x1_1) := ⟨_, rfl⟩
     replace H : (laws_markInt64S.l0 k1 y421 (wrap64 (x1_1 + 1)) (wrap64 (x5_1 + 1))) = some (r1, r2) := by first | (rw [hy421]; with_reducible exact H) | (have H2_ := (Option.bind_some _ _).symm.trans H; rw [hy421]; with_reducible exact H2_) | (have H2_ := (Option.bind_some _ _).symm.trans H; with_reducible exact H2_) | with_reducible exact H | (rw [hy421]; exact H) | exact H
     have Ny421 := Aside0.mk hy421
     clear hy421
     have H' := Aside0.mk H
     clear H
     obtain ⟨Ao6, co6, eo6⟩ := Kd.R_slice HO_0.out
     subst eo6
     have p5 : 0 ≤ (x5_1 : Int) := of_decide_eq_true dq27
     have q5 : (x5_1 : Int) < ((x0_1.length : Int) : Int) := of_decide_eq_true dq27
     obtain ⟨go5, co5, eo5, gb5, gl5, cl5, HG5⟩ := Kd.R_form HO_0.out dq34
     (first | cases eo5 | (injection eo5 with ea_ en_ ec_; (first | subst ea_ | (injection ea_ with ea_; subst ea_)); subst ec_; clear en_))
     have GB5 := Aside0.mk gb5
     have GG5 := Aside0.mk HG5
     clear gb5 gl5 HG5
     have HMgo5 := Aside0.mk (show (P0_ go5 ∨ w.heap.size ≤ go5) from (HO_0.out.1 _ rfl))
     obtain ⟨hx5_0, hf5_0⟩ := Kd.R_celln 0 HO_0.out (x5_1 : Int) p5 q5
     replace p5 := eq_true p5
     replace q5 := eq_true q5
     have HP7 := Kd.R_putg HO_0.out (x5_1 : Int) x1_1
     go_wp2_with (first | ((with_reducible refine gate_store (t := 2) (p := 15) rfl ?_); refine store_event (t := 2) (p := 15) (v := ?vo_w8) (w1 := (wr.setCell ⟨go5, (x5_1 : Int).toNat, none⟩ (.int .i64 x1_1))) ?hg ?ho ?hn ?hr ?_; (case ho => rfl); (case hg => rfl); (case hn => rfl); (case hr => exact dq0); intro w8 hw; have hg : wr.grownBy w8 (some go5) := (by rw [hw]; exact HP7.2); have hp_ : Kd.R (Kd.int .i64) 2 w8 w0.heap.size (fun k_ => (P0_ k_ ∨ w.heap.size ≤ k_)) (.slice (some ⟨go5, 0, none⟩) x0_1.length co6) y421 := (by rw [hw, Ny421.out]; exact HP7.1); clear HP7; have n0_ := Aside0.mk (hp_); have n1_ := Aside0.mk ((by rw [hw]; exact below_set (HB.out) GB5.out : Below w0.heap.size w0 w8)); have n2_ := Aside0.mk (Kept.of_grown (S := (fun k_ => P0_ k_)) hg dq143 (fun k_ e_ => (HO_0.out.1 k_ e_))); clear HO_0; clear HB; clear HK; have HO_0 := n0_; have HB := n1_; have HK := n2_; clear n0_ n1_ n2_; clear hg hw hp_))
     go_roundg k1
     case measure => have := HK1.out; omega
     case rel => exact ⟨(y421), (wrap64 (x1_1 + 1)), (wrap64 (x5_1 + 1)), dq26, dq26, H', ⟨dq30⟩, ⟨dq144⟩, ⟨dq143⟩, ⟨dq23⟩⟩
    ·rw [if_neg c4] at H
     exact absurd H dq31
   ·rw [if_neg c3] at H
    have c3b0 := decide_eq_false c3
    clear c3
    simp only [Option.some.injEq, Prod.mk.injEq] at H
    obtain ⟨rfl, rfl⟩ := H
    obtain ⟨Ao9, co9, eo9⟩ := Kd.R_slice HO_0.out
    subst eo9
    go_wp2
    go_ret
    exact ⟨dq25, dq144, dq23, dq143⟩

/-! ### laws_heldInt64S: function 17 -/
def laws_heldInt64S.l0 : Nat → List Int → Int → Int → Option (Int)
 | 0, _, _, _ => none
 | k + 1, x0, x1, x5 => if x5 < (x0.length : Int) then (if 0 ≤ x5 then (if (rd x0 x5) = x1 then (laws_heldInt64S.l0 k x0 (wrap64 (x1 + 1)) (wrap64 (x5 + 1))) else (some (-1))) else (none)) else (some x1)
def laws_heldInt64S.f (k : Nat) (l0 : List Int) (a1 : Int) : Option (Int) := laws_heldInt64S.l0 k l0 a1 0
set_option maxHeartbeats 8000000 in
set_option maxRecDepth 100000 in
theorem laws_heldInt64S.calls (k : Nat) (A0 : Option Addr) (c0 : Nat) (l0 : List Int) (a1 : Int) (r : Int) (w : World) (hr0 : Kd.C (Kd.int .i64) w A0 l0.length l0) (hc0 : l0.length ≤ c0) (h : laws_heldInt64S.f k l0 a1 = some r) :
  Calls Tryd.prog 17 #[.slice A0 l0.length c0, .int .i64 a1] w fun e w' => e = .returned (.int .i64 r) ∧ Drawn0 w w' := by
 have HR0 := Aside0.mk hr0
 have HC0 := Aside0.mk hc0
 clear hr0 hc0
 have H : (laws_heldInt64S.l0 k l0 a1 0) = some r := h
 clear h
 have H' := Aside0.mk H
 clear H
 go_enter Tryd.func17, Tryd.ntmps17
 go_wp2
 go_loopg [1, 5] k (fun kq v1 v5 w' => ∃ (x1_1 : Int) (x5_1 : Int), v1 = .int .i64 x1_1 ∧ v5 = .int .i64 x5_1 ∧ Aside0 (laws_heldInt64S.l0 kq l0 x1_1 x5_1 = some r) ∧ Aside0 (kq ≤ k) ∧ Drawn0 w w')
 case atStart => exact ⟨(a1), (0), dq26, dq26, H', ⟨Nat.le_refl _⟩, dq33⟩
 case round =>
  clear H'
  try clear c1
  try clear p2
  obtain ⟨x1_1, x5_1, rfl, rfl, HA, HK1, ⟨m1, rfl⟩⟩ := hrel
  cases gk with
  | zero => exact absurd HA.out (by simp [laws_heldInt64S.l0])
  | succ k1 =>
   have H := HA.out
   clear HA
   simp only [laws_heldInt64S.l0] at H
   by_cases c3 : x5_1 < (l0.length : Int)
   ·rw [if_pos c3] at H
    have c3b0 := decide_eq_true c3
    clear c3
    by_cases c4 : 0 ≤ x5_1
    ·rw [if_pos c4] at H
     have c4b0 := decide_eq_true c4
     clear c4
     by_cases c5 : (rd l0 x5_1) = x1_1
     ·rw [if_pos c5] at H
      have c5b0 := beq_iff_eq.mpr c5
      have c5b1 := bne_eq_false_iff_eq.mpr c5
      clear c5
      have H' := Aside0.mk H
      clear H
      have p422 : 0 ≤ (x5_1 : Int) := of_decide_eq_true dq27
      have q422 : x5_1 < (l0.length : Int) := of_decide_eq_true dq27
      obtain ⟨ad422, e422, hx422_0⟩ := Kd.at_int HR0.out x5_1 p422 q422
      cases e422
      replace p422 := eq_true p422
      replace q422 := eq_true q422
      go_wp2
      go_roundg k1
      case measure => have := HK1.out; omega
      case rel => exact ⟨(wrap64 (x1_1 + 1)), (wrap64 (x5_1 + 1)), dq26, dq26, H', ⟨dq30⟩, dq33⟩
     ·rw [if_neg c5] at H
      have c5b0 := beq_eq_false_iff_ne.mpr c5
      have c5b1 := bne_iff_ne.mpr c5
      obtain rfl := Option.some.inj H
      have p422 : 0 ≤ (x5_1 : Int) := of_decide_eq_true dq27
      have q422 : x5_1 < (l0.length : Int) := of_decide_eq_true dq27
      obtain ⟨ad422, e422, hx422_0⟩ := Kd.at_int HR0.out x5_1 p422 q422
      cases e422
      replace p422 := eq_true p422
      replace q422 := eq_true q422
      go_wp2
      go_ret
      exact ⟨dq26, dq33⟩
    ·rw [if_neg c4] at H
     exact absurd H dq31
   ·rw [if_neg c3] at H
    have c3b0 := decide_eq_false c3
    clear c3
    obtain rfl := Option.some.inj H
    go_wp2
    go_ret
    exact ⟨dq26, dq33⟩

end Go.Proofs.YtpmjpbaeecnpiaaDoor.L
