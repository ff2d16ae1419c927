/- Words and contracts for the row RowFnFields: what the Go functions answer that it calls; printed by programs of the kit and of this session, and merged. -/
import Derived.Test.YtpmjpbaeecnpiaaGreatDoorQg5
import Derived.Shelf.Strings.BuilderK
import Derived.Lib.Hide
import Derived.Outline
import Derived.Test.YtpmjpbaeecnpiaaGreatDoorProg
namespace Go.Proofs.YtpmjpbaeecnpiaaGreatDoor.L
open Go.RowKit Go.Proofs.YtpmjpbaeecnpiaaGreatDoorW.PrintWords Go.Proofs.YtpmjpbaeecnpiaaGreatDoorW.PrintLast Go.Proofs.YtpmjpbaeecnpiaaGreatDoorW.PrintMore
attribute [local go_sem] max2_int min2_int max_two min_two max_three min_three max_four min_four
set_option linter.unusedVariables false
set_option linter.unusedSimpArgs false

/-! ### impl_DocOk: function 65 -/
mutual
def impl_DocOk.j0 : Nat → List (S65) → Bool → Option (Bool)
 | 0, _, _ => none
 | k + 1, x0, x24 => if x24 = true then (some false) else (impl_DocOk.l0 k x0 0 (([] : List Int)) x0 (x0.length : Int) 0)
def impl_DocOk.l0 : Nat → List (S65) → Int → List Int → List (S65) → Int → Int → Option (Bool)
 | 0, _, _, _, _, _, _ => none
 | k + 1, x0, x3, x4, x26, x27, x28 => if x28 < x27 then (if 0 ≤ x28 then (if x28 < (x26.length : Int) then ((impl_Item_isGood.f k ((rd_T65 x26 x28).f0) ((rd_T65 x26 x28).f1) ((rd_T65 x26 x28).f2) ((rd_T65 x26 x28).f3)).bind fun t364 => (if t364 = true then ((impl_Item_bytes.f k ((rd_T65 x26 x28).f0) ((rd_T65 x26 x28).f1) ((rd_T65 x26 x28).f2) ((rd_T65 x26 x28).f3)).bind fun t365 => (impl_DocOk.l1 k x0 (wrap64 (x3 + t365)) x4 x28 x26 x27 x28 ((rd_T65 x26 x28).f0) ((rd_T65 x26 x28).f1) ((rd_T65 x26 x28).f2) ((rd_T65 x26 x28).f3))) else (some false))) else (none)) else (none)) else (some (decide (x3 ≤ 2500)))
def impl_DocOk.j3 : Nat → List (S65) → Int → List Int → Int → List (S65) → Int → Int → Int → ByteArray → ByteArray → List (S67) → Option (Bool)
 | 0, _, _, _, _, _, _, _, _, _, _, _ => none
 | k + 1, x0, x3, x4, x5, x26, x27, x28, x364000, x364001, x364002, x364003 => if x5 > 0 then (if (x4.length : Int) = 0 then (impl_DocOk.j4 k x0 x3 x4 x5 x26 x27 x28 true x364000 x364001 x364002 x364003) else (impl_DocOk.j4 k x0 x3 x4 x5 x26 x27 x28 (decide ((x4.length : Int) ≥ 20)) x364000 x364001 x364002 x364003)) else (impl_DocOk.j4 k x0 x3 x4 x5 x26 x27 x28 (decide ((x4.length : Int) ≥ 20)) x364000 x364001 x364002 x364003)
def impl_DocOk.j4 : Nat → List (S65) → Int → List Int → Int → List (S65) → Int → Int → Bool → Int → ByteArray → ByteArray → List (S67) → Option (Bool)
 | 0, _, _, _, _, _, _, _, _, _, _, _, _ => none
 | k + 1, x0, x3, x4, x5, x26, x27, x28, x70, x364000, x364001, x364002, x364003 => if x70 = true then (some false) else (if x364001.toList = ([] : List UInt8) then (if x5 > 0 then (if 0 ≤ (wrap64 (x5 - 1)) then (if (wrap64 (x5 - 1)) < (x0.length : Int) then (if ((rd_T65 x0 (wrap64 (x5 - 1))).f1).toList = ([] : List UInt8) then (if ((rd_T65 x0 (wrap64 (x5 - 1))).f0) = x364000 then (some false) else (impl_DocOk.l0 k x0 x3 x4 x26 x27 (wrap64 (x28 + 1)))) else (impl_DocOk.l0 k x0 x3 x4 x26 x27 (wrap64 (x28 + 1)))) else (none)) else (none)) else (impl_DocOk.l0 k x0 x3 x4 x26 x27 (wrap64 (x28 + 1)))) else (if x4.length < 17592186044416 then (impl_DocOk.l0 k x0 x3 (x4 ++ [x5]) x26 x27 (wrap64 (x28 + 1))) else (none)))
def impl_DocOk.l1 : Nat → List (S65) → Int → List Int → Int → List (S65) → Int → Int → Int → ByteArray → ByteArray → List (S67) → Option (Bool)
 | 0, _, _, _, _, _, _, _, _, _, _, _ => none
 | k + 1, x0, x3, x4, x5, x26, x27, x28, x364000, x364001, x364002, x364003 => if (x4.length : Int) > 0 then (if 0 ≤ (wrap64 ((x4.length : Int) - 1)) then (if (wrap64 ((x4.length : Int) - 1)) < (x4.length : Int) then (if (rd x4 (wrap64 ((x4.length : Int) - 1))) = x364000 then (impl_DocOk.j3 k x0 x3 x4 x5 x26 x27 x28 x364000 x364001 x364002 x364003) else (if (wrap64 ((x4.length : Int) - 1)) ≤ (x4.length : Int) then (impl_DocOk.l1 k x0 x3 (x4.take ((wrap64 ((x4.length : Int) - 1)) : Int).toNat) x5 x26 x27 x28 x364000 x364001 x364002 x364003) else (none))) else (none)) else (none)) else (impl_DocOk.j3 k x0 x3 x4 x5 x26 x27 x28 x364000 x364001 x364002 x364003)
end
def impl_DocOk.f (k : Nat) (l0 : List (S65)) : Option (Bool) := (impl_in.f (l0.length : Int) 1 200).bind fun t356 => (if t356 = true then (if 0 < (l0.length : Int) then (if ((rd_T65 l0 0).f0) = (-1) then (impl_DocOk.j0 k l0 (((rd_T65 l0 0).f1).toList == ([] : List UInt8))) else (impl_DocOk.j0 k l0 true)) else (none)) else (impl_DocOk.j0 k l0 true))
set_option maxHeartbeats 8000000 in
set_option maxRecDepth 100000 in
theorem impl_DocOk.calls (k : Nat) (A0 : Option Addr) (c0 : Nat) (l0 : List (S65)) (r : Bool) (w : World) (hT : Gl w) (hr0 : Kd.C k65 w A0 l0.length l0) (hc0 : l0.length ≤ c0) (h : impl_DocOk.f k l0 = some r) :
  Calls Tryz.prog 65 #[.slice A0 l0.length c0] w fun e w' => e = .returned (.bool r) ∧ Below w.heap.size w w' := by
 have hu65 := Tryz.underlying65
 have HR0 := Aside0.mk hr0
 have HC0 := Aside0.mk hc0
 clear hr0 hc0
 have HT := Aside0.mk hT
 clear hT
 have HB := Aside0.mk (Below.refl w.heap.size w)
 have H : ((impl_in.f (l0.length : Int) 1 200).bind fun t356 => (if t356 = true then (if 0 < (l0.length : Int) then (if ((rd_T65 l0 0).f0) = (-1) then (impl_DocOk.j0 k l0 (((rd_T65 l0 0).f1).toList == ([] : List UInt8))) else (impl_DocOk.j0 k l0 true)) else (none)) else (impl_DocOk.j0 k l0 true))) = some r := h
 clear h
 have HC2 := Aside0.mk H
 clear H
 go_enter Tryz.func65, Tryz.ntmps65
 go_upto_region 1 with (fail)
 go_cut [24] (fun v24 wc => ∃ (kq : Nat) (x24_1 : Bool), v24 = .bool x24_1 ∧ Aside0 (impl_DocOk.j0 kq l0 x24_1 = some r) ∧ Aside0 (kq ≤ k) ∧ Aside0 (Below w.heap.size w wc))
 case first =>
  have H := HC2.out
  clear HC2
  replace H := Option.bind_eq_some_iff.mp H
  obtain ⟨t356, A30, H⟩ := H
  replace H : (if t356 = true then (if 0 < (l0.length : Int) then (if ((rd_T65 l0 0).f0) = (-1) then (impl_DocOk.j0 k l0 (((rd_T65 l0 0).f1).toList == ([] : List UInt8))) else (impl_DocOk.j0 k l0 true)) else (none)) else (impl_DocOk.j0 k l0 true)) = some r := H
  have A3 := Aside0.mk A30
  clear A30
  by_cases c4 : t356 = true
  rotate_left
  ·replace c4 := Bool.eq_false_iff.mpr c4
   subst c4
   have H1 : (impl_DocOk.j0 k l0 true) = some r := by rw [if_neg (show ¬ (false = true) by decide)] at H; exact H
   clear H
   have H := H1
   clear H1
   have H' := Aside0.mk H
   clear H
   go_wp2_with (first | (go_at_call 99; (with_reducible refine (impl_in.calls (l0.length : Int) 1 200 false _ A3.out).mono ?_); rintro e w' ⟨rfl, ⟨nd, rfl⟩⟩; (try first | exact ⟨rfl, _, World.drewN_drewN _ _ _⟩ | exact ⟨rfl, _, Eq.trans (World.drewN_drewN _ _ _) (congrArg (World.drewN _) (Nat.add_assoc _ _ _))⟩)))
   go_meet
   case rel => exact ⟨_, (true), dq17, H', ⟨dq24⟩, ⟨dq25⟩⟩
  subst c4
  have H1 : (if 0 < (l0.length : Int) then (if ((rd_T65 l0 0).f0) = (-1) then (impl_DocOk.j0 k l0 (((rd_T65 l0 0).f1).toList == ([] : List UInt8))) else (impl_DocOk.j0 k l0 true)) else (none)) = some r := by rw [if_pos rfl] at H; exact H
  clear H
  have H := H1
  clear H1
  by_cases c5 : 0 < (l0.length : Int)
  rotate_left
  ·rw [if_neg c5] at H
   exact absurd H dq20
  rw [if_pos c5] at H
  have c5b0 := decide_eq_true c5
  have c5b1 : decide (0 < l0.length) = true := decide_eq_true dq23
  clear c5
  (first | rw [c5b0] | (simp only [i64_w, i32_w]; rw [c5b0]) | skip)
  by_cases c6 : ((rd_T65 l0 0).f0) = (-1)
  rotate_left
  ·rw [if_neg c6] at H
   have c6b0 := beq_eq_false_iff_ne.mpr c6
   have c6b1 := bne_iff_ne.mpr c6
   have H' := Aside0.mk H
   clear H
   go_wp2_with (first | (go_at_call 99; (with_reducible refine (impl_in.calls (l0.length : Int) 1 200 true _ A3.out).mono ?_); rintro e w' ⟨rfl, ⟨nd, rfl⟩⟩; (try first | exact ⟨rfl, _, World.drewN_drewN _ _ _⟩ | exact ⟨rfl, _, Eq.trans (World.drewN_drewN _ _ _) (congrArg (World.drewN _) (Nat.add_assoc _ _ _))⟩); have p357 : 0 ≤ (0 : Int) := dq23; have q357 : 0 < (l0.length : Int) := of_decide_eq_true dq18; obtain ⟨ad357, A357_3, c357_3, e357, hx357_0, hx357_1, hx357_2, hx357_3, hl357_3, hi357_3⟩ := at_T65 HR0.out 0 p357 q357; cases e357; have qi357 : (0 < l0.length) = True := eq_true dq23; (try rw [show ((0 : Int)).toNat = 0 from rfl] at hx357_0); (try rw [show 0 * 4 = 0 from rfl] at hx357_0); (try rw [Addr.add_zero'] at hx357_0); (try rw [show ((0 : Int)).toNat = 0 from rfl] at hx357_1); (try rw [show 0 * 4 = 0 from rfl] at hx357_1); (try rw [Addr.add_zero'] at hx357_1); (try rw [show ((0 : Int)).toNat = 0 from rfl] at hx357_2); (try rw [show 0 * 4 = 0 from rfl] at hx357_2); (try rw [Addr.add_zero'] at hx357_2); (try rw [show ((0 : Int)).toNat = 0 from rfl] at hx357_3); (try rw [show 0 * 4 = 0 from rfl] at hx357_3); (try rw [Addr.add_zero'] at hx357_3); replace hx357_0 := (HB.out.cell (World.block_lt_of_cell? w _ hx357_0)).trans hx357_0; replace hx357_1 := (HB.out.cell (World.block_lt_of_cell? w _ hx357_1)).trans hx357_1; replace hx357_2 := (HB.out.cell (World.block_lt_of_cell? w _ hx357_2)).trans hx357_2; replace hx357_3 := (HB.out.cell (World.block_lt_of_cell? w _ hx357_3)).trans hx357_3; have HR357_3 := Aside0.mk hi357_3; have HC357_3 := Aside0.mk hl357_3; clear hi357_3 hl357_3; replace p357 := eq_true p357; replace q357 := eq_true q357))
   go_meet
   case rel => exact ⟨_, (true), dq17, H', ⟨dq24⟩, ⟨dq25⟩⟩
  rw [if_pos c6] at H
  have c6b0 := beq_iff_eq.mpr c6
  have c6b1 := bne_eq_false_iff_eq.mpr c6
  clear c6
  have H' := Aside0.mk H
  clear H
  go_wp2_with (first | (go_at_call 99; (with_reducible refine (impl_in.calls (l0.length : Int) 1 200 true _ A3.out).mono ?_); rintro e w' ⟨rfl, ⟨nd, rfl⟩⟩; (try first | exact ⟨rfl, _, World.drewN_drewN _ _ _⟩ | exact ⟨rfl, _, Eq.trans (World.drewN_drewN _ _ _) (congrArg (World.drewN _) (Nat.add_assoc _ _ _))⟩); have p357 : 0 ≤ (0 : Int) := dq23; have q357 : 0 < (l0.length : Int) := of_decide_eq_true dq18; obtain ⟨ad357, A357_3, c357_3, e357, hx357_0, hx357_1, hx357_2, hx357_3, hl357_3, hi357_3⟩ := at_T65 HR0.out 0 p357 q357; cases e357; have qi357 : (0 < l0.length) = True := eq_true dq23; (try rw [show ((0 : Int)).toNat = 0 from rfl] at hx357_0); (try rw [show 0 * 4 = 0 from rfl] at hx357_0); (try rw [Addr.add_zero'] at hx357_0); (try rw [show ((0 : Int)).toNat = 0 from rfl] at hx357_1); (try rw [show 0 * 4 = 0 from rfl] at hx357_1); (try rw [Addr.add_zero'] at hx357_1); (try rw [show ((0 : Int)).toNat = 0 from rfl] at hx357_2); (try rw [show 0 * 4 = 0 from rfl] at hx357_2); (try rw [Addr.add_zero'] at hx357_2); (try rw [show ((0 : Int)).toNat = 0 from rfl] at hx357_3); (try rw [show 0 * 4 = 0 from rfl] at hx357_3); (try rw [Addr.add_zero'] at hx357_3); replace hx357_0 := (HB.out.cell (World.block_lt_of_cell? w _ hx357_0)).trans hx357_0; replace hx357_1 := (HB.out.cell (World.block_lt_of_cell? w _ hx357_1)).trans hx357_1; replace hx357_2 := (HB.out.cell (World.block_lt_of_cell? w _ hx357_2)).trans hx357_2; replace hx357_3 := (HB.out.cell (World.block_lt_of_cell? w _ hx357_3)).trans hx357_3; have HR357_3 := Aside0.mk hi357_3; have HC357_3 := Aside0.mk hl357_3; clear hi357_3 hl357_3; replace p357 := eq_true p357; replace q357 := eq_true q357; have p358 : 0 ≤ (0 : Int) := dq23; have q358 : 0 < (l0.length : Int) := of_decide_eq_true dq18; obtain ⟨ad358, A358_3, c358_3, e358, hx358_0, hx358_1, hx358_2, hx358_3, hl358_3, hi358_3⟩ := at_T65 HR0.out 0 p358 q358; obtain rfl : ad357 = ad358 := (by injection e358); have qi358 : (0 < l0.length) = True := eq_true dq23; (try rw [show ((0 : Int)).toNat = 0 from rfl] at hx358_0); (try rw [show 0 * 4 = 0 from rfl] at hx358_0); (try rw [Addr.add_zero'] at hx358_0); (try rw [show ((0 : Int)).toNat = 0 from rfl] at hx358_1); (try rw [show 0 * 4 = 0 from rfl] at hx358_1); (try rw [Addr.add_zero'] at hx358_1); (try rw [show ((0 : Int)).toNat = 0 from rfl] at hx358_2); (try rw [show 0 * 4 = 0 from rfl] at hx358_2); (try rw [Addr.add_zero'] at hx358_2); (try rw [show ((0 : Int)).toNat = 0 from rfl] at hx358_3); (try rw [show 0 * 4 = 0 from rfl] at hx358_3); (try rw [Addr.add_zero'] at hx358_3); replace hx358_0 := (HB.out.cell (World.block_lt_of_cell? w _ hx358_0)).trans hx358_0; replace hx358_1 := (HB.out.cell (World.block_lt_of_cell? w _ hx358_1)).trans hx358_1; replace hx358_2 := (HB.out.cell (World.block_lt_of_cell? w _ hx358_2)).trans hx358_2; replace hx358_3 := (HB.out.cell (World.block_lt_of_cell? w _ hx358_3)).trans hx358_3; have HR358_3 := Aside0.mk hi358_3; have HC358_3 := Aside0.mk hl358_3; clear hi358_3 hl358_3; replace p358 := eq_true p358; replace q358 := eq_true q358; have ea_ := Option.some.inj (hx357_3.symm.trans hx358_3); injection ea_ with ea_ en_ ec_; subst ea_; subst ec_; clear en_))
  go_meet
  case rel => exact ⟨_, ((((rd_T65 l0 0).f1).toList == ([] : List UInt8))), dq17, H', ⟨dq24⟩, ⟨dq25⟩⟩
 clear HC2
 obtain ⟨kq, x24_1, rfl, HA, HJ1, HB⟩ := hcut
 cases kq with
 | zero => exact absurd HA.out (by simp [impl_DocOk.j0])
 | succ kj1 =>
  have H := HA.out
  clear HA
  simp only [impl_DocOk.j0] at H
  by_cases c7 : x24_1 = true
  ·subst c7
   have H1 : (some false) = some r := by rw [if_pos rfl] at H; exact H
   clear H
   have H := H1
   clear H1
   obtain rfl := Option.some.inj H
   go_wp2
   go_ret
   exact ⟨dq27, dq25⟩
  replace c7 := Bool.eq_false_iff.mpr c7
  subst c7
  have H1 : (impl_DocOk.l0 kj1 l0 0 (([] : List Int)) l0 (l0.length : Int) 0) = some r := by rw [if_neg (show ¬ (false = true) by decide)] at H; exact H
  clear H
  have H := H1
  clear H1
  obtain ⟨y359, hy359⟩ : ∃ y_ : List Int, y_ = (([] : List Int)) := ⟨_, rfl⟩
  replace H : (impl_DocOk.l0 kj1 l0 0 y359 l0 (l0.length : Int) 0) = some r := by first | (rw [hy359]; with_reducible exact H) | (have H2_ := (Option.bind_some _ _).symm.trans H; rw [hy359]; with_reducible exact H2_) | (have H2_ := (Option.bind_some _ _).symm.trans H; with_reducible exact H2_) | with_reducible exact H | (rw [hy359]; exact H) | exact H
  have Ny359 := Aside0.mk hy359
  clear hy359
  have H' := Aside0.mk H
  clear H
  go_wp2_with (first | ((with_reducible refine gate_dst (N := 25) rfl ?_); (try (refine gate_guard (by rfl) ?_; dsimp only)); refine Kd.R_lit (Kd.int .i64) _ 2 ?hg (N := 25) ?hd (xs := ([] : List Int)) (inner := []) (ok := fun _ => True) (okp := fun _ => True) ?hr ?hp (fun _ hk => hk) trivial (Below.refl _ _) (Nat.le_refl _) dq20 ?_; (case hd => rfl); (case hg => rfl); (case hr => exact dq0); (case hp => exact (Reps.none _ _)); intro v360 w8 ho9 hb hg_ hnew_; clear hg_ hnew_; (first | rw [← Ny359.out] at ho9 | (simp only [Int.reduceToNat] at ho9; rw [← Ny359.out] at ho9)); have n0_ := Aside0.mk (Kd.R_lower ho9 (below_size dq25)); have n1_ := Aside0.mk (below_step dq25 hb); clear HB; have HO361 := n0_; have HB := n1_; clear n0_ n1_; clear hb ho9))
  go_loopg [3, 4, 28] kj1 (fun kq v3 v4 v28 w' => ∃ (x3_2 : Int) (x4_2 : List Int) (x28_2 : Int), v3 = .int .i64 x3_2 ∧ v28 = .int .i64 x28_2 ∧ Aside0 (impl_DocOk.l0 kq l0 x3_2 x4_2 l0 (l0.length : Int) x28_2 = some r) ∧ Aside0 (kq ≤ kj1) ∧ Aside0 (Kd.R (Kd.int .i64) 2 w' w.heap.size (fun _ => True) v4 x4_2) ∧ Aside0 (Below w.heap.size w w'))
  case atStart => exact ⟨(0), (y359), (0), dq17, dq17, H', ⟨Nat.le_refl _⟩, ⟨by (with_reducible repeat (first | apply Kd.R_alloc | apply Kd.R_drewN | apply Kd.R_drew)); exact HO361.out⟩, ⟨dq25⟩⟩
  clear H'
  obtain ⟨x3_2, x4_2, x28_2, rfl, rfl, HA, HK2, HO_4, HB⟩ := hrel
  cases gk with
  | zero => exact absurd HA.out (by simp [impl_DocOk.l0])
  | succ k2 =>
   have H := HA.out
   clear HA
   simp only [impl_DocOk.l0] at H
   by_cases c10 : x28_2 < (l0.length : Int)
   rotate_left
   ·rw [if_neg c10] at H
    have c10b0 := decide_eq_false c10
    clear c10
    obtain rfl := Option.some.inj H
    go_wp2
    go_ret
    exact ⟨dq27, dq25⟩
   rw [if_pos c10] at H
   have c10b0 := decide_eq_true c10
   clear c10
   by_cases c11 : 0 ≤ x28_2
   rotate_left
   ·rw [if_neg c11] at H
    exact absurd H dq20
   rw [if_pos c11] at H
   have c11b0 := decide_eq_true c11
   clear c11
   by_cases c12 : x28_2 < (l0.length : Int)
   rotate_left
   ·rw [if_neg c12] at H
    exact absurd H dq20
   rw [if_pos c12] at H
   have c12b0 := decide_eq_true c12
   clear c12
   replace H := Option.bind_eq_some_iff.mp H
   obtain ⟨t364, A130, H⟩ := H
   replace H : (if t364 = true then ((impl_Item_bytes.f k2 ((rd_T65 l0 x28_2).f0) ((rd_T65 l0 x28_2).f1) ((rd_T65 l0 x28_2).f2) ((rd_T65 l0 x28_2).f3)).bind fun t365 => (impl_DocOk.l1 k2 l0 (wrap64 (x3_2 + t365)) x4_2 x28_2 l0 (l0.length : Int) x28_2 ((rd_T65 l0 x28_2).f0) ((rd_T65 l0 x28_2).f1) ((rd_T65 l0 x28_2).f2) ((rd_T65 l0 x28_2).f3))) else (some false)) = some r := H
   have A13 := Aside0.mk A130
   clear A130
   by_cases c14 : t364 = true
   rotate_left
   ·replace c14 := Bool.eq_false_iff.mpr c14
    subst c14
    have H1 : (some false) = some r := by rw [if_neg (show ¬ (false = true) by decide)] at H; exact H
    clear H
    have H := H1
    clear H1
    obtain rfl := Option.some.inj H
    have p362 : 0 ≤ (x28_2 : Int) := of_decide_eq_true dq18
    have q362 : x28_2 < (l0.length : Int) := of_decide_eq_true dq18
    obtain ⟨ad362, A362_3, c362_3, e362, hx362_0, hx362_1, hx362_2, hx362_3, hl362_3, hi362_3⟩ := at_T65 HR0.out x28_2 p362 q362
    cases e362
    replace hx362_0 := (HB.out.cell (World.block_lt_of_cell? w _ hx362_0)).trans hx362_0
    replace hx362_1 := (HB.out.cell (World.block_lt_of_cell? w _ hx362_1)).trans hx362_1
    replace hx362_2 := (HB.out.cell (World.block_lt_of_cell? w _ hx362_2)).trans hx362_2
    replace hx362_3 := (HB.out.cell (World.block_lt_of_cell? w _ hx362_3)).trans hx362_3
    have HR362_3 := Aside0.mk hi362_3
    have HC362_3 := Aside0.mk hl362_3
    clear hi362_3 hl362_3
    replace p362 := eq_true p362
    replace q362 := eq_true q362
    go_wp2_with (first | ((with_reducible refine gate_dst (N := 6) rfl ?_); (try (refine gate_guard (by rfl) ?_; dsimp only)); refine box_event ?hg (N := 6) ?hd (cs := #[.int .i64 0, .string (⟨#[]⟩ : ByteArray), .string (⟨#[]⟩ : ByteArray), .slice none 0 0]) (t := 65) ?hr ?_; (case hd => rfl); (case hg => rfl); (case hr => exact dq0); intro gb363 hg w55 hbox hb; have n0_ := Aside0.mk (Kd.R_below dq28 hb); have n1_ := Aside0.mk (below_step dq25 hb); have n2_ := Aside0.mk (hbox); have n3_ := Aside0.mk ((dq32 : w.heap.size ≤ gb363)); have n4_ := Aside0.mk ((dq32 : w.heap.size ≤ gb363)); clear HO_4; clear HB; have HO_4 := n0_; have HB := n1_; have BK363 := n2_; have GW363 := n3_; have GE363 := n4_; clear n0_ n1_ n2_ n3_ n4_; clear hb hbox hg; obtain ⟨⟨hcz56_0, hcz56_1, hcz56_2, hcz56_3⟩, hfz56_0, hfz56_1, hfz56_2, hfz56_3⟩ := blkC4 BK363.out) | (go_at_call 104; (with_reducible refine (impl_Item_isGood.calls k2 ((rd_T65 l0 x28_2).f0) ((rd_T65 l0 x28_2).f1) ((rd_T65 l0 x28_2).f2) _ _ ((rd_T65 l0 x28_2).f3) false _ ?side3 ?side1 ?side2 A13.out).mono ?_); (case side1 => exact dq5); (case side2 => exact HC362_3.out); (case side3 => exact dq6); rintro e w57 ⟨rfl, hb⟩; have n0_ := Aside0.mk (Kd.R_below dq75 hb); have n1_ := Aside0.mk (blk_below (g := gb363) (o := .cells #[.int .i64 ((rd_T65 l0 x28_2).f0), .string ((rd_T65 l0 x28_2).f1), .string ((rd_T65 l0 x28_2).f2), .slice A362_3 ((rd_T65 l0 x28_2).f3).length c362_3] 65 (0, 0)) dq74 hb); have n2_ := Aside0.mk (below_step dq72 hb); clear HO_4; clear BK363; clear HB; have HO_4 := n0_; have BK363 := n1_; have HB := n2_; clear n0_ n1_ n2_; (try clear hb); (try clear hb2); (try clear hk); (try clear hi)))
    go_ret
    exact ⟨dq27, dq72⟩
   subst c14
   have H1 : ((impl_Item_bytes.f k2 ((rd_T65 l0 x28_2).f0) ((rd_T65 l0 x28_2).f1) ((rd_T65 l0 x28_2).f2) ((rd_T65 l0 x28_2).f3)).bind fun t365 => (impl_DocOk.l1 k2 l0 (wrap64 (x3_2 + t365)) x4_2 x28_2 l0 (l0.length : Int) x28_2 ((rd_T65 l0 x28_2).f0) ((rd_T65 l0 x28_2).f1) ((rd_T65 l0 x28_2).f2) ((rd_T65 l0 x28_2).f3))) = some r := by rw [if_pos rfl] at H; exact H
   clear H
   have H := H1
   clear H1
   replace H := Option.bind_eq_some_iff.mp H
   obtain ⟨t365, A150, H⟩ := H
   replace H : (impl_DocOk.l1 k2 l0 (wrap64 (x3_2 + t365)) x4_2 x28_2 l0 (l0.length : Int) x28_2 ((rd_T65 l0 x28_2).f0) ((rd_T65 l0 x28_2).f1) ((rd_T65 l0 x28_2).f2) ((rd_T65 l0 x28_2).f3)) = some r := H
   have A15 := Aside0.mk A150
   clear A150
   have HC16 := Aside0.mk H
   clear H
   have p362 : 0 ≤ (x28_2 : Int) := of_decide_eq_true dq18
   have q362 : x28_2 < (l0.length : Int) := of_decide_eq_true dq18
   obtain ⟨ad362, A362_3, c362_3, e362, hx362_0, hx362_1, hx362_2, hx362_3, hl362_3, hi362_3⟩ := at_T65 HR0.out x28_2 p362 q362
   cases e362
   replace hx362_0 := (HB.out.cell (World.block_lt_of_cell? w _ hx362_0)).trans hx362_0
   replace hx362_1 := (HB.out.cell (World.block_lt_of_cell? w _ hx362_1)).trans hx362_1
   replace hx362_2 := (HB.out.cell (World.block_lt_of_cell? w _ hx362_2)).trans hx362_2
   replace hx362_3 := (HB.out.cell (World.block_lt_of_cell? w _ hx362_3)).trans hx362_3
   have HR362_3 := Aside0.mk hi362_3
   have HC362_3 := Aside0.mk hl362_3
   clear hi362_3 hl362_3
   replace p362 := eq_true p362
   replace q362 := eq_true q362
   go_upto_block 2 with (first | ((with_reducible refine gate_dst (N := 6) rfl ?_); (try (refine gate_guard (by rfl) ?_; dsimp only)); refine box_event ?hg (N := 6) ?hd (cs := #[.int .i64 0, .string (⟨#[]⟩ : ByteArray), .string (⟨#[]⟩ : ByteArray), .slice none 0 0]) (t := 65) ?hr ?_; (case hd => rfl); (case hg => rfl); (case hr => exact dq0); intro gb363 hg w17 hbox hb; have n0_ := Aside0.mk (Kd.R_below dq28 hb); have n1_ := Aside0.mk (below_step dq25 hb); have n2_ := Aside0.mk (hbox); have n3_ := Aside0.mk ((dq32 : w.heap.size ≤ gb363)); have n4_ := Aside0.mk ((dq32 : w.heap.size ≤ gb363)); clear HO_4; clear HB; have HO_4 := n0_; have HB := n1_; have BK363 := n2_; have GW363 := n3_; have GE363 := n4_; clear n0_ n1_ n2_ n3_ n4_; clear hb hbox hg; obtain ⟨⟨hcz18_0, hcz18_1, hcz18_2, hcz18_3⟩, hfz18_0, hfz18_1, hfz18_2, hfz18_3⟩ := blkC4 BK363.out) | (go_at_call 104; (with_reducible refine (impl_Item_isGood.calls k2 ((rd_T65 l0 x28_2).f0) ((rd_T65 l0 x28_2).f1) ((rd_T65 l0 x28_2).f2) _ _ ((rd_T65 l0 x28_2).f3) true _ ?side3 ?side1 ?side2 A13.out).mono ?_); (case side1 => exact dq5); (case side2 => exact HC362_3.out); (case side3 => exact dq6); rintro e w19 ⟨rfl, hb⟩; have n0_ := Aside0.mk (Kd.R_below dq75 hb); have n1_ := Aside0.mk (blk_below (g := gb363) (o := .cells #[.int .i64 ((rd_T65 l0 x28_2).f0), .string ((rd_T65 l0 x28_2).f1), .string ((rd_T65 l0 x28_2).f2), .slice A362_3 ((rd_T65 l0 x28_2).f3).length c362_3] 65 (0, 0)) dq74 hb); have n2_ := Aside0.mk (below_step dq72 hb); clear HO_4; clear BK363; clear HB; have HO_4 := n0_; have BK363 := n1_; have HB := n2_; clear n0_ n1_ n2_; (try clear hb); (try clear hb2); (try clear hk); (try clear hi); obtain ⟨⟨hcz20_0, hcz20_1, hcz20_2, hcz20_3⟩, hfz20_0, hfz20_1, hfz20_2, hfz20_3⟩ := blkC4 BK363.out) | (go_at_call 105; (with_reducible refine (impl_Item_bytes.calls k2 ((rd_T65 l0 x28_2).f0) ((rd_T65 l0 x28_2).f1) ((rd_T65 l0 x28_2).f2) _ _ ((rd_T65 l0 x28_2).f3) t365 _ ?side1 ?side2 A15.out).mono ?_); (case side1 => repeat (first | exact (Kd.C_below HR362_3.out HB.out) | (with_reducible refine Kd.C_alloc ?_ _) | (with_reducible refine Kd.C_drewN ?_ _) | (with_reducible refine Kd.C_drew ?_))); (case side2 => exact HC362_3.out); rintro e w21 ⟨rfl, hb⟩; have n0_ := Aside0.mk (Kd.R_below dq28 hb); have n1_ := Aside0.mk (blk_below (g := gb363) (o := .cells #[.int .i64 ((rd_T65 l0 x28_2).f0), .string ((rd_T65 l0 x28_2).f1), .string ((rd_T65 l0 x28_2).f2), .slice A362_3 ((rd_T65 l0 x28_2).f3).length c362_3] 65 (0, 0)) dq73 hb); have n2_ := Aside0.mk (below_step dq72 hb); clear HO_4; clear BK363; clear HB; have HO_4 := n0_; have BK363 := n1_; have HB := n2_; clear n0_ n1_ n2_; (try clear hb); (try clear hb2); (try clear hk); (try clear hi)))
   (try simp only [Act.put, List.setIfInBounds_toArray, List.set_cons_zero, List.set_cons_succ])
   go_cut [4] (fun v4 wc => ∃ (kq : Nat) (x4_15 : List Int), Aside0 (impl_DocOk.j3 kq l0 (wrap64 (x3_2 + t365)) x4_15 x28_2 l0 (l0.length : Int) x28_2 ((rd_T65 l0 x28_2).f0) ((rd_T65 l0 x28_2).f1) ((rd_T65 l0 x28_2).f2) ((rd_T65 l0 x28_2).f3) = some r) ∧ Aside0 (kq ≤ k2) ∧ Aside0 (Kd.R (Kd.int .i64) 2 wc w.heap.size (fun _ => True) v4 x4_15) ∧ Aside0 (wc.heap[gb363]? = some (.cells #[.int .i64 ((rd_T65 l0 x28_2).f0), .string ((rd_T65 l0 x28_2).f1), .string ((rd_T65 l0 x28_2).f2), (.slice A362_3 ((rd_T65 l0 x28_2).f3).length c362_3)] 65 (0, 0))) ∧ Aside0 (Below w.heap.size w wc))
   case first =>
    have H := HC16.out
    clear HC16
    have H' := Aside0.mk H
    clear H
    go_wp2
    go_loopg [4] k2 (fun kq v4 w' => ∃ (x4_3 : List Int), Aside0 (impl_DocOk.l1 kq l0 (wrap64 (x3_2 + t365)) x4_3 x28_2 l0 (l0.length : Int) x28_2 ((rd_T65 l0 x28_2).f0) ((rd_T65 l0 x28_2).f1) ((rd_T65 l0 x28_2).f2) ((rd_T65 l0 x28_2).f3) = some r) ∧ Aside0 (kq ≤ k2) ∧ Aside0 (Kd.R (Kd.int .i64) 2 w' w.heap.size (fun _ => True) v4 x4_3) ∧ Aside0 (w'.heap[gb363]? = some (.cells #[.int .i64 ((rd_T65 l0 x28_2).f0), .string ((rd_T65 l0 x28_2).f1), .string ((rd_T65 l0 x28_2).f2), (.slice A362_3 ((rd_T65 l0 x28_2).f3).length c362_3)] 65 (0, 0))) ∧ Aside0 (Below w.heap.size w w'))
    case atStart => exact ⟨(x4_2), H', ⟨Nat.le_refl _⟩, ⟨dq28⟩, ⟨dq73⟩, ⟨dq72⟩⟩
    clear H'
    try clear c10b0
    try clear c11b0
    try clear c12b0
    try clear hcz18_0
    try clear hcz18_1
    try clear hcz18_2
    try clear hcz18_3
    try clear hcz20_0
    try clear hcz20_1
    try clear hcz20_2
    try clear hcz20_3
    try clear hfz18_0
    try clear hfz18_1
    try clear hfz18_2
    try clear hfz18_3
    try clear hfz20_0
    try clear hfz20_1
    try clear hfz20_2
    try clear hfz20_3
    try clear hx362_0
    try clear hx362_1
    try clear hx362_2
    try clear hx362_3
    try clear p362
    try clear q362
    obtain ⟨x4_3, HA, HK3, HO_4, BK363, HB⟩ := hrel
    cases gk with
    | zero => exact absurd HA.out (by simp [impl_DocOk.l1])
    | succ k3 =>
     have H := HA.out
     clear HA
     simp only [impl_DocOk.l1] at H
     by_cases c22 : (x4_3.length : Int) > 0
     rotate_left
     ·rw [if_neg c22] at H
      have c22b0 : decide (0 < (x4_3.length : Int)) = false := decide_eq_false c22
      have c22b1 : decide (0 < x4_3.length) = false := decide_eq_false dq23
      clear c22
      (first | rw [c22b0] | (simp only [i64_w, i32_w]; rw [c22b0]) | skip)
      have H' := Aside0.mk H
      clear H
      obtain ⟨Ao33, co33, eo33⟩ := Kd.R_slice HO_4.out
      subst eo33
      go_wp2
      repeat (go_quiet (fail); try go_wp2)
      go_meet
      case rel => exact ⟨_, (x4_3), H', ⟨dq35⟩, ⟨dq28⟩, ⟨dq73⟩, ⟨dq72⟩⟩
     rw [if_pos c22] at H
     have c22b0 : decide (0 < (x4_3.length : Int)) = true := decide_eq_true c22
     have c22b1 : decide (0 < x4_3.length) = true := decide_eq_true dq23
     clear c22
     (first | rw [c22b0] | (simp only [i64_w, i32_w]; rw [c22b0]) | skip)
     obtain ⟨ji23, hji23⟩ : ∃ j_ : Int, (wrap64 ((x4_3.length : Int) - 1)) = j_ := ⟨_, rfl⟩
     replace H : (if 0 ≤ (ji23) then (if (ji23) < (x4_3.length : Int) then (if (rd x4_3 (ji23)) = ((rd_T65 l0 x28_2).f0) then (impl_DocOk.j3 k3 l0 (wrap64 (x3_2 + t365)) x4_3 x28_2 l0 (l0.length : Int) x28_2 ((rd_T65 l0 x28_2).f0) ((rd_T65 l0 x28_2).f1) ((rd_T65 l0 x28_2).f2) ((rd_T65 l0 x28_2).f3)) else (if (ji23) ≤ (x4_3.length : Int) then (impl_DocOk.l1 k3 l0 (wrap64 (x3_2 + t365)) (x4_3.take ((ji23) : Int).toNat) x28_2 l0 (l0.length : Int) x28_2 ((rd_T65 l0 x28_2).f0) ((rd_T65 l0 x28_2).f1) ((rd_T65 l0 x28_2).f2) ((rd_T65 l0 x28_2).f3)) else (none))) else (none)) else (none)) = some r := by first | (rw [hji23] at H; exact H) | (simp only [hji23] at H ⊢; exact H)
     have hji23w : (IntKind.i64.wrap ((x4_3.length : Int) - 1)) = ji23 := (i64_w _).trans hji23
     by_cases c24 : 0 ≤ (ji23)
     rotate_left
     ·rw [if_neg c24] at H
      exact absurd H dq20
     rw [if_pos c24] at H
     have c24b0 := decide_eq_true c24
     clear c24
     by_cases c25 : (ji23) < (x4_3.length : Int)
     rotate_left
     ·rw [if_neg c25] at H
      exact absurd H dq20
     rw [if_pos c25] at H
     have c25b0 := decide_eq_true c25
     clear c25
     by_cases c26 : (rd x4_3 (ji23)) = ((rd_T65 l0 x28_2).f0)
     ·rw [if_pos c26] at H
      have c26b0 := beq_iff_eq.mpr c26
      have c26b1 := bne_eq_false_iff_eq.mpr c26
      clear c26
      have H' := Aside0.mk H
      clear H
      obtain ⟨Ao27, co27, eo27⟩ := Kd.R_slice HO_4.out
      subst eo27
      have p366 : 0 ≤ ((ji23) : Int) := of_decide_eq_true dq18
      have q366 : (ji23) < (x4_3.length : Int) := of_decide_eq_true dq18
      obtain ⟨ad366, e366, hx366_0⟩ := Kd.at_int (Kd.R_reads' HO_4.out).2.2 (ji23) p366 q366
      cases e366
      replace p366 := eq_true p366
      replace q366 := eq_true q366
      obtain ⟨⟨hcz28_0, hcz28_1, hcz28_2, hcz28_3⟩, hfz28_0, hfz28_1, hfz28_2, hfz28_3⟩ := blkC4 BK363.out
      go_wp2
      repeat (go_quiet (fail); try go_wp2)
      go_meet
      case rel => exact ⟨_, (x4_3), H', ⟨dq35⟩, ⟨dq28⟩, ⟨dq73⟩, ⟨dq72⟩⟩
     rw [if_neg c26] at H
     have c26b0 := beq_eq_false_iff_ne.mpr c26
     have c26b1 := bne_iff_ne.mpr c26
     by_cases c29 : (ji23) ≤ (x4_3.length : Int)
     rotate_left
     ·rw [if_neg c29] at H
      exact absurd H dq20
     rw [if_pos c29] at H
     have c29b0 := eq_true c29
     have c29b1 := decide_eq_true c29
     clear c29
     obtain ⟨y367, hy367⟩ : ∃ y_ : List Int, y_ = (x4_3.take ((ji23) : Int).toNat) := ⟨_, rfl⟩
     replace H : (impl_DocOk.l1 k3 l0 (wrap64 (x3_2 + t365)) y367 x28_2 l0 (l0.length : Int) x28_2 ((rd_T65 l0 x28_2).f0) ((rd_T65 l0 x28_2).f1) ((rd_T65 l0 x28_2).f2) ((rd_T65 l0 x28_2).f3)) = some r := by first | (rw [hy367]; with_reducible exact H) | (have H2_ := (Option.bind_some _ _).symm.trans H; rw [hy367]; with_reducible exact H2_) | (have H2_ := (Option.bind_some _ _).symm.trans H; with_reducible exact H2_) | with_reducible exact H | (rw [hy367]; exact H) | exact H
     have Ny367 := Aside0.mk hy367
     clear hy367
     have H' := Aside0.mk H
     clear H
     obtain ⟨Ao30, co30, eo30⟩ := Kd.R_slice HO_4.out
     subst eo30
     have p366 : 0 ≤ ((ji23) : Int) := of_decide_eq_true dq18
     have q366 : (ji23) < (x4_3.length : Int) := of_decide_eq_true dq18
     obtain ⟨ad366, e366, hx366_0⟩ := Kd.at_int (Kd.R_reads' HO_4.out).2.2 (ji23) p366 q366
     cases e366
     replace p366 := eq_true p366
     replace q366 := eq_true q366
     obtain ⟨⟨hcz31_0, hcz31_1, hcz31_2, hcz31_3⟩, hfz31_0, hfz31_1, hfz31_2, hfz31_3⟩ := blkC4 BK363.out
     have q32 : ((ji23) : Int) ≤ ((x4_3.length : Int) : Int) := of_decide_eq_true dq18
     obtain ⟨i032, hi032, _, hsz32, _⟩ := info_parts info2
     have hcut32 := cut_to (P := Tryz.prog) 47 2 .i64 Tryz.underlying47 hi032 (some ad366) x4_3.length co30 (ji23) (of_decide_eq_true dq18) q32 (Kd.R_reads' HO_4.out).2.1
     have hr32 := Kd.R_take (m := ((ji23) : Int).toNat) HO_4.out dq23
     have hy32 : y367.length = ((ji23) : Int).toNat := (by rw [Ny367.out, List.length_take]; omega)
     rw [← Ny367.out] at hr32
     rw [← hy32] at hr32 hcut32
     clear hy32 hi032 hsz32 HO_4
     have HO369 := Aside0.mk hr32
     clear hr32
     replace q32 := eq_true q32
     go_wp2
     repeat (go_quiet (fail); try go_wp2)
     go_roundg k3
     case measure => have := HJ1.out; have := HK2.out; have := HK3.out; omega
     case rel => exact ⟨(y367), H', ⟨by have := HJ1.out; have := HK2.out; have := HK3.out; omega⟩, ⟨by (with_reducible repeat (first | apply Kd.R_alloc | apply Kd.R_drewN | apply Kd.R_drew)); exact HO369.out⟩, ⟨dq73⟩, ⟨dq72⟩⟩
   clear HC16
   try clear c10b0
   try clear c11b0
   try clear c12b0
   try clear hcz18_0
   try clear hcz18_1
   try clear hcz18_2
   try clear hcz18_3
   try clear hcz20_0
   try clear hcz20_1
   try clear hcz20_2
   try clear hcz20_3
   try clear hfz18_0
   try clear hfz18_1
   try clear hfz18_2
   try clear hfz18_3
   try clear hfz20_0
   try clear hfz20_1
   try clear hfz20_2
   try clear hfz20_3
   try clear hx362_0
   try clear hx362_1
   try clear hx362_2
   try clear hx362_3
   try clear p362
   try clear q362
   obtain ⟨kq, x4_15, HA, HJ15, HO_4, BK363, HB⟩ := hcut
   cases kq with
   | zero => exact absurd HA.out (by simp [impl_DocOk.j3])
   | succ kj15 =>
    have H := HA.out
    clear HA
    simp only [impl_DocOk.j3] at H
    have HC34 := Aside0.mk H
    clear H
    go_upto_region 12 with (fail)
    go_cut [70] (fun v70 wc => ∃ (kq : Nat) (x70_33 : Bool), v70 = .bool x70_33 ∧ Aside0 (impl_DocOk.j4 kq l0 (wrap64 (x3_2 + t365)) x4_15 x28_2 l0 (l0.length : Int) x28_2 x70_33 ((rd_T65 l0 x28_2).f0) ((rd_T65 l0 x28_2).f1) ((rd_T65 l0 x28_2).f2) ((rd_T65 l0 x28_2).f3) = some r) ∧ Aside0 (kq ≤ kj15) ∧ Aside0 (Kd.R (Kd.int .i64) 2 wc w.heap.size (fun _ => True) u4 x4_15) ∧ Aside0 (wc.heap[gb363]? = some (.cells #[.int .i64 ((rd_T65 l0 x28_2).f0), .string ((rd_T65 l0 x28_2).f1), .string ((rd_T65 l0 x28_2).f2), (.slice A362_3 ((rd_T65 l0 x28_2).f3).length c362_3)] 65 (0, 0))) ∧ Aside0 (Below w.heap.size w wc))
    case first =>
     have H := HC34.out
     clear HC34
     by_cases c35 : x28_2 > 0
     rotate_left
     ·rw [if_neg c35] at H
      have c35b0 : decide (0 < x28_2) = false := decide_eq_false c35
      clear c35
      (first | rw [c35b0] | (simp only [i64_w, i32_w]; rw [c35b0]) | skip)
      have H' := Aside0.mk H
      clear H
      obtain ⟨Ao39, co39, eo39⟩ := Kd.R_slice HO_4.out
      subst eo39
      go_wp2
      go_meet
      case rel => exact ⟨_, (decide ((x4_15.length : Int) ≥ 20)), dq17, H', ⟨dq76⟩, ⟨dq28⟩, ⟨dq73⟩, ⟨dq72⟩⟩
     rw [if_pos c35] at H
     have c35b0 : decide (0 < x28_2) = true := decide_eq_true c35
     clear c35
     (first | rw [c35b0] | (simp only [i64_w, i32_w]; rw [c35b0]) | skip)
     by_cases c36 : (x4_15.length : Int) = 0
     ·rw [if_pos c36] at H
      have c36b0 := beq_iff_eq.mpr c36
      have c36b1 := bne_eq_false_iff_eq.mpr c36
      clear c36
      have H' := Aside0.mk H
      clear H
      obtain ⟨Ao37, co37, eo37⟩ := Kd.R_slice HO_4.out
      subst eo37
      go_wp2
      go_meet
      case rel => exact ⟨_, (true), dq17, H', ⟨dq76⟩, ⟨dq28⟩, ⟨dq73⟩, ⟨dq72⟩⟩
     rw [if_neg c36] at H
     have c36b0 := beq_eq_false_iff_ne.mpr c36
     have c36b1 := bne_iff_ne.mpr c36
     have c36b2 : ¬ (x4_15 = []) := fun h_ => c36 (by rw [h_]; rfl)
     have H' := Aside0.mk H
     clear H
     obtain ⟨Ao38, co38, eo38⟩ := Kd.R_slice HO_4.out
     subst eo38
     go_wp2
     go_meet
     case rel => exact ⟨_, (decide ((x4_15.length : Int) ≥ 20)), dq17, H', ⟨dq76⟩, ⟨dq28⟩, ⟨dq73⟩, ⟨dq72⟩⟩
    clear HC34
    obtain ⟨kq, x70_33, rfl, HA, HJ33, HO_4, BK363, HB⟩ := hcut
    cases kq with
    | zero => exact absurd HA.out (by simp [impl_DocOk.j4])
    | succ kj33 =>
     have H := HA.out
     clear HA
     simp only [impl_DocOk.j4] at H
     by_cases c40 : x70_33 = true
     ·subst c40
      have H1 : (some false) = some r := by rw [if_pos rfl] at H; exact H
      clear H
      have H := H1
      clear H1
      obtain rfl := Option.some.inj H
      go_wp2
      go_ret
      exact ⟨dq27, dq72⟩
     replace c40 := Bool.eq_false_iff.mpr c40
     subst c40
     have H1 : (if ((rd_T65 l0 x28_2).f1).toList = ([] : List UInt8) then (if x28_2 > 0 then (if 0 ≤ (wrap64 (x28_2 - 1)) then (if (wrap64 (x28_2 - 1)) < (l0.length : Int) then (if ((rd_T65 l0 (wrap64 (x28_2 - 1))).f1).toList = ([] : List UInt8) then (if ((rd_T65 l0 (wrap64 (x28_2 - 1))).f0) = ((rd_T65 l0 x28_2).f0) then (some false) else (impl_DocOk.l0 kj33 l0 (wrap64 (x3_2 + t365)) x4_15 l0 (l0.length : Int) (wrap64 (x28_2 + 1)))) else (impl_DocOk.l0 kj33 l0 (wrap64 (x3_2 + t365)) x4_15 l0 (l0.length : Int) (wrap64 (x28_2 + 1)))) else (none)) else (none)) else (impl_DocOk.l0 kj33 l0 (wrap64 (x3_2 + t365)) x4_15 l0 (l0.length : Int) (wrap64 (x28_2 + 1)))) else (if x4_15.length < 17592186044416 then (impl_DocOk.l0 kj33 l0 (wrap64 (x3_2 + t365)) (x4_15 ++ [x28_2]) l0 (l0.length : Int) (wrap64 (x28_2 + 1))) else (none))) = some r := by rw [if_neg (show ¬ (false = true) by decide)] at H; exact H
     clear H
     have H := H1
     clear H1
     by_cases c41 : ((rd_T65 l0 x28_2).f1).toList = ([] : List UInt8)
     rotate_left
     ·rw [if_neg c41] at H
      have c41b0 := beq_eq_false_iff_ne.mpr c41
      have c41b1 := bne_iff_ne.mpr c41
      by_cases c52 : x4_15.length < 17592186044416
      rotate_left
      ·rw [if_neg c52] at H
       exact absurd H dq20
      rw [if_pos c52] at H
      have LMc52 := Aside0.mk c52
      clear c52
      obtain ⟨y372, hy372⟩ : ∃ y_ : List Int, y_ = (x4_15 ++ [x28_2]) := ⟨_, rfl⟩
      replace H : (impl_DocOk.l0 kj33 l0 (wrap64 (x3_2 + t365)) y372 l0 (l0.length : Int) (wrap64 (x28_2 + 1))) = some r := by first | (rw [hy372]; with_reducible exact H) | (have H2_ := (Option.bind_some _ _).symm.trans H; rw [hy372]; with_reducible exact H2_) | (have H2_ := (Option.bind_some _ _).symm.trans H; with_reducible exact H2_) | with_reducible exact H | (rw [hy372]; exact H) | exact H
      have Ny372 := Aside0.mk hy372
      clear hy372
      have H' := Aside0.mk H
      clear H
      obtain ⟨⟨hcz53_0, hcz53_1, hcz53_2, hcz53_3⟩, hfz53_0, hfz53_1, hfz53_2, hfz53_3⟩ := blkC4 BK363.out
      go_wp2_with (first | ((with_reducible refine gate_builtin (b := .append) (xs := #[.tmp 74, .tmp 76]) rfl ?_); (try (refine gate_guard (by rfl) ?_; dsimp only)); at_builtin; refine Kd.R_append (Kd.int .i64) (w0 := w) w.heap.size rfl (.tmp 74) (.tmp 76) 47 2 (.int .i64 0) 8 rfl Tryz.underlying47 info2 rfl dq29 dq23 u4 x4_15 x28_2 [.int .i64 x28_2] (fun _ => True) (fun _ => False) rfl rfl ?aP (fun _ hk => hk.elim) ?aF ?aO ?aB ?aS ?aL ?_; (case aP => exact rfl); (case aB => exact dq72); (case aF => exact (fun _ _ => trivial)); (case aO => exact dq28); (case aS => exact (below_size dq72)); (case aL => have := LMc52.out; omega); intro v373 w54 ho hb hg hat; rw [← Ny372.out] at ho; have n0_ := Aside0.mk (blk_grown (g := gb363) (o := .cells #[.int .i64 ((rd_T65 l0 x28_2).f0), .string ((rd_T65 l0 x28_2).f1), .string ((rd_T65 l0 x28_2).f2), .slice A362_3 ((rd_T65 l0 x28_2).f3).length c362_3] 65 (0, 0)) dq73 hg (Kd.R_ne HO_4.out BK363.out dq29)); have n1_ := Aside0.mk (hb); have n2_ := Aside0.mk (ho); clear BK363; clear HB; clear HO_4; have BK363 := n0_; have HB := n1_; have HO374 := n2_; clear n0_ n1_ n2_; clear ho hb hg hat))
      go_roundg kj33
      case measure => have := HJ1.out; have := HK2.out; have := HJ15.out; have := HJ33.out; omega
      case rel => exact ⟨((wrap64 (x3_2 + t365))), (y372), (wrap64 (x28_2 + 1)), dq17, dq17, H', ⟨dq77⟩, ⟨by (with_reducible repeat (first | apply Kd.R_alloc | apply Kd.R_drewN | apply Kd.R_drew)); exact HO374.out⟩, ⟨dq72⟩⟩
     rw [if_pos c41] at H
     have c41b0 := beq_iff_eq.mpr c41
     have c41b1 := bne_eq_false_iff_eq.mpr c41
     clear c41
     by_cases c42 : x28_2 > 0
     rotate_left
     ·rw [if_neg c42] at H
      have c42b0 : decide (0 < x28_2) = false := decide_eq_false c42
      clear c42
      have H' := Aside0.mk H
      clear H
      obtain ⟨⟨hcz51_0, hcz51_1, hcz51_2, hcz51_3⟩, hfz51_0, hfz51_1, hfz51_2, hfz51_3⟩ := blkC4 BK363.out
      go_wp2
      repeat (go_quiet (fail); try go_wp2)
      go_roundg kj33
      case measure => have := HJ1.out; have := HK2.out; have := HJ15.out; have := HJ33.out; omega
      case rel => exact ⟨((wrap64 (x3_2 + t365))), (x4_15), (wrap64 (x28_2 + 1)), dq17, dq17, H', ⟨dq77⟩, ⟨dq28⟩, ⟨dq72⟩⟩
     rw [if_pos c42] at H
     have c42b0 : decide (0 < x28_2) = true := decide_eq_true c42
     clear c42
     obtain ⟨ji43, hji43⟩ : ∃ j_ : Int, (wrap64 (x28_2 - 1)) = j_ := ⟨_, rfl⟩
     replace H : (if 0 ≤ (ji43) then (if (ji43) < (l0.length : Int) then (if ((rd_T65 l0 (ji43)).f1).toList = ([] : List UInt8) then (if ((rd_T65 l0 (ji43)).f0) = ((rd_T65 l0 x28_2).f0) then (some false) else (impl_DocOk.l0 kj33 l0 (wrap64 (x3_2 + t365)) x4_15 l0 (l0.length : Int) (wrap64 (x28_2 + 1)))) else (impl_DocOk.l0 kj33 l0 (wrap64 (x3_2 + t365)) x4_15 l0 (l0.length : Int) (wrap64 (x28_2 + 1)))) else (none)) else (none)) = some r := by first | (rw [hji43] at H; exact H) | (simp only [hji43] at H ⊢; exact H)
     have hji43w : (IntKind.i64.wrap (x28_2 - 1)) = ji43 := (i64_w _).trans hji43
     by_cases c44 : 0 ≤ (ji43)
     rotate_left
     ·rw [if_neg c44] at H
      exact absurd H dq20
     rw [if_pos c44] at H
     have c44b0 := decide_eq_true c44
     clear c44
     by_cases c45 : (ji43) < (l0.length : Int)
     rotate_left
     ·rw [if_neg c45] at H
      exact absurd H dq20
     rw [if_pos c45] at H
     have c45b0 := decide_eq_true c45
     clear c45
     by_cases c46 : ((rd_T65 l0 (ji43)).f1).toList = ([] : List UInt8)
     rotate_left
     ·rw [if_neg c46] at H
      have c46b0 := beq_eq_false_iff_ne.mpr c46
      have c46b1 := bne_iff_ne.mpr c46
      have H' := Aside0.mk H
      clear H
      obtain ⟨⟨hcz50_0, hcz50_1, hcz50_2, hcz50_3⟩, hfz50_0, hfz50_1, hfz50_2, hfz50_3⟩ := blkC4 BK363.out
      have p370 : 0 ≤ ((ji43) : Int) := of_decide_eq_true dq18
      have q370 : (ji43) < (l0.length : Int) := of_decide_eq_true dq18
      obtain ⟨ad370, A370_3, c370_3, e370, hx370_0, hx370_1, hx370_2, hx370_3, hl370_3, hi370_3⟩ := at_T65 HR0.out (ji43) p370 q370
      obtain rfl : ad362 = ad370 := (by injection e370)
      replace hx370_0 := (HB.out.cell (World.block_lt_of_cell? w _ hx370_0)).trans hx370_0
      replace hx370_1 := (HB.out.cell (World.block_lt_of_cell? w _ hx370_1)).trans hx370_1
      replace hx370_2 := (HB.out.cell (World.block_lt_of_cell? w _ hx370_2)).trans hx370_2
      replace hx370_3 := (HB.out.cell (World.block_lt_of_cell? w _ hx370_3)).trans hx370_3
      have HR370_3 := Aside0.mk hi370_3
      have HC370_3 := Aside0.mk hl370_3
      clear hi370_3 hl370_3
      replace p370 := eq_true p370
      replace q370 := eq_true q370
      go_wp2
      repeat (go_quiet (fail); try go_wp2)
      go_roundg kj33
      case measure => have := HJ1.out; have := HK2.out; have := HJ15.out; have := HJ33.out; omega
      case rel => exact ⟨((wrap64 (x3_2 + t365))), (x4_15), (wrap64 (x28_2 + 1)), dq17, dq17, H', ⟨dq77⟩, ⟨dq28⟩, ⟨dq72⟩⟩
     rw [if_pos c46] at H
     have c46b0 := beq_iff_eq.mpr c46
     have c46b1 := bne_eq_false_iff_eq.mpr c46
     clear c46
     by_cases c47 : ((rd_T65 l0 (ji43)).f0) = ((rd_T65 l0 x28_2).f0)
     ·rw [if_pos c47] at H
      have c47b0 := beq_iff_eq.mpr c47
      have c47b1 := bne_eq_false_iff_eq.mpr c47
      clear c47
      obtain rfl := Option.some.inj H
      obtain ⟨⟨hcz48_0, hcz48_1, hcz48_2, hcz48_3⟩, hfz48_0, hfz48_1, hfz48_2, hfz48_3⟩ := blkC4 BK363.out
      have p370 : 0 ≤ ((ji43) : Int) := of_decide_eq_true dq18
      have q370 : (ji43) < (l0.length : Int) := of_decide_eq_true dq18
      obtain ⟨ad370, A370_3, c370_3, e370, hx370_0, hx370_1, hx370_2, hx370_3, hl370_3, hi370_3⟩ := at_T65 HR0.out (ji43) p370 q370
      obtain rfl : ad362 = ad370 := (by injection e370)
      replace hx370_0 := (HB.out.cell (World.block_lt_of_cell? w _ hx370_0)).trans hx370_0
      replace hx370_1 := (HB.out.cell (World.block_lt_of_cell? w _ hx370_1)).trans hx370_1
      replace hx370_2 := (HB.out.cell (World.block_lt_of_cell? w _ hx370_2)).trans hx370_2
      replace hx370_3 := (HB.out.cell (World.block_lt_of_cell? w _ hx370_3)).trans hx370_3
      have HR370_3 := Aside0.mk hi370_3
      have HC370_3 := Aside0.mk hl370_3
      clear hi370_3 hl370_3
      replace p370 := eq_true p370
      replace q370 := eq_true q370
      have p371 : 0 ≤ ((ji43) : Int) := of_decide_eq_true dq18
      have q371 : (ji43) < (l0.length : Int) := of_decide_eq_true dq18
      obtain ⟨ad371, A371_3, c371_3, e371, hx371_0, hx371_1, hx371_2, hx371_3, hl371_3, hi371_3⟩ := at_T65 HR0.out (ji43) p371 q371
      obtain rfl : ad362 = ad371 := (by injection e371)
      replace hx371_0 := (HB.out.cell (World.block_lt_of_cell? w _ hx371_0)).trans hx371_0
      replace hx371_1 := (HB.out.cell (World.block_lt_of_cell? w _ hx371_1)).trans hx371_1
      replace hx371_2 := (HB.out.cell (World.block_lt_of_cell? w _ hx371_2)).trans hx371_2
      replace hx371_3 := (HB.out.cell (World.block_lt_of_cell? w _ hx371_3)).trans hx371_3
      have HR371_3 := Aside0.mk hi371_3
      have HC371_3 := Aside0.mk hl371_3
      clear hi371_3 hl371_3
      replace p371 := eq_true p371
      replace q371 := eq_true q371
      have ea_ := Option.some.inj (hx370_3.symm.trans hx371_3)
      injection ea_ with ea_ en_ ec_
      subst ea_
      subst ec_
      clear en_
      go_wp2
      repeat (go_quiet (fail); try go_wp2)
      go_ret
      exact ⟨by first | rfl | (simp [errW_none, errW_some] <;> rfl) | (simp only [← hji43]; first | rfl | (simp [errW_none, errW_some] <;> rfl)) | (simp [*, errW_none, errW_some] <;> rfl), dq72⟩
     rw [if_neg c47] at H
     have c47b0 := beq_eq_false_iff_ne.mpr c47
     have c47b1 := bne_iff_ne.mpr c47
     have H' := Aside0.mk H
     clear H
     obtain ⟨⟨hcz49_0, hcz49_1, hcz49_2, hcz49_3⟩, hfz49_0, hfz49_1, hfz49_2, hfz49_3⟩ := blkC4 BK363.out
     have p370 : 0 ≤ ((ji43) : Int) := of_decide_eq_true dq18
     have q370 : (ji43) < (l0.length : Int) := of_decide_eq_true dq18
     obtain ⟨ad370, A370_3, c370_3, e370, hx370_0, hx370_1, hx370_2, hx370_3, hl370_3, hi370_3⟩ := at_T65 HR0.out (ji43) p370 q370
     obtain rfl : ad362 = ad370 := (by injection e370)
     replace hx370_0 := (HB.out.cell (World.block_lt_of_cell? w _ hx370_0)).trans hx370_0
     replace hx370_1 := (HB.out.cell (World.block_lt_of_cell? w _ hx370_1)).trans hx370_1
     replace hx370_2 := (HB.out.cell (World.block_lt_of_cell? w _ hx370_2)).trans hx370_2
     replace hx370_3 := (HB.out.cell (World.block_lt_of_cell? w _ hx370_3)).trans hx370_3
     have HR370_3 := Aside0.mk hi370_3
     have HC370_3 := Aside0.mk hl370_3
     clear hi370_3 hl370_3
     replace p370 := eq_true p370
     replace q370 := eq_true q370
     have p371 : 0 ≤ ((ji43) : Int) := of_decide_eq_true dq18
     have q371 : (ji43) < (l0.length : Int) := of_decide_eq_true dq18
     obtain ⟨ad371, A371_3, c371_3, e371, hx371_0, hx371_1, hx371_2, hx371_3, hl371_3, hi371_3⟩ := at_T65 HR0.out (ji43) p371 q371
     obtain rfl : ad362 = ad371 := (by injection e371)
     replace hx371_0 := (HB.out.cell (World.block_lt_of_cell? w _ hx371_0)).trans hx371_0
     replace hx371_1 := (HB.out.cell (World.block_lt_of_cell? w _ hx371_1)).trans hx371_1
     replace hx371_2 := (HB.out.cell (World.block_lt_of_cell? w _ hx371_2)).trans hx371_2
     replace hx371_3 := (HB.out.cell (World.block_lt_of_cell? w _ hx371_3)).trans hx371_3
     have HR371_3 := Aside0.mk hi371_3
     have HC371_3 := Aside0.mk hl371_3
     clear hi371_3 hl371_3
     replace p371 := eq_true p371
     replace q371 := eq_true q371
     have ea_ := Option.some.inj (hx370_3.symm.trans hx371_3)
     injection ea_ with ea_ en_ ec_
     subst ea_
     subst ec_
     clear en_
     go_wp2
     repeat (go_quiet (fail); try go_wp2)
     go_roundg kj33
     case measure => have := HJ1.out; have := HK2.out; have := HJ15.out; have := HJ33.out; omega
     case rel => exact ⟨((wrap64 (x3_2 + t365))), (x4_15), (wrap64 (x28_2 + 1)), dq17, dq17, H', ⟨dq77⟩, ⟨dq28⟩, ⟨dq72⟩⟩

/-! ### impl_has: function 72 -/
def impl_has.f (k : Nat) (l0 : List (S65)) (a1 : Int) : Option (Bool) := (impl_DocOk.f k l0).bind fun t375 => (if t375 = true then ((impl_in.f a1 0 (wrap64 ((l0.length : Int) - 1))).bind fun t376 => (some t376)) else (some false))
set_option maxHeartbeats 8000000 in
set_option maxRecDepth 100000 in
theorem impl_has.calls (k : Nat) (A0 : Option Addr) (c0 : Nat) (l0 : List (S65)) (a1 : Int) (r : Bool) (w : World) (hT : Gl w) (hr0 : Kd.C k65 w A0 l0.length l0) (hc0 : l0.length ≤ c0) (h : impl_has.f k l0 a1 = some r) :
  Calls Tryz.prog 72 #[.slice A0 l0.length c0, .int .i64 a1] w fun e w' => e = .returned (.bool r) ∧ Below w.heap.size w w' := by
 have HR0 := Aside0.mk hr0
 have HC0 := Aside0.mk hc0
 clear hr0 hc0
 have HT := Aside0.mk hT
 clear hT
 have HB := Aside0.mk (Below.refl w.heap.size w)
 have H : ((impl_DocOk.f k l0).bind fun t375 => (if t375 = true then ((impl_in.f a1 0 (wrap64 ((l0.length : Int) - 1))).bind fun t376 => (some t376)) else (some false))) = some r := h
 clear h
 replace H := Option.bind_eq_some_iff.mp H
 obtain ⟨t375, A30, H⟩ := H
 replace H : (if t375 = true then ((impl_in.f a1 0 (wrap64 ((l0.length : Int) - 1))).bind fun t376 => (some t376)) else (some false)) = some r := H
 have A3 := Aside0.mk A30
 clear A30
 by_cases c4 : t375 = true
 rotate_left
 ·replace c4 := Bool.eq_false_iff.mpr c4
  subst c4
  have H1 : (some false) = some r := by rw [if_neg (show ¬ (false = true) by decide)] at H; exact H
  clear H
  have H := H1
  clear H1
  obtain rfl := Option.some.inj H
  go_enter Tryz.func72, Tryz.ntmps72
  go_wp2_with (first | ((with_reducible refine gate_callee (f := 65) rfl ?_); refine goesL_ (some 6) rfl rfl Tryz.func65 dq22 rfl #[.slice A0 l0.length c0] rfl dq21 ?_; (with_reducible refine (impl_DocOk.calls k _ _ l0 false _ ?side3 ?side1 ?side2 A3.out).mono ?_); (case side1 => exact dq2); (case side2 => exact HC0.out); (case side3 => exact dq3); rintro e w7 ⟨rfl, hb⟩; refine ⟨_, rfl, ?_⟩; have n0_ := Aside0.mk (below_step dq25 hb); clear HB; have HB := n0_; clear n0_; (try clear hb); (try clear hb2); (try clear hk); (try clear hi)))
  go_ret
  exact ⟨dq27, dq25⟩
 subst c4
 have H1 : ((impl_in.f a1 0 (wrap64 ((l0.length : Int) - 1))).bind fun t376 => (some t376)) = some r := by rw [if_pos rfl] at H; exact H
 clear H
 have H := H1
 clear H1
 replace H := Option.bind_eq_some_iff.mp H
 obtain ⟨t376, A50, H⟩ := H
 replace H : (some t376) = some r := H
 have A5 := Aside0.mk A50
 clear A50
 obtain rfl := Option.some.inj H
 go_enter Tryz.func72, Tryz.ntmps72
 go_wp2_with (first | ((with_reducible refine gate_callee (f := 65) rfl ?_); refine goesL_ (some 6) rfl rfl Tryz.func65 dq22 rfl #[.slice A0 l0.length c0] rfl dq21 ?_; (with_reducible refine (impl_DocOk.calls k _ _ l0 true _ ?side3 ?side1 ?side2 A3.out).mono ?_); (case side1 => exact dq2); (case side2 => exact HC0.out); (case side3 => exact dq3); rintro e w6 ⟨rfl, hb⟩; refine ⟨_, rfl, ?_⟩; have n0_ := Aside0.mk (below_step dq25 hb); clear HB; have HB := n0_; clear n0_; (try clear hb); (try clear hb2); (try clear hk); (try clear hi)) | (go_at_call 99; (with_reducible refine (impl_in.calls a1 0 (wrap64 ((l0.length : Int) - 1)) t376 _ A5.out).mono ?_); rintro e w' ⟨rfl, ⟨nd, rfl⟩⟩))
 go_ret
 exact ⟨dq27, dq25⟩

theorem bne_nil_48 (l : List UInt8) : (l != ([] : List UInt8)) = !l.isEmpty := by cases l <;> rfl
theorem beq_nil_48 (l : List UInt8) : (l == ([] : List UInt8)) = l.isEmpty := by cases l <;> rfl
/-! ### impl_isElement: function 51 -/
def impl_isElement.f (k : Nat) (l0 : List (S65)) (a1 : Int) : Option (Bool) := (impl_has.f k l0 a1).bind fun t377 => (if t377 = true then (if 0 ≤ a1 then (if a1 < (l0.length : Int) then (some (((rd_T65 l0 a1).f1).toList != ([] : List UInt8))) else (none)) else (none)) else (some false))
set_option maxHeartbeats 8000000 in
set_option maxRecDepth 100000 in
theorem impl_isElement.calls (k : Nat) (A0 : Option Addr) (c0 : Nat) (l0 : List (S65)) (a1 : Int) (r : Bool) (w : World) (hT : Gl w) (hr0 : Kd.C k65 w A0 l0.length l0) (hc0 : l0.length ≤ c0) (h : impl_isElement.f k l0 a1 = some r) :
  Calls Tryz.prog 51 #[.slice A0 l0.length c0, .int .i64 a1] w fun e w' => e = .returned (.bool r) ∧ Below w.heap.size w w' := by
 have HR0 := Aside0.mk hr0
 have HC0 := Aside0.mk hc0
 clear hr0 hc0
 have HT := Aside0.mk hT
 clear hT
 have HB := Aside0.mk (Below.refl w.heap.size w)
 have H : ((impl_has.f k l0 a1).bind fun t377 => (if t377 = true then (if 0 ≤ a1 then (if a1 < (l0.length : Int) then (some (((rd_T65 l0 a1).f1).toList != ([] : List UInt8))) else (none)) else (none)) else (some false))) = some r := h
 clear h
 replace H := Option.bind_eq_some_iff.mp H
 obtain ⟨t377, A30, H⟩ := H
 replace H : (if t377 = true then (if 0 ≤ a1 then (if a1 < (l0.length : Int) then (some (((rd_T65 l0 a1).f1).toList != ([] : List UInt8))) else (none)) else (none)) else (some false)) = some r := H
 have A3 := Aside0.mk A30
 clear A30
 by_cases c4 : t377 = true
 rotate_left
 ·replace c4 := Bool.eq_false_iff.mpr c4
  subst c4
  have H1 : (some false) = some r := by rw [if_neg (show ¬ (false = true) by decide)] at H; exact H
  clear H
  have H := H1
  clear H1
  obtain rfl := Option.some.inj H
  go_enter Tryz.func51, Tryz.ntmps51
  go_wp2_with (first | ((with_reducible refine gate_callee (f := 72) rfl ?_); refine goesL_ (some 7) rfl rfl Tryz.func72 dq22 rfl #[.slice A0 l0.length c0, .int .i64 a1] rfl dq21 ?_; (with_reducible refine (impl_has.calls k _ _ l0 a1 false _ ?side3 ?side1 ?side2 A3.out).mono ?_); (case side1 => exact dq2); (case side2 => exact HC0.out); (case side3 => exact dq3); rintro e w8 ⟨rfl, hb⟩; refine ⟨_, rfl, ?_⟩; have n0_ := Aside0.mk (below_step dq25 hb); clear HB; have HB := n0_; clear n0_; (try clear hb); (try clear hb2); (try clear hk); (try clear hi)))
  go_ret
  exact ⟨dq78, dq25⟩
 subst c4
 have H1 : (if 0 ≤ a1 then (if a1 < (l0.length : Int) then (some (((rd_T65 l0 a1).f1).toList != ([] : List UInt8))) else (none)) else (none)) = some r := by rw [if_pos rfl] at H; exact H
 clear H
 have H := H1
 clear H1
 by_cases c5 : 0 ≤ a1
 rotate_left
 ·rw [if_neg c5] at H
  exact absurd H dq20
 rw [if_pos c5] at H
 have c5b0 := decide_eq_true c5
 clear c5
 by_cases c6 : a1 < (l0.length : Int)
 rotate_left
 ·rw [if_neg c6] at H
  exact absurd H dq20
 rw [if_pos c6] at H
 have c6b0 := decide_eq_true c6
 clear c6
 obtain rfl := Option.some.inj H
 go_enter Tryz.func51, Tryz.ntmps51
 go_wp2_with (first | ((with_reducible refine gate_callee (f := 72) rfl ?_); refine goesL_ (some 7) rfl rfl Tryz.func72 dq22 rfl #[.slice A0 l0.length c0, .int .i64 a1] rfl dq21 ?_; (with_reducible refine (impl_has.calls k _ _ l0 a1 true _ ?side3 ?side1 ?side2 A3.out).mono ?_); (case side1 => exact dq2); (case side2 => exact HC0.out); (case side3 => exact dq3); rintro e w7 ⟨rfl, hb⟩; refine ⟨_, rfl, ?_⟩; have n0_ := Aside0.mk (below_step dq25 hb); clear HB; have HB := n0_; clear n0_; (try clear hb); (try clear hb2); (try clear hk); (try clear hi); have p378 : 0 ≤ (a1 : Int) := of_decide_eq_true dq18; have q378 : a1 < (l0.length : Int) := of_decide_eq_true dq18; obtain ⟨ad378, A378_3, c378_3, e378, hx378_0, hx378_1, hx378_2, hx378_3, hl378_3, hi378_3⟩ := at_T65 HR0.out a1 p378 q378; cases e378; replace hx378_0 := (HB.out.cell (World.block_lt_of_cell? w _ hx378_0)).trans hx378_0; replace hx378_1 := (HB.out.cell (World.block_lt_of_cell? w _ hx378_1)).trans hx378_1; replace hx378_2 := (HB.out.cell (World.block_lt_of_cell? w _ hx378_2)).trans hx378_2; replace hx378_3 := (HB.out.cell (World.block_lt_of_cell? w _ hx378_3)).trans hx378_3; have HR378_3 := Aside0.mk hi378_3; have HC378_3 := Aside0.mk hl378_3; clear hi378_3 hl378_3; replace p378 := eq_true p378; replace q378 := eq_true q378))
 go_ret
 exact ⟨dq78, dq25⟩

/-! ### impl_within: function 124 -/
def impl_within.l0 : Nat → List (S65) → Int → Int → Option (Bool)
 | 0, _, _, _ => none
 | k + 1, x0, x1, x2 => if x1 > x2 then (if 0 ≤ x1 then (if x1 < (x0.length : Int) then (impl_within.l0 k x0 ((rd_T65 x0 x1).f0) x2) else (none)) else (none)) else (some (x1 == x2))
def impl_within.f (k : Nat) (l0 : List (S65)) (a1 : Int) (a2 : Int) : Option (Bool) := impl_within.l0 k l0 a1 a2
set_option maxHeartbeats 8000000 in
set_option maxRecDepth 100000 in
theorem impl_within.calls (k : Nat) (A0 : Option Addr) (c0 : Nat) (l0 : List (S65)) (a1 : Int) (a2 : Int) (r : Bool) (w : World) (hr0 : Kd.C k65 w A0 l0.length l0) (hc0 : l0.length ≤ c0) (h : impl_within.f k l0 a1 a2 = some r) :
  Calls Tryz.prog 124 #[.slice A0 l0.length c0, .int .i64 a1, .int .i64 a2] w fun e w' => e = .returned (.bool r) ∧ Drawn0 w w' := by
 have HR0 := Aside0.mk hr0
 have HC0 := Aside0.mk hc0
 clear hr0 hc0
 have H : (impl_within.l0 k l0 a1 a2) = some r := h
 clear h
 have H' := Aside0.mk H
 clear H
 go_enter Tryz.func124, Tryz.ntmps124
 go_wp2
 go_loopg [1] k (fun kq v1 w' => ∃ (x1_1 : Int), v1 = .int .i64 x1_1 ∧ Aside0 (impl_within.l0 kq l0 x1_1 a2 = some r) ∧ Aside0 (kq ≤ k) ∧ Drawn0 w w')
 case atStart => exact ⟨(a1), dq17, H', ⟨Nat.le_refl _⟩, dq16⟩
 clear H'
 try clear c1
 try clear p2
 obtain ⟨x1_1, rfl, HA, HK1, ⟨m1, rfl⟩⟩ := hrel
 cases gk with
 | zero => exact absurd HA.out (by simp [impl_within.l0])
 | succ k1 =>
  have H := HA.out
  clear HA
  simp only [impl_within.l0] at H
  by_cases c4 : x1_1 > a2
  rotate_left
  ·rw [if_neg c4] at H
   have c4b0 : decide (a2 < x1_1) = false := decide_eq_false c4
   clear c4
   obtain rfl := Option.some.inj H
   go_wp2
   go_ret
   exact ⟨dq17, dq16⟩
  rw [if_pos c4] at H
  have c4b0 : decide (a2 < x1_1) = true := decide_eq_true c4
  clear c4
  by_cases c5 : 0 ≤ x1_1
  rotate_left
  ·rw [if_neg c5] at H
   exact absurd H dq20
  rw [if_pos c5] at H
  have c5b0 := decide_eq_true c5
  clear c5
  by_cases c6 : x1_1 < (l0.length : Int)
  rotate_left
  ·rw [if_neg c6] at H
   exact absurd H dq20
  rw [if_pos c6] at H
  have c6b0 := decide_eq_true c6
  clear c6
  have H' := Aside0.mk H
  clear H
  have p379 : 0 ≤ (x1_1 : Int) := of_decide_eq_true dq18
  have q379 : x1_1 < (l0.length : Int) := of_decide_eq_true dq18
  obtain ⟨ad379, A379_3, c379_3, e379, hx379_0, hx379_1, hx379_2, hx379_3, hl379_3, hi379_3⟩ := at_T65 HR0.out x1_1 p379 q379
  cases e379
  have HR379_3 := Aside0.mk hi379_3
  have HC379_3 := Aside0.mk hl379_3
  clear hi379_3 hl379_3
  replace p379 := eq_true p379
  replace q379 := eq_true q379
  go_wp2
  go_roundg k1
  case measure => have := HK1.out; omega
  case rel => exact ⟨((rd_T65 l0 x1_1).f0), dq17, H', ⟨dq19⟩, dq16⟩

/-! ### impl_led: function 81 -/
mutual
def impl_led.l0 : Nat → List (S65) → Int → List ByteArray → Bool → List Bool → List (S65) → Int → Int → Option (List Int)
 | 0, _, _, _, _, _, _, _, _ => none
 | k + 1, x0, x1, x2, x3, x9, x23, x24, x25 => if x25 < x24 then (if 0 ≤ x25 then (if x25 < (x23.length : Int) then (if x25 = x1 then (if x25 < (x9.length : Int) then (impl_led.l0 k x0 x1 x2 x3 (x9.set (x25 : Int).toNat true) x23 x24 (wrap64 (x25 + 1))) else (none)) else (if x3 = true then (if ((rd_T65 x23 x25).f1).toList = ([] : List UInt8) then (if x25 < (x9.length : Int) then (impl_led.l0 k x0 x1 x2 x3 (x9.set (x25 : Int).toNat false) x23 x24 (wrap64 (x25 + 1))) else (none)) else ((impl_within.f k x0 x25 x1).bind fun t387 => (if x25 < (x9.length : Int) then (impl_led.l0 k x0 x1 x2 x3 (x9.set (x25 : Int).toNat t387) x23 x24 (wrap64 (x25 + 1))) else (none)))) else (if x25 < (x9.length : Int) then (impl_led.l0 k x0 x1 x2 x3 (x9.set (x25 : Int).toNat false) x23 x24 (wrap64 (x25 + 1))) else (none)))) else (none)) else (none)) else (impl_led.l1 k x0 x9 x2 (x2.length : Int) 0)
def impl_led.l1 : Nat → List (S65) → List Bool → List ByteArray → Int → Int → Option (List Int)
 | 0, _, _, _, _, _ => none
 | k + 1, x0, x9, x51, x52, x53 => if x53 < x52 then (if 0 ≤ x53 then (if x53 < (x51.length : Int) then (if 0 ≤ (x0.length : Int) then (if ((x0.length : Int) : Int).toNat ≤ 281474976710656 then (impl_led.l2 k x0 x9 (rdOf ByteArray.empty x51 x53) (List.replicate ((x0.length : Int) : Int).toNat false) x51 x52 x53 x0 (x0.length : Int) 0) else (none)) else (none)) else (none)) else (none)) else (impl_led.l3 k (([] : List Int)) x9 (x9.length : Int) 0)
def impl_led.l2 : Nat → List (S65) → List Bool → ByteArray → List Bool → List ByteArray → Int → Int → List (S65) → Int → Int → Option (List Int)
 | 0, _, _, _, _, _, _, _, _, _, _ => none
 | k + 1, x0, x9, x13, x14, x51, x52, x53, x60, x61, x62 => if x62 < x61 then (if 0 ≤ x62 then (if x62 < (x60.length : Int) then (if ((rd_T65 x60 x62).f0) ≥ 0 then (if 0 ≤ ((rd_T65 x60 x62).f0) then (if ((rd_T65 x60 x62).f0) < (x9.length : Int) then (if rdOf false x9 ((rd_T65 x60 x62).f0) = true then (if x62 < (x14.length : Int) then (impl_led.l2 k x0 x9 x13 (x14.set (x62 : Int).toNat (((rd_T65 x60 x62).f1).toList == x13.toList)) x51 x52 x53 x60 x61 (wrap64 (x62 + 1))) else (none)) else (if x62 < (x14.length : Int) then (impl_led.l2 k x0 x9 x13 (x14.set (x62 : Int).toNat false) x51 x52 x53 x60 x61 (wrap64 (x62 + 1))) else (none))) else (none)) else (none)) else (if x62 < (x14.length : Int) then (impl_led.l2 k x0 x9 x13 (x14.set (x62 : Int).toNat false) x51 x52 x53 x60 x61 (wrap64 (x62 + 1))) else (none))) else (none)) else (none)) else (impl_led.l1 k x0 x14 x51 x52 (wrap64 (x53 + 1)))
def impl_led.l3 : Nat → List Int → List Bool → Int → Int → Option (List Int)
 | 0, _, _, _, _ => none
 | k + 1, x17, x90, x91, x92 => if x92 < x91 then (if 0 ≤ x92 then (if x92 < (x90.length : Int) then (if rdOf false x90 x92 = true then (if x17.length < 17592186044416 then (impl_led.l3 k (x17 ++ [x92]) x90 x91 (wrap64 (x92 + 1))) else (none)) else (impl_led.l3 k x17 x90 x91 (wrap64 (x92 + 1)))) else (none)) else (none)) else (some x17)
end
def impl_led.f (k : Nat) (l0 : List (S65)) (a1 : Int) (l2 : List ByteArray) (a3 : Bool) : Option (List Int) := if 0 ≤ (l0.length : Int) then (if ((l0.length : Int) : Int).toNat ≤ 281474976710656 then (impl_led.l0 k l0 a1 l2 a3 (List.replicate ((l0.length : Int) : Int).toNat false) l0 (l0.length : Int) 0) else (none)) else (none)
set_option maxHeartbeats 8000000 in
set_option maxRecDepth 100000 in
theorem impl_led.calls (k : Nat) (A0 : Option Addr) (c0 : Nat) (l0 : List (S65)) (a1 : Int) (A2 : Option Addr) (c2 : Nat) (l2 : List ByteArray) (a3 : Bool) (r : List Int) (w : World) (hr0 : Kd.C k65 w A0 l0.length l0) (hc0 : l0.length ≤ c0) (hr2 : Kd.C Kd.string w A2 l2.length l2) (hc2 : l2.length ≤ c2) (h : impl_led.f k l0 a1 l2 a3 = some r) :
  Calls Tryz.prog 81 #[.slice A0 l0.length c0, .int .i64 a1, .slice A2 l2.length c2, .bool a3] w fun e w' => ∃ v0_ : Value, e = .returned (v0_) ∧ Kd.R (Kd.int .i64) 2 w' w.heap.size (fun _ => True) v0_ r ∧ Below w.heap.size w w' := by
 have hu65 := Tryz.underlying65
 have HR0 := Aside0.mk hr0
 have HC0 := Aside0.mk hc0
 clear hr0 hc0
 have HR2 := Aside0.mk hr2
 have HC2 := Aside0.mk hc2
 clear hr2 hc2
 have HB := Aside0.mk (Below.refl w.heap.size w)
 have H : (if 0 ≤ (l0.length : Int) then (if ((l0.length : Int) : Int).toNat ≤ 281474976710656 then (impl_led.l0 k l0 a1 l2 a3 (List.replicate ((l0.length : Int) : Int).toNat false) l0 (l0.length : Int) 0) else (none)) else (none)) = some r := h
 clear h
 by_cases c5 : 0 ≤ (l0.length : Int)
 rotate_left
 ·rw [if_neg c5] at H
  exact absurd H dq20
 rw [if_pos c5] at H
 have c5b0 := eq_true c5
 have c5b1 := decide_eq_true c5
 clear c5
 by_cases c6 : ((l0.length : Int) : Int).toNat ≤ 281474976710656
 rotate_left
 ·rw [if_neg c6] at H
  exact absurd H dq20
 rw [if_pos c6] at H
 have c6b0 := eq_true c6
 have c6b1 := decide_eq_true c6
 clear c6
 obtain ⟨y380, hy380⟩ : ∃ y_ : List Bool, y_ = (List.replicate ((l0.length : Int) : Int).toNat false) := ⟨_, rfl⟩
 replace H : (impl_led.l0 k l0 a1 l2 a3 y380 l0 (l0.length : Int) 0) = some r := by first | (rw [hy380]; with_reducible exact H) | (have H2_ := (Option.bind_some _ _).symm.trans H; rw [hy380]; with_reducible exact H2_) | (have H2_ := (Option.bind_some _ _).symm.trans H; with_reducible exact H2_) | with_reducible exact H | (rw [hy380]; exact H) | exact H
 have Ny380 := Aside0.mk hy380
 clear hy380
 have H' := Aside0.mk H
 clear H
 go_enter Tryz.func81, Tryz.ntmps81
 go_wp2_with (first | ((with_reducible refine gate_dst (N := 22) rfl ?_); refine Kd.R_make Kd.bool _ 4 rfl (N := 22) rfl 158 _ _ rfl (l0.length : Int) rfl rfl Tryz.underlying158 (.bool false) 1 info4 rfl dq29 dq23 false (ok := fun _ => True) (okp := fun _ => True) rfl (fun _ hk => hk) trivial (of_decide_eq_true dq18) (Nat.le_trans (Nat.mul_le_mul_right _ (of_decide_eq_true dq18 : (l0.length : Int).toNat ≤ 281474976710656)) dq23) (Below.refl _ _) (Nat.le_refl _) ?_; intro v381 w7 ho8 hb hg_ hnew_; clear hg_ hnew_; (first | rw [← Ny380.out] at ho8 | (simp only [Int.reduceToNat] at ho8; rw [← Ny380.out] at ho8)); have n0_ := Aside0.mk (Kd.R_lower ho8 (below_size dq25)); have n1_ := Aside0.mk (below_step dq25 hb); clear HB; have HO382 := n0_; have HB := n1_; clear n0_ n1_; clear hb ho8))
 go_loopg [25] k (fun kq v25 w' => ∃ (x9_1 : List Bool) (x25_1 : Int), v25 = .int .i64 x25_1 ∧ Aside0 (impl_led.l0 kq l0 a1 l2 a3 x9_1 l0 (l0.length : Int) x25_1 = some r) ∧ Aside0 (kq ≤ k) ∧ Aside0 (Kd.R Kd.bool 4 w' w.heap.size (fun _ => True) v381 x9_1) ∧ Aside0 (Below w.heap.size w w'))
 case atStart => exact ⟨(y380), (0), dq17, H', ⟨Nat.le_refl _⟩, ⟨by (with_reducible repeat (first | apply Kd.R_alloc | apply Kd.R_drewN | apply Kd.R_drew)); exact HO382.out⟩, ⟨dq25⟩⟩
 clear H'
 try clear c5b0
 try clear c5b1
 try clear c6b0
 try clear c6b1
 obtain ⟨x9_1, x25_1, rfl, HA, HK1, HO_9, HB⟩ := hrel
 cases gk with
 | zero => exact absurd HA.out (by simp [impl_led.l0])
 | succ k1 =>
  have H := HA.out
  clear HA
  simp only [impl_led.l0] at H
  by_cases c9 : x25_1 < (l0.length : Int)
  ·rw [if_pos c9] at H
   have c9b0 := decide_eq_true c9
   clear c9
   by_cases c10 : 0 ≤ x25_1
   rotate_left
   ·rw [if_neg c10] at H
    exact absurd H dq20
   rw [if_pos c10] at H
   have c10b0 := decide_eq_true c10
   clear c10
   by_cases c11 : x25_1 < (l0.length : Int)
   rotate_left
   ·rw [if_neg c11] at H
    exact absurd H dq20
   rw [if_pos c11] at H
   have c11b0 := decide_eq_true c11
   clear c11
   by_cases c12 : x25_1 = a1
   ·rw [if_pos c12] at H
    have c12b0 := beq_iff_eq.mpr c12
    have c12b1 := bne_eq_false_iff_eq.mpr c12
    clear c12
    by_cases c13 : x25_1 < (x9_1.length : Int)
    rotate_left
    ·rw [if_neg c13] at H
     exact absurd H dq20
    rw [if_pos c13] at H
    have c13b0 := decide_eq_true c13
    clear c13
    obtain ⟨y385, hy385⟩ : ∃ y_ : List Bool, y_ = (x9_1.set (x25_1 : Int).toNat true) := ⟨_, rfl⟩
    replace H : (impl_led.l0 k1 l0 a1 l2 a3 y385 l0 (l0.length : Int) (wrap64 (x25_1 + 1))) = some r := by first | (rw [hy385]; with_reducible exact H) | (have H2_ := (Option.bind_some _ _).symm.trans H; rw [hy385]; with_reducible exact H2_) | (have H2_ := (Option.bind_some _ _).symm.trans H; with_reducible exact H2_) | with_reducible exact H | (rw [hy385]; exact H) | exact H
    have Ny385 := Aside0.mk hy385
    clear hy385
    have H' := Aside0.mk H
    clear H
    have p383 : 0 ≤ (x25_1 : Int) := of_decide_eq_true dq18
    have q383 : x25_1 < (l0.length : Int) := of_decide_eq_true dq18
    obtain ⟨ad383, A383_3, c383_3, e383, hx383_0, hx383_1, hx383_2, hx383_3, hl383_3, hi383_3⟩ := at_T65 HR0.out x25_1 p383 q383
    cases e383
    replace hx383_0 := (HB.out.cell (World.block_lt_of_cell? w _ hx383_0)).trans hx383_0
    replace hx383_1 := (HB.out.cell (World.block_lt_of_cell? w _ hx383_1)).trans hx383_1
    replace hx383_2 := (HB.out.cell (World.block_lt_of_cell? w _ hx383_2)).trans hx383_2
    replace hx383_3 := (HB.out.cell (World.block_lt_of_cell? w _ hx383_3)).trans hx383_3
    have HR383_3 := Aside0.mk hi383_3
    have HC383_3 := Aside0.mk hl383_3
    clear hi383_3 hl383_3
    replace p383 := eq_true p383
    replace q383 := eq_true q383
    go_wp2_with (first | ((with_reducible refine gate_dst (N := 11) rfl ?_); refine box_event ?hg (N := 11) ?hd (cs := #[.int .i64 0, .string (⟨#[]⟩ : ByteArray), .string (⟨#[]⟩ : ByteArray), .slice none 0 0]) (t := 65) ?hr ?_; (case hd => rfl); (case hg => rfl); (case hr => exact dq0); intro gb384 hg w15 hbox hb; have n0_ := Aside0.mk (Kd.R_below dq82 hb); have n1_ := Aside0.mk (below_step dq25 hb); have n2_ := Aside0.mk (hbox); have n3_ := Aside0.mk ((dq32 : w.heap.size ≤ gb384)); have n4_ := Aside0.mk ((dq32 : w.heap.size ≤ gb384)); clear HO_9; clear HB; have HO_9 := n0_; have HB := n1_; have BK384 := n2_; have GW384 := n3_; have GE384 := n4_; clear n0_ n1_ n2_ n3_ n4_; clear hb hbox hg; obtain ⟨⟨hcz16_0, hcz16_1, hcz16_2, hcz16_3⟩, hfz16_0, hfz16_1, hfz16_2, hfz16_3⟩ := blkC4 BK384.out) | ((with_reducible refine gate_store (t := 65) (p := 11) rfl ?_); refine store_event (t := 65) (p := 11) (v := ?vo_w17) (w1 := ((((w15.setCell ⟨gb384, 0, none⟩ (.int .i64 ((rd_T65 l0 x25_1).f0))).setCell ⟨gb384, 1, none⟩ (.string ((rd_T65 l0 x25_1).f1))).setCell ⟨gb384, 2, none⟩ (.string ((rd_T65 l0 x25_1).f2))).setCell ⟨gb384, 3, none⟩ (.slice A383_3 ((rd_T65 l0 x25_1).f3).length c383_3))) ?hg ?ho ?hn ?hr ?_; (case ho => rfl); (case hg => rfl); (case hn => rfl); (case hr => exact dq0); intro w17 hw; have n0_ : Aside0 (Kd.R Kd.bool 4 w17 w.heap.size (fun _ => True) v381 x9_1) := ⟨dq81⟩; have n1_ : Aside0 (w17.heap[gb384]? = some (.cells #[.int .i64 ((rd_T65 l0 x25_1).f0), .string ((rd_T65 l0 x25_1).f1), .string ((rd_T65 l0 x25_1).f2), .slice A383_3 ((rd_T65 l0 x25_1).f3).length c383_3] 65 (0, 0))) := ⟨dq80⟩; have n2_ : Aside0 (Below w.heap.size w w17) := ⟨dq79⟩; clear hw; clear HO_9; clear BK384; clear HB; have HO_9 := n0_; have BK384 := n1_; have HB := n2_; clear n0_ n1_ n2_; have p14 : 0 ≤ (x25_1 : Int) := of_decide_eq_true dq18; have q14 : (x25_1 : Int) < ((x9_1.length : Int) : Int) := of_decide_eq_true dq18; obtain ⟨go14, co14, eo14, gb14, gl14, cl14, HG14⟩ := Kd.R_form HO_9.out dq23; (first | cases eo14 | (injection eo14 with ea_ en_ ec_; (first | subst ea_ | (injection ea_ with ea_; subst ea_)); subst ec_; clear en_)); have GB14 := Aside0.mk gb14; have GG14 := Aside0.mk HG14; clear gb14 gl14 HG14; obtain ⟨hx14_0, hf14_0⟩ := Kd.R_celln false HO_9.out (x25_1 : Int) p14 q14; replace p14 := eq_true p14; replace q14 := eq_true q14; obtain ⟨hy18_, hz18_⟩ := Kd.R_celln false HO_9.out (x25_1 : Int) (of_decide_eq_true dq18) (of_decide_eq_true dq18); have HP18 := Kd.R_putg HO_9.out (x25_1 : Int) true) | ((with_reducible refine gate_store (t := 4) (p := 49) rfl ?_); refine store_event (t := 4) (p := 49) (v := ?vo_w19) (w1 := (w17.setCell ⟨go14, (x25_1 : Int).toNat, none⟩ (.bool true))) ?hg ?ho ?hn ?hr ?_; (case ho => rfl); (case hg => rfl); (case hn => rfl); (case hr => exact dq0); intro w19 hw; have hg : w17.grownBy w19 (some go14) := (by rw [hw]; exact HP18.2); have hp_ : Kd.R Kd.bool 4 w19 w.heap.size (fun _ => True) (.slice (some ⟨go14, 0, none⟩) x9_1.length co14) y385 := (by rw [hw, Ny385.out]; exact HP18.1); clear HP18; have n0_ := Aside0.mk (hp_); have n1_ := Aside0.mk (blk_grown (g := gb384) (o := .cells #[.int .i64 ((rd_T65 l0 x25_1).f0), .string ((rd_T65 l0 x25_1).f1), .string ((rd_T65 l0 x25_1).f2), .slice A383_3 ((rd_T65 l0 x25_1).f3).length c383_3] 65 (0, 0)) (by refine blk_up ?_; exact BK384.out) hg (Kd.R_ne HO_9.out BK384.out dq29)); have n2_ := Aside0.mk ((by rw [hw]; exact below_set (HB.out) GB14.out : Below w.heap.size w w19)); clear HO_9; clear BK384; clear HB; have HO_9 := n0_; have BK384 := n1_; have HB := n2_; clear n0_ n1_ n2_; clear hg hw hp_))
    go_roundg k1
    case measure => have := HK1.out; omega
    case rel => exact ⟨(y385), (wrap64 (x25_1 + 1)), dq17, H', ⟨dq19⟩, ⟨dq82⟩, ⟨dq83⟩⟩
   rw [if_neg c12] at H
   have c12b0 := beq_eq_false_iff_ne.mpr c12
   have c12b1 := bne_iff_ne.mpr c12
   by_cases c20 : a3 = true
   rotate_left
   ·replace c20 := Bool.eq_false_iff.mpr c20
    subst c20
    have H1 : (if x25_1 < (x9_1.length : Int) then (impl_led.l0 k1 l0 a1 l2 false (x9_1.set (x25_1 : Int).toNat false) l0 (l0.length : Int) (wrap64 (x25_1 + 1))) else (none)) = some r := by rw [if_neg (show ¬ (false = true) by decide)] at H; exact H
    clear H
    have H := H1
    clear H1
    by_cases c39 : x25_1 < (x9_1.length : Int)
    rotate_left
    ·rw [if_neg c39] at H
     exact absurd H dq20
    rw [if_pos c39] at H
    have c39b0 := decide_eq_true c39
    clear c39
    obtain ⟨y389, hy389⟩ : ∃ y_ : List Bool, y_ = (x9_1.set (x25_1 : Int).toNat false) := ⟨_, rfl⟩
    replace H : (impl_led.l0 k1 l0 a1 l2 false y389 l0 (l0.length : Int) (wrap64 (x25_1 + 1))) = some r := by first | (rw [hy389]; with_reducible exact H) | (have H2_ := (Option.bind_some _ _).symm.trans H; rw [hy389]; with_reducible exact H2_) | (have H2_ := (Option.bind_some _ _).symm.trans H; with_reducible exact H2_) | with_reducible exact H | (rw [hy389]; exact H) | exact H
    have Ny389 := Aside0.mk hy389
    clear hy389
    have H' := Aside0.mk H
    clear H
    have p383 : 0 ≤ (x25_1 : Int) := of_decide_eq_true dq18
    have q383 : x25_1 < (l0.length : Int) := of_decide_eq_true dq18
    obtain ⟨ad383, A383_3, c383_3, e383, hx383_0, hx383_1, hx383_2, hx383_3, hl383_3, hi383_3⟩ := at_T65 HR0.out x25_1 p383 q383
    cases e383
    replace hx383_0 := (HB.out.cell (World.block_lt_of_cell? w _ hx383_0)).trans hx383_0
    replace hx383_1 := (HB.out.cell (World.block_lt_of_cell? w _ hx383_1)).trans hx383_1
    replace hx383_2 := (HB.out.cell (World.block_lt_of_cell? w _ hx383_2)).trans hx383_2
    replace hx383_3 := (HB.out.cell (World.block_lt_of_cell? w _ hx383_3)).trans hx383_3
    have HR383_3 := Aside0.mk hi383_3
    have HC383_3 := Aside0.mk hl383_3
    clear hi383_3 hl383_3
    replace p383 := eq_true p383
    replace q383 := eq_true q383
    go_wp2_with (first | ((with_reducible refine gate_dst (N := 11) rfl ?_); refine box_event ?hg (N := 11) ?hd (cs := #[.int .i64 0, .string (⟨#[]⟩ : ByteArray), .string (⟨#[]⟩ : ByteArray), .slice none 0 0]) (t := 65) ?hr ?_; (case hd => rfl); (case hg => rfl); (case hr => exact dq0); intro gb384 hg w41 hbox hb; have n0_ := Aside0.mk (Kd.R_below dq82 hb); have n1_ := Aside0.mk (below_step dq25 hb); have n2_ := Aside0.mk (hbox); have n3_ := Aside0.mk ((dq32 : w.heap.size ≤ gb384)); have n4_ := Aside0.mk ((dq32 : w.heap.size ≤ gb384)); clear HO_9; clear HB; have HO_9 := n0_; have HB := n1_; have BK384 := n2_; have GW384 := n3_; have GE384 := n4_; clear n0_ n1_ n2_ n3_ n4_; clear hb hbox hg; obtain ⟨⟨hcz42_0, hcz42_1, hcz42_2, hcz42_3⟩, hfz42_0, hfz42_1, hfz42_2, hfz42_3⟩ := blkC4 BK384.out) | ((with_reducible refine gate_store (t := 65) (p := 11) rfl ?_); refine store_event (t := 65) (p := 11) (v := ?vo_w43) (w1 := ((((w41.setCell ⟨gb384, 0, none⟩ (.int .i64 ((rd_T65 l0 x25_1).f0))).setCell ⟨gb384, 1, none⟩ (.string ((rd_T65 l0 x25_1).f1))).setCell ⟨gb384, 2, none⟩ (.string ((rd_T65 l0 x25_1).f2))).setCell ⟨gb384, 3, none⟩ (.slice A383_3 ((rd_T65 l0 x25_1).f3).length c383_3))) ?hg ?ho ?hn ?hr ?_; (case ho => rfl); (case hg => rfl); (case hn => rfl); (case hr => exact dq0); intro w43 hw; have n0_ : Aside0 (Kd.R Kd.bool 4 w43 w.heap.size (fun _ => True) v381 x9_1) := ⟨dq81⟩; have n1_ : Aside0 (w43.heap[gb384]? = some (.cells #[.int .i64 ((rd_T65 l0 x25_1).f0), .string ((rd_T65 l0 x25_1).f1), .string ((rd_T65 l0 x25_1).f2), .slice A383_3 ((rd_T65 l0 x25_1).f3).length c383_3] 65 (0, 0))) := ⟨dq80⟩; have n2_ : Aside0 (Below w.heap.size w w43) := ⟨dq79⟩; clear hw; clear HO_9; clear BK384; clear HB; have HO_9 := n0_; have BK384 := n1_; have HB := n2_; clear n0_ n1_ n2_; have p40 : 0 ≤ (x25_1 : Int) := of_decide_eq_true dq18; have q40 : (x25_1 : Int) < ((x9_1.length : Int) : Int) := of_decide_eq_true dq18; obtain ⟨go40, co40, eo40, gb40, gl40, cl40, HG40⟩ := Kd.R_form HO_9.out dq23; (first | cases eo40 | (injection eo40 with ea_ en_ ec_; (first | subst ea_ | (injection ea_ with ea_; subst ea_)); subst ec_; clear en_)); have GB40 := Aside0.mk gb40; have GG40 := Aside0.mk HG40; clear gb40 gl40 HG40; obtain ⟨hx40_0, hf40_0⟩ := Kd.R_celln false HO_9.out (x25_1 : Int) p40 q40; replace p40 := eq_true p40; replace q40 := eq_true q40; obtain ⟨hy44_, hz44_⟩ := Kd.R_celln false HO_9.out (x25_1 : Int) (of_decide_eq_true dq18) (of_decide_eq_true dq18); have HP44 := Kd.R_putg HO_9.out (x25_1 : Int) false) | ((with_reducible refine gate_store (t := 4) (p := 49) rfl ?_); refine store_event (t := 4) (p := 49) (v := ?vo_w45) (w1 := (w43.setCell ⟨go40, (x25_1 : Int).toNat, none⟩ (.bool false))) ?hg ?ho ?hn ?hr ?_; (case ho => rfl); (case hg => rfl); (case hn => rfl); (case hr => exact dq0); intro w45 hw; have hg : w43.grownBy w45 (some go40) := (by rw [hw]; exact HP44.2); have hp_ : Kd.R Kd.bool 4 w45 w.heap.size (fun _ => True) (.slice (some ⟨go40, 0, none⟩) x9_1.length co40) y389 := (by rw [hw, Ny389.out]; exact HP44.1); clear HP44; have n0_ := Aside0.mk (hp_); have n1_ := Aside0.mk (blk_grown (g := gb384) (o := .cells #[.int .i64 ((rd_T65 l0 x25_1).f0), .string ((rd_T65 l0 x25_1).f1), .string ((rd_T65 l0 x25_1).f2), .slice A383_3 ((rd_T65 l0 x25_1).f3).length c383_3] 65 (0, 0)) (by refine blk_up ?_; exact BK384.out) hg (Kd.R_ne HO_9.out BK384.out dq29)); have n2_ := Aside0.mk ((by rw [hw]; exact below_set (HB.out) GB40.out : Below w.heap.size w w45)); clear HO_9; clear BK384; clear HB; have HO_9 := n0_; have BK384 := n1_; have HB := n2_; clear n0_ n1_ n2_; clear hg hw hp_))
    go_roundg k1
    case measure => have := HK1.out; omega
    case rel => exact ⟨(y389), (wrap64 (x25_1 + 1)), dq17, H', ⟨dq19⟩, ⟨dq82⟩, ⟨dq83⟩⟩
   subst c20
   have H1 : (if ((rd_T65 l0 x25_1).f1).toList = ([] : List UInt8) then (if x25_1 < (x9_1.length : Int) then (impl_led.l0 k1 l0 a1 l2 true (x9_1.set (x25_1 : Int).toNat false) l0 (l0.length : Int) (wrap64 (x25_1 + 1))) else (none)) else ((impl_within.f k1 l0 x25_1 a1).bind fun t387 => (if x25_1 < (x9_1.length : Int) then (impl_led.l0 k1 l0 a1 l2 true (x9_1.set (x25_1 : Int).toNat t387) l0 (l0.length : Int) (wrap64 (x25_1 + 1))) else (none)))) = some r := by rw [if_pos rfl] at H; exact H
   clear H
   have H := H1
   clear H1
   by_cases c21 : ((rd_T65 l0 x25_1).f1).toList = ([] : List UInt8)
   ·rw [if_pos c21] at H
    have c21b0 := beq_iff_eq.mpr c21
    have c21b1 := bne_eq_false_iff_eq.mpr c21
    clear c21
    by_cases c22 : x25_1 < (x9_1.length : Int)
    rotate_left
    ·rw [if_neg c22] at H
     exact absurd H dq20
    rw [if_pos c22] at H
    have c22b0 := decide_eq_true c22
    clear c22
    obtain ⟨y386, hy386⟩ : ∃ y_ : List Bool, y_ = (x9_1.set (x25_1 : Int).toNat false) := ⟨_, rfl⟩
    replace H : (impl_led.l0 k1 l0 a1 l2 true y386 l0 (l0.length : Int) (wrap64 (x25_1 + 1))) = some r := by first | (rw [hy386]; with_reducible exact H) | (have H2_ := (Option.bind_some _ _).symm.trans H; rw [hy386]; with_reducible exact H2_) | (have H2_ := (Option.bind_some _ _).symm.trans H; with_reducible exact H2_) | with_reducible exact H | (rw [hy386]; exact H) | exact H
    have Ny386 := Aside0.mk hy386
    clear hy386
    have H' := Aside0.mk H
    clear H
    have p383 : 0 ≤ (x25_1 : Int) := of_decide_eq_true dq18
    have q383 : x25_1 < (l0.length : Int) := of_decide_eq_true dq18
    obtain ⟨ad383, A383_3, c383_3, e383, hx383_0, hx383_1, hx383_2, hx383_3, hl383_3, hi383_3⟩ := at_T65 HR0.out x25_1 p383 q383
    cases e383
    replace hx383_0 := (HB.out.cell (World.block_lt_of_cell? w _ hx383_0)).trans hx383_0
    replace hx383_1 := (HB.out.cell (World.block_lt_of_cell? w _ hx383_1)).trans hx383_1
    replace hx383_2 := (HB.out.cell (World.block_lt_of_cell? w _ hx383_2)).trans hx383_2
    replace hx383_3 := (HB.out.cell (World.block_lt_of_cell? w _ hx383_3)).trans hx383_3
    have HR383_3 := Aside0.mk hi383_3
    have HC383_3 := Aside0.mk hl383_3
    clear hi383_3 hl383_3
    replace p383 := eq_true p383
    replace q383 := eq_true q383
    go_wp2_with (first | ((with_reducible refine gate_dst (N := 11) rfl ?_); refine box_event ?hg (N := 11) ?hd (cs := #[.int .i64 0, .string (⟨#[]⟩ : ByteArray), .string (⟨#[]⟩ : ByteArray), .slice none 0 0]) (t := 65) ?hr ?_; (case hd => rfl); (case hg => rfl); (case hr => exact dq0); intro gb384 hg w24 hbox hb; have n0_ := Aside0.mk (Kd.R_below dq82 hb); have n1_ := Aside0.mk (below_step dq25 hb); have n2_ := Aside0.mk (hbox); have n3_ := Aside0.mk ((dq32 : w.heap.size ≤ gb384)); have n4_ := Aside0.mk ((dq32 : w.heap.size ≤ gb384)); clear HO_9; clear HB; have HO_9 := n0_; have HB := n1_; have BK384 := n2_; have GW384 := n3_; have GE384 := n4_; clear n0_ n1_ n2_ n3_ n4_; clear hb hbox hg; obtain ⟨⟨hcz25_0, hcz25_1, hcz25_2, hcz25_3⟩, hfz25_0, hfz25_1, hfz25_2, hfz25_3⟩ := blkC4 BK384.out) | ((with_reducible refine gate_store (t := 65) (p := 11) rfl ?_); refine store_event (t := 65) (p := 11) (v := ?vo_w26) (w1 := ((((w24.setCell ⟨gb384, 0, none⟩ (.int .i64 ((rd_T65 l0 x25_1).f0))).setCell ⟨gb384, 1, none⟩ (.string ((rd_T65 l0 x25_1).f1))).setCell ⟨gb384, 2, none⟩ (.string ((rd_T65 l0 x25_1).f2))).setCell ⟨gb384, 3, none⟩ (.slice A383_3 ((rd_T65 l0 x25_1).f3).length c383_3))) ?hg ?ho ?hn ?hr ?_; (case ho => rfl); (case hg => rfl); (case hn => rfl); (case hr => exact dq0); intro w26 hw; have n0_ : Aside0 (Kd.R Kd.bool 4 w26 w.heap.size (fun _ => True) v381 x9_1) := ⟨dq81⟩; have n1_ : Aside0 (w26.heap[gb384]? = some (.cells #[.int .i64 ((rd_T65 l0 x25_1).f0), .string ((rd_T65 l0 x25_1).f1), .string ((rd_T65 l0 x25_1).f2), .slice A383_3 ((rd_T65 l0 x25_1).f3).length c383_3] 65 (0, 0))) := ⟨dq80⟩; have n2_ : Aside0 (Below w.heap.size w w26) := ⟨dq79⟩; clear hw; clear HO_9; clear BK384; clear HB; have HO_9 := n0_; have BK384 := n1_; have HB := n2_; clear n0_ n1_ n2_; obtain ⟨⟨hcz27_0, hcz27_1, hcz27_2, hcz27_3⟩, hfz27_0, hfz27_1, hfz27_2, hfz27_3⟩ := blkC4 BK384.out; have p23 : 0 ≤ (x25_1 : Int) := of_decide_eq_true dq18; have q23 : (x25_1 : Int) < ((x9_1.length : Int) : Int) := of_decide_eq_true dq18; obtain ⟨go23, co23, eo23, gb23, gl23, cl23, HG23⟩ := Kd.R_form HO_9.out dq23; (first | cases eo23 | (injection eo23 with ea_ en_ ec_; (first | subst ea_ | (injection ea_ with ea_; subst ea_)); subst ec_; clear en_)); have GB23 := Aside0.mk gb23; have GG23 := Aside0.mk HG23; clear gb23 gl23 HG23; obtain ⟨hx23_0, hf23_0⟩ := Kd.R_celln false HO_9.out (x25_1 : Int) p23 q23; replace p23 := eq_true p23; replace q23 := eq_true q23; obtain ⟨hy28_, hz28_⟩ := Kd.R_celln false HO_9.out (x25_1 : Int) (of_decide_eq_true dq18) (of_decide_eq_true dq18); have HP28 := Kd.R_putg HO_9.out (x25_1 : Int) false) | ((with_reducible refine gate_store (t := 4) (p := 49) rfl ?_); refine store_event (t := 4) (p := 49) (v := ?vo_w29) (w1 := (w26.setCell ⟨go23, (x25_1 : Int).toNat, none⟩ (.bool false))) ?hg ?ho ?hn ?hr ?_; (case ho => rfl); (case hg => rfl); (case hn => rfl); (case hr => exact dq0); intro w29 hw; have hg : w26.grownBy w29 (some go23) := (by rw [hw]; exact HP28.2); have hp_ : Kd.R Kd.bool 4 w29 w.heap.size (fun _ => True) (.slice (some ⟨go23, 0, none⟩) x9_1.length co23) y386 := (by rw [hw, Ny386.out]; exact HP28.1); clear HP28; have n0_ := Aside0.mk (hp_); have n1_ := Aside0.mk (blk_grown (g := gb384) (o := .cells #[.int .i64 ((rd_T65 l0 x25_1).f0), .string ((rd_T65 l0 x25_1).f1), .string ((rd_T65 l0 x25_1).f2), .slice A383_3 ((rd_T65 l0 x25_1).f3).length c383_3] 65 (0, 0)) (by refine blk_up ?_; exact BK384.out) hg (Kd.R_ne HO_9.out BK384.out dq29)); have n2_ := Aside0.mk ((by rw [hw]; exact below_set (HB.out) GB23.out : Below w.heap.size w w29)); clear HO_9; clear BK384; clear HB; have HO_9 := n0_; have BK384 := n1_; have HB := n2_; clear n0_ n1_ n2_; clear hg hw hp_))
    go_roundg k1
    case measure => have := HK1.out; omega
    case rel => exact ⟨(y386), (wrap64 (x25_1 + 1)), dq17, H', ⟨dq19⟩, ⟨dq82⟩, ⟨dq83⟩⟩
   rw [if_neg c21] at H
   have c21b0 := beq_eq_false_iff_ne.mpr c21
   have c21b1 := bne_iff_ne.mpr c21
   replace H := Option.bind_eq_some_iff.mp H
   obtain ⟨t387, A300, H⟩ := H
   replace H : (if x25_1 < (x9_1.length : Int) then (impl_led.l0 k1 l0 a1 l2 true (x9_1.set (x25_1 : Int).toNat t387) l0 (l0.length : Int) (wrap64 (x25_1 + 1))) else (none)) = some r := H
   have A30 := Aside0.mk A300
   clear A300
   by_cases c31 : x25_1 < (x9_1.length : Int)
   rotate_left
   ·rw [if_neg c31] at H
    exact absurd H dq20
   rw [if_pos c31] at H
   have c31b0 := decide_eq_true c31
   clear c31
   obtain ⟨y388, hy388⟩ : ∃ y_ : List Bool, y_ = (x9_1.set (x25_1 : Int).toNat t387) := ⟨_, rfl⟩
   replace H : (impl_led.l0 k1 l0 a1 l2 true y388 l0 (l0.length : Int) (wrap64 (x25_1 + 1))) = some r := by first | (rw [hy388]; with_reducible exact H) | (have H2_ := (Option.bind_some _ _).symm.trans H; rw [hy388]; with_reducible exact H2_) | (have H2_ := (Option.bind_some _ _).symm.trans H; with_reducible exact H2_) | with_reducible exact H | (rw [hy388]; exact H) | exact H
   have Ny388 := Aside0.mk hy388
   clear hy388
   have H' := Aside0.mk H
   clear H
   have p383 : 0 ≤ (x25_1 : Int) := of_decide_eq_true dq18
   have q383 : x25_1 < (l0.length : Int) := of_decide_eq_true dq18
   obtain ⟨ad383, A383_3, c383_3, e383, hx383_0, hx383_1, hx383_2, hx383_3, hl383_3, hi383_3⟩ := at_T65 HR0.out x25_1 p383 q383
   cases e383
   replace hx383_0 := (HB.out.cell (World.block_lt_of_cell? w _ hx383_0)).trans hx383_0
   replace hx383_1 := (HB.out.cell (World.block_lt_of_cell? w _ hx383_1)).trans hx383_1
   replace hx383_2 := (HB.out.cell (World.block_lt_of_cell? w _ hx383_2)).trans hx383_2
   replace hx383_3 := (HB.out.cell (World.block_lt_of_cell? w _ hx383_3)).trans hx383_3
   have HR383_3 := Aside0.mk hi383_3
   have HC383_3 := Aside0.mk hl383_3
   clear hi383_3 hl383_3
   replace p383 := eq_true p383
   replace q383 := eq_true q383
   go_wp2_with (first | ((with_reducible refine gate_dst (N := 11) rfl ?_); refine box_event ?hg (N := 11) ?hd (cs := #[.int .i64 0, .string (⟨#[]⟩ : ByteArray), .string (⟨#[]⟩ : ByteArray), .slice none 0 0]) (t := 65) ?hr ?_; (case hd => rfl); (case hg => rfl); (case hr => exact dq0); intro gb384 hg w33 hbox hb; have n0_ := Aside0.mk (Kd.R_below dq82 hb); have n1_ := Aside0.mk (below_step dq25 hb); have n2_ := Aside0.mk (hbox); have n3_ := Aside0.mk ((dq32 : w.heap.size ≤ gb384)); have n4_ := Aside0.mk ((dq32 : w.heap.size ≤ gb384)); clear HO_9; clear HB; have HO_9 := n0_; have HB := n1_; have BK384 := n2_; have GW384 := n3_; have GE384 := n4_; clear n0_ n1_ n2_ n3_ n4_; clear hb hbox hg; obtain ⟨⟨hcz34_0, hcz34_1, hcz34_2, hcz34_3⟩, hfz34_0, hfz34_1, hfz34_2, hfz34_3⟩ := blkC4 BK384.out) | ((with_reducible refine gate_store (t := 65) (p := 11) rfl ?_); refine store_event (t := 65) (p := 11) (v := ?vo_w35) (w1 := ((((w33.setCell ⟨gb384, 0, none⟩ (.int .i64 ((rd_T65 l0 x25_1).f0))).setCell ⟨gb384, 1, none⟩ (.string ((rd_T65 l0 x25_1).f1))).setCell ⟨gb384, 2, none⟩ (.string ((rd_T65 l0 x25_1).f2))).setCell ⟨gb384, 3, none⟩ (.slice A383_3 ((rd_T65 l0 x25_1).f3).length c383_3))) ?hg ?ho ?hn ?hr ?_; (case ho => rfl); (case hg => rfl); (case hn => rfl); (case hr => exact dq0); intro w35 hw; have n0_ : Aside0 (Kd.R Kd.bool 4 w35 w.heap.size (fun _ => True) v381 x9_1) := ⟨dq81⟩; have n1_ : Aside0 (w35.heap[gb384]? = some (.cells #[.int .i64 ((rd_T65 l0 x25_1).f0), .string ((rd_T65 l0 x25_1).f1), .string ((rd_T65 l0 x25_1).f2), .slice A383_3 ((rd_T65 l0 x25_1).f3).length c383_3] 65 (0, 0))) := ⟨dq80⟩; have n2_ : Aside0 (Below w.heap.size w w35) := ⟨dq79⟩; clear hw; clear HO_9; clear BK384; clear HB; have HO_9 := n0_; have BK384 := n1_; have HB := n2_; clear n0_ n1_ n2_; obtain ⟨⟨hcz36_0, hcz36_1, hcz36_2, hcz36_3⟩, hfz36_0, hfz36_1, hfz36_2, hfz36_3⟩ := blkC4 BK384.out) | (go_at_call 124; (with_reducible refine (impl_within.calls k1 _ _ l0 x25_1 a1 t387 _ ?side1 ?side2 A30.out).mono ?_); (case side1 => exact dq1); (case side2 => exact HC0.out); rintro e w' ⟨rfl, ⟨nd, rfl⟩⟩; (try (rw [drewN_self w35]; generalize hq_ : World.drewN w35 _ = w35; have n0_ : Aside0 (Kd.R Kd.bool 4 w35 w.heap.size (fun _ => True) v381 x9_1) := ⟨by rw [← hq_]; exact dq82⟩; have n1_ : Aside0 (w35.heap[gb384]? = some (.cells #[.int .i64 ((rd_T65 l0 x25_1).f0), .string ((rd_T65 l0 x25_1).f1), .string ((rd_T65 l0 x25_1).f2), .slice A383_3 ((rd_T65 l0 x25_1).f3).length c383_3] 65 (0, 0))) := ⟨by rw [← hq_]; exact (by refine blk_up ?_; exact BK384.out)⟩; have n2_ : Aside0 (Below w.heap.size w w35) := ⟨by rw [← hq_]; exact dq83⟩; clear HO_9 BK384 HB hq_; have HO_9 := n0_; have BK384 := n1_; have HB := n2_; clear n0_ n1_ n2_)); have p32 : 0 ≤ (x25_1 : Int) := of_decide_eq_true dq18; have q32 : (x25_1 : Int) < ((x9_1.length : Int) : Int) := of_decide_eq_true dq18; obtain ⟨go32, co32, eo32, gb32, gl32, cl32, HG32⟩ := Kd.R_form HO_9.out dq23; (first | cases eo32 | (injection eo32 with ea_ en_ ec_; (first | subst ea_ | (injection ea_ with ea_; subst ea_)); subst ec_; clear en_)); have GB32 := Aside0.mk gb32; have GG32 := Aside0.mk HG32; clear gb32 gl32 HG32; obtain ⟨hx32_0, hf32_0⟩ := Kd.R_celln false HO_9.out (x25_1 : Int) p32 q32; replace p32 := eq_true p32; replace q32 := eq_true q32; obtain ⟨hy37_, hz37_⟩ := Kd.R_celln false HO_9.out (x25_1 : Int) (of_decide_eq_true dq18) (of_decide_eq_true dq18); have HP37 := Kd.R_putg HO_9.out (x25_1 : Int) t387) | ((with_reducible refine gate_store (t := 4) (p := 49) rfl ?_); refine store_event (t := 4) (p := 49) (v := ?vo_w38) (w1 := (w35.setCell ⟨go32, (x25_1 : Int).toNat, none⟩ (.bool t387))) ?hg ?ho ?hn ?hr ?_; (case ho => rfl); (case hg => rfl); (case hn => rfl); (case hr => exact dq0); intro w38 hw; have hg : w35.grownBy w38 (some go32) := (by rw [hw]; exact HP37.2); have hp_ : Kd.R Kd.bool 4 w38 w.heap.size (fun _ => True) (.slice (some ⟨go32, 0, none⟩) x9_1.length co32) y388 := (by rw [hw, Ny388.out]; exact HP37.1); clear HP37; have n0_ := Aside0.mk (hp_); have n1_ := Aside0.mk (blk_grown (g := gb384) (o := .cells #[.int .i64 ((rd_T65 l0 x25_1).f0), .string ((rd_T65 l0 x25_1).f1), .string ((rd_T65 l0 x25_1).f2), .slice A383_3 ((rd_T65 l0 x25_1).f3).length c383_3] 65 (0, 0)) (by refine blk_up ?_; exact BK384.out) hg (Kd.R_ne HO_9.out BK384.out dq29)); have n2_ := Aside0.mk ((by rw [hw]; exact below_set (HB.out) GB32.out : Below w.heap.size w w38)); clear HO_9; clear BK384; clear HB; have HO_9 := n0_; have BK384 := n1_; have HB := n2_; clear n0_ n1_ n2_; clear hg hw hp_))
   go_roundg k1
   case measure => have := HK1.out; omega
   case rel => exact ⟨(y388), (wrap64 (x25_1 + 1)), dq17, H', ⟨dq19⟩, ⟨dq82⟩, ⟨dq83⟩⟩
  rw [if_neg c9] at H
  have c9b0 := decide_eq_false c9
  clear c9
  have H' := Aside0.mk H
  clear H
  go_wp2
  go_loopg [9, 53] k1 (fun kq v9 v53 w' => ∃ (x9_2 : List Bool) (x53_2 : Int), v53 = .int .i64 x53_2 ∧ Aside0 (impl_led.l1 kq l0 x9_2 l2 (l2.length : Int) x53_2 = some r) ∧ Aside0 (kq ≤ k1) ∧ Aside0 (Kd.R Kd.bool 4 w' w.heap.size (fun _ => True) v9 x9_2) ∧ Aside0 (Below w.heap.size w w'))
  case atStart => exact ⟨(x9_1), (0), dq17, H', ⟨Nat.le_refl _⟩, ⟨dq82⟩, ⟨dq25⟩⟩
  clear H'
  try clear c9b0
  obtain ⟨x9_2, x53_2, rfl, HA, HK2, HO_9, HB⟩ := hrel
  cases gk with
  | zero => exact absurd HA.out (by simp [impl_led.l1])
  | succ k2 =>
   have H := HA.out
   clear HA
   simp only [impl_led.l1] at H
   by_cases c46 : x53_2 < (l2.length : Int)
   rotate_left
   ·rw [if_neg c46] at H
    have c46b0 := decide_eq_false c46
    clear c46
    obtain ⟨y400, hy400⟩ : ∃ y_ : List Int, y_ = (([] : List Int)) := ⟨_, rfl⟩
    replace H : (impl_led.l3 k2 y400 x9_2 (x9_2.length : Int) 0) = some r := by first | (rw [hy400]; with_reducible exact H) | (have H2_ := (Option.bind_some _ _).symm.trans H; rw [hy400]; with_reducible exact H2_) | (have H2_ := (Option.bind_some _ _).symm.trans H; with_reducible exact H2_) | with_reducible exact H | (rw [hy400]; exact H) | exact H
    have Ny400 := Aside0.mk hy400
    clear hy400
    have H' := Aside0.mk H
    clear H
    go_wp2_with (first | ((with_reducible refine gate_dst (N := 89) rfl ?_); refine Kd.R_lit (Kd.int .i64) _ 2 ?hg (N := 89) ?hd (xs := ([] : List Int)) (inner := []) (ok := fun _ => True) (okp := fun _ => True) ?hr ?hp (fun _ hk => hk) trivial (Below.refl _ _) (Nat.le_refl _) dq20 ?_; (case hd => rfl); (case hg => rfl); (case hr => exact dq0); (case hp => exact (Reps.none _ _)); intro v401 w87 ho88 hb hg_ hnew_; clear hg_ hnew_; (first | rw [← Ny400.out] at ho88 | (simp only [Int.reduceToNat] at ho88; rw [← Ny400.out] at ho88)); have n0_ := Aside0.mk (Kd.R_below dq82 hb); have n1_ := Aside0.mk (Kd.R_lower ho88 (below_size dq25)); have n2_ := Aside0.mk (below_step dq25 hb); clear HO_9; clear HB; have HO_9 := n0_; have HO402 := n1_; have HB := n2_; clear n0_ n1_ n2_; clear hb ho88; obtain ⟨Ao89, co89, eo89⟩ := Kd.R_slice HO_9.out; subst eo89))
    go_loopg [17, 92] k2 (fun kq v17 v92 w' => ∃ (x17_3 : List Int) (x92_3 : Int), v92 = .int .i64 x92_3 ∧ Aside0 (impl_led.l3 kq x17_3 x9_2 (x9_2.length : Int) x92_3 = some r) ∧ Aside0 (kq ≤ k2) ∧ Aside0 (Kd.R (Kd.int .i64) 2 w' w.heap.size (fun _ => True) v17 x17_3) ∧ Aside0 (Kd.R Kd.bool 4 w' w.heap.size (fun _ => True) (.slice Ao89 x9_2.length co89) x9_2) ∧ Aside0 (Below w.heap.size w w'))
    case atStart => exact ⟨(y400), (0), dq17, H', ⟨Nat.le_refl _⟩, ⟨by (with_reducible repeat (first | apply Kd.R_alloc | apply Kd.R_drewN | apply Kd.R_drew)); exact HO402.out⟩, ⟨dq82⟩, ⟨dq25⟩⟩
    clear H'
    try clear c46b0
    obtain ⟨x17_3, x92_3, rfl, HA, HK3, HO_17, HO_90, HB⟩ := hrel
    cases gk with
    | zero => exact absurd HA.out (by simp [impl_led.l3])
    | succ k3 =>
     have H := HA.out
     clear HA
     simp only [impl_led.l3] at H
     by_cases c90 : x92_3 < (x9_2.length : Int)
     rotate_left
     ·rw [if_neg c90] at H
      have c90b0 := decide_eq_false c90
      clear c90
      obtain rfl := Option.some.inj H
      go_wp2
      go_ret
      exact ⟨_, dq27, dq92, dq25⟩
     rw [if_pos c90] at H
     have c90b0 := decide_eq_true c90
     clear c90
     by_cases c91 : 0 ≤ x92_3
     rotate_left
     ·rw [if_neg c91] at H
      exact absurd H dq20
     rw [if_pos c91] at H
     have c91b0 := decide_eq_true c91
     clear c91
     by_cases c92 : x92_3 < (x9_2.length : Int)
     rotate_left
     ·rw [if_neg c92] at H
      exact absurd H dq20
     rw [if_pos c92] at H
     have c92b0 := decide_eq_true c92
     clear c92
     obtain ⟨bq93, hbq93⟩ : ∃ b_ : Bool, b_ = (rdOf false x9_2 x92_3) := ⟨_, rfl⟩
     replace H : (if bq93 = true then (if x17_3.length < 17592186044416 then (impl_led.l3 k3 (x17_3 ++ [x92_3]) x9_2 (x9_2.length : Int) (wrap64 (x92_3 + 1))) else (none)) else (impl_led.l3 k3 x17_3 x9_2 (x9_2.length : Int) (wrap64 (x92_3 + 1)))) = some r := by rw [← hbq93] at H; exact H
     have Nbq93 := Aside0.mk hbq93
     clear hbq93
     by_cases c94 : bq93 = true
     rotate_left
     ·replace c94 := Bool.eq_false_iff.mpr c94
      subst c94
      have H1 : (impl_led.l3 k3 x17_3 x9_2 (x9_2.length : Int) (wrap64 (x92_3 + 1))) = some r := by rw [if_neg (show ¬ (false = true) by decide)] at H; exact H
      clear H
      have H := H1
      clear H1
      have H' := Aside0.mk H
      clear H
      have p403 : 0 ≤ (x92_3 : Int) := of_decide_eq_true dq18
      have q403 : x92_3 < (x9_2.length : Int) := of_decide_eq_true dq18
      obtain ⟨ad403, e403, hx403_0⟩ := Kd.at_bool (Kd.R_reads' HO_90.out).2.2 x92_3 p403 q403
      (try rw [← Nbq93.out] at hx403_0)
      cases e403
      replace p403 := eq_true p403
      replace q403 := eq_true q403
      go_wp2
      go_roundg k3
      case measure => have := HK1.out; have := HK2.out; have := HK3.out; omega
      case rel => exact ⟨(x17_3), (wrap64 (x92_3 + 1)), dq17, H', ⟨dq91⟩, ⟨dq92⟩, ⟨dq93⟩, ⟨dq25⟩⟩
     subst c94
     have H1 : (if x17_3.length < 17592186044416 then (impl_led.l3 k3 (x17_3 ++ [x92_3]) x9_2 (x9_2.length : Int) (wrap64 (x92_3 + 1))) else (none)) = some r := by rw [if_pos rfl] at H; exact H
     clear H
     have H := H1
     clear H1
     by_cases c95 : x17_3.length < 17592186044416
     rotate_left
     ·rw [if_neg c95] at H
      exact absurd H dq20
     rw [if_pos c95] at H
     have LMc95 := Aside0.mk c95
     clear c95
     obtain ⟨y404, hy404⟩ : ∃ y_ : List Int, y_ = (x17_3 ++ [x92_3]) := ⟨_, rfl⟩
     replace H : (impl_led.l3 k3 y404 x9_2 (x9_2.length : Int) (wrap64 (x92_3 + 1))) = some r := by first | (rw [hy404]; with_reducible exact H) | (have H2_ := (Option.bind_some _ _).symm.trans H; rw [hy404]; with_reducible exact H2_) | (have H2_ := (Option.bind_some _ _).symm.trans H; with_reducible exact H2_) | with_reducible exact H | (rw [hy404]; exact H) | exact H
     have Ny404 := Aside0.mk hy404
     clear hy404
     have H' := Aside0.mk H
     clear H
     have p403 : 0 ≤ (x92_3 : Int) := of_decide_eq_true dq18
     have q403 : x92_3 < (x9_2.length : Int) := of_decide_eq_true dq18
     obtain ⟨ad403, e403, hx403_0⟩ := Kd.at_bool (Kd.R_reads' HO_90.out).2.2 x92_3 p403 q403
     (try rw [← Nbq93.out] at hx403_0)
     cases e403
     replace p403 := eq_true p403
     replace q403 := eq_true q403
     go_wp2_with (first | ((with_reducible refine gate_builtin (b := .append) (xs := #[.tmp 98, .tmp 100]) rfl ?_); at_builtin; refine Kd.R_append (Kd.int .i64) (w0 := w) w.heap.size rfl (.tmp 98) (.tmp 100) 47 2 (.int .i64 0) 8 rfl Tryz.underlying47 info2 rfl dq29 dq23 u17 x17_3 x92_3 [.int .i64 x92_3] (fun _ => True) (fun _ => False) rfl rfl ?aP (fun _ hk => hk.elim) ?aF ?aO ?aB ?aS ?aL ?_; (case aP => exact rfl); (case aB => exact dq25); (case aF => exact (fun _ _ => trivial)); (case aO => exact dq92); (case aS => exact (below_size dq25)); (case aL => have := LMc95.out; omega); intro v405 w96 ho hb hg hat; rw [← Ny404.out] at ho; have n0_ := Aside0.mk (Kd.R_over' dq93 (Kd.R_typed dq92) dq29 hg); have n1_ := Aside0.mk (hb); have n2_ := Aside0.mk (ho); clear HO_90; clear HB; clear HO_17; have HO_90 := n0_; have HB := n1_; have HO406 := n2_; clear n0_ n1_ n2_; clear ho hb hg hat))
     go_roundg k3
     case measure => have := HK1.out; have := HK2.out; have := HK3.out; omega
     case rel => exact ⟨(y404), (wrap64 (x92_3 + 1)), dq17, H', ⟨dq91⟩, ⟨by (with_reducible repeat (first | apply Kd.R_alloc | apply Kd.R_drewN | apply Kd.R_drew)); exact HO406.out⟩, ⟨dq93⟩, ⟨dq25⟩⟩
   rw [if_pos c46] at H
   have c46b0 := decide_eq_true c46
   clear c46
   by_cases c47 : 0 ≤ x53_2
   rotate_left
   ·rw [if_neg c47] at H
    exact absurd H dq20
   rw [if_pos c47] at H
   have c47b0 := decide_eq_true c47
   clear c47
   by_cases c48 : x53_2 < (l2.length : Int)
   rotate_left
   ·rw [if_neg c48] at H
    exact absurd H dq20
   rw [if_pos c48] at H
   have c48b0 := decide_eq_true c48
   clear c48
   by_cases c49 : 0 ≤ (l0.length : Int)
   rotate_left
   ·rw [if_neg c49] at H
    exact absurd H dq20
   rw [if_pos c49] at H
   have c49b0 := eq_true c49
   have c49b1 := decide_eq_true c49
   clear c49
   by_cases c50 : ((l0.length : Int) : Int).toNat ≤ 281474976710656
   rotate_left
   ·rw [if_neg c50] at H
    exact absurd H dq20
   rw [if_pos c50] at H
   have c50b0 := eq_true c50
   have c50b1 := decide_eq_true c50
   clear c50
   obtain ⟨y391, hy391⟩ : ∃ y_ : List Bool, y_ = (List.replicate ((l0.length : Int) : Int).toNat false) := ⟨_, rfl⟩
   replace H : (impl_led.l2 k2 l0 x9_2 (rdOf ByteArray.empty l2 x53_2) y391 l2 (l2.length : Int) x53_2 l0 (l0.length : Int) 0) = some r := by first | (rw [hy391]; with_reducible exact H) | (have H2_ := (Option.bind_some _ _).symm.trans H; rw [hy391]; with_reducible exact H2_) | (have H2_ := (Option.bind_some _ _).symm.trans H; with_reducible exact H2_) | with_reducible exact H | (rw [hy391]; exact H) | exact H
   have Ny391 := Aside0.mk hy391
   clear hy391
   have H' := Aside0.mk H
   clear H
   have p390 : 0 ≤ (x53_2 : Int) := of_decide_eq_true dq18
   have q390 : x53_2 < (l2.length : Int) := of_decide_eq_true dq18
   obtain ⟨ad390, e390, hx390_0⟩ := Kd.at_string HR2.out x53_2 p390 q390
   cases e390
   replace hx390_0 := (HB.out.cell (World.block_lt_of_cell? w _ hx390_0)).trans hx390_0
   replace p390 := eq_true p390
   replace q390 := eq_true q390
   go_wp2_with (first | ((with_reducible refine gate_dst (N := 59) rfl ?_); refine Kd.R_make Kd.bool _ 4 rfl (N := 59) rfl 158 _ _ rfl (l0.length : Int) rfl rfl Tryz.underlying158 (.bool false) 1 info4 rfl dq29 dq23 false (ok := fun _ => True) (okp := fun _ => True) rfl (fun _ hk => hk) trivial (of_decide_eq_true dq18) (Nat.le_trans (Nat.mul_le_mul_right _ (of_decide_eq_true dq18 : (l0.length : Int).toNat ≤ 281474976710656)) dq23) (Below.refl _ _) (Nat.le_refl _) ?_; intro v392 w51 ho52 hb hg_ hnew_; clear hg_ hnew_; (first | rw [← Ny391.out] at ho52 | (simp only [Int.reduceToNat] at ho52; rw [← Ny391.out] at ho52)); have n0_ := Aside0.mk (Kd.R_elder' dq82 (Kd.R_base ho52) hb); have n1_ := Aside0.mk (Kd.R_lower (Kd.R_new' ho52 (Kd.R_lt dq82)) (below_size dq25)); have n2_ := Aside0.mk (below_step dq25 hb); clear HO_9; clear HB; have HO_9 := n0_; have HO393 := n1_; have HB := n2_; clear n0_ n1_ n2_; clear hb ho52))
   go_loopg [62] k2 (fun kq v62 w' => ∃ (x14_3 : List Bool) (x62_3 : Int), v62 = .int .i64 x62_3 ∧ Aside0 (impl_led.l2 kq l0 x9_2 (rdOf ByteArray.empty l2 x53_2) x14_3 l2 (l2.length : Int) x53_2 l0 (l0.length : Int) x62_3 = some r) ∧ Aside0 (kq ≤ k2) ∧ Aside0 (Kd.R Kd.bool 4 w' w.heap.size (fun k_ => some k_ ≠ (v392 : Value).ownBlock) u9 x9_2) ∧ Aside0 (Kd.R Kd.bool 4 w' w.heap.size (fun k_ => some k_ ≠ (u9 : Value).ownBlock) v392 x14_3) ∧ Aside0 (Below w.heap.size w w'))
   case atStart => exact ⟨(y391), (0), dq17, H', ⟨Nat.le_refl _⟩, ⟨dq84⟩, ⟨by (with_reducible repeat (first | apply Kd.R_alloc | apply Kd.R_drewN | apply Kd.R_drew)); exact Kd.R_mono HO393.out (fun _ hk => hk.2)⟩, ⟨dq25⟩⟩
   clear H'
   try clear c46b0
   try clear c47b0
   try clear c48b0
   try clear c49b0
   try clear c49b1
   try clear c50b0
   try clear c50b1
   try clear hx390_0
   try clear p390
   try clear q390
   obtain ⟨x14_3, x62_3, rfl, HA, HK3, HO_9, HO_14, HB⟩ := hrel
   cases gk with
   | zero => exact absurd HA.out (by simp [impl_led.l2])
   | succ k3 =>
    have H := HA.out
    clear HA
    simp only [impl_led.l2] at H
    by_cases c53 : x62_3 < (l0.length : Int)
    rotate_left
    ·rw [if_neg c53] at H
     have c53b0 := decide_eq_false c53
     clear c53
     have H' := Aside0.mk H
     clear H
     go_wp2
     go_roundg k3
     case measure => have := HK1.out; have := HK2.out; have := HK3.out; omega
     case rel => exact ⟨(x14_3), (wrap64 (x53_2 + 1)), dq17, H', ⟨dq91⟩, ⟨by (with_reducible repeat (first | apply Kd.R_alloc | apply Kd.R_drewN | apply Kd.R_drew)); exact Kd.R_mono HO_14.out (fun _ hk => trivial)⟩, ⟨dq25⟩⟩
    rw [if_pos c53] at H
    have c53b0 := decide_eq_true c53
    clear c53
    by_cases c54 : 0 ≤ x62_3
    rotate_left
    ·rw [if_neg c54] at H
     exact absurd H dq20
    rw [if_pos c54] at H
    have c54b0 := decide_eq_true c54
    clear c54
    by_cases c55 : x62_3 < (l0.length : Int)
    rotate_left
    ·rw [if_neg c55] at H
     exact absurd H dq20
    rw [if_pos c55] at H
    have c55b0 := decide_eq_true c55
    clear c55
    by_cases c56 : ((rd_T65 l0 x62_3).f0) ≥ 0
    rotate_left
    ·rw [if_neg c56] at H
     have c56b0 : decide (0 ≤ ((rd_T65 l0 x62_3).f0)) = false := decide_eq_false c56
     clear c56
     by_cases c79 : x62_3 < (x14_3.length : Int)
     rotate_left
     ·rw [if_neg c79] at H
      exact absurd H dq20
     rw [if_pos c79] at H
     have c79b0 := decide_eq_true c79
     clear c79
     obtain ⟨y399, hy399⟩ : ∃ y_ : List Bool, y_ = (x14_3.set (x62_3 : Int).toNat false) := ⟨_, rfl⟩
     replace H : (impl_led.l2 k3 l0 x9_2 (rdOf ByteArray.empty l2 x53_2) y399 l2 (l2.length : Int) x53_2 l0 (l0.length : Int) (wrap64 (x62_3 + 1))) = some r := by first | (rw [hy399]; with_reducible exact H) | (have H2_ := (Option.bind_some _ _).symm.trans H; rw [hy399]; with_reducible exact H2_) | (have H2_ := (Option.bind_some _ _).symm.trans H; with_reducible exact H2_) | with_reducible exact H | (rw [hy399]; exact H) | exact H
     have Ny399 := Aside0.mk hy399
     clear hy399
     have H' := Aside0.mk H
     clear H
     have p394 : 0 ≤ (x62_3 : Int) := of_decide_eq_true dq18
     have q394 : x62_3 < (l0.length : Int) := of_decide_eq_true dq18
     obtain ⟨ad394, A394_3, c394_3, e394, hx394_0, hx394_1, hx394_2, hx394_3, hl394_3, hi394_3⟩ := at_T65 HR0.out x62_3 p394 q394
     cases e394
     replace hx394_0 := (HB.out.cell (World.block_lt_of_cell? w _ hx394_0)).trans hx394_0
     replace hx394_1 := (HB.out.cell (World.block_lt_of_cell? w _ hx394_1)).trans hx394_1
     replace hx394_2 := (HB.out.cell (World.block_lt_of_cell? w _ hx394_2)).trans hx394_2
     replace hx394_3 := (HB.out.cell (World.block_lt_of_cell? w _ hx394_3)).trans hx394_3
     have HR394_3 := Aside0.mk hi394_3
     have HC394_3 := Aside0.mk hl394_3
     clear hi394_3 hl394_3
     replace p394 := eq_true p394
     replace q394 := eq_true q394
     go_wp2_with (first | ((with_reducible refine gate_dst (N := 16) rfl ?_); refine box_event ?hg (N := 16) ?hd (cs := #[.int .i64 0, .string (⟨#[]⟩ : ByteArray), .string (⟨#[]⟩ : ByteArray), .slice none 0 0]) (t := 65) ?hr ?_; (case hd => rfl); (case hg => rfl); (case hr => exact dq0); intro gb395 hg w81 hbox hb; have n0_ := Aside0.mk (Kd.R_below dq82 hb); have n1_ := Aside0.mk (Kd.R_below dq51 hb); have n2_ := Aside0.mk (below_step dq25 hb); have n3_ := Aside0.mk (hbox); have n4_ := Aside0.mk ((dq32 : w.heap.size ≤ gb395)); have n5_ := Aside0.mk ((dq32 : w.heap.size ≤ gb395)); clear HO_9; clear HO_14; clear HB; have HO_9 := n0_; have HO_14 := n1_; have HB := n2_; have BK395 := n3_; have GW395 := n4_; have GE395 := n5_; clear n0_ n1_ n2_ n3_ n4_ n5_; clear hb hbox hg; obtain ⟨⟨hcz82_0, hcz82_1, hcz82_2, hcz82_3⟩, hfz82_0, hfz82_1, hfz82_2, hfz82_3⟩ := blkC4 BK395.out) | ((with_reducible refine gate_store (t := 65) (p := 16) rfl ?_); refine store_event (t := 65) (p := 16) (v := ?vo_w83) (w1 := ((((w81.setCell ⟨gb395, 0, none⟩ (.int .i64 ((rd_T65 l0 x62_3).f0))).setCell ⟨gb395, 1, none⟩ (.string ((rd_T65 l0 x62_3).f1))).setCell ⟨gb395, 2, none⟩ (.string ((rd_T65 l0 x62_3).f2))).setCell ⟨gb395, 3, none⟩ (.slice A394_3 ((rd_T65 l0 x62_3).f3).length c394_3))) ?hg ?ho ?hn ?hr ?_; (case ho => rfl); (case hg => rfl); (case hn => rfl); (case hr => exact dq0); intro w83 hw; have n0_ : Aside0 (Kd.R Kd.bool 4 w83 w.heap.size (fun k_ => some k_ ≠ (v392 : Value).ownBlock) u9 x9_2) := ⟨dq89⟩; have n1_ : Aside0 (Kd.R Kd.bool 4 w83 w.heap.size (fun k_ => some k_ ≠ (u9 : Value).ownBlock) v392 x14_3) := ⟨dq88⟩; have n2_ : Aside0 (w83.heap[gb395]? = some (.cells #[.int .i64 ((rd_T65 l0 x62_3).f0), .string ((rd_T65 l0 x62_3).f1), .string ((rd_T65 l0 x62_3).f2), .slice A394_3 ((rd_T65 l0 x62_3).f3).length c394_3] 65 (0, 0))) := ⟨dq87⟩; have n3_ : Aside0 (Below w.heap.size w w83) := ⟨dq86⟩; clear hw; clear HO_9; clear HO_14; clear BK395; clear HB; have HO_9 := n0_; have HO_14 := n1_; have BK395 := n2_; have HB := n3_; clear n0_ n1_ n2_ n3_; obtain ⟨⟨hcz84_0, hcz84_1, hcz84_2, hcz84_3⟩, hfz84_0, hfz84_1, hfz84_2, hfz84_3⟩ := blkC4 BK395.out; have p80 : 0 ≤ (x62_3 : Int) := of_decide_eq_true dq18; have q80 : (x62_3 : Int) < ((x14_3.length : Int) : Int) := of_decide_eq_true dq18; obtain ⟨go80, co80, eo80, gb80, gl80, cl80, HG80⟩ := Kd.R_form HO_14.out dq23; (first | cases eo80 | (injection eo80 with ea_ en_ ec_; (first | subst ea_ | (injection ea_ with ea_; subst ea_)); subst ec_; clear en_)); have GB80 := Aside0.mk gb80; have GG80 := Aside0.mk HG80; clear gb80 gl80 HG80; obtain ⟨hx80_0, hf80_0⟩ := Kd.R_celln false HO_14.out (x62_3 : Int) p80 q80; replace p80 := eq_true p80; replace q80 := eq_true q80; obtain ⟨hy85_, hz85_⟩ := Kd.R_celln false HO_14.out (x62_3 : Int) (of_decide_eq_true dq18) (of_decide_eq_true dq18); have HP85 := Kd.R_putg HO_14.out (x62_3 : Int) false) | ((with_reducible refine gate_store (t := 4) (p := 85) rfl ?_); refine store_event (t := 4) (p := 85) (v := ?vo_w86) (w1 := (w83.setCell ⟨go80, (x62_3 : Int).toNat, none⟩ (.bool false))) ?hg ?ho ?hn ?hr ?_; (case ho => rfl); (case hg => rfl); (case hn => rfl); (case hr => exact dq0); intro w86 hw; have hg : w83.grownBy w86 (some go80) := (by rw [hw]; exact HP85.2); have hp_ : Kd.R Kd.bool 4 w86 w.heap.size (fun k_ => some k_ ≠ (u9 : Value).ownBlock) (.slice (some ⟨go80, 0, none⟩) x14_3.length co80) y399 := (by rw [hw, Ny399.out]; exact HP85.1); clear HP85; have n0_ := Aside0.mk (Kd.R_after (v := (.slice (some ⟨go80, 0, none⟩) x14_3.length co80)) (v1 := (.slice (some ⟨go80, 0, none⟩) x14_3.length co80)) (ok := (fun _ => True)) dq85 hg (.inl rfl)); have n1_ := Aside0.mk (hp_); have n2_ := Aside0.mk (blk_grown (g := gb395) (o := .cells #[.int .i64 ((rd_T65 l0 x62_3).f0), .string ((rd_T65 l0 x62_3).f1), .string ((rd_T65 l0 x62_3).f2), .slice A394_3 ((rd_T65 l0 x62_3).f3).length c394_3] 65 (0, 0)) (by refine blk_up ?_; exact BK395.out) hg (Kd.R_ne HO_14.out BK395.out dq29)); have n3_ := Aside0.mk ((by rw [hw]; exact below_set (HB.out) GB80.out : Below w.heap.size w w86)); clear HO_9; clear HO_14; clear BK395; clear HB; have HO_9 := n0_; have HO_14 := n1_; have BK395 := n2_; have HB := n3_; clear n0_ n1_ n2_ n3_; clear hg hw hp_))
     go_roundg k3
     case measure => have := HK1.out; have := HK2.out; have := HK3.out; omega
     case rel => exact ⟨(y399), (wrap64 (x62_3 + 1)), dq17, H', ⟨dq91⟩, ⟨dq84⟩, ⟨dq51⟩, ⟨dq90⟩⟩
    rw [if_pos c56] at H
    have c56b0 : decide (0 ≤ ((rd_T65 l0 x62_3).f0)) = true := decide_eq_true c56
    clear c56
    by_cases c57 : 0 ≤ ((rd_T65 l0 x62_3).f0)
    rotate_left
    ·rw [if_neg c57] at H
     exact absurd H dq20
    rw [if_pos c57] at H
    have c57b0 := decide_eq_true c57
    clear c57
    by_cases c58 : ((rd_T65 l0 x62_3).f0) < (x9_2.length : Int)
    rotate_left
    ·rw [if_neg c58] at H
     exact absurd H dq20
    rw [if_pos c58] at H
    have c58b0 := decide_eq_true c58
    clear c58
    obtain ⟨bq59, hbq59⟩ : ∃ b_ : Bool, b_ = (rdOf false x9_2 ((rd_T65 l0 x62_3).f0)) := ⟨_, rfl⟩
    replace H : (if bq59 = true then (if x62_3 < (x14_3.length : Int) then (impl_led.l2 k3 l0 x9_2 (rdOf ByteArray.empty l2 x53_2) (x14_3.set (x62_3 : Int).toNat (((rd_T65 l0 x62_3).f1).toList == (rdOf ByteArray.empty l2 x53_2).toList)) l2 (l2.length : Int) x53_2 l0 (l0.length : Int) (wrap64 (x62_3 + 1))) else (none)) else (if x62_3 < (x14_3.length : Int) then (impl_led.l2 k3 l0 x9_2 (rdOf ByteArray.empty l2 x53_2) (x14_3.set (x62_3 : Int).toNat false) l2 (l2.length : Int) x53_2 l0 (l0.length : Int) (wrap64 (x62_3 + 1))) else (none))) = some r := by rw [← hbq59] at H; exact H
    have Nbq59 := Aside0.mk hbq59
    clear hbq59
    by_cases c60 : bq59 = true
    rotate_left
    ·replace c60 := Bool.eq_false_iff.mpr c60
     subst c60
     have H1 : (if x62_3 < (x14_3.length : Int) then (impl_led.l2 k3 l0 x9_2 (rdOf ByteArray.empty l2 x53_2) (x14_3.set (x62_3 : Int).toNat false) l2 (l2.length : Int) x53_2 l0 (l0.length : Int) (wrap64 (x62_3 + 1))) else (none)) = some r := by rw [if_neg (show ¬ (false = true) by decide)] at H; exact H
     clear H
     have H := H1
     clear H1
     by_cases c70 : x62_3 < (x14_3.length : Int)
     rotate_left
     ·rw [if_neg c70] at H
      exact absurd H dq20
     rw [if_pos c70] at H
     have c70b0 := decide_eq_true c70
     clear c70
     obtain ⟨y398, hy398⟩ : ∃ y_ : List Bool, y_ = (x14_3.set (x62_3 : Int).toNat false) := ⟨_, rfl⟩
     replace H : (impl_led.l2 k3 l0 x9_2 (rdOf ByteArray.empty l2 x53_2) y398 l2 (l2.length : Int) x53_2 l0 (l0.length : Int) (wrap64 (x62_3 + 1))) = some r := by first | (rw [hy398]; with_reducible exact H) | (have H2_ := (Option.bind_some _ _).symm.trans H; rw [hy398]; with_reducible exact H2_) | (have H2_ := (Option.bind_some _ _).symm.trans H; with_reducible exact H2_) | with_reducible exact H | (rw [hy398]; exact H) | exact H
     have Ny398 := Aside0.mk hy398
     clear hy398
     have H' := Aside0.mk H
     clear H
     have p394 : 0 ≤ (x62_3 : Int) := of_decide_eq_true dq18
     have q394 : x62_3 < (l0.length : Int) := of_decide_eq_true dq18
     obtain ⟨ad394, A394_3, c394_3, e394, hx394_0, hx394_1, hx394_2, hx394_3, hl394_3, hi394_3⟩ := at_T65 HR0.out x62_3 p394 q394
     cases e394
     replace hx394_0 := (HB.out.cell (World.block_lt_of_cell? w _ hx394_0)).trans hx394_0
     replace hx394_1 := (HB.out.cell (World.block_lt_of_cell? w _ hx394_1)).trans hx394_1
     replace hx394_2 := (HB.out.cell (World.block_lt_of_cell? w _ hx394_2)).trans hx394_2
     replace hx394_3 := (HB.out.cell (World.block_lt_of_cell? w _ hx394_3)).trans hx394_3
     have HR394_3 := Aside0.mk hi394_3
     have HC394_3 := Aside0.mk hl394_3
     clear hi394_3 hl394_3
     replace p394 := eq_true p394
     replace q394 := eq_true q394
     go_wp2_with (first | ((with_reducible refine gate_dst (N := 16) rfl ?_); refine box_event ?hg (N := 16) ?hd (cs := #[.int .i64 0, .string (⟨#[]⟩ : ByteArray), .string (⟨#[]⟩ : ByteArray), .slice none 0 0]) (t := 65) ?hr ?_; (case hd => rfl); (case hg => rfl); (case hr => exact dq0); intro gb395 hg w72 hbox hb; have n0_ := Aside0.mk (Kd.R_below dq82 hb); have n1_ := Aside0.mk (Kd.R_below dq51 hb); have n2_ := Aside0.mk (below_step dq25 hb); have n3_ := Aside0.mk (hbox); have n4_ := Aside0.mk ((dq32 : w.heap.size ≤ gb395)); have n5_ := Aside0.mk ((dq32 : w.heap.size ≤ gb395)); clear HO_9; clear HO_14; clear HB; have HO_9 := n0_; have HO_14 := n1_; have HB := n2_; have BK395 := n3_; have GW395 := n4_; have GE395 := n5_; clear n0_ n1_ n2_ n3_ n4_ n5_; clear hb hbox hg; obtain ⟨⟨hcz73_0, hcz73_1, hcz73_2, hcz73_3⟩, hfz73_0, hfz73_1, hfz73_2, hfz73_3⟩ := blkC4 BK395.out) | ((with_reducible refine gate_store (t := 65) (p := 16) rfl ?_); refine store_event (t := 65) (p := 16) (v := ?vo_w74) (w1 := ((((w72.setCell ⟨gb395, 0, none⟩ (.int .i64 ((rd_T65 l0 x62_3).f0))).setCell ⟨gb395, 1, none⟩ (.string ((rd_T65 l0 x62_3).f1))).setCell ⟨gb395, 2, none⟩ (.string ((rd_T65 l0 x62_3).f2))).setCell ⟨gb395, 3, none⟩ (.slice A394_3 ((rd_T65 l0 x62_3).f3).length c394_3))) ?hg ?ho ?hn ?hr ?_; (case ho => rfl); (case hg => rfl); (case hn => rfl); (case hr => exact dq0); intro w74 hw; have n0_ : Aside0 (Kd.R Kd.bool 4 w74 w.heap.size (fun k_ => some k_ ≠ (v392 : Value).ownBlock) u9 x9_2) := ⟨dq89⟩; have n1_ : Aside0 (Kd.R Kd.bool 4 w74 w.heap.size (fun k_ => some k_ ≠ (u9 : Value).ownBlock) v392 x14_3) := ⟨dq88⟩; have n2_ : Aside0 (w74.heap[gb395]? = some (.cells #[.int .i64 ((rd_T65 l0 x62_3).f0), .string ((rd_T65 l0 x62_3).f1), .string ((rd_T65 l0 x62_3).f2), .slice A394_3 ((rd_T65 l0 x62_3).f3).length c394_3] 65 (0, 0))) := ⟨dq87⟩; have n3_ : Aside0 (Below w.heap.size w w74) := ⟨dq86⟩; clear hw; clear HO_9; clear HO_14; clear BK395; clear HB; have HO_9 := n0_; have HO_14 := n1_; have BK395 := n2_; have HB := n3_; clear n0_ n1_ n2_ n3_; obtain ⟨⟨hcz75_0, hcz75_1, hcz75_2, hcz75_3⟩, hfz75_0, hfz75_1, hfz75_2, hfz75_3⟩ := blkC4 BK395.out; obtain ⟨Ao76, co76, eo76⟩ := Kd.R_slice HO_9.out; subst eo76; have p396 : 0 ≤ (((rd_T65 l0 x62_3).f0) : Int) := of_decide_eq_true dq18; have q396 : ((rd_T65 l0 x62_3).f0) < (x9_2.length : Int) := of_decide_eq_true dq18; obtain ⟨ad396, e396, hx396_0⟩ := Kd.at_bool (Kd.R_reads' HO_9.out).2.2 ((rd_T65 l0 x62_3).f0) p396 q396; (try rw [← Nbq59.out] at hx396_0); cases e396; replace p396 := eq_true p396; replace q396 := eq_true q396; have p71 : 0 ≤ (x62_3 : Int) := of_decide_eq_true dq18; have q71 : (x62_3 : Int) < ((x14_3.length : Int) : Int) := of_decide_eq_true dq18; obtain ⟨go71, co71, eo71, gb71, gl71, cl71, HG71⟩ := Kd.R_form HO_14.out dq23; (first | cases eo71 | (injection eo71 with ea_ en_ ec_; (first | subst ea_ | (injection ea_ with ea_; subst ea_)); subst ec_; clear en_)); have GB71 := Aside0.mk gb71; have GG71 := Aside0.mk HG71; clear gb71 gl71 HG71; obtain ⟨hx71_0, hf71_0⟩ := Kd.R_celln false HO_14.out (x62_3 : Int) p71 q71; replace p71 := eq_true p71; replace q71 := eq_true q71; obtain ⟨hy77_, hz77_⟩ := Kd.R_celln false HO_14.out (x62_3 : Int) (of_decide_eq_true dq18) (of_decide_eq_true dq18); have HP77 := Kd.R_putg HO_14.out (x62_3 : Int) false) | ((with_reducible refine gate_store (t := 4) (p := 85) rfl ?_); refine store_event (t := 4) (p := 85) (v := ?vo_w78) (w1 := (w74.setCell ⟨go71, (x62_3 : Int).toNat, none⟩ (.bool false))) ?hg ?ho ?hn ?hr ?_; (case ho => rfl); (case hg => rfl); (case hn => rfl); (case hr => exact dq0); intro w78 hw; have hg : w74.grownBy w78 (some go71) := (by rw [hw]; exact HP77.2); have hp_ : Kd.R Kd.bool 4 w78 w.heap.size (fun k_ => some k_ ≠ (.slice (some ad396) x9_2.length co76 : Value).ownBlock) (.slice (some ⟨go71, 0, none⟩) x14_3.length co71) y398 := (by rw [hw, Ny398.out]; exact HP77.1); clear HP77; have n0_ := Aside0.mk (Kd.R_after (v := (.slice (some ⟨go71, 0, none⟩) x14_3.length co71)) (v1 := (.slice (some ⟨go71, 0, none⟩) x14_3.length co71)) (ok := (fun _ => True)) dq85 hg (.inl rfl)); have n1_ := Aside0.mk (hp_); have n2_ := Aside0.mk (blk_grown (g := gb395) (o := .cells #[.int .i64 ((rd_T65 l0 x62_3).f0), .string ((rd_T65 l0 x62_3).f1), .string ((rd_T65 l0 x62_3).f2), .slice A394_3 ((rd_T65 l0 x62_3).f3).length c394_3] 65 (0, 0)) (by refine blk_up ?_; exact BK395.out) hg (Kd.R_ne HO_14.out BK395.out dq29)); have n3_ := Aside0.mk ((by rw [hw]; exact below_set (HB.out) GB71.out : Below w.heap.size w w78)); clear HO_9; clear HO_14; clear BK395; clear HB; have HO_9 := n0_; have HO_14 := n1_; have BK395 := n2_; have HB := n3_; clear n0_ n1_ n2_ n3_; clear hg hw hp_))
     go_roundg k3
     case measure => have := HK1.out; have := HK2.out; have := HK3.out; omega
     case rel => exact ⟨(y398), (wrap64 (x62_3 + 1)), dq17, H', ⟨dq91⟩, ⟨dq84⟩, ⟨dq51⟩, ⟨dq90⟩⟩
    subst c60
    have H1 : (if x62_3 < (x14_3.length : Int) then (impl_led.l2 k3 l0 x9_2 (rdOf ByteArray.empty l2 x53_2) (x14_3.set (x62_3 : Int).toNat (((rd_T65 l0 x62_3).f1).toList == (rdOf ByteArray.empty l2 x53_2).toList)) l2 (l2.length : Int) x53_2 l0 (l0.length : Int) (wrap64 (x62_3 + 1))) else (none)) = some r := by rw [if_pos rfl] at H; exact H
    clear H
    have H := H1
    clear H1
    by_cases c61 : x62_3 < (x14_3.length : Int)
    rotate_left
    ·rw [if_neg c61] at H
     exact absurd H dq20
    rw [if_pos c61] at H
    have c61b0 := decide_eq_true c61
    clear c61
    obtain ⟨y397, hy397⟩ : ∃ y_ : List Bool, y_ = (x14_3.set (x62_3 : Int).toNat (((rd_T65 l0 x62_3).f1).toList == (rdOf ByteArray.empty l2 x53_2).toList)) := ⟨_, rfl⟩
    replace H : (impl_led.l2 k3 l0 x9_2 (rdOf ByteArray.empty l2 x53_2) y397 l2 (l2.length : Int) x53_2 l0 (l0.length : Int) (wrap64 (x62_3 + 1))) = some r := by first | (rw [hy397]; with_reducible exact H) | (have H2_ := (Option.bind_some _ _).symm.trans H; rw [hy397]; with_reducible exact H2_) | (have H2_ := (Option.bind_some _ _).symm.trans H; with_reducible exact H2_) | with_reducible exact H | (rw [hy397]; exact H) | exact H
    have Ny397 := Aside0.mk hy397
    clear hy397
    have H' := Aside0.mk H
    clear H
    have p394 : 0 ≤ (x62_3 : Int) := of_decide_eq_true dq18
    have q394 : x62_3 < (l0.length : Int) := of_decide_eq_true dq18
    obtain ⟨ad394, A394_3, c394_3, e394, hx394_0, hx394_1, hx394_2, hx394_3, hl394_3, hi394_3⟩ := at_T65 HR0.out x62_3 p394 q394
    cases e394
    replace hx394_0 := (HB.out.cell (World.block_lt_of_cell? w _ hx394_0)).trans hx394_0
    replace hx394_1 := (HB.out.cell (World.block_lt_of_cell? w _ hx394_1)).trans hx394_1
    replace hx394_2 := (HB.out.cell (World.block_lt_of_cell? w _ hx394_2)).trans hx394_2
    replace hx394_3 := (HB.out.cell (World.block_lt_of_cell? w _ hx394_3)).trans hx394_3
    have HR394_3 := Aside0.mk hi394_3
    have HC394_3 := Aside0.mk hl394_3
    clear hi394_3 hl394_3
    replace p394 := eq_true p394
    replace q394 := eq_true q394
    go_wp2_with (first | ((with_reducible refine gate_dst (N := 16) rfl ?_); refine box_event ?hg (N := 16) ?hd (cs := #[.int .i64 0, .string (⟨#[]⟩ : ByteArray), .string (⟨#[]⟩ : ByteArray), .slice none 0 0]) (t := 65) ?hr ?_; (case hd => rfl); (case hg => rfl); (case hr => exact dq0); intro gb395 hg w63 hbox hb; have n0_ := Aside0.mk (Kd.R_below dq82 hb); have n1_ := Aside0.mk (Kd.R_below dq51 hb); have n2_ := Aside0.mk (below_step dq25 hb); have n3_ := Aside0.mk (hbox); have n4_ := Aside0.mk ((dq32 : w.heap.size ≤ gb395)); have n5_ := Aside0.mk ((dq32 : w.heap.size ≤ gb395)); clear HO_9; clear HO_14; clear HB; have HO_9 := n0_; have HO_14 := n1_; have HB := n2_; have BK395 := n3_; have GW395 := n4_; have GE395 := n5_; clear n0_ n1_ n2_ n3_ n4_ n5_; clear hb hbox hg; obtain ⟨⟨hcz64_0, hcz64_1, hcz64_2, hcz64_3⟩, hfz64_0, hfz64_1, hfz64_2, hfz64_3⟩ := blkC4 BK395.out) | ((with_reducible refine gate_store (t := 65) (p := 16) rfl ?_); refine store_event (t := 65) (p := 16) (v := ?vo_w65) (w1 := ((((w63.setCell ⟨gb395, 0, none⟩ (.int .i64 ((rd_T65 l0 x62_3).f0))).setCell ⟨gb395, 1, none⟩ (.string ((rd_T65 l0 x62_3).f1))).setCell ⟨gb395, 2, none⟩ (.string ((rd_T65 l0 x62_3).f2))).setCell ⟨gb395, 3, none⟩ (.slice A394_3 ((rd_T65 l0 x62_3).f3).length c394_3))) ?hg ?ho ?hn ?hr ?_; (case ho => rfl); (case hg => rfl); (case hn => rfl); (case hr => exact dq0); intro w65 hw; have n0_ : Aside0 (Kd.R Kd.bool 4 w65 w.heap.size (fun k_ => some k_ ≠ (v392 : Value).ownBlock) u9 x9_2) := ⟨dq89⟩; have n1_ : Aside0 (Kd.R Kd.bool 4 w65 w.heap.size (fun k_ => some k_ ≠ (u9 : Value).ownBlock) v392 x14_3) := ⟨dq88⟩; have n2_ : Aside0 (w65.heap[gb395]? = some (.cells #[.int .i64 ((rd_T65 l0 x62_3).f0), .string ((rd_T65 l0 x62_3).f1), .string ((rd_T65 l0 x62_3).f2), .slice A394_3 ((rd_T65 l0 x62_3).f3).length c394_3] 65 (0, 0))) := ⟨dq87⟩; have n3_ : Aside0 (Below w.heap.size w w65) := ⟨dq86⟩; clear hw; clear HO_9; clear HO_14; clear BK395; clear HB; have HO_9 := n0_; have HO_14 := n1_; have BK395 := n2_; have HB := n3_; clear n0_ n1_ n2_ n3_; obtain ⟨⟨hcz66_0, hcz66_1, hcz66_2, hcz66_3⟩, hfz66_0, hfz66_1, hfz66_2, hfz66_3⟩ := blkC4 BK395.out; obtain ⟨Ao67, co67, eo67⟩ := Kd.R_slice HO_9.out; subst eo67; have p396 : 0 ≤ (((rd_T65 l0 x62_3).f0) : Int) := of_decide_eq_true dq18; have q396 : ((rd_T65 l0 x62_3).f0) < (x9_2.length : Int) := of_decide_eq_true dq18; obtain ⟨ad396, e396, hx396_0⟩ := Kd.at_bool (Kd.R_reads' HO_9.out).2.2 ((rd_T65 l0 x62_3).f0) p396 q396; (try rw [← Nbq59.out] at hx396_0); cases e396; replace p396 := eq_true p396; replace q396 := eq_true q396; have p62 : 0 ≤ (x62_3 : Int) := of_decide_eq_true dq18; have q62 : (x62_3 : Int) < ((x14_3.length : Int) : Int) := of_decide_eq_true dq18; obtain ⟨go62, co62, eo62, gb62, gl62, cl62, HG62⟩ := Kd.R_form HO_14.out dq23; (first | cases eo62 | (injection eo62 with ea_ en_ ec_; (first | subst ea_ | (injection ea_ with ea_; subst ea_)); subst ec_; clear en_)); have GB62 := Aside0.mk gb62; have GG62 := Aside0.mk HG62; clear gb62 gl62 HG62; obtain ⟨hx62_0, hf62_0⟩ := Kd.R_celln false HO_14.out (x62_3 : Int) p62 q62; replace p62 := eq_true p62; replace q62 := eq_true q62; obtain ⟨hy68_, hz68_⟩ := Kd.R_celln false HO_14.out (x62_3 : Int) (of_decide_eq_true dq18) (of_decide_eq_true dq18); have HP68 := Kd.R_putg HO_14.out (x62_3 : Int) (((rd_T65 l0 x62_3).f1).toList == (rdOf ByteArray.empty l2 x53_2).toList)) | ((with_reducible refine gate_store (t := 4) (p := 85) rfl ?_); refine store_event (t := 4) (p := 85) (v := ?vo_w69) (w1 := (w65.setCell ⟨go62, (x62_3 : Int).toNat, none⟩ (.bool (((rd_T65 l0 x62_3).f1).toList == (rdOf ByteArray.empty l2 x53_2).toList)))) ?hg ?ho ?hn ?hr ?_; (case ho => rfl); (case hg => rfl); (case hn => rfl); (case hr => exact dq0); intro w69 hw; have hg : w65.grownBy w69 (some go62) := (by rw [hw]; exact HP68.2); have hp_ : Kd.R Kd.bool 4 w69 w.heap.size (fun k_ => some k_ ≠ (.slice (some ad396) x9_2.length co67 : Value).ownBlock) (.slice (some ⟨go62, 0, none⟩) x14_3.length co62) y397 := (by rw [hw, Ny397.out]; exact HP68.1); clear HP68; have n0_ := Aside0.mk (Kd.R_after (v := (.slice (some ⟨go62, 0, none⟩) x14_3.length co62)) (v1 := (.slice (some ⟨go62, 0, none⟩) x14_3.length co62)) (ok := (fun _ => True)) dq85 hg (.inl rfl)); have n1_ := Aside0.mk (hp_); have n2_ := Aside0.mk (blk_grown (g := gb395) (o := .cells #[.int .i64 ((rd_T65 l0 x62_3).f0), .string ((rd_T65 l0 x62_3).f1), .string ((rd_T65 l0 x62_3).f2), .slice A394_3 ((rd_T65 l0 x62_3).f3).length c394_3] 65 (0, 0)) (by refine blk_up ?_; exact BK395.out) hg (Kd.R_ne HO_14.out BK395.out dq29)); have n3_ := Aside0.mk ((by rw [hw]; exact below_set (HB.out) GB62.out : Below w.heap.size w w69)); clear HO_9; clear HO_14; clear BK395; clear HB; have HO_9 := n0_; have HO_14 := n1_; have BK395 := n2_; have HB := n3_; clear n0_ n1_ n2_ n3_; clear hg hw hp_))
    go_roundg k3
    case measure => have := HK1.out; have := HK2.out; have := HK3.out; omega
    case rel => exact ⟨(y397), (wrap64 (x62_3 + 1)), dq17, H', ⟨dq91⟩, ⟨dq84⟩, ⟨dq51⟩, ⟨dq90⟩⟩

end Go.Proofs.YtpmjpbaeecnpiaaGreatDoor.L

namespace Go.Proofs.YtpmjpbaeecnpiaaGreatDoor.L
open Go.RowKit Go.Proofs.YtpmjpbaeecnpiaaGreatDoorW.PrintWords Go.Proofs.YtpmjpbaeecnpiaaGreatDoorW.PrintLast Go.Proofs.YtpmjpbaeecnpiaaGreatDoorW.PrintMore
set_option linter.unusedVariables false
set_option linter.unusedSimpArgs false

theorem bld_size : (Tryz.prog.info? 131).map (fun i => i.size) = some 2 := by kernel_rfl
theorem bld_byte : (Tryz.prog.info? 5).map (fun i => (i.zero, i.size, i.bytes)) = some (some (.int .u8 0), 1, 1) := by kernel_rfl
set_option maxHeartbeats 1000000 in
set_option maxRecDepth 100000 in
theorem bld_check_used (b : Nat) (w : World) (h0 : w.cell? ⟨b, 0, none⟩ = some (.pointer (some ⟨b, 0, none⟩))) :
    Calls Tryz.prog 151 #[.pointer (some ⟨b, 0, none⟩)] w fun e w' => e = .returned (.tuple #[]) ∧ w' = w := by
  obtain ⟨j, hj, _⟩ := Option.map_eq_some_iff.1 bld_size
  go_enter Tryz.func151, Tryz.ntmps151
  go_wp2
  rw [Lib.run_neq_ptr_same w _ Tryz.underlying129 hj]
  go_wp2
  go_end0
  exact ⟨rfl, rfl⟩
set_option maxHeartbeats 1000000 in
set_option maxRecDepth 100000 in
theorem bld_check_fresh (b : Nat) (w : World) (h0 : w.cell? ⟨b, 0, none⟩ = some (.pointer none)) (hsh : w.shape? b = some (131, 2)) (hfz : w.frozen? ⟨b, 0, none⟩ = false) :
    Calls Tryz.prog 151 #[.pointer (some ⟨b, 0, none⟩)] w fun e w' => e = .returned (.tuple #[]) ∧ w' = w.setCell ⟨b, 0, none⟩ (.pointer (some ⟨b, 0, none⟩)) := by
  obtain ⟨j, hj, hjs⟩ := Option.map_eq_some_iff.1 bld_size
  go_enter Tryz.func151, Tryz.ntmps151
  go_wp2
  rw [Lib.run_to_unsafe w ⟨b, 0, none⟩ Tryz.underlying129 Tryz.underlying191 hj (by rw [hjs]; decide) hsh (Nat.zero_lt_succ 1)]
  simp only [Result.andThen]
  rw [Oper.upon_value]
  go_wp2
  rw [run_callFunc_extern Tryz.func166 (by kernel_rfl) (by kernel_rfl) (by kernel_rfl) (e := Extern.AbiNoEscape.same) (by kernel_rfl)]
  rw [Lib.run_noEscape]
  simp only [Result.andThen]
  rw [Oper.upon_value]
  go_wp2
  rw [Lib.run_from_unsafe w ⟨b, 0, none⟩ Tryz.underlying191 Tryz.underlying129 hj hsh (by kernel_rfl)]
  simp only [Result.andThen]
  rw [Oper.upon_value]
  go_wp2
  go_end0
  exact ⟨rfl, rfl⟩
theorem bld_check (B b : Nat) (bs : List Value) (w : World) (h : Lib.IsBuilderF 131 5 B b bs w) :
    Calls Tryz.prog 151 #[.pointer (some ⟨b, 0, none⟩)] w fun e w' => e = .returned (.tuple #[]) ∧ (Lib.BuilderAtF 131 5 B b (.pointer (some ⟨b, 0, none⟩)) bs w' ∧ Below B w w' ∧ Lib.OthersKept 5 (some b) w w') := by
  rcases h with h | h
  · refine (bld_check_fresh b w h.cell0 h.shape h.frozen0).mono ?_
    rintro e w' ⟨rfl, rfl⟩
    exact ⟨rfl, h.used _, (Below.refl B w).setCell (p := ⟨b, 0, none⟩) h.1 _, (Lib.OthersKept.refl _ _ w).setCell ⟨b, 0, none⟩ rfl _⟩
  · refine (bld_check_used b w h.cell0).mono ?_
    rintro e w' ⟨rfl, rfl⟩
    exact ⟨rfl, h, Below.refl B _, Lib.OthersKept.refl _ _ _⟩
set_option maxHeartbeats 2000000 in
set_option maxRecDepth 100000 in
theorem bld_str_k (B b : Nat) (bs : List Value) (s : ByteArray) (w : World) (h : Lib.IsBuilderF 131 5 B b bs w) (hlen : bs.length + s.size ≤ 140737488355328) (hBw : B ≤ w.heap.size) :
    Calls Tryz.prog 113 #[.pointer (some ⟨b, 0, none⟩), .string s] w fun e w' => e = .returned (.tuple #[.int .i64 s.size, .nilIface]) ∧ (Lib.BuilderAtF 131 5 B b (.pointer (some ⟨b, 0, none⟩)) (bs ++ Lib.strCells s) w' ∧ Below B w w' ∧ Lib.OthersKept 5 (some b) w w') := by
  obtain ⟨i0, hi, hz0, hz1, hz2⟩ := info_parts bld_byte
  go_enter Tryz.func113, Tryz.ntmps113
  go_wp2_with (go_at_call 151; refine (bld_check B b bs _ h).mono ?_)
  rintro e w1 ⟨rfl, h1, hb1, hk1⟩
  obtain ⟨hB, v, hbk, hown, hne⟩ := h1
  have c0 : w1.cell? ⟨b, 0, none⟩ = some (.pointer (some ⟨b, 0, none⟩)) := by rw [Lib.cell_of_heap hbk]; rfl
  have c1 : w1.cell? ⟨b, 1, none⟩ = some v := by rw [Lib.cell_of_heap hbk]; rfl
  go_wp2_with (at_builtin; refine Lib.wpList_append_own_stringF _ rfl _ _ 56 9 rfl B 5 i0 Tryz.underlying56 Tryz.underlying9 hi hz0 hz1 hz2 _ _ _ rfl hown s rfl ?c3 ?c4 ?c5 ?_)
  case c3 => unfold maxLen; omega
  case c4 => omega
  case c5 => have := hb1.size; omega
  intro v' w2 hown' hgrow _
  have hlt : b < w1.heap.size := by
    rcases Nat.lt_or_ge b w1.heap.size with h' | h'
    · exact h'
    · simp [Array.getElem?_eq_none h'] at hbk
  have hb2 : w2.heap[b]? = some (.cells #[.pointer (some ⟨b, 0, none⟩), v] 131 (0, 0)) := by
    rw [hgrow.block b hlt (fun e => hne e.symm)]
    exact hbk
  have d0 : w2.cell? ⟨b, 0, none⟩ = some (.pointer (some ⟨b, 0, none⟩)) := by rw [Lib.cell_of_heap hb2]; rfl
  have d1 : w2.cell? ⟨b, 1, none⟩ = some v := by rw [Lib.cell_of_heap hb2]; rfl
  have f1 : w2.frozen? ⟨b, 1, none⟩ = false := Lib.frozen_of_heap hb2 1
  obtain ⟨ao, n', cap, rfl⟩ : ∃ ao n' cap, v' = .slice ao n' cap := by
    rcases hown'.2 with ⟨hv, _⟩ | ⟨g, cap, cur, fz, hv, _⟩
    · exact ⟨_, _, _, hv⟩
    · exact ⟨_, _, _, hv⟩
  go_wp2
  go_ret2
  refine ⟨rfl, ?_, ?_, (hk1.grown hgrow (Lib.ownsRowF_kind hown)).setCell ⟨b, 1, none⟩ rfl _⟩
  · exact Lib.BuilderAtF.put (T := 131) (e := 5) hB hb2 (bs' := bs ++ Lib.strCells s) (by simpa [Lib.strCells_length] using hown') (by decide)
  · exact (hb1.grown hgrow (by have := hb1.size; omega) (fun k hk => (hown.lt k hk).1)).setCell (p := ⟨b, 1, none⟩) hB _
theorem bld_keep {T e B b : Nat} {bs : List Value} {w w' : World} (h : Lib.IsBuilderF T e B b bs w) (hk : ∀ (g : Nat) (c : Array Value) (t : TypeId) (fz : Nat × Nat), w.heap[g]? = some (.cells c t fz) → (t = T ∨ t = e) → w'.heap[g]? = some (.cells c t fz)) : Lib.IsBuilderF T e B b bs w' := by
  have one : ∀ p, Lib.BuilderAtF T e B b p bs w → Lib.BuilderAtF T e B b p bs w' := by
    rintro p ⟨hB, v, hb, hown, hne⟩
    refine ⟨hB, v, hk _ _ _ _ hb (.inl rfl), ⟨hown.1, ?_⟩, hne⟩
    rcases hown.2 with h1 | ⟨g, cap, cur, fz, hv, hg0, hg, rest⟩
    · exact .inl h1
    · exact .inr ⟨g, cap, cur, fz, hv, hg0, hk _ _ _ _ hg (.inr rfl), rest⟩
  exact h.elim (fun x => .inl (one _ x)) (fun x => .inr (one _ x))
theorem bld_below {T e B b : Nat} {bs : List Value} {w w' : World} (h : Lib.IsBuilderF T e B b bs w) (hb : Below w.heap.size w w') : Lib.IsBuilderF T e B b bs w' :=
  bld_keep h fun g c t fz hg _ => blk_below hg hb
theorem bld_sets {T e B b gb : Nat} {bs : List Value} {cs : Array Value} {t : TypeId} {fr : Nat × Nat} {w w' : World} (h : Lib.IsBuilderF T e B b bs w) (hb : w.heap[gb]? = some (.cells cs t fr)) (h1 : t ≠ T) (h2 : t ≠ e) (hw : ∀ g, g ≠ gb → w'.heap[g]? = w.heap[g]?) : Lib.IsBuilderF T e B b bs w' :=
  bld_keep h fun g c t' fz hg ht => by
    rw [hw g ?_]
    · exact hg
    · rintro rfl
      rw [hb] at hg
      injection hg with hg
      injection hg with _ hg
      subst hg
      exact ht.elim h1 h2
theorem bld_drew {T e B b : Nat} {bs : List Value} {w : World} (h : Lib.IsBuilderF T e B b bs w) : Lib.IsBuilderF T e B b bs w.drew := h.elim (fun x => .inl x.drew) (fun x => .inr x.drew)
theorem bld_drewN {T e B b : Nat} {bs : List Value} {w : World} (h : Lib.IsBuilderF T e B b bs w) (n : Nat) : Lib.IsBuilderF T e B b bs (w.drewN n) := bld_keep h fun g c t fz hg _ => blk_drewN hg n
theorem bld_fresh {w : World} {B b : Nat} (hB : B ≤ b) (h : w.heap[b]? = some (.cells #[.pointer none, .slice none 0 0] 131 (0, 0))) : Lib.IsBuilderF 131 5 B b (Lib.byteCells []) w :=
  .inl ⟨hB, _, h, World.ownsRowF_of (World.ownsRow_nil _ _ _ _), by simp [Value.ownBlock]⟩
end Go.Proofs.YtpmjpbaeecnpiaaGreatDoor.L

namespace Go.Proofs
open Go.Shelf
def Tryz.lays169_ren : Go.Shelf.Ren := ⟨fun | 169 => 114 | n => n, fun | 70 => 129 | 9 => 9 | 0 => 0 | 72 => 131 | 37 => 56 | 127 => 179 | 3 => 3 | 5 => 5 | n => n, fun | n => n⟩
theorem Tryz.lays169 : Go.Proofs.Lays.n169 Tryz.prog Tryz.lays169_ren := {
  mixed := by kernel_rfl
  f169 := Tryz.func114.trans (congrArg some (by kernel_rfl))
  t0 := Tryz.underlying0
  a0 := Tryz.isAgg0
  z0 := Tryz.sizeOf0
  v0 := Tryz.zeroValue0
  t3 := Tryz.underlying3
  a3 := Tryz.isAgg3
  z3 := Tryz.sizeOf3
  v3 := Tryz.zeroValue3
  t9 := Tryz.underlying9
  a9 := Tryz.isAgg9
  z9 := Tryz.sizeOf9
  v9 := Tryz.zeroValue9
  t37 := Tryz.underlying56
  a37 := Tryz.isAgg56
  z37 := Tryz.sizeOf56
  v37 := Tryz.zeroValue56
  t70 := Tryz.underlying129
  a70 := Tryz.isAgg129
  z70 := Tryz.sizeOf129
  v70 := Tryz.zeroValue129
  t72 := Tryz.underlying131
  a72 := Tryz.isAgg131
  z72 := Tryz.sizeOf131
  v72 := Tryz.zeroValue131
  t127 := Tryz.underlying179
  a127 := Tryz.isAgg179
  z127 := Tryz.sizeOf179
  v127 := Tryz.zeroValue179 }
theorem Tryz.Builder_Extra_169 : Builder.Extra Tryz.prog Tryz.lays169_ren := {
  sizeBuilder := by kernel_rfl
  liesBuilder := by kernel_rfl
  t5 := Tryz.underlying5
  a5 := Tryz.isAgg5
  z5 := Tryz.sizeOf5
  v5 := Tryz.zeroValue5
  infoByte := by kernel_rfl
  cellsByte := by kernel_rfl
  sizeByte := by kernel_rfl
  neB5 := by decide }
open Go.RowKit in
/-- (*strings.Builder).String: "String returns the accumulated string.": WHATEVER THE BUILDER HOLDS; THE FORM '_k': OVER 'Lib.IsBuilderF' (a builder that 'String()' may have read), AND WITH THE FRAME THAT REACHES ABOVE THE BUILDER: 'Lib.OthersKept': every block that is not b and is no row of uint8's stands as it stood: the iterator of a range among them. (LAID: no walk: one application.) -/
theorem Tryz.Builder_String_any_k (B b : Nat) (l : List UInt8) (w : World) (h : Lib.IsBuilderF 131 5 B b (Lib.byteCells l) w) (hBw : B ≤ w.heap.size) :
    Calls Tryz.prog 114 #[.pointer (some ⟨b, 0, none⟩)] w fun e w' => e = .returned (.string ⟨l.toArray⟩) ∧ (Lib.IsBuilderF 131 5 B b (Lib.byteCells l) w' ∧ Below B w w' ∧ Lib.OthersKept 5 (some b) w w') := Any.Builder_String_any_k Tryz.lays169 Tryz.Builder_Extra_169 B b l w h hBw
end Go.Proofs

namespace Go.Proofs.YtpmjpbaeecnpiaaGreatDoor.L
open Go.RowKit Go.Proofs.YtpmjpbaeecnpiaaGreatDoorW.PrintWords Go.Proofs.YtpmjpbaeecnpiaaGreatDoorW.PrintLast Go.Proofs.YtpmjpbaeecnpiaaGreatDoorW.PrintMore
set_option linter.unusedVariables false
set_option linter.unusedSimpArgs false

def txtV (l : List S65) (a : Int) : List UInt8 := l.flatMap fun x => if x.f0 = a then x.f2.data.toList else []
def impl_textBelow.f (l0 : List S65) (a1 : Int) : Option ByteArray := if (txtV l0 a1).length ≤ 140737488355328 then some ⟨(txtV l0 a1).toArray⟩ else none
theorem txt_rd {l : List S65} {kk : Nat} (h : kk < l.length) : rd_T65 l (kk : Int) = l[kk] := by
  unfold rd_T65
  simp [h]
theorem txt_next {l : List S65} {a : Int} {kk : Nat} (h : kk < l.length) : txtV (l.take (kk + 1)) a = txtV (l.take kk) a ++ (if (rd_T65 l (kk : Int)).f0 = a then (rd_T65 l (kk : Int)).f2.data.toList else []) := by
  rw [txt_rd h]
  unfold txtV
  rw [List.take_succ_eq_append_getElem h, List.flatMap_append]
  simp
theorem txt_len {l : List S65} {a : Int} (kk : Nat) : (txtV (l.take kk) a).length ≤ (txtV l a).length := by
  have e : txtV l a = txtV (l.take kk) a ++ txtV (l.drop kk) a := by
    unfold txtV
    rw [← List.flatMap_append, List.take_append_drop]
  rw [e, List.length_append]
  omega
set_option maxHeartbeats 2000000 in
set_option maxRecDepth 100000 in
theorem impl_textBelow.calls (A0 : Option Addr) (c0 : Nat) (l0 : List (S65)) (a1 : Int) (r : ByteArray) (w : World) (hr0 : Kd.C k65 w A0 l0.length l0) (hc0 : l0.length ≤ c0) (h : impl_textBelow.f l0 a1 = some r) :
    Calls Tryz.prog 73 #[.slice A0 l0.length c0, .int .i64 a1] w fun e w' => e = .returned (.string r) ∧ Below w.heap.size w w' := by
  have hmax := Kd.C_max hr0
  have HR0 := Aside0.mk hr0
  clear hr0
  have HB := Aside0.mk (Below.refl w.heap.size w)
  unfold impl_textBelow.f at h
  have hlen : (txtV l0 a1).length ≤ 140737488355328 := by
    by_cases c : (txtV l0 a1).length ≤ 140737488355328
    · exact c
    · rw [if_neg c] at h; cases h
  rw [if_pos hlen] at h
  obtain rfl := Option.some.inj h
  clear h
  have HLN := Aside0.mk hlen
  clear hlen
  obtain ⟨n, hn⟩ : ∃ n, l0.length = n := ⟨_, rfl⟩
  have HN := Aside0.mk hn
  rw [hn] at hmax ⊢
  clear hn
  go_enter Tryz.func73, Tryz.ntmps73
  go_wp2_with (first | ((with_reducible refine gate_dst (N := 9) rfl ?_); refine box_event ?hg (N := 9) ?hd (cs := #[.pointer none, .slice none 0 0]) (t := 131) ?hr ?_; (case hd => rfl); (case hg => rfl); (case hr => first | (go_simp; done) | (go_simp; rfl)); intro gb hg w14 hbox hb; have n1_ := Aside0.mk (below_step (by repeat (first | (with_reducible first | exact HB.out | apply below_alloc | apply pw_below_drewN | apply below_drew1) | exact HB.out)) hb); have GE := Aside0.mk ((by rw [hg]; exact (below_size (by repeat (first | (with_reducible first | exact HB.out | apply below_alloc | apply pw_below_drewN | apply below_drew1) | exact HB.out))) : w.heap.size ≤ gb)); have BB := Aside0.mk (bld_fresh GE.out hbox); clear HB; have HB := n1_; clear n1_; clear hb hbox hg))
  go_loopg [12] n (fun gg v12 w' => ∃ kk : Nat, kk ≤ n ∧ n - kk ≤ gg ∧ v12 = .int .i64 (kk : Int) ∧ Aside0 (Lib.IsBuilderF 131 5 w.heap.size gb (Lib.byteCells (txtV (l0.take kk) a1)) w') ∧ Aside0 (Below w.heap.size w w'))
  case atStart => exact ⟨0, Nat.zero_le _, by omega, rfl, ⟨by (with_reducible repeat (first | refine bld_drewN ?_ _ | apply bld_drew)); exact BB.out⟩, ⟨by repeat (first | (with_reducible first | exact HB.out | apply below_alloc | apply pw_below_drewN | apply below_drew1) | exact HB.out)⟩⟩
  case round =>
    clear BB HB
    obtain ⟨kk, hkk, hgg, rfl, BB, HB⟩ := hrel
    by_cases hlt : kk < n
    · have c6b0 : decide ((kk : Int) < (n : Int)) = true := decide_eq_true (by omega)
      have hll : kk < l0.length := by have := HN.out; omega
      obtain ⟨ad, A3, c3, e, hx0, hx1, hx2, hx3, _, _⟩ := at_T65 HR0.out (kk : Int) (by omega) (by omega)
      cases e
      have hnx := Aside0.mk (txt_next (a := a1) hll)
      have hle := Aside0.mk (Nat.le_trans (txt_len (l := l0) (a := a1) (kk + 1)) HLN.out)
      replace hx0 := (HB.out.cell (World.block_lt_of_cell? w _ hx0)).trans hx0
      replace hx1 := (HB.out.cell (World.block_lt_of_cell? w _ hx1)).trans hx1
      replace hx2 := (HB.out.cell (World.block_lt_of_cell? w _ hx2)).trans hx2
      replace hx3 := (HB.out.cell (World.block_lt_of_cell? w _ hx3)).trans hx3
      rw [Int.toNat_natCast] at hx0 hx1 hx2 hx3
      generalize hy : rd_T65 l0 (kk : Int) = y at hx0 hx1 hx2 hx3 hnx
      clear hy
      by_cases cu : y.f0 = a1
      · have cub : (y.f0 == a1) = true := beq_iff_eq.mpr cu
        go_wp2_with (first | ((with_reducible refine gate_dst (N := 7) rfl ?_); refine box_event ?hg (N := 7) ?hd (cs := #[.int .i64 0, .string (⟨#[]⟩ : ByteArray), .string (⟨#[]⟩ : ByteArray), .slice none 0 0]) (t := 65) ?hr ?_; (case hd => rfl); (case hg => rfl); (case hr => first | (go_simp; done) | (go_simp; rfl)); intro gx hg w14 hbox hb; have n0_ := Aside0.mk (bld_below (by (with_reducible repeat (first | refine bld_drewN ?_ _ | apply bld_drew)); exact BB.out) hb); have n1_ := Aside0.mk (below_step (by repeat (first | (with_reducible first | exact HB.out | apply below_alloc | apply pw_below_drewN | apply below_drew1) | exact HB.out)) hb); have n2_ := Aside0.mk hbox; have GX := Aside0.mk ((by rw [hg]; exact (below_size (by repeat (first | (with_reducible first | exact HB.out | apply below_alloc | apply pw_below_drewN | apply below_drew1) | exact HB.out))) : w.heap.size ≤ gx)); clear BB HB; have BB := n0_; have HB := n1_; have BK := n2_; clear n0_ n1_ n2_; clear hb hbox hg; have hcz0 : w14.cell? ⟨gx, 0, none⟩ = some (.int .i64 0) := (blk_cell BK.out 0).trans rfl; have hcz1 : w14.cell? ⟨gx, 1, none⟩ = some (.string (⟨#[]⟩ : ByteArray)) := (blk_cell BK.out 1).trans rfl; have hcz2 : w14.cell? ⟨gx, 2, none⟩ = some (.string (⟨#[]⟩ : ByteArray)) := (blk_cell BK.out 2).trans rfl; have hcz3 : w14.cell? ⟨gx, 3, none⟩ = some (.slice none 0 0) := (blk_cell BK.out 3).trans rfl; have hfz0 := blk_frozen BK.out 0; have hfz1 := blk_frozen BK.out 1; have hfz2 := blk_frozen BK.out 2; have hfz3 := blk_frozen BK.out 3) | (go_at_call 113; refine (bld_str_k w.heap.size gb (Lib.byteCells (txtV (l0.take kk) a1)) y.f2 _ (bld_sets BB.out BK.out (by decide) (by decide) (fun g hg => by rw [Below.heap_setCell _ _ _ _ hg, Below.heap_setCell _ _ _ _ hg, Below.heap_setCell _ _ _ _ hg, Below.heap_setCell _ _ _ _ hg])) ?hl ?hB).mono ?_; (case hl => have h1_ := hle.out; rw [hnx.out, if_pos cu, List.length_append] at h1_; rw [Lib.byteCells_length, ByteArray.size]; simpa using h1_); (case hB => exact below_size (by repeat (first | (with_reducible first | exact HB.out | apply below_alloc | apply pw_below_drewN | apply below_drew1 | refine below_set ?_ GX.out) | exact HB.out))); rintro e w55 ⟨rfl, hbd, hb, hko⟩; have n0_ := Aside0.mk (show Lib.IsBuilderF 131 5 w.heap.size gb _ w55 from .inr hbd); have n1_ := Aside0.mk (Below.trans (by repeat (first | (with_reducible first | exact HB.out | apply below_alloc | apply pw_below_drewN | apply below_drew1 | refine below_set ?_ GX.out) | exact HB.out)) hb); clear BB BK HB hcz0 hcz1 hcz2 hcz3 hfz0 hfz1 hfz2 hfz3; have BB := n0_; have HB := n1_; clear n0_ n1_ hbd hb hko))
        go_roundg (n - (kk + 1))
        case measure => omega
        case rel => exact ⟨kk + 1, by omega, by omega, by go_num, ⟨by (with_reducible repeat (first | refine bld_drewN ?_ _ | apply bld_drew)); rw [show Lib.byteCells (txtV (l0.take (kk + 1)) a1) = Lib.byteCells (txtV (l0.take kk) a1) ++ Lib.strCells y.f2 from by rw [hnx.out, if_pos cu, Lib.strCells_eq]; simp only [Lib.byteCells, List.map_append]]; exact BB.out⟩, ⟨by repeat (first | (with_reducible first | exact HB.out | apply below_alloc | apply pw_below_drewN | apply below_drew1) | exact HB.out)⟩⟩
      · have cub : (y.f0 == a1) = false := beq_eq_false_iff_ne.mpr cu
        go_wp2_with (first | ((with_reducible refine gate_dst (N := 7) rfl ?_); refine box_event ?hg (N := 7) ?hd (cs := #[.int .i64 0, .string (⟨#[]⟩ : ByteArray), .string (⟨#[]⟩ : ByteArray), .slice none 0 0]) (t := 65) ?hr ?_; (case hd => rfl); (case hg => rfl); (case hr => first | (go_simp; done) | (go_simp; rfl)); intro gx hg w14 hbox hb; have n0_ := Aside0.mk (bld_below (by (with_reducible repeat (first | refine bld_drewN ?_ _ | apply bld_drew)); exact BB.out) hb); have n1_ := Aside0.mk (below_step (by repeat (first | (with_reducible first | exact HB.out | apply below_alloc | apply pw_below_drewN | apply below_drew1) | exact HB.out)) hb); have n2_ := Aside0.mk hbox; have GX := Aside0.mk ((by rw [hg]; exact (below_size (by repeat (first | (with_reducible first | exact HB.out | apply below_alloc | apply pw_below_drewN | apply below_drew1) | exact HB.out))) : w.heap.size ≤ gx)); clear BB HB; have BB := n0_; have HB := n1_; have BK := n2_; clear n0_ n1_ n2_; clear hb hbox hg; have hcz0 : w14.cell? ⟨gx, 0, none⟩ = some (.int .i64 0) := (blk_cell BK.out 0).trans rfl; have hcz1 : w14.cell? ⟨gx, 1, none⟩ = some (.string (⟨#[]⟩ : ByteArray)) := (blk_cell BK.out 1).trans rfl; have hcz2 : w14.cell? ⟨gx, 2, none⟩ = some (.string (⟨#[]⟩ : ByteArray)) := (blk_cell BK.out 2).trans rfl; have hcz3 : w14.cell? ⟨gx, 3, none⟩ = some (.slice none 0 0) := (blk_cell BK.out 3).trans rfl; have hfz0 := blk_frozen BK.out 0; have hfz1 := blk_frozen BK.out 1; have hfz2 := blk_frozen BK.out 2; have hfz3 := blk_frozen BK.out 3))
        go_roundg (n - (kk + 1))
        case measure => omega
        case rel => exact ⟨kk + 1, by omega, by omega, by go_num, ⟨by (with_reducible repeat (first | refine bld_drewN ?_ _ | apply bld_drew)); rw [show txtV (l0.take (kk + 1)) a1 = txtV (l0.take kk) a1 from by rw [hnx.out, if_neg cu, List.append_nil]]; exact (bld_sets BB.out BK.out (by decide) (by decide) (fun g hg => by rw [Below.heap_setCell _ _ _ _ hg, Below.heap_setCell _ _ _ _ hg, Below.heap_setCell _ _ _ _ hg, Below.heap_setCell _ _ _ _ hg]))⟩, ⟨by repeat (first | (with_reducible first | exact HB.out | apply below_alloc | apply pw_below_drewN | apply below_drew1 | refine below_set ?_ GX.out) | exact HB.out)⟩⟩
    · have hk2 : kk = n := by omega
      have c6b0 : decide ((kk : Int) < (n : Int)) = false := decide_eq_false (by omega)
      have hw : txtV (l0.take kk) a1 = txtV l0 a1 := by rw [List.take_of_length_le (by have := HN.out; omega)]
      rw [hw] at BB
      go_wp2_with (first | (go_at_call 114; refine (Tryz.Builder_String_any_k w.heap.size gb (txtV l0 a1) _ BB.out ?hB).mono ?_; (case hB => exact below_size (by repeat (first | (with_reducible first | exact HB.out | apply below_alloc | apply pw_below_drewN | apply below_drew1) | exact HB.out))); rintro e w58 ⟨rfl, hbd, hb, hko⟩; have n1_ := Aside0.mk (Below.trans (by repeat (first | (with_reducible first | exact HB.out | apply below_alloc | apply pw_below_drewN | apply below_drew1) | exact HB.out)) hb); clear BB HB; have HB := n1_; clear n1_ hbd hb hko))
      go_ret
      exact ⟨rfl, (by repeat (first | (with_reducible first | exact HB.out | apply below_alloc | apply pw_below_drewN | apply below_drew1) | exact HB.out))⟩
end Go.Proofs.YtpmjpbaeecnpiaaGreatDoor.L
