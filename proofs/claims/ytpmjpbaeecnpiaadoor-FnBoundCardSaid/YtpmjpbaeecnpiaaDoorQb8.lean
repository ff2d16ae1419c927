/- Words and contracts for the row RowFnBound: what the Go functions answer that it calls; printed by programs of the kit and of this session, and merged. -/
import Derived.Test.YtpmjpbaeecnpiaaDoorQb7
namespace Go.Proofs.YtpmjpbaeecnpiaaDoor.L
open Go.RowKit Go.Proofs.YtpmjpbaeecnpiaaDoorW.PrintWords Go.Proofs.YtpmjpbaeecnpiaaDoorW.PrintLast Go.Proofs.YtpmjpbaeecnpiaaDoorW.PrintMore
attribute [local go_sem] max2_int min2_int max_two min_two max_three min_three max_four min_four
set_option linter.unusedVariables false
set_option linter.unusedSimpArgs false

/-! ### impl_DocOk: function 34 -/
mutual
def impl_DocOk.j0 : Nat → List (S39) → Bool → Option (Bool)
 | 0, _, _ => none
 | k + 1, x0, x24 => if x24 = true then (some false) else (impl_DocOk.l0 k x0 0 (([] : List Int)) x0 (x0.length : Int) 0)
def impl_DocOk.l0 : Nat → List (S39) → Int → List Int → List (S39) → Int → Int → Option (Bool)
 | 0, _, _, _, _, _, _ => none
 | k + 1, x0, x3, x4, x26, x27, x28 => if x28 < x27 then (if 0 ≤ x28 then (if x28 < (x26.length : Int) then ((impl_Item_isGood.f k ((rd_T39 x26 x28).f0) ((rd_T39 x26 x28).f1) ((rd_T39 x26 x28).f2) ((rd_T39 x26 x28).f3)).bind fun t315 => (if t315 = true then ((impl_Item_bytes.f k ((rd_T39 x26 x28).f0) ((rd_T39 x26 x28).f1) ((rd_T39 x26 x28).f2) ((rd_T39 x26 x28).f3)).bind fun t316 => (impl_DocOk.l1 k x0 (wrap64 (x3 + t316)) x4 x28 x26 x27 x28 ((rd_T39 x26 x28).f0) ((rd_T39 x26 x28).f1) ((rd_T39 x26 x28).f2) ((rd_T39 x26 x28).f3))) else (some false))) else (none)) else (none)) else (some (decide (x3 ≤ 2500)))
def impl_DocOk.j3 : Nat → List (S39) → Int → List Int → Int → List (S39) → Int → Int → Int → ByteArray → ByteArray → List (S46) → Option (Bool)
 | 0, _, _, _, _, _, _, _, _, _, _, _ => none
 | k + 1, x0, x3, x4, x5, x26, x27, x28, x315000, x315001, x315002, x315003 => if x5 > 0 then (if (x4.length : Int) = 0 then (impl_DocOk.j4 k x0 x3 x4 x5 x26 x27 x28 true x315000 x315001 x315002 x315003) else (impl_DocOk.j4 k x0 x3 x4 x5 x26 x27 x28 (decide ((x4.length : Int) ≥ 20)) x315000 x315001 x315002 x315003)) else (impl_DocOk.j4 k x0 x3 x4 x5 x26 x27 x28 (decide ((x4.length : Int) ≥ 20)) x315000 x315001 x315002 x315003)
def impl_DocOk.j4 : Nat → List (S39) → Int → List Int → Int → List (S39) → Int → Int → Bool → Int → ByteArray → ByteArray → List (S46) → Option (Bool)
 | 0, _, _, _, _, _, _, _, _, _, _, _, _ => none
 | k + 1, x0, x3, x4, x5, x26, x27, x28, x70, x315000, x315001, x315002, x315003 => if x70 = true then (some false) else (if x315001.toList = ([] : List UInt8) then (if x5 > 0 then (if 0 ≤ (wrap64 (x5 - 1)) then (if (wrap64 (x5 - 1)) < (x0.length : Int) then (if ((rd_T39 x0 (wrap64 (x5 - 1))).f1).toList = ([] : List UInt8) then (if ((rd_T39 x0 (wrap64 (x5 - 1))).f0) = x315000 then (some false) else (impl_DocOk.l0 k x0 x3 x4 x26 x27 (wrap64 (x28 + 1)))) else (impl_DocOk.l0 k x0 x3 x4 x26 x27 (wrap64 (x28 + 1)))) else (none)) else (none)) else (impl_DocOk.l0 k x0 x3 x4 x26 x27 (wrap64 (x28 + 1)))) else (if x4.length < 17592186044416 then (impl_DocOk.l0 k x0 x3 (x4 ++ [x5]) x26 x27 (wrap64 (x28 + 1))) else (none)))
def impl_DocOk.l1 : Nat → List (S39) → Int → List Int → Int → List (S39) → Int → Int → Int → ByteArray → ByteArray → List (S46) → Option (Bool)
 | 0, _, _, _, _, _, _, _, _, _, _, _ => none
 | k + 1, x0, x3, x4, x5, x26, x27, x28, x315000, x315001, x315002, x315003 => if (x4.length : Int) > 0 then (if 0 ≤ (wrap64 ((x4.length : Int) - 1)) then (if (wrap64 ((x4.length : Int) - 1)) < (x4.length : Int) then (if (rd x4 (wrap64 ((x4.length : Int) - 1))) = x315000 then (impl_DocOk.j3 k x0 x3 x4 x5 x26 x27 x28 x315000 x315001 x315002 x315003) else (if (wrap64 ((x4.length : Int) - 1)) ≤ (x4.length : Int) then (impl_DocOk.l1 k x0 x3 (x4.take ((wrap64 ((x4.length : Int) - 1)) : Int).toNat) x5 x26 x27 x28 x315000 x315001 x315002 x315003) else (none))) else (none)) else (none)) else (impl_DocOk.j3 k x0 x3 x4 x5 x26 x27 x28 x315000 x315001 x315002 x315003)
end
def impl_DocOk.f (k : Nat) (l0 : List (S39)) : Option (Bool) := (impl_in.f (l0.length : Int) 1 200).bind fun t307 => (if t307 = true then (if 0 < (l0.length : Int) then (if ((rd_T39 l0 0).f0) = (-1) then (impl_DocOk.j0 k l0 (((rd_T39 l0 0).f1).toList == ([] : List UInt8))) else (impl_DocOk.j0 k l0 true)) else (none)) else (impl_DocOk.j0 k l0 true))
set_option maxHeartbeats 8000000 in
set_option maxRecDepth 100000 in
theorem impl_DocOk.calls (k : Nat) (A0 : Option Addr) (c0 : Nat) (l0 : List (S39)) (r : Bool) (w : World) (hT : Gl w) (hr0 : Kd.C k39 w A0 l0.length l0) (hc0 : l0.length ≤ c0) (h : impl_DocOk.f k l0 = some r) :
  Calls Tryd.prog 34 #[.slice A0 l0.length c0] w fun e w' => e = .returned (.bool r) ∧ Below w.heap.size w w' := by
 have hu39 := Tryd.underlying39
 have HR0 := Aside0.mk hr0
 have HC0 := Aside0.mk hc0
 clear hr0 hc0
 have HT := Aside0.mk hT
 clear hT
 have HB := Aside0.mk (Below.refl w.heap.size w)
 have H : ((impl_in.f (l0.length : Int) 1 200).bind fun t307 => (if t307 = true then (if 0 < (l0.length : Int) then (if ((rd_T39 l0 0).f0) = (-1) then (impl_DocOk.j0 k l0 (((rd_T39 l0 0).f1).toList == ([] : List UInt8))) else (impl_DocOk.j0 k l0 true)) else (none)) else (impl_DocOk.j0 k l0 true))) = some r := h
 clear h
 have HC2 := Aside0.mk H
 clear H
 go_enter Tryd.func34, Tryd.ntmps34
 go_upto_region 1 with (fail)
 go_cut [24] (fun v24 wc => ∃ (kq : Nat) (x24_1 : Bool), v24 = .bool x24_1 ∧ Aside0 (impl_DocOk.j0 kq l0 x24_1 = some r) ∧ Aside0 (kq ≤ k) ∧ Aside0 (Below w.heap.size w wc))
 case first =>
  have H := HC2.out
  clear HC2
  replace H := Option.bind_eq_some_iff.mp H
  obtain ⟨t307, A30, H⟩ := H
  replace H : (if t307 = true then (if 0 < (l0.length : Int) then (if ((rd_T39 l0 0).f0) = (-1) then (impl_DocOk.j0 k l0 (((rd_T39 l0 0).f1).toList == ([] : List UInt8))) else (impl_DocOk.j0 k l0 true)) else (none)) else (impl_DocOk.j0 k l0 true)) = some r := H
  have A3 := Aside0.mk A30
  clear A30
  by_cases c4 : t307 = true
  rotate_left
  ·replace c4 := Bool.eq_false_iff.mpr c4
   subst c4
   have H1 : (impl_DocOk.j0 k l0 true) = some r := by rw [if_neg (show ¬ (false = true) by decide)] at H; exact H
   clear H
   have H := H1
   clear H1
   have H' := Aside0.mk H
   clear H
   go_wp2_with (first | (go_at_call 56; (with_reducible refine (impl_in.calls (l0.length : Int) 1 200 false _ A3.out).mono ?_); rintro e w' ⟨rfl, ⟨nd, rfl⟩⟩; (try first | exact ⟨rfl, _, World.drewN_drewN _ _ _⟩ | exact ⟨rfl, _, Eq.trans (World.drewN_drewN _ _ _) (congrArg (World.drewN _) (Nat.add_assoc _ _ _))⟩)))
   go_meet
   case rel => exact ⟨_, (true), dq19, H', ⟨dq26⟩, ⟨dq27⟩⟩
  subst c4
  have H1 : (if 0 < (l0.length : Int) then (if ((rd_T39 l0 0).f0) = (-1) then (impl_DocOk.j0 k l0 (((rd_T39 l0 0).f1).toList == ([] : List UInt8))) else (impl_DocOk.j0 k l0 true)) else (none)) = some r := by rw [if_pos rfl] at H; exact H
  clear H
  have H := H1
  clear H1
  by_cases c5 : 0 < (l0.length : Int)
  rotate_left
  ·rw [if_neg c5] at H
   exact absurd H dq22
  rw [if_pos c5] at H
  have c5b0 := decide_eq_true c5
  have c5b1 : decide (0 < l0.length) = true := decide_eq_true dq25
  clear c5
  (first | rw [c5b0] | (simp only [i64_w, i32_w]; rw [c5b0]) | skip)
  by_cases c6 : ((rd_T39 l0 0).f0) = (-1)
  rotate_left
  ·rw [if_neg c6] at H
   have c6b0 := beq_eq_false_iff_ne.mpr c6
   have c6b1 := bne_iff_ne.mpr c6
   have H' := Aside0.mk H
   clear H
   go_wp2_with (first | (go_at_call 56; (with_reducible refine (impl_in.calls (l0.length : Int) 1 200 true _ A3.out).mono ?_); rintro e w' ⟨rfl, ⟨nd, rfl⟩⟩; (try first | exact ⟨rfl, _, World.drewN_drewN _ _ _⟩ | exact ⟨rfl, _, Eq.trans (World.drewN_drewN _ _ _) (congrArg (World.drewN _) (Nat.add_assoc _ _ _))⟩); have p308 : 0 ≤ (0 : Int) := dq25; have q308 : 0 < (l0.length : Int) := of_decide_eq_true dq20; obtain ⟨ad308, A308_3, c308_3, e308, hx308_0, hx308_1, hx308_2, hx308_3, hl308_3, hi308_3⟩ := at_T39 HR0.out 0 p308 q308; cases e308; have qi308 : (0 < l0.length) = True := eq_true dq25; (try rw [show ((0 : Int)).toNat = 0 from rfl] at hx308_0); (try rw [show 0 * 4 = 0 from rfl] at hx308_0); (try rw [Addr.add_zero'] at hx308_0); (try rw [show ((0 : Int)).toNat = 0 from rfl] at hx308_1); (try rw [show 0 * 4 = 0 from rfl] at hx308_1); (try rw [Addr.add_zero'] at hx308_1); (try rw [show ((0 : Int)).toNat = 0 from rfl] at hx308_2); (try rw [show 0 * 4 = 0 from rfl] at hx308_2); (try rw [Addr.add_zero'] at hx308_2); (try rw [show ((0 : Int)).toNat = 0 from rfl] at hx308_3); (try rw [show 0 * 4 = 0 from rfl] at hx308_3); (try rw [Addr.add_zero'] at hx308_3); replace hx308_0 := (HB.out.cell (World.block_lt_of_cell? w _ hx308_0)).trans hx308_0; replace hx308_1 := (HB.out.cell (World.block_lt_of_cell? w _ hx308_1)).trans hx308_1; replace hx308_2 := (HB.out.cell (World.block_lt_of_cell? w _ hx308_2)).trans hx308_2; replace hx308_3 := (HB.out.cell (World.block_lt_of_cell? w _ hx308_3)).trans hx308_3; have HR308_3 := Aside0.mk hi308_3; have HC308_3 := Aside0.mk hl308_3; clear hi308_3 hl308_3; replace p308 := eq_true p308; replace q308 := eq_true q308))
   go_meet
   case rel => exact ⟨_, (true), dq19, H', ⟨dq26⟩, ⟨dq27⟩⟩
  rw [if_pos c6] at H
  have c6b0 := beq_iff_eq.mpr c6
  have c6b1 := bne_eq_false_iff_eq.mpr c6
  clear c6
  have H' := Aside0.mk H
  clear H
  go_wp2_with (first | (go_at_call 56; (with_reducible refine (impl_in.calls (l0.length : Int) 1 200 true _ A3.out).mono ?_); rintro e w' ⟨rfl, ⟨nd, rfl⟩⟩; (try first | exact ⟨rfl, _, World.drewN_drewN _ _ _⟩ | exact ⟨rfl, _, Eq.trans (World.drewN_drewN _ _ _) (congrArg (World.drewN _) (Nat.add_assoc _ _ _))⟩); have p308 : 0 ≤ (0 : Int) := dq25; have q308 : 0 < (l0.length : Int) := of_decide_eq_true dq20; obtain ⟨ad308, A308_3, c308_3, e308, hx308_0, hx308_1, hx308_2, hx308_3, hl308_3, hi308_3⟩ := at_T39 HR0.out 0 p308 q308; cases e308; have qi308 : (0 < l0.length) = True := eq_true dq25; (try rw [show ((0 : Int)).toNat = 0 from rfl] at hx308_0); (try rw [show 0 * 4 = 0 from rfl] at hx308_0); (try rw [Addr.add_zero'] at hx308_0); (try rw [show ((0 : Int)).toNat = 0 from rfl] at hx308_1); (try rw [show 0 * 4 = 0 from rfl] at hx308_1); (try rw [Addr.add_zero'] at hx308_1); (try rw [show ((0 : Int)).toNat = 0 from rfl] at hx308_2); (try rw [show 0 * 4 = 0 from rfl] at hx308_2); (try rw [Addr.add_zero'] at hx308_2); (try rw [show ((0 : Int)).toNat = 0 from rfl] at hx308_3); (try rw [show 0 * 4 = 0 from rfl] at hx308_3); (try rw [Addr.add_zero'] at hx308_3); replace hx308_0 := (HB.out.cell (World.block_lt_of_cell? w _ hx308_0)).trans hx308_0; replace hx308_1 := (HB.out.cell (World.block_lt_of_cell? w _ hx308_1)).trans hx308_1; replace hx308_2 := (HB.out.cell (World.block_lt_of_cell? w _ hx308_2)).trans hx308_2; replace hx308_3 := (HB.out.cell (World.block_lt_of_cell? w _ hx308_3)).trans hx308_3; have HR308_3 := Aside0.mk hi308_3; have HC308_3 := Aside0.mk hl308_3; clear hi308_3 hl308_3; replace p308 := eq_true p308; replace q308 := eq_true q308; have p309 : 0 ≤ (0 : Int) := dq25; have q309 : 0 < (l0.length : Int) := of_decide_eq_true dq20; obtain ⟨ad309, A309_3, c309_3, e309, hx309_0, hx309_1, hx309_2, hx309_3, hl309_3, hi309_3⟩ := at_T39 HR0.out 0 p309 q309; obtain rfl : ad308 = ad309 := (by injection e309); have qi309 : (0 < l0.length) = True := eq_true dq25; (try rw [show ((0 : Int)).toNat = 0 from rfl] at hx309_0); (try rw [show 0 * 4 = 0 from rfl] at hx309_0); (try rw [Addr.add_zero'] at hx309_0); (try rw [show ((0 : Int)).toNat = 0 from rfl] at hx309_1); (try rw [show 0 * 4 = 0 from rfl] at hx309_1); (try rw [Addr.add_zero'] at hx309_1); (try rw [show ((0 : Int)).toNat = 0 from rfl] at hx309_2); (try rw [show 0 * 4 = 0 from rfl] at hx309_2); (try rw [Addr.add_zero'] at hx309_2); (try rw [show ((0 : Int)).toNat = 0 from rfl] at hx309_3); (try rw [show 0 * 4 = 0 from rfl] at hx309_3); (try rw [Addr.add_zero'] at hx309_3); replace hx309_0 := (HB.out.cell (World.block_lt_of_cell? w _ hx309_0)).trans hx309_0; replace hx309_1 := (HB.out.cell (World.block_lt_of_cell? w _ hx309_1)).trans hx309_1; replace hx309_2 := (HB.out.cell (World.block_lt_of_cell? w _ hx309_2)).trans hx309_2; replace hx309_3 := (HB.out.cell (World.block_lt_of_cell? w _ hx309_3)).trans hx309_3; have HR309_3 := Aside0.mk hi309_3; have HC309_3 := Aside0.mk hl309_3; clear hi309_3 hl309_3; replace p309 := eq_true p309; replace q309 := eq_true q309; have ea_ := Option.some.inj (hx308_3.symm.trans hx309_3); injection ea_ with ea_ en_ ec_; subst ea_; subst ec_; clear en_))
  go_meet
  case rel => exact ⟨_, ((((rd_T39 l0 0).f1).toList == ([] : List UInt8))), dq19, H', ⟨dq26⟩, ⟨dq27⟩⟩
 clear HC2
 obtain ⟨kq, x24_1, rfl, HA, HJ1, HB⟩ := hcut
 cases kq with
 | zero => exact absurd HA.out (by simp [impl_DocOk.j0])
 | succ kj1 =>
  have H := HA.out
  clear HA
  simp only [impl_DocOk.j0] at H
  by_cases c7 : x24_1 = true
  ·subst c7
   have H1 : (some false) = some r := by rw [if_pos rfl] at H; exact H
   clear H
   have H := H1
   clear H1
   obtain rfl := Option.some.inj H
   go_wp2
   go_ret
   exact ⟨dq29, dq27⟩
  replace c7 := Bool.eq_false_iff.mpr c7
  subst c7
  have H1 : (impl_DocOk.l0 kj1 l0 0 (([] : List Int)) l0 (l0.length : Int) 0) = some r := by rw [if_neg (show ¬ (false = true) by decide)] at H; exact H
  clear H
  have H := H1
  clear H1
  obtain ⟨y310, hy310⟩ : ∃ y_ : List Int, y_ = (([] : List Int)) := ⟨_, rfl⟩
  replace H : (impl_DocOk.l0 kj1 l0 0 y310 l0 (l0.length : Int) 0) = some r := by first | (rw [hy310]; with_reducible exact H) | (have H2_ := (Option.bind_some _ _).symm.trans H; rw [hy310]; with_reducible exact H2_) | (have H2_ := (Option.bind_some _ _).symm.trans H; with_reducible exact H2_) | with_reducible exact H | (rw [hy310]; exact H) | exact H
  have Ny310 := Aside0.mk hy310
  clear hy310
  have H' := Aside0.mk H
  clear H
  go_wp2_with (first | ((with_reducible refine gate_dst (N := 25) rfl ?_); (try (refine gate_guard (by rfl) ?_; dsimp only)); refine Kd.R_lit (Kd.int .i64) _ 2 ?hg (N := 25) ?hd (xs := ([] : List Int)) (inner := []) (ok := fun _ => True) (okp := fun _ => True) ?hr ?hp (fun _ hk => hk) trivial (Below.refl _ _) (Nat.le_refl _) dq22 ?_; (case hd => rfl); (case hg => rfl); (case hr => exact dq0); (case hp => exact (Reps.none _ _)); intro v311 w8 ho9 hb hg_ hnew_; clear hg_ hnew_; (first | rw [← Ny310.out] at ho9 | (simp only [Int.reduceToNat] at ho9; rw [← Ny310.out] at ho9)); have n0_ := Aside0.mk (Kd.R_lower ho9 (below_size dq27)); have n1_ := Aside0.mk (below_step dq27 hb); clear HB; have HO312 := n0_; have HB := n1_; clear n0_ n1_; clear hb ho9))
  go_loopg [3, 4, 28] kj1 (fun kq v3 v4 v28 w' => ∃ (x3_2 : Int) (x4_2 : List Int) (x28_2 : Int), v3 = .int .i64 x3_2 ∧ v28 = .int .i64 x28_2 ∧ Aside0 (impl_DocOk.l0 kq l0 x3_2 x4_2 l0 (l0.length : Int) x28_2 = some r) ∧ Aside0 (kq ≤ kj1) ∧ Aside0 (Kd.R (Kd.int .i64) 2 w' w.heap.size (fun _ => True) v4 x4_2) ∧ Aside0 (Below w.heap.size w w'))
  case atStart => exact ⟨(0), (y310), (0), dq19, dq19, H', ⟨Nat.le_refl _⟩, ⟨by (with_reducible repeat (first | apply Kd.R_alloc | apply Kd.R_drewN | apply Kd.R_drew)); exact HO312.out⟩, ⟨dq27⟩⟩
  clear H'
  obtain ⟨x3_2, x4_2, x28_2, rfl, rfl, HA, HK2, HO_4, HB⟩ := hrel
  cases gk with
  | zero => exact absurd HA.out (by simp [impl_DocOk.l0])
  | succ k2 =>
   have H := HA.out
   clear HA
   simp only [impl_DocOk.l0] at H
   by_cases c10 : x28_2 < (l0.length : Int)
   rotate_left
   ·rw [if_neg c10] at H
    have c10b0 := decide_eq_false c10
    clear c10
    obtain rfl := Option.some.inj H
    go_wp2
    go_ret
    exact ⟨dq29, dq27⟩
   rw [if_pos c10] at H
   have c10b0 := decide_eq_true c10
   clear c10
   by_cases c11 : 0 ≤ x28_2
   rotate_left
   ·rw [if_neg c11] at H
    exact absurd H dq22
   rw [if_pos c11] at H
   have c11b0 := decide_eq_true c11
   clear c11
   by_cases c12 : x28_2 < (l0.length : Int)
   rotate_left
   ·rw [if_neg c12] at H
    exact absurd H dq22
   rw [if_pos c12] at H
   have c12b0 := decide_eq_true c12
   clear c12
   replace H := Option.bind_eq_some_iff.mp H
   obtain ⟨t315, A130, H⟩ := H
   replace H : (if t315 = true then ((impl_Item_bytes.f k2 ((rd_T39 l0 x28_2).f0) ((rd_T39 l0 x28_2).f1) ((rd_T39 l0 x28_2).f2) ((rd_T39 l0 x28_2).f3)).bind fun t316 => (impl_DocOk.l1 k2 l0 (wrap64 (x3_2 + t316)) x4_2 x28_2 l0 (l0.length : Int) x28_2 ((rd_T39 l0 x28_2).f0) ((rd_T39 l0 x28_2).f1) ((rd_T39 l0 x28_2).f2) ((rd_T39 l0 x28_2).f3))) else (some false)) = some r := H
   have A13 := Aside0.mk A130
   clear A130
   by_cases c14 : t315 = true
   rotate_left
   ·replace c14 := Bool.eq_false_iff.mpr c14
    subst c14
    have H1 : (some false) = some r := by rw [if_neg (show ¬ (false = true) by decide)] at H; exact H
    clear H
    have H := H1
    clear H1
    obtain rfl := Option.some.inj H
    have p313 : 0 ≤ (x28_2 : Int) := of_decide_eq_true dq20
    have q313 : x28_2 < (l0.length : Int) := of_decide_eq_true dq20
    obtain ⟨ad313, A313_3, c313_3, e313, hx313_0, hx313_1, hx313_2, hx313_3, hl313_3, hi313_3⟩ := at_T39 HR0.out x28_2 p313 q313
    cases e313
    replace hx313_0 := (HB.out.cell (World.block_lt_of_cell? w _ hx313_0)).trans hx313_0
    replace hx313_1 := (HB.out.cell (World.block_lt_of_cell? w _ hx313_1)).trans hx313_1
    replace hx313_2 := (HB.out.cell (World.block_lt_of_cell? w _ hx313_2)).trans hx313_2
    replace hx313_3 := (HB.out.cell (World.block_lt_of_cell? w _ hx313_3)).trans hx313_3
    have HR313_3 := Aside0.mk hi313_3
    have HC313_3 := Aside0.mk hl313_3
    clear hi313_3 hl313_3
    replace p313 := eq_true p313
    replace q313 := eq_true q313
    go_wp2_with (first | ((with_reducible refine gate_dst (N := 6) rfl ?_); (try (refine gate_guard (by rfl) ?_; dsimp only)); refine box_event ?hg (N := 6) ?hd (cs := #[.int .i64 0, .string (⟨#[]⟩ : ByteArray), .string (⟨#[]⟩ : ByteArray), .slice none 0 0]) (t := 39) ?hr ?_; (case hd => rfl); (case hg => rfl); (case hr => exact dq0); intro gb314 hg w55 hbox hb; have n0_ := Aside0.mk (Kd.R_below dq30 hb); have n1_ := Aside0.mk (below_step dq27 hb); have n2_ := Aside0.mk (hbox); have n3_ := Aside0.mk ((dq33 : w.heap.size ≤ gb314)); have n4_ := Aside0.mk ((dq33 : w.heap.size ≤ gb314)); clear HO_4; clear HB; have HO_4 := n0_; have HB := n1_; have BK314 := n2_; have GW314 := n3_; have GE314 := n4_; clear n0_ n1_ n2_ n3_ n4_; clear hb hbox hg; obtain ⟨⟨hcz56_0, hcz56_1, hcz56_2, hcz56_3⟩, hfz56_0, hfz56_1, hfz56_2, hfz56_3⟩ := blkC4 BK314.out) | (go_at_call 71; (with_reducible refine (impl_Item_isGood.calls k2 ((rd_T39 l0 x28_2).f0) ((rd_T39 l0 x28_2).f1) ((rd_T39 l0 x28_2).f2) _ _ ((rd_T39 l0 x28_2).f3) false _ ?side3 ?side1 ?side2 A13.out).mono ?_); (case side1 => exact dq14); (case side2 => exact HC313_3.out); (case side3 => exact dq15); rintro e w57 ⟨rfl, hb⟩; have n0_ := Aside0.mk (Kd.R_below dq115 hb); have n1_ := Aside0.mk (blk_below (g := gb314) (o := .cells #[.int .i64 ((rd_T39 l0 x28_2).f0), .string ((rd_T39 l0 x28_2).f1), .string ((rd_T39 l0 x28_2).f2), .slice A313_3 ((rd_T39 l0 x28_2).f3).length c313_3] 39 (0, 0)) dq114 hb); have n2_ := Aside0.mk (below_step dq112 hb); clear HO_4; clear BK314; clear HB; have HO_4 := n0_; have BK314 := n1_; have HB := n2_; clear n0_ n1_ n2_; (try clear hb); (try clear hb2); (try clear hk); (try clear hi)))
    go_ret
    exact ⟨dq29, dq112⟩
   subst c14
   have H1 : ((impl_Item_bytes.f k2 ((rd_T39 l0 x28_2).f0) ((rd_T39 l0 x28_2).f1) ((rd_T39 l0 x28_2).f2) ((rd_T39 l0 x28_2).f3)).bind fun t316 => (impl_DocOk.l1 k2 l0 (wrap64 (x3_2 + t316)) x4_2 x28_2 l0 (l0.length : Int) x28_2 ((rd_T39 l0 x28_2).f0) ((rd_T39 l0 x28_2).f1) ((rd_T39 l0 x28_2).f2) ((rd_T39 l0 x28_2).f3))) = some r := by rw [if_pos rfl] at H; exact H
   clear H
   have H := H1
   clear H1
   replace H := Option.bind_eq_some_iff.mp H
   obtain ⟨t316, A150, H⟩ := H
   replace H : (impl_DocOk.l1 k2 l0 (wrap64 (x3_2 + t316)) x4_2 x28_2 l0 (l0.length : Int) x28_2 ((rd_T39 l0 x28_2).f0) ((rd_T39 l0 x28_2).f1) ((rd_T39 l0 x28_2).f2) ((rd_T39 l0 x28_2).f3)) = some r := H
   have A15 := Aside0.mk A150
   clear A150
   have HC16 := Aside0.mk H
   clear H
   have p313 : 0 ≤ (x28_2 : Int) := of_decide_eq_true dq20
   have q313 : x28_2 < (l0.length : Int) := of_decide_eq_true dq20
   obtain ⟨ad313, A313_3, c313_3, e313, hx313_0, hx313_1, hx313_2, hx313_3, hl313_3, hi313_3⟩ := at_T39 HR0.out x28_2 p313 q313
   cases e313
   replace hx313_0 := (HB.out.cell (World.block_lt_of_cell? w _ hx313_0)).trans hx313_0
   replace hx313_1 := (HB.out.cell (World.block_lt_of_cell? w _ hx313_1)).trans hx313_1
   replace hx313_2 := (HB.out.cell (World.block_lt_of_cell? w _ hx313_2)).trans hx313_2
   replace hx313_3 := (HB.out.cell (World.block_lt_of_cell? w _ hx313_3)).trans hx313_3
   have HR313_3 := Aside0.mk hi313_3
   have HC313_3 := Aside0.mk hl313_3
   clear hi313_3 hl313_3
   replace p313 := eq_true p313
   replace q313 := eq_true q313
   go_upto_block 2 with (first | ((with_reducible refine gate_dst (N := 6) rfl ?_); (try (refine gate_guard (by rfl) ?_; dsimp only)); refine box_event ?hg (N := 6) ?hd (cs := #[.int .i64 0, .string (⟨#[]⟩ : ByteArray), .string (⟨#[]⟩ : ByteArray), .slice none 0 0]) (t := 39) ?hr ?_; (case hd => rfl); (case hg => rfl); (case hr => exact dq0); intro gb314 hg w17 hbox hb; have n0_ := Aside0.mk (Kd.R_below dq30 hb); have n1_ := Aside0.mk (below_step dq27 hb); have n2_ := Aside0.mk (hbox); have n3_ := Aside0.mk ((dq33 : w.heap.size ≤ gb314)); have n4_ := Aside0.mk ((dq33 : w.heap.size ≤ gb314)); clear HO_4; clear HB; have HO_4 := n0_; have HB := n1_; have BK314 := n2_; have GW314 := n3_; have GE314 := n4_; clear n0_ n1_ n2_ n3_ n4_; clear hb hbox hg; obtain ⟨⟨hcz18_0, hcz18_1, hcz18_2, hcz18_3⟩, hfz18_0, hfz18_1, hfz18_2, hfz18_3⟩ := blkC4 BK314.out) | (go_at_call 71; (with_reducible refine (impl_Item_isGood.calls k2 ((rd_T39 l0 x28_2).f0) ((rd_T39 l0 x28_2).f1) ((rd_T39 l0 x28_2).f2) _ _ ((rd_T39 l0 x28_2).f3) true _ ?side3 ?side1 ?side2 A13.out).mono ?_); (case side1 => exact dq14); (case side2 => exact HC313_3.out); (case side3 => exact dq15); rintro e w19 ⟨rfl, hb⟩; have n0_ := Aside0.mk (Kd.R_below dq115 hb); have n1_ := Aside0.mk (blk_below (g := gb314) (o := .cells #[.int .i64 ((rd_T39 l0 x28_2).f0), .string ((rd_T39 l0 x28_2).f1), .string ((rd_T39 l0 x28_2).f2), .slice A313_3 ((rd_T39 l0 x28_2).f3).length c313_3] 39 (0, 0)) dq114 hb); have n2_ := Aside0.mk (below_step dq112 hb); clear HO_4; clear BK314; clear HB; have HO_4 := n0_; have BK314 := n1_; have HB := n2_; clear n0_ n1_ n2_; (try clear hb); (try clear hb2); (try clear hk); (try clear hi); obtain ⟨⟨hcz20_0, hcz20_1, hcz20_2, hcz20_3⟩, hfz20_0, hfz20_1, hfz20_2, hfz20_3⟩ := blkC4 BK314.out) | (go_at_call 72; (with_reducible refine (impl_Item_bytes.calls k2 ((rd_T39 l0 x28_2).f0) ((rd_T39 l0 x28_2).f1) ((rd_T39 l0 x28_2).f2) _ _ ((rd_T39 l0 x28_2).f3) t316 _ ?side1 ?side2 A15.out).mono ?_); (case side1 => repeat (first | exact (Kd.C_below HR313_3.out HB.out) | (with_reducible refine Kd.C_alloc ?_ _) | (with_reducible refine Kd.C_drewN ?_ _) | (with_reducible refine Kd.C_drew ?_))); (case side2 => exact HC313_3.out); rintro e w21 ⟨rfl, hb⟩; have n0_ := Aside0.mk (Kd.R_below dq30 hb); have n1_ := Aside0.mk (blk_below (g := gb314) (o := .cells #[.int .i64 ((rd_T39 l0 x28_2).f0), .string ((rd_T39 l0 x28_2).f1), .string ((rd_T39 l0 x28_2).f2), .slice A313_3 ((rd_T39 l0 x28_2).f3).length c313_3] 39 (0, 0)) dq113 hb); have n2_ := Aside0.mk (below_step dq112 hb); clear HO_4; clear BK314; clear HB; have HO_4 := n0_; have BK314 := n1_; have HB := n2_; clear n0_ n1_ n2_; (try clear hb); (try clear hb2); (try clear hk); (try clear hi)))
   (try simp only [Act.put, List.setIfInBounds_toArray, List.set_cons_zero, List.set_cons_succ])
   go_cut [4] (fun v4 wc => ∃ (kq : Nat) (x4_15 : List Int), Aside0 (impl_DocOk.j3 kq l0 (wrap64 (x3_2 + t316)) x4_15 x28_2 l0 (l0.length : Int) x28_2 ((rd_T39 l0 x28_2).f0) ((rd_T39 l0 x28_2).f1) ((rd_T39 l0 x28_2).f2) ((rd_T39 l0 x28_2).f3) = some r) ∧ Aside0 (kq ≤ k2) ∧ Aside0 (Kd.R (Kd.int .i64) 2 wc w.heap.size (fun _ => True) v4 x4_15) ∧ Aside0 (wc.heap[gb314]? = some (.cells #[.int .i64 ((rd_T39 l0 x28_2).f0), .string ((rd_T39 l0 x28_2).f1), .string ((rd_T39 l0 x28_2).f2), (.slice A313_3 ((rd_T39 l0 x28_2).f3).length c313_3)] 39 (0, 0))) ∧ Aside0 (Below w.heap.size w wc))
   case first =>
    have H := HC16.out
    clear HC16
    have H' := Aside0.mk H
    clear H
    go_wp2
    go_loopg [4] k2 (fun kq v4 w' => ∃ (x4_3 : List Int), Aside0 (impl_DocOk.l1 kq l0 (wrap64 (x3_2 + t316)) x4_3 x28_2 l0 (l0.length : Int) x28_2 ((rd_T39 l0 x28_2).f0) ((rd_T39 l0 x28_2).f1) ((rd_T39 l0 x28_2).f2) ((rd_T39 l0 x28_2).f3) = some r) ∧ Aside0 (kq ≤ k2) ∧ Aside0 (Kd.R (Kd.int .i64) 2 w' w.heap.size (fun _ => True) v4 x4_3) ∧ Aside0 (w'.heap[gb314]? = some (.cells #[.int .i64 ((rd_T39 l0 x28_2).f0), .string ((rd_T39 l0 x28_2).f1), .string ((rd_T39 l0 x28_2).f2), (.slice A313_3 ((rd_T39 l0 x28_2).f3).length c313_3)] 39 (0, 0))) ∧ Aside0 (Below w.heap.size w w'))
    case atStart => exact ⟨(x4_2), H', ⟨Nat.le_refl _⟩, ⟨dq30⟩, ⟨dq113⟩, ⟨dq112⟩⟩
    clear H'
    try clear c10b0
    try clear c11b0
    try clear c12b0
    try clear hcz18_0
    try clear hcz18_1
    try clear hcz18_2
    try clear hcz18_3
    try clear hcz20_0
    try clear hcz20_1
    try clear hcz20_2
    try clear hcz20_3
    try clear hfz18_0
    try clear hfz18_1
    try clear hfz18_2
    try clear hfz18_3
    try clear hfz20_0
    try clear hfz20_1
    try clear hfz20_2
    try clear hfz20_3
    try clear hx313_0
    try clear hx313_1
    try clear hx313_2
    try clear hx313_3
    try clear p313
    try clear q313
    obtain ⟨x4_3, HA, HK3, HO_4, BK314, HB⟩ := hrel
    cases gk with
    | zero => exact absurd HA.out (by simp [impl_DocOk.l1])
    | succ k3 =>
     have H := HA.out
     clear HA
     simp only [impl_DocOk.l1] at H
     by_cases c22 : (x4_3.length : Int) > 0
     rotate_left
     ·rw [if_neg c22] at H
      have c22b0 : decide (0 < (x4_3.length : Int)) = false := decide_eq_false c22
      have c22b1 : decide (0 < x4_3.length) = false := decide_eq_false dq25
      clear c22
      (first | rw [c22b0] | (simp only [i64_w, i32_w]; rw [c22b0]) | skip)
      have H' := Aside0.mk H
      clear H
      obtain ⟨Ao33, co33, eo33⟩ := Kd.R_slice HO_4.out
      subst eo33
      go_wp2
      repeat (go_quiet (fail); try go_wp2)
      go_meet
      case rel => exact ⟨_, (x4_3), H', ⟨dq36⟩, ⟨dq30⟩, ⟨dq113⟩, ⟨dq112⟩⟩
     rw [if_pos c22] at H
     have c22b0 : decide (0 < (x4_3.length : Int)) = true := decide_eq_true c22
     have c22b1 : decide (0 < x4_3.length) = true := decide_eq_true dq25
     clear c22
     (first | rw [c22b0] | (simp only [i64_w, i32_w]; rw [c22b0]) | skip)
     obtain ⟨ji23, hji23⟩ : ∃ j_ : Int, (wrap64 ((x4_3.length : Int) - 1)) = j_ := ⟨_, rfl⟩
     replace H : (if 0 ≤ (ji23) then (if (ji23) < (x4_3.length : Int) then (if (rd x4_3 (ji23)) = ((rd_T39 l0 x28_2).f0) then (impl_DocOk.j3 k3 l0 (wrap64 (x3_2 + t316)) x4_3 x28_2 l0 (l0.length : Int) x28_2 ((rd_T39 l0 x28_2).f0) ((rd_T39 l0 x28_2).f1) ((rd_T39 l0 x28_2).f2) ((rd_T39 l0 x28_2).f3)) else (if (ji23) ≤ (x4_3.length : Int) then (impl_DocOk.l1 k3 l0 (wrap64 (x3_2 + t316)) (x4_3.take ((ji23) : Int).toNat) x28_2 l0 (l0.length : Int) x28_2 ((rd_T39 l0 x28_2).f0) ((rd_T39 l0 x28_2).f1) ((rd_T39 l0 x28_2).f2) ((rd_T39 l0 x28_2).f3)) else (none))) else (none)) else (none)) = some r := by first | (rw [hji23] at H; exact H) | (simp only [hji23] at H ⊢; exact H)
     have hji23w : (IntKind.i64.wrap ((x4_3.length : Int) - 1)) = ji23 := (i64_w _).trans hji23
     by_cases c24 : 0 ≤ (ji23)
     rotate_left
     ·rw [if_neg c24] at H
      exact absurd H dq22
     rw [if_pos c24] at H
     have c24b0 := decide_eq_true c24
     clear c24
     by_cases c25 : (ji23) < (x4_3.length : Int)
     rotate_left
     ·rw [if_neg c25] at H
      exact absurd H dq22
     rw [if_pos c25] at H
     have c25b0 := decide_eq_true c25
     clear c25
     by_cases c26 : (rd x4_3 (ji23)) = ((rd_T39 l0 x28_2).f0)
     ·rw [if_pos c26] at H
      have c26b0 := beq_iff_eq.mpr c26
      have c26b1 := bne_eq_false_iff_eq.mpr c26
      clear c26
      have H' := Aside0.mk H
      clear H
      obtain ⟨Ao27, co27, eo27⟩ := Kd.R_slice HO_4.out
      subst eo27
      have p317 : 0 ≤ ((ji23) : Int) := of_decide_eq_true dq20
      have q317 : (ji23) < (x4_3.length : Int) := of_decide_eq_true dq20
      obtain ⟨ad317, e317, hx317_0⟩ := Kd.at_int (Kd.R_reads' HO_4.out).2.2 (ji23) p317 q317
      cases e317
      replace p317 := eq_true p317
      replace q317 := eq_true q317
      obtain ⟨⟨hcz28_0, hcz28_1, hcz28_2, hcz28_3⟩, hfz28_0, hfz28_1, hfz28_2, hfz28_3⟩ := blkC4 BK314.out
      go_wp2
      repeat (go_quiet (fail); try go_wp2)
      go_meet
      case rel => exact ⟨_, (x4_3), H', ⟨dq36⟩, ⟨dq30⟩, ⟨dq113⟩, ⟨dq112⟩⟩
     rw [if_neg c26] at H
     have c26b0 := beq_eq_false_iff_ne.mpr c26
     have c26b1 := bne_iff_ne.mpr c26
     by_cases c29 : (ji23) ≤ (x4_3.length : Int)
     rotate_left
     ·rw [if_neg c29] at H
      exact absurd H dq22
     rw [if_pos c29] at H
     have c29b0 := eq_true c29
     have c29b1 := decide_eq_true c29
     clear c29
     obtain ⟨y318, hy318⟩ : ∃ y_ : List Int, y_ = (x4_3.take ((ji23) : Int).toNat) := ⟨_, rfl⟩
     replace H : (impl_DocOk.l1 k3 l0 (wrap64 (x3_2 + t316)) y318 x28_2 l0 (l0.length : Int) x28_2 ((rd_T39 l0 x28_2).f0) ((rd_T39 l0 x28_2).f1) ((rd_T39 l0 x28_2).f2) ((rd_T39 l0 x28_2).f3)) = some r := by first | (rw [hy318]; with_reducible exact H) | (have H2_ := (Option.bind_some _ _).symm.trans H; rw [hy318]; with_reducible exact H2_) | (have H2_ := (Option.bind_some _ _).symm.trans H; with_reducible exact H2_) | with_reducible exact H | (rw [hy318]; exact H) | exact H
     have Ny318 := Aside0.mk hy318
     clear hy318
     have H' := Aside0.mk H
     clear H
     obtain ⟨Ao30, co30, eo30⟩ := Kd.R_slice HO_4.out
     subst eo30
     have p317 : 0 ≤ ((ji23) : Int) := of_decide_eq_true dq20
     have q317 : (ji23) < (x4_3.length : Int) := of_decide_eq_true dq20
     obtain ⟨ad317, e317, hx317_0⟩ := Kd.at_int (Kd.R_reads' HO_4.out).2.2 (ji23) p317 q317
     cases e317
     replace p317 := eq_true p317
     replace q317 := eq_true q317
     obtain ⟨⟨hcz31_0, hcz31_1, hcz31_2, hcz31_3⟩, hfz31_0, hfz31_1, hfz31_2, hfz31_3⟩ := blkC4 BK314.out
     have q32 : ((ji23) : Int) ≤ ((x4_3.length : Int) : Int) := of_decide_eq_true dq20
     obtain ⟨i032, hi032, _, hsz32, _⟩ := info_parts info2
     have hcut32 := cut_to (P := Tryd.prog) 24 2 .i64 Tryd.underlying24 hi032 (some ad317) x4_3.length co30 (ji23) (of_decide_eq_true dq20) q32 (Kd.R_reads' HO_4.out).2.1
     have hr32 := Kd.R_take (m := ((ji23) : Int).toNat) HO_4.out dq25
     have hy32 : y318.length = ((ji23) : Int).toNat := (by rw [Ny318.out, List.length_take]; omega)
     rw [← Ny318.out] at hr32
     rw [← hy32] at hr32 hcut32
     clear hy32 hi032 hsz32 HO_4
     have HO320 := Aside0.mk hr32
     clear hr32
     replace q32 := eq_true q32
     go_wp2
     repeat (go_quiet (fail); try go_wp2)
     go_roundg k3
     case measure => have := HJ1.out; have := HK2.out; have := HK3.out; omega
     case rel => exact ⟨(y318), H', ⟨by have := HJ1.out; have := HK2.out; have := HK3.out; omega⟩, ⟨by (with_reducible repeat (first | apply Kd.R_alloc | apply Kd.R_drewN | apply Kd.R_drew)); exact HO320.out⟩, ⟨dq113⟩, ⟨dq112⟩⟩
   clear HC16
   try clear c10b0
   try clear c11b0
   try clear c12b0
   try clear hcz18_0
   try clear hcz18_1
   try clear hcz18_2
   try clear hcz18_3
   try clear hcz20_0
   try clear hcz20_1
   try clear hcz20_2
   try clear hcz20_3
   try clear hfz18_0
   try clear hfz18_1
   try clear hfz18_2
   try clear hfz18_3
   try clear hfz20_0
   try clear hfz20_1
   try clear hfz20_2
   try clear hfz20_3
   try clear hx313_0
   try clear hx313_1
   try clear hx313_2
   try clear hx313_3
   try clear p313
   try clear q313
   obtain ⟨kq, x4_15, HA, HJ15, HO_4, BK314, HB⟩ := hcut
   cases kq with
   | zero => exact absurd HA.out (by simp [impl_DocOk.j3])
   | succ kj15 =>
    have H := HA.out
    clear HA
    simp only [impl_DocOk.j3] at H
    have HC34 := Aside0.mk H
    clear H
    go_upto_region 12 with (fail)
    go_cut [70] (fun v70 wc => ∃ (kq : Nat) (x70_33 : Bool), v70 = .bool x70_33 ∧ Aside0 (impl_DocOk.j4 kq l0 (wrap64 (x3_2 + t316)) x4_15 x28_2 l0 (l0.length : Int) x28_2 x70_33 ((rd_T39 l0 x28_2).f0) ((rd_T39 l0 x28_2).f1) ((rd_T39 l0 x28_2).f2) ((rd_T39 l0 x28_2).f3) = some r) ∧ Aside0 (kq ≤ kj15) ∧ Aside0 (Kd.R (Kd.int .i64) 2 wc w.heap.size (fun _ => True) u4 x4_15) ∧ Aside0 (wc.heap[gb314]? = some (.cells #[.int .i64 ((rd_T39 l0 x28_2).f0), .string ((rd_T39 l0 x28_2).f1), .string ((rd_T39 l0 x28_2).f2), (.slice A313_3 ((rd_T39 l0 x28_2).f3).length c313_3)] 39 (0, 0))) ∧ Aside0 (Below w.heap.size w wc))
    case first =>
     have H := HC34.out
     clear HC34
     by_cases c35 : x28_2 > 0
     rotate_left
     ·rw [if_neg c35] at H
      have c35b0 : decide (0 < x28_2) = false := decide_eq_false c35
      clear c35
      (first | rw [c35b0] | (simp only [i64_w, i32_w]; rw [c35b0]) | skip)
      have H' := Aside0.mk H
      clear H
      obtain ⟨Ao39, co39, eo39⟩ := Kd.R_slice HO_4.out
      subst eo39
      go_wp2
      go_meet
      case rel => exact ⟨_, (decide ((x4_15.length : Int) ≥ 20)), dq19, H', ⟨dq116⟩, ⟨dq30⟩, ⟨dq113⟩, ⟨dq112⟩⟩
     rw [if_pos c35] at H
     have c35b0 : decide (0 < x28_2) = true := decide_eq_true c35
     clear c35
     (first | rw [c35b0] | (simp only [i64_w, i32_w]; rw [c35b0]) | skip)
     by_cases c36 : (x4_15.length : Int) = 0
     ·rw [if_pos c36] at H
      have c36b0 := beq_iff_eq.mpr c36
      have c36b1 := bne_eq_false_iff_eq.mpr c36
      clear c36
      have H' := Aside0.mk H
      clear H
      obtain ⟨Ao37, co37, eo37⟩ := Kd.R_slice HO_4.out
      subst eo37
      go_wp2
      go_meet
      case rel => exact ⟨_, (true), dq19, H', ⟨dq116⟩, ⟨dq30⟩, ⟨dq113⟩, ⟨dq112⟩⟩
     rw [if_neg c36] at H
     have c36b0 := beq_eq_false_iff_ne.mpr c36
     have c36b1 := bne_iff_ne.mpr c36
     have c36b2 : ¬ (x4_15 = []) := fun h_ => c36 (by rw [h_]; rfl)
     have H' := Aside0.mk H
     clear H
     obtain ⟨Ao38, co38, eo38⟩ := Kd.R_slice HO_4.out
     subst eo38
     go_wp2
     go_meet
     case rel => exact ⟨_, (decide ((x4_15.length : Int) ≥ 20)), dq19, H', ⟨dq116⟩, ⟨dq30⟩, ⟨dq113⟩, ⟨dq112⟩⟩
    clear HC34
    obtain ⟨kq, x70_33, rfl, HA, HJ33, HO_4, BK314, HB⟩ := hcut
    cases kq with
    | zero => exact absurd HA.out (by simp [impl_DocOk.j4])
    | succ kj33 =>
     have H := HA.out
     clear HA
     simp only [impl_DocOk.j4] at H
     by_cases c40 : x70_33 = true
     ·subst c40
      have H1 : (some false) = some r := by rw [if_pos rfl] at H; exact H
      clear H
      have H := H1
      clear H1
      obtain rfl := Option.some.inj H
      go_wp2
      go_ret
      exact ⟨dq29, dq112⟩
     replace c40 := Bool.eq_false_iff.mpr c40
     subst c40
     have H1 : (if ((rd_T39 l0 x28_2).f1).toList = ([] : List UInt8) then (if x28_2 > 0 then (if 0 ≤ (wrap64 (x28_2 - 1)) then (if (wrap64 (x28_2 - 1)) < (l0.length : Int) then (if ((rd_T39 l0 (wrap64 (x28_2 - 1))).f1).toList = ([] : List UInt8) then (if ((rd_T39 l0 (wrap64 (x28_2 - 1))).f0) = ((rd_T39 l0 x28_2).f0) then (some false) else (impl_DocOk.l0 kj33 l0 (wrap64 (x3_2 + t316)) x4_15 l0 (l0.length : Int) (wrap64 (x28_2 + 1)))) else (impl_DocOk.l0 kj33 l0 (wrap64 (x3_2 + t316)) x4_15 l0 (l0.length : Int) (wrap64 (x28_2 + 1)))) else (none)) else (none)) else (impl_DocOk.l0 kj33 l0 (wrap64 (x3_2 + t316)) x4_15 l0 (l0.length : Int) (wrap64 (x28_2 + 1)))) else (if x4_15.length < 17592186044416 then (impl_DocOk.l0 kj33 l0 (wrap64 (x3_2 + t316)) (x4_15 ++ [x28_2]) l0 (l0.length : Int) (wrap64 (x28_2 + 1))) else (none))) = some r := by rw [if_neg (show ¬ (false = true) by decide)] at H; exact H
     clear H
     have H := H1
     clear H1
     by_cases c41 : ((rd_T39 l0 x28_2).f1).toList = ([] : List UInt8)
     rotate_left
     ·rw [if_neg c41] at H
      have c41b0 := beq_eq_false_iff_ne.mpr c41
      have c41b1 := bne_iff_ne.mpr c41
      by_cases c52 : x4_15.length < 17592186044416
      rotate_left
      ·rw [if_neg c52] at H
       exact absurd H dq22
      rw [if_pos c52] at H
      have LMc52 := Aside0.mk c52
      clear c52
      obtain ⟨y323, hy323⟩ : ∃ y_ : List Int, y_ = (x4_15 ++ [x28_2]) := ⟨_, rfl⟩
      replace H : (impl_DocOk.l0 kj33 l0 (wrap64 (x3_2 + t316)) y323 l0 (l0.length : Int) (wrap64 (x28_2 + 1))) = some r := by first | (rw [hy323]; with_reducible exact H) | (have H2_ := (Option.bind_some _ _).symm.trans H; rw [hy323]; with_reducible exact H2_) | (have H2_ := (Option.bind_some _ _).symm.trans H; with_reducible exact H2_) | with_reducible exact H | (rw [hy323]; exact H) | exact H
      have Ny323 := Aside0.mk hy323
      clear hy323
      have H' := Aside0.mk H
      clear H
      obtain ⟨⟨hcz53_0, hcz53_1, hcz53_2, hcz53_3⟩, hfz53_0, hfz53_1, hfz53_2, hfz53_3⟩ := blkC4 BK314.out
      go_wp2_with (first | ((with_reducible refine gate_builtin (b := .append) (xs := #[.tmp 74, .tmp 76]) rfl ?_); (try (refine gate_guard (by rfl) ?_; dsimp only)); at_builtin; refine Kd.R_append (Kd.int .i64) (w0 := w) w.heap.size rfl (.tmp 74) (.tmp 76) 24 2 (.int .i64 0) 8 rfl Tryd.underlying24 info2 rfl dq31 dq25 u4 x4_15 x28_2 [.int .i64 x28_2] (fun _ => True) (fun _ => False) rfl rfl ?aP (fun _ hk => hk.elim) ?aF ?aO ?aB ?aS ?aL ?_; (case aP => exact rfl); (case aB => exact dq112); (case aF => exact (fun _ _ => trivial)); (case aO => exact dq30); (case aS => exact (below_size dq112)); (case aL => have := LMc52.out; omega); intro v324 w54 ho hb hg hat; rw [← Ny323.out] at ho; have n0_ := Aside0.mk (blk_grown (g := gb314) (o := .cells #[.int .i64 ((rd_T39 l0 x28_2).f0), .string ((rd_T39 l0 x28_2).f1), .string ((rd_T39 l0 x28_2).f2), .slice A313_3 ((rd_T39 l0 x28_2).f3).length c313_3] 39 (0, 0)) dq113 hg (Kd.R_ne HO_4.out BK314.out dq31)); have n1_ := Aside0.mk (hb); have n2_ := Aside0.mk (ho); clear BK314; clear HB; clear HO_4; have BK314 := n0_; have HB := n1_; have HO325 := n2_; clear n0_ n1_ n2_; clear ho hb hg hat))
      go_roundg kj33
      case measure => have := HJ1.out; have := HK2.out; have := HJ15.out; have := HJ33.out; omega
      case rel => exact ⟨((wrap64 (x3_2 + t316))), (y323), (wrap64 (x28_2 + 1)), dq19, dq19, H', ⟨dq117⟩, ⟨by (with_reducible repeat (first | apply Kd.R_alloc | apply Kd.R_drewN | apply Kd.R_drew)); exact HO325.out⟩, ⟨dq112⟩⟩
     rw [if_pos c41] at H
     have c41b0 := beq_iff_eq.mpr c41
     have c41b1 := bne_eq_false_iff_eq.mpr c41
     clear c41
     by_cases c42 : x28_2 > 0
     rotate_left
     ·rw [if_neg c42] at H
      have c42b0 : decide (0 < x28_2) = false := decide_eq_false c42
      clear c42
      have H' := Aside0.mk H
      clear H
      obtain ⟨⟨hcz51_0, hcz51_1, hcz51_2, hcz51_3⟩, hfz51_0, hfz51_1, hfz51_2, hfz51_3⟩ := blkC4 BK314.out
      go_wp2
      repeat (go_quiet (fail); try go_wp2)
      go_roundg kj33
      case measure => have := HJ1.out; have := HK2.out; have := HJ15.out; have := HJ33.out; omega
      case rel => exact ⟨((wrap64 (x3_2 + t316))), (x4_15), (wrap64 (x28_2 + 1)), dq19, dq19, H', ⟨dq117⟩, ⟨dq30⟩, ⟨dq112⟩⟩
     rw [if_pos c42] at H
     have c42b0 : decide (0 < x28_2) = true := decide_eq_true c42
     clear c42
     obtain ⟨ji43, hji43⟩ : ∃ j_ : Int, (wrap64 (x28_2 - 1)) = j_ := ⟨_, rfl⟩
     replace H : (if 0 ≤ (ji43) then (if (ji43) < (l0.length : Int) then (if ((rd_T39 l0 (ji43)).f1).toList = ([] : List UInt8) then (if ((rd_T39 l0 (ji43)).f0) = ((rd_T39 l0 x28_2).f0) then (some false) else (impl_DocOk.l0 kj33 l0 (wrap64 (x3_2 + t316)) x4_15 l0 (l0.length : Int) (wrap64 (x28_2 + 1)))) else (impl_DocOk.l0 kj33 l0 (wrap64 (x3_2 + t316)) x4_15 l0 (l0.length : Int) (wrap64 (x28_2 + 1)))) else (none)) else (none)) = some r := by first | (rw [hji43] at H; exact H) | (simp only [hji43] at H ⊢; exact H)
     have hji43w : (IntKind.i64.wrap (x28_2 - 1)) = ji43 := (i64_w _).trans hji43
     by_cases c44 : 0 ≤ (ji43)
     rotate_left
     ·rw [if_neg c44] at H
      exact absurd H dq22
     rw [if_pos c44] at H
     have c44b0 := decide_eq_true c44
     clear c44
     by_cases c45 : (ji43) < (l0.length : Int)
     rotate_left
     ·rw [if_neg c45] at H
      exact absurd H dq22
     rw [if_pos c45] at H
     have c45b0 := decide_eq_true c45
     clear c45
     by_cases c46 : ((rd_T39 l0 (ji43)).f1).toList = ([] : List UInt8)
     rotate_left
     ·rw [if_neg c46] at H
      have c46b0 := beq_eq_false_iff_ne.mpr c46
      have c46b1 := bne_iff_ne.mpr c46
      have H' := Aside0.mk H
      clear H
      obtain ⟨⟨hcz50_0, hcz50_1, hcz50_2, hcz50_3⟩, hfz50_0, hfz50_1, hfz50_2, hfz50_3⟩ := blkC4 BK314.out
      have p321 : 0 ≤ ((ji43) : Int) := of_decide_eq_true dq20
      have q321 : (ji43) < (l0.length : Int) := of_decide_eq_true dq20
      obtain ⟨ad321, A321_3, c321_3, e321, hx321_0, hx321_1, hx321_2, hx321_3, hl321_3, hi321_3⟩ := at_T39 HR0.out (ji43) p321 q321
      obtain rfl : ad313 = ad321 := (by injection e321)
      replace hx321_0 := (HB.out.cell (World.block_lt_of_cell? w _ hx321_0)).trans hx321_0
      replace hx321_1 := (HB.out.cell (World.block_lt_of_cell? w _ hx321_1)).trans hx321_1
      replace hx321_2 := (HB.out.cell (World.block_lt_of_cell? w _ hx321_2)).trans hx321_2
      replace hx321_3 := (HB.out.cell (World.block_lt_of_cell? w _ hx321_3)).trans hx321_3
      have HR321_3 := Aside0.mk hi321_3
      have HC321_3 := Aside0.mk hl321_3
      clear hi321_3 hl321_3
      replace p321 := eq_true p321
      replace q321 := eq_true q321
      go_wp2
      repeat (go_quiet (fail); try go_wp2)
      go_roundg kj33
      case measure => have := HJ1.out; have := HK2.out; have := HJ15.out; have := HJ33.out; omega
      case rel => exact ⟨((wrap64 (x3_2 + t316))), (x4_15), (wrap64 (x28_2 + 1)), dq19, dq19, H', ⟨dq117⟩, ⟨dq30⟩, ⟨dq112⟩⟩
     rw [if_pos c46] at H
     have c46b0 := beq_iff_eq.mpr c46
     have c46b1 := bne_eq_false_iff_eq.mpr c46
     clear c46
     by_cases c47 : ((rd_T39 l0 (ji43)).f0) = ((rd_T39 l0 x28_2).f0)
     ·rw [if_pos c47] at H
      have c47b0 := beq_iff_eq.mpr c47
      have c47b1 := bne_eq_false_iff_eq.mpr c47
      clear c47
      obtain rfl := Option.some.inj H
      obtain ⟨⟨hcz48_0, hcz48_1, hcz48_2, hcz48_3⟩, hfz48_0, hfz48_1, hfz48_2, hfz48_3⟩ := blkC4 BK314.out
      have p321 : 0 ≤ ((ji43) : Int) := of_decide_eq_true dq20
      have q321 : (ji43) < (l0.length : Int) := of_decide_eq_true dq20
      obtain ⟨ad321, A321_3, c321_3, e321, hx321_0, hx321_1, hx321_2, hx321_3, hl321_3, hi321_3⟩ := at_T39 HR0.out (ji43) p321 q321
      obtain rfl : ad313 = ad321 := (by injection e321)
      replace hx321_0 := (HB.out.cell (World.block_lt_of_cell? w _ hx321_0)).trans hx321_0
      replace hx321_1 := (HB.out.cell (World.block_lt_of_cell? w _ hx321_1)).trans hx321_1
      replace hx321_2 := (HB.out.cell (World.block_lt_of_cell? w _ hx321_2)).trans hx321_2
      replace hx321_3 := (HB.out.cell (World.block_lt_of_cell? w _ hx321_3)).trans hx321_3
      have HR321_3 := Aside0.mk hi321_3
      have HC321_3 := Aside0.mk hl321_3
      clear hi321_3 hl321_3
      replace p321 := eq_true p321
      replace q321 := eq_true q321
      have p322 : 0 ≤ ((ji43) : Int) := of_decide_eq_true dq20
      have q322 : (ji43) < (l0.length : Int) := of_decide_eq_true dq20
      obtain ⟨ad322, A322_3, c322_3, e322, hx322_0, hx322_1, hx322_2, hx322_3, hl322_3, hi322_3⟩ := at_T39 HR0.out (ji43) p322 q322
      obtain rfl : ad313 = ad322 := (by injection e322)
      replace hx322_0 := (HB.out.cell (World.block_lt_of_cell? w _ hx322_0)).trans hx322_0
      replace hx322_1 := (HB.out.cell (World.block_lt_of_cell? w _ hx322_1)).trans hx322_1
      replace hx322_2 := (HB.out.cell (World.block_lt_of_cell? w _ hx322_2)).trans hx322_2
      replace hx322_3 := (HB.out.cell (World.block_lt_of_cell? w _ hx322_3)).trans hx322_3
      have HR322_3 := Aside0.mk hi322_3
      have HC322_3 := Aside0.mk hl322_3
      clear hi322_3 hl322_3
      replace p322 := eq_true p322
      replace q322 := eq_true q322
      have ea_ := Option.some.inj (hx321_3.symm.trans hx322_3)
      injection ea_ with ea_ en_ ec_
      subst ea_
      subst ec_
      clear en_
      go_wp2
      repeat (go_quiet (fail); try go_wp2)
      go_ret
      exact ⟨by first | rfl | (simp [errW_none, errW_some] <;> rfl) | (simp only [← hji43]; first | rfl | (simp [errW_none, errW_some] <;> rfl)) | (simp [*, errW_none, errW_some] <;> rfl), dq112⟩
     rw [if_neg c47] at H
     have c47b0 := beq_eq_false_iff_ne.mpr c47
     have c47b1 := bne_iff_ne.mpr c47
     have H' := Aside0.mk H
     clear H
     obtain ⟨⟨hcz49_0, hcz49_1, hcz49_2, hcz49_3⟩, hfz49_0, hfz49_1, hfz49_2, hfz49_3⟩ := blkC4 BK314.out
     have p321 : 0 ≤ ((ji43) : Int) := of_decide_eq_true dq20
     have q321 : (ji43) < (l0.length : Int) := of_decide_eq_true dq20
     obtain ⟨ad321, A321_3, c321_3, e321, hx321_0, hx321_1, hx321_2, hx321_3, hl321_3, hi321_3⟩ := at_T39 HR0.out (ji43) p321 q321
     obtain rfl : ad313 = ad321 := (by injection e321)
     replace hx321_0 := (HB.out.cell (World.block_lt_of_cell? w _ hx321_0)).trans hx321_0
     replace hx321_1 := (HB.out.cell (World.block_lt_of_cell? w _ hx321_1)).trans hx321_1
     replace hx321_2 := (HB.out.cell (World.block_lt_of_cell? w _ hx321_2)).trans hx321_2
     replace hx321_3 := (HB.out.cell (World.block_lt_of_cell? w _ hx321_3)).trans hx321_3
     have HR321_3 := Aside0.mk hi321_3
     have HC321_3 := Aside0.mk hl321_3
     clear hi321_3 hl321_3
     replace p321 := eq_true p321
     replace q321 := eq_true q321
     have p322 : 0 ≤ ((ji43) : Int) := of_decide_eq_true dq20
     have q322 : (ji43) < (l0.length : Int) := of_decide_eq_true dq20
     obtain ⟨ad322, A322_3, c322_3, e322, hx322_0, hx322_1, hx322_2, hx322_3, hl322_3, hi322_3⟩ := at_T39 HR0.out (ji43) p322 q322
     obtain rfl : ad313 = ad322 := (by injection e322)
     replace hx322_0 := (HB.out.cell (World.block_lt_of_cell? w _ hx322_0)).trans hx322_0
     replace hx322_1 := (HB.out.cell (World.block_lt_of_cell? w _ hx322_1)).trans hx322_1
     replace hx322_2 := (HB.out.cell (World.block_lt_of_cell? w _ hx322_2)).trans hx322_2
     replace hx322_3 := (HB.out.cell (World.block_lt_of_cell? w _ hx322_3)).trans hx322_3
     have HR322_3 := Aside0.mk hi322_3
     have HC322_3 := Aside0.mk hl322_3
     clear hi322_3 hl322_3
     replace p322 := eq_true p322
     replace q322 := eq_true q322
     have ea_ := Option.some.inj (hx321_3.symm.trans hx322_3)
     injection ea_ with ea_ en_ ec_
     subst ea_
     subst ec_
     clear en_
     go_wp2
     repeat (go_quiet (fail); try go_wp2)
     go_roundg kj33
     case measure => have := HJ1.out; have := HK2.out; have := HJ15.out; have := HJ33.out; omega
     case rel => exact ⟨((wrap64 (x3_2 + t316))), (x4_15), (wrap64 (x28_2 + 1)), dq19, dq19, H', ⟨dq117⟩, ⟨dq30⟩, ⟨dq112⟩⟩

/-! ### impl_has: function 64 -/
def impl_has.f (k : Nat) (l0 : List (S39)) (a1 : Int) : Option (Bool) := (impl_DocOk.f k l0).bind fun t326 => (if t326 = true then ((impl_in.f a1 0 (wrap64 ((l0.length : Int) - 1))).bind fun t327 => (some t327)) else (some false))
set_option maxHeartbeats 8000000 in
set_option maxRecDepth 100000 in
theorem impl_has.calls (k : Nat) (A0 : Option Addr) (c0 : Nat) (l0 : List (S39)) (a1 : Int) (r : Bool) (w : World) (hT : Gl w) (hr0 : Kd.C k39 w A0 l0.length l0) (hc0 : l0.length ≤ c0) (h : impl_has.f k l0 a1 = some r) :
  Calls Tryd.prog 64 #[.slice A0 l0.length c0, .int .i64 a1] w fun e w' => e = .returned (.bool r) ∧ Below w.heap.size w w' := by
 have HR0 := Aside0.mk hr0
 have HC0 := Aside0.mk hc0
 clear hr0 hc0
 have HT := Aside0.mk hT
 clear hT
 have HB := Aside0.mk (Below.refl w.heap.size w)
 have H : ((impl_DocOk.f k l0).bind fun t326 => (if t326 = true then ((impl_in.f a1 0 (wrap64 ((l0.length : Int) - 1))).bind fun t327 => (some t327)) else (some false))) = some r := h
 clear h
 replace H := Option.bind_eq_some_iff.mp H
 obtain ⟨t326, A30, H⟩ := H
 replace H : (if t326 = true then ((impl_in.f a1 0 (wrap64 ((l0.length : Int) - 1))).bind fun t327 => (some t327)) else (some false)) = some r := H
 have A3 := Aside0.mk A30
 clear A30
 by_cases c4 : t326 = true
 rotate_left
 ·replace c4 := Bool.eq_false_iff.mpr c4
  subst c4
  have H1 : (some false) = some r := by rw [if_neg (show ¬ (false = true) by decide)] at H; exact H
  clear H
  have H := H1
  clear H1
  obtain rfl := Option.some.inj H
  go_enter Tryd.func64, Tryd.ntmps64
  go_wp2_with (first | ((with_reducible refine gate_callee (f := 34) rfl ?_); refine goesL_ (some 6) rfl rfl Tryd.func34 dq24 rfl #[.slice A0 l0.length c0] rfl dq23 ?_; (with_reducible refine (impl_DocOk.calls k _ _ l0 false _ ?side3 ?side1 ?side2 A3.out).mono ?_); (case side1 => exact dq16); (case side2 => exact HC0.out); (case side3 => exact dq12); rintro e w7 ⟨rfl, hb⟩; refine ⟨_, rfl, ?_⟩; have n0_ := Aside0.mk (below_step dq27 hb); clear HB; have HB := n0_; clear n0_; (try clear hb); (try clear hb2); (try clear hk); (try clear hi)))
  go_ret
  exact ⟨dq29, dq27⟩
 subst c4
 have H1 : ((impl_in.f a1 0 (wrap64 ((l0.length : Int) - 1))).bind fun t327 => (some t327)) = some r := by rw [if_pos rfl] at H; exact H
 clear H
 have H := H1
 clear H1
 replace H := Option.bind_eq_some_iff.mp H
 obtain ⟨t327, A50, H⟩ := H
 replace H : (some t327) = some r := H
 have A5 := Aside0.mk A50
 clear A50
 obtain rfl := Option.some.inj H
 go_enter Tryd.func64, Tryd.ntmps64
 go_wp2_with (first | ((with_reducible refine gate_callee (f := 34) rfl ?_); refine goesL_ (some 6) rfl rfl Tryd.func34 dq24 rfl #[.slice A0 l0.length c0] rfl dq23 ?_; (with_reducible refine (impl_DocOk.calls k _ _ l0 true _ ?side3 ?side1 ?side2 A3.out).mono ?_); (case side1 => exact dq16); (case side2 => exact HC0.out); (case side3 => exact dq12); rintro e w6 ⟨rfl, hb⟩; refine ⟨_, rfl, ?_⟩; have n0_ := Aside0.mk (below_step dq27 hb); clear HB; have HB := n0_; clear n0_; (try clear hb); (try clear hb2); (try clear hk); (try clear hi)) | (go_at_call 56; (with_reducible refine (impl_in.calls a1 0 (wrap64 ((l0.length : Int) - 1)) t327 _ A5.out).mono ?_); rintro e w' ⟨rfl, ⟨nd, rfl⟩⟩))
 go_ret
 exact ⟨dq29, dq27⟩

theorem bne_nilE62 (l : List UInt8) : (l != ([] : List UInt8)) = !l.isEmpty := by cases l <;> rfl
/-! ### impl_bound: function 65 -/
mutual
def impl_bound.j0 : Nat → List (S39) → Int → ByteArray → ByteArray → Option (ByteArray × Bool)
 | 0, _, _, _, _ => none
 | k + 1, x0, x1, x2, x8 => impl_bound.l0 k x0 x1 x2 x8
def impl_bound.l0 : Nat → List (S39) → Int → ByteArray → ByteArray → Option (ByteArray × Bool)
 | 0, _, _, _, _ => none
 | k + 1, x0, x1, x2, x8 => if x1 ≥ 0 then (if 0 ≤ x1 then (if x1 < (x0.length : Int) then (impl_bound.l1 k x0 x1 x2 x8 ((rd_T39 x0 x1).f3) (((rd_T39 x0 x1).f3).length : Int) 0) else (none)) else (none)) else (some ((⟨#[]⟩ : ByteArray), (x2.toList == ([] : List UInt8))))
def impl_bound.l1 : Nat → List (S39) → Int → ByteArray → ByteArray → List (S46) → Int → Int → Option (ByteArray × Bool)
 | 0, _, _, _, _, _, _, _ => none
 | k + 1, x0, x1, x2, x8, x30, x31, x32 => if x32 < x31 then (if 0 ≤ x32 then (if x32 < (x30.length : Int) then (if ((rd_T46 x30 x32).f0).toList = x8.toList then (if x2.toList = ([] : List UInt8) then (some ((rd_T46 x30 x32).f1, true)) else (some ((rd_T46 x30 x32).f1, (((rd_T46 x30 x32).f1).toList != ([] : List UInt8))))) else (impl_bound.l1 k x0 x1 x2 x8 x30 x31 (wrap64 (x32 + 1)))) else (none)) else (none)) else (if 0 ≤ x1 then (if x1 < (x0.length : Int) then (impl_bound.l0 k x0 ((rd_T39 x0 x1).f0) x2 x8) else (none)) else (none))
end
def impl_bound.f (k : Nat) (l0 : List (S39)) (a1 : Int) (a2 : ByteArray) : Option (ByteArray × Bool) := if a2.toList = ([120, 109, 108] : List UInt8) then (some ((⟨#[104, 116, 116, 112, 58, 47, 47, 119, 119, 119, 46, 119, 51, 46, 111, 114, 103, 47, 88, 77, 76, 47, 49, 57, 57, 56, 47, 110, 97, 109, 101, 115, 112, 97, 99, 101]⟩ : ByteArray), true)) else (if a2.toList = ([] : List UInt8) then (impl_bound.j0 k l0 a1 a2 (⟨#[120, 109, 108, 110, 115]⟩ : ByteArray)) else (if 1 + a2.size ≤ 9223372036854775807 then (if 5 + ((⟨#[58]⟩ : ByteArray) ++ a2).size ≤ 9223372036854775807 then (impl_bound.j0 k l0 a1 a2 ((⟨#[120, 109, 108, 110, 115]⟩ : ByteArray) ++ ((⟨#[58]⟩ : ByteArray) ++ a2))) else (none)) else (none)))
set_option maxHeartbeats 8000000 in
set_option maxRecDepth 100000 in
theorem impl_bound.calls (k : Nat) (A0 : Option Addr) (c0 : Nat) (l0 : List (S39)) (a1 : Int) (a2 : ByteArray) (r1 : ByteArray) (r2 : Bool) (w : World) (hr0 : Kd.C k39 w A0 l0.length l0) (hc0 : l0.length ≤ c0) (h : impl_bound.f k l0 a1 a2 = some (r1, r2)) :
  Calls Tryd.prog 65 #[.slice A0 l0.length c0, .int .i64 a1, .string a2] w fun e w' => e = .returned (.tuple #[.string r1, .bool r2]) ∧ Below w.heap.size w w' := by
 have hu46 := Tryd.underlying46
 have HR0 := Aside0.mk hr0
 have HC0 := Aside0.mk hc0
 clear hr0 hc0
 have HB := Aside0.mk (Below.refl w.heap.size w)
 have H : (if a2.toList = ([120, 109, 108] : List UInt8) then (some ((⟨#[104, 116, 116, 112, 58, 47, 47, 119, 119, 119, 46, 119, 51, 46, 111, 114, 103, 47, 88, 77, 76, 47, 49, 57, 57, 56, 47, 110, 97, 109, 101, 115, 112, 97, 99, 101]⟩ : ByteArray), true)) else (if a2.toList = ([] : List UInt8) then (impl_bound.j0 k l0 a1 a2 (⟨#[120, 109, 108, 110, 115]⟩ : ByteArray)) else (if 1 + a2.size ≤ 9223372036854775807 then (if 5 + ((⟨#[58]⟩ : ByteArray) ++ a2).size ≤ 9223372036854775807 then (impl_bound.j0 k l0 a1 a2 ((⟨#[120, 109, 108, 110, 115]⟩ : ByteArray) ++ ((⟨#[58]⟩ : ByteArray) ++ a2))) else (none)) else (none)))) = some (r1, r2) := h
 clear h
 by_cases c4 : a2.toList = ([120, 109, 108] : List UInt8)
 ·rw [if_pos c4] at H
  have c4b0 := beq_iff_eq.mpr c4
  have c4b1 := bne_eq_false_iff_eq.mpr c4
  clear c4
  simp only [Option.some.injEq, Prod.mk.injEq] at H
  obtain ⟨rfl, rfl⟩ := H
  go_enter Tryd.func65, Tryd.ntmps65
  go_wp2
  go_ret2
  exact ⟨dq29, dq27⟩
 rw [if_neg c4] at H
 have c4b0 := beq_eq_false_iff_ne.mpr c4
 have c4b1 := bne_iff_ne.mpr c4
 have HC5 := Aside0.mk H
 clear H
 go_enter Tryd.func65, Tryd.ntmps65
 go_upto_if 14 with (fail)
 go_cut [8] (fun v8 wc => ∃ (kq : Nat) (x8_4 : ByteArray), v8 = .string x8_4 ∧ Aside0 (impl_bound.j0 kq l0 a1 a2 x8_4 = some (r1, r2)) ∧ Aside0 (kq ≤ k) ∧ Aside0 (Below w.heap.size w wc))
 case first =>
  have H := HC5.out
  clear HC5
  by_cases c6 : a2.toList = ([] : List UInt8)
  ·rw [if_pos c6] at H
   have c6b0 := beq_iff_eq.mpr c6
   have c6b1 := bne_eq_false_iff_eq.mpr c6
   have c6b3 : (!a2.toList.isEmpty) = false := (bne_nilE62 a2.toList).symm.trans c6b1
   clear c6
   (first | rw [c6b0] | rw [c6b3] | (simp only [i64_w, i32_w]; rw [c6b0]) | skip)
   have H' := Aside0.mk H
   clear H
   go_wp2
   go_meet
   case rel => exact ⟨_, ((⟨#[120, 109, 108, 110, 115]⟩ : ByteArray)), dq19, H', ⟨dq26⟩, ⟨dq27⟩⟩
  rw [if_neg c6] at H
  have c6b0 := beq_eq_false_iff_ne.mpr c6
  have c6b1 := bne_iff_ne.mpr c6
  have c6b3 : (!a2.toList.isEmpty) = true := (bne_nilE62 a2.toList).symm.trans c6b1
  (first | rw [c6b0] | rw [c6b3] | (simp only [i64_w, i32_w]; rw [c6b0]) | skip)
  by_cases c7 : 1 + a2.size ≤ 9223372036854775807
  rotate_left
  ·rw [if_neg c7] at H
   exact absurd H dq22
  rw [if_pos c7] at H
  have c7b0 := eq_true c7
  have c7b1 := decide_eq_true c7
  try have c7b2 : (9223372036854775807 < 1 + a2.size) = False := eq_false (Nat.not_lt.2 c7)
  by_cases c8 : 5 + ((⟨#[58]⟩ : ByteArray) ++ a2).size ≤ 9223372036854775807
  rotate_left
  ·rw [if_neg c8] at H
   exact absurd H dq22
  rw [if_pos c8] at H
  have c8b0 := eq_true c8
  have c8b1 := decide_eq_true c8
  try have c8b2 : (9223372036854775807 < 5 + ((⟨#[58]⟩ : ByteArray) ++ a2).size) = False := eq_false (Nat.not_lt.2 c8)
  try have c8b9 : (9223372036854775807 < (5 + (1 + a2.size))) = False := eq_false (Nat.not_lt.2 (by have h_ := c8; simp only [ByteArray.size_append] at h_; exact h_))
  have H' := Aside0.mk H
  clear H
  go_wp2
  go_meet
  case rel => exact ⟨_, ((⟨#[120, 109, 108, 110, 115]⟩ : ByteArray) ++ ((⟨#[58]⟩ : ByteArray) ++ a2)), dq19, H', ⟨dq26⟩, ⟨dq27⟩⟩
 clear HC5
 try clear c4
 try clear c4b0
 try clear c4b1
 obtain ⟨kq, x8_4, rfl, HA, HJ4, HB⟩ := hcut
 cases kq with
 | zero => exact absurd HA.out (by simp [impl_bound.j0])
 | succ kj4 =>
  have H := HA.out
  clear HA
  simp only [impl_bound.j0] at H
  have H' := Aside0.mk H
  clear H
  go_wp2
  go_loopg [1] kj4 (fun kq v1 w' => ∃ (x1_2 : Int), v1 = .int .i64 x1_2 ∧ Aside0 (impl_bound.l0 kq l0 x1_2 a2 x8_4 = some (r1, r2)) ∧ Aside0 (kq ≤ kj4) ∧ Aside0 (Below w.heap.size w w'))
  case atStart => exact ⟨(a1), dq19, H', ⟨Nat.le_refl _⟩, ⟨dq27⟩⟩
  clear H'
  obtain ⟨x1_2, rfl, HA, HK2, HB⟩ := hrel
  cases gk with
  | zero => exact absurd HA.out (by simp [impl_bound.l0])
  | succ k2 =>
   have H := HA.out
   clear HA
   simp only [impl_bound.l0] at H
   by_cases c9 : x1_2 ≥ 0
   rotate_left
   ·rw [if_neg c9] at H
    have c9b0 : decide (0 ≤ x1_2) = false := decide_eq_false c9
    clear c9
    simp only [Option.some.injEq, Prod.mk.injEq] at H
    obtain ⟨rfl, rfl⟩ := H
    go_wp2
    go_ret2
    exact ⟨dq29, dq27⟩
   rw [if_pos c9] at H
   have c9b0 : decide (0 ≤ x1_2) = true := decide_eq_true c9
   clear c9
   by_cases c10 : 0 ≤ x1_2
   rotate_left
   ·rw [if_neg c10] at H
    exact absurd H dq22
   rw [if_pos c10] at H
   have c10b0 := decide_eq_true c10
   clear c10
   by_cases c11 : x1_2 < (l0.length : Int)
   rotate_left
   ·rw [if_neg c11] at H
    exact absurd H dq22
   rw [if_pos c11] at H
   have c11b0 := decide_eq_true c11
   clear c11
   have H' := Aside0.mk H
   clear H
   have p655 : 0 ≤ (x1_2 : Int) := of_decide_eq_true dq20
   have q655 : x1_2 < (l0.length : Int) := of_decide_eq_true dq20
   obtain ⟨ad655, A655_3, c655_3, e655, hx655_0, hx655_1, hx655_2, hx655_3, hl655_3, hi655_3⟩ := at_T39 HR0.out x1_2 p655 q655
   cases e655
   replace hx655_0 := (HB.out.cell (World.block_lt_of_cell? w _ hx655_0)).trans hx655_0
   replace hx655_1 := (HB.out.cell (World.block_lt_of_cell? w _ hx655_1)).trans hx655_1
   replace hx655_2 := (HB.out.cell (World.block_lt_of_cell? w _ hx655_2)).trans hx655_2
   replace hx655_3 := (HB.out.cell (World.block_lt_of_cell? w _ hx655_3)).trans hx655_3
   have HR655_3 := Aside0.mk hi655_3
   have HC655_3 := Aside0.mk hl655_3
   clear hi655_3 hl655_3
   replace p655 := eq_true p655
   replace q655 := eq_true q655
   go_wp2
   go_loopg [32] k2 (fun kq v32 w' => ∃ (x32_3 : Int), v32 = .int .i64 x32_3 ∧ Aside0 (impl_bound.l1 kq l0 x1_2 a2 x8_4 ((rd_T39 l0 x1_2).f3) (((rd_T39 l0 x1_2).f3).length : Int) x32_3 = some (r1, r2)) ∧ Aside0 (kq ≤ k2) ∧ Aside0 (Below w.heap.size w w'))
   case atStart => exact ⟨(0), dq19, H', ⟨Nat.le_refl _⟩, ⟨dq27⟩⟩
   clear H'
   try clear c9b0
   try clear c10b0
   try clear c11b0
   try clear hx655_0
   try clear hx655_1
   try clear hx655_2
   try clear hx655_3
   try clear p655
   try clear q655
   obtain ⟨x32_3, rfl, HA, HK3, HB⟩ := hrel
   cases gk with
   | zero => exact absurd HA.out (by simp [impl_bound.l1])
   | succ k3 =>
    have H := HA.out
    clear HA
    simp only [impl_bound.l1] at H
    by_cases c12 : x32_3 < (((rd_T39 l0 x1_2).f3).length : Int)
    rotate_left
    ·rw [if_neg c12] at H
     have c12b0 := decide_eq_false c12
     clear c12
     by_cases c23 : 0 ≤ x1_2
     rotate_left
     ·rw [if_neg c23] at H
      exact absurd H dq22
     rw [if_pos c23] at H
     have c23b0 := decide_eq_true c23
     clear c23
     by_cases c24 : x1_2 < (l0.length : Int)
     rotate_left
     ·rw [if_neg c24] at H
      exact absurd H dq22
     rw [if_pos c24] at H
     have c24b0 := decide_eq_true c24
     clear c24
     have H' := Aside0.mk H
     clear H
     have p658 : 0 ≤ (x1_2 : Int) := of_decide_eq_true dq20
     have q658 : x1_2 < (l0.length : Int) := of_decide_eq_true dq20
     obtain ⟨ad658, A658_3, c658_3, e658, hx658_0, hx658_1, hx658_2, hx658_3, hl658_3, hi658_3⟩ := at_T39 HR0.out x1_2 p658 q658
     obtain rfl : ad655 = ad658 := (by injection e658)
     replace hx658_0 := (HB.out.cell (World.block_lt_of_cell? w _ hx658_0)).trans hx658_0
     replace hx658_1 := (HB.out.cell (World.block_lt_of_cell? w _ hx658_1)).trans hx658_1
     replace hx658_2 := (HB.out.cell (World.block_lt_of_cell? w _ hx658_2)).trans hx658_2
     replace hx658_3 := (HB.out.cell (World.block_lt_of_cell? w _ hx658_3)).trans hx658_3
     have HR658_3 := Aside0.mk hi658_3
     have HC658_3 := Aside0.mk hl658_3
     clear hi658_3 hl658_3
     replace p658 := eq_true p658
     replace q658 := eq_true q658
     go_wp2
     go_roundg k3
     case measure => have := HJ4.out; have := HK2.out; have := HK3.out; omega
     case rel => exact ⟨((rd_T39 l0 x1_2).f0), dq19, H', ⟨dq119⟩, ⟨dq27⟩⟩
    rw [if_pos c12] at H
    have c12b0 := decide_eq_true c12
    clear c12
    by_cases c13 : 0 ≤ x32_3
    rotate_left
    ·rw [if_neg c13] at H
     exact absurd H dq22
    rw [if_pos c13] at H
    have c13b0 := decide_eq_true c13
    clear c13
    by_cases c14 : x32_3 < (((rd_T39 l0 x1_2).f3).length : Int)
    rotate_left
    ·rw [if_neg c14] at H
     exact absurd H dq22
    rw [if_pos c14] at H
    have c14b0 := decide_eq_true c14
    clear c14
    by_cases c15 : ((rd_T46 ((rd_T39 l0 x1_2).f3) x32_3).f0).toList = x8_4.toList
    rotate_left
    ·rw [if_neg c15] at H
     have c15b0 := beq_eq_false_iff_ne.mpr c15
     have c15b1 := bne_iff_ne.mpr c15
     have H' := Aside0.mk H
     clear H
     have p656 : 0 ≤ (x32_3 : Int) := of_decide_eq_true dq20
     have q656 : x32_3 < (((rd_T39 l0 x1_2).f3).length : Int) := of_decide_eq_true dq20
     obtain ⟨ad656, e656, hx656_0, hx656_1⟩ := at_T46 HR655_3.out x32_3 p656 q656
     cases e656
     replace hx656_0 := (HB.out.cell (World.block_lt_of_cell? w _ hx656_0)).trans hx656_0
     replace hx656_1 := (HB.out.cell (World.block_lt_of_cell? w _ hx656_1)).trans hx656_1
     replace p656 := eq_true p656
     replace q656 := eq_true q656
     go_wp2_with (first | ((with_reducible refine gate_dst (N := 10) rfl ?_); refine box_event ?hg (N := 10) ?hd (cs := #[.string (⟨#[]⟩ : ByteArray), .string (⟨#[]⟩ : ByteArray)]) (t := 46) ?hr ?_; (case hd => rfl); (case hg => rfl); (case hr => exact dq0); intro gb657 hg w21 hbox hb; have n0_ := Aside0.mk (below_step dq27 hb); have n1_ := Aside0.mk (hbox); have n2_ := Aside0.mk ((dq33 : w.heap.size ≤ gb657)); have n3_ := Aside0.mk ((dq33 : w.heap.size ≤ gb657)); clear HB; have HB := n0_; have BK657 := n1_; have GW657 := n2_; have GE657 := n3_; clear n0_ n1_ n2_ n3_; clear hb hbox hg; obtain ⟨⟨hcz22_0, hcz22_1⟩, hfz22_0, hfz22_1⟩ := blkC2 BK657.out))
     go_roundg k3
     case measure => have := HJ4.out; have := HK2.out; have := HK3.out; omega
     case rel => exact ⟨(wrap64 (x32_3 + 1)), dq19, H', ⟨dq119⟩, ⟨dq118⟩⟩
    rw [if_pos c15] at H
    have c15b0 := beq_iff_eq.mpr c15
    have c15b1 := bne_eq_false_iff_eq.mpr c15
    clear c15
    by_cases c16 : a2.toList = ([] : List UInt8)
    ·rw [if_pos c16] at H
     have c16b0 := beq_iff_eq.mpr c16
     have c16b1 := bne_eq_false_iff_eq.mpr c16
     have c16b3 : (!a2.toList.isEmpty) = false := (bne_nilE62 a2.toList).symm.trans c16b1
     clear c16
     simp only [Option.some.injEq, Prod.mk.injEq] at H
     obtain ⟨rfl, rfl⟩ := H
     have p656 : 0 ≤ (x32_3 : Int) := of_decide_eq_true dq20
     have q656 : x32_3 < (((rd_T39 l0 x1_2).f3).length : Int) := of_decide_eq_true dq20
     obtain ⟨ad656, e656, hx656_0, hx656_1⟩ := at_T46 HR655_3.out x32_3 p656 q656
     cases e656
     replace hx656_0 := (HB.out.cell (World.block_lt_of_cell? w _ hx656_0)).trans hx656_0
     replace hx656_1 := (HB.out.cell (World.block_lt_of_cell? w _ hx656_1)).trans hx656_1
     replace p656 := eq_true p656
     replace q656 := eq_true q656
     go_wp2_with (first | ((with_reducible refine gate_dst (N := 10) rfl ?_); refine box_event ?hg (N := 10) ?hd (cs := #[.string (⟨#[]⟩ : ByteArray), .string (⟨#[]⟩ : ByteArray)]) (t := 46) ?hr ?_; (case hd => rfl); (case hg => rfl); (case hr => exact dq0); intro gb657 hg w17 hbox hb; have n0_ := Aside0.mk (below_step dq27 hb); have n1_ := Aside0.mk (hbox); have n2_ := Aside0.mk ((dq33 : w.heap.size ≤ gb657)); have n3_ := Aside0.mk ((dq33 : w.heap.size ≤ gb657)); clear HB; have HB := n0_; have BK657 := n1_; have GW657 := n2_; have GE657 := n3_; clear n0_ n1_ n2_ n3_; clear hb hbox hg; obtain ⟨⟨hcz18_0, hcz18_1⟩, hfz18_0, hfz18_1⟩ := blkC2 BK657.out))
     repeat (go_quiet (fail); try go_wp2_with (fail))
     go_ret2
     exact ⟨dq29, dq118⟩
    rw [if_neg c16] at H
    have c16b0 := beq_eq_false_iff_ne.mpr c16
    have c16b1 := bne_iff_ne.mpr c16
    have c16b3 : (!a2.toList.isEmpty) = true := (bne_nilE62 a2.toList).symm.trans c16b1
    simp only [Option.some.injEq, Prod.mk.injEq] at H
    obtain ⟨rfl, rfl⟩ := H
    have p656 : 0 ≤ (x32_3 : Int) := of_decide_eq_true dq20
    have q656 : x32_3 < (((rd_T39 l0 x1_2).f3).length : Int) := of_decide_eq_true dq20
    obtain ⟨ad656, e656, hx656_0, hx656_1⟩ := at_T46 HR655_3.out x32_3 p656 q656
    cases e656
    replace hx656_0 := (HB.out.cell (World.block_lt_of_cell? w _ hx656_0)).trans hx656_0
    replace hx656_1 := (HB.out.cell (World.block_lt_of_cell? w _ hx656_1)).trans hx656_1
    replace p656 := eq_true p656
    replace q656 := eq_true q656
    go_wp2_with (first | ((with_reducible refine gate_dst (N := 10) rfl ?_); refine box_event ?hg (N := 10) ?hd (cs := #[.string (⟨#[]⟩ : ByteArray), .string (⟨#[]⟩ : ByteArray)]) (t := 46) ?hr ?_; (case hd => rfl); (case hg => rfl); (case hr => exact dq0); intro gb657 hg w19 hbox hb; have n0_ := Aside0.mk (below_step dq27 hb); have n1_ := Aside0.mk (hbox); have n2_ := Aside0.mk ((dq33 : w.heap.size ≤ gb657)); have n3_ := Aside0.mk ((dq33 : w.heap.size ≤ gb657)); clear HB; have HB := n0_; have BK657 := n1_; have GW657 := n2_; have GE657 := n3_; clear n0_ n1_ n2_ n3_; clear hb hbox hg; obtain ⟨⟨hcz20_0, hcz20_1⟩, hfz20_0, hfz20_1⟩ := blkC2 BK657.out))
    repeat (go_quiet (fail); try go_wp2_with (fail))
    go_ret2
    exact ⟨by first | rfl | (simp [bne_nilE62]; done) | (rw [bne_nilE62]; simp; done) | (simp [errW_none, errW_some] <;> rfl) | (simp [*, errW_none, errW_some] <;> rfl), dq118⟩

/-! ### impl_BoundAt: function 27 -/
def impl_BoundAt.f (k : Nat) (l0 : List (S39)) (a1 : Int) (a2 : ByteArray) : Option (ByteArray × Bool) := (impl_has.f k l0 a1).bind fun t659 => (if t659 = true then ((impl_bound.f k l0 a1 a2).bind fun bt660 => (some (bt660.1, bt660.2))) else (some ((⟨#[]⟩ : ByteArray), false)))
set_option maxHeartbeats 8000000 in
set_option maxRecDepth 100000 in
theorem impl_BoundAt.calls (k : Nat) (A0 : Option Addr) (c0 : Nat) (l0 : List (S39)) (a1 : Int) (a2 : ByteArray) (r1 : ByteArray) (r2 : Bool) (w : World) (hT : Gl w) (hr0 : Kd.C k39 w A0 l0.length l0) (hc0 : l0.length ≤ c0) (h : impl_BoundAt.f k l0 a1 a2 = some (r1, r2)) :
  Calls Tryd.prog 27 #[.slice A0 l0.length c0, .int .i64 a1, .string a2] w fun e w' => e = .returned (.tuple #[.string r1, .bool r2]) ∧ Below w.heap.size w w' := by
 have HR0 := Aside0.mk hr0
 have HC0 := Aside0.mk hc0
 clear hr0 hc0
 have HT := Aside0.mk hT
 clear hT
 have HB := Aside0.mk (Below.refl w.heap.size w)
 have H : ((impl_has.f k l0 a1).bind fun t659 => (if t659 = true then ((impl_bound.f k l0 a1 a2).bind fun bt660 => (some (bt660.1, bt660.2))) else (some ((⟨#[]⟩ : ByteArray), false)))) = some (r1, r2) := h
 clear h
 replace H := Option.bind_eq_some_iff.mp H
 obtain ⟨t659, A40, H⟩ := H
 replace H : (if t659 = true then ((impl_bound.f k l0 a1 a2).bind fun bt660 => (some (bt660.1, bt660.2))) else (some ((⟨#[]⟩ : ByteArray), false))) = some (r1, r2) := H
 have A4 := Aside0.mk A40
 clear A40
 by_cases c5 : t659 = true
 rotate_left
 ·replace c5 := Bool.eq_false_iff.mpr c5
  subst c5
  have H1 : (some ((⟨#[]⟩ : ByteArray), false)) = some (r1, r2) := by rw [if_neg (show ¬ (false = true) by decide)] at H; exact H
  clear H
  have H := H1
  clear H1
  simp only [Option.some.injEq, Prod.mk.injEq] at H
  obtain ⟨rfl, rfl⟩ := H
  go_enter Tryd.func27, Tryd.ntmps27
  go_wp2_with (first | ((with_reducible refine gate_callee (f := 64) rfl ?_); refine goesL_ (some 10) rfl rfl Tryd.func64 dq24 rfl #[.slice A0 l0.length c0, .int .i64 a1] rfl dq23 ?_; (with_reducible refine (impl_has.calls k _ _ l0 a1 false _ ?side3 ?side1 ?side2 A4.out).mono ?_); (case side1 => exact dq16); (case side2 => exact HC0.out); (case side3 => exact dq12); rintro e w9 ⟨rfl, hb⟩; refine ⟨_, rfl, ?_⟩; have n0_ := Aside0.mk (below_step dq27 hb); clear HB; have HB := n0_; clear n0_; (try clear hb); (try clear hb2); (try clear hk); (try clear hi)))
  go_ret2
  exact ⟨dq29, dq27⟩
 subst c5
 have H1 : ((impl_bound.f k l0 a1 a2).bind fun bt660 => (some (bt660.1, bt660.2))) = some (r1, r2) := by rw [if_pos rfl] at H; exact H
 clear H
 have H := H1
 clear H1
 replace H := Option.bind_eq_some_iff.mp H
 obtain ⟨⟨t660, t661⟩, A60, H⟩ := H
 replace H : (some (t660, t661)) = some (r1, r2) := H
 have A6 := Aside0.mk A60
 clear A60
 simp only [Option.some.injEq, Prod.mk.injEq] at H
 obtain ⟨rfl, rfl⟩ := H
 go_enter Tryd.func27, Tryd.ntmps27
 go_wp2_with (first | ((with_reducible refine gate_callee (f := 64) rfl ?_); refine goesL_ (some 10) rfl rfl Tryd.func64 dq24 rfl #[.slice A0 l0.length c0, .int .i64 a1] rfl dq23 ?_; (with_reducible refine (impl_has.calls k _ _ l0 a1 true _ ?side3 ?side1 ?side2 A4.out).mono ?_); (case side1 => exact dq16); (case side2 => exact HC0.out); (case side3 => exact dq12); rintro e w7 ⟨rfl, hb⟩; refine ⟨_, rfl, ?_⟩; have n0_ := Aside0.mk (below_step dq27 hb); clear HB; have HB := n0_; clear n0_; (try clear hb); (try clear hb2); (try clear hk); (try clear hi)) | ((with_reducible refine gate_callee (f := 65) rfl ?_); refine goesL_ (some 15) rfl rfl Tryd.func65 dq24 rfl #[.slice A0 l0.length c0, .int .i64 a1, .string a2] rfl dq23 ?_; (with_reducible refine (impl_bound.calls k _ _ l0 a1 a2 t660 t661 _ ?side1 ?side2 A6.out).mono ?_); (case side1 => exact dq1); (case side2 => exact HC0.out); rintro e w8 ⟨rfl, hb⟩; refine ⟨_, rfl, ?_⟩; have n0_ := Aside0.mk (below_step dq27 hb); clear HB; have HB := n0_; clear n0_; (try clear hb); (try clear hb2); (try clear hk); (try clear hi)))
 go_ret2
 exact ⟨dq29, dq27⟩

theorem bne_nilE64 (l : List UInt8) : (l != ([] : List UInt8)) = !l.isEmpty := by cases l <;> rfl
/-! ### spec_l3Bound: function 66 -/
mutual
def spec_l3Bound.j0 : Nat → List (S39) → Int → ByteArray → ByteArray → Option (ByteArray × Bool)
 | 0, _, _, _, _ => none
 | k + 1, x0, x1, x2, x8 => spec_l3Bound.l0 k x0 x2 x8 x1
def spec_l3Bound.l0 : Nat → List (S39) → ByteArray → ByteArray → Int → Option (ByteArray × Bool)
 | 0, _, _, _, _ => none
 | k + 1, x0, x2, x8, x9 => if x9 ≥ 0 then (spec_l3Bound.l1 k x0 x2 x8 x9 0) else (some ((⟨#[]⟩ : ByteArray), (x2.toList == ([] : List UInt8))))
def spec_l3Bound.l1 : Nat → List (S39) → ByteArray → ByteArray → Int → Int → Option (ByteArray × Bool)
 | 0, _, _, _, _, _ => none
 | k + 1, x0, x2, x8, x9, x10 => if 0 ≤ x9 then (if x9 < (x0.length : Int) then (if x10 < (((rd_T39 x0 x9).f3).length : Int) then (if 0 ≤ x10 then (if ((rd_T46 ((rd_T39 x0 x9).f3) x10).f0).toList = x8.toList then (if ((rd_T46 ((rd_T39 x0 x9).f3) x10).f1).toList = ([] : List UInt8) then (some ((rd_T46 ((rd_T39 x0 x9).f3) x10).f1, (x2.toList == ([] : List UInt8)))) else (some ((rd_T46 ((rd_T39 x0 x9).f3) x10).f1, true))) else (spec_l3Bound.l1 k x0 x2 x8 x9 (wrap64 (x10 + 1)))) else (none)) else (spec_l3Bound.l0 k x0 x2 x8 ((rd_T39 x0 x9).f0))) else (none)) else (none)
end
def spec_l3Bound.f (k : Nat) (l0 : List (S39)) (a1 : Int) (a2 : ByteArray) : Option (ByteArray × Bool) := if a2.toList = ([120, 109, 108] : List UInt8) then (some ((⟨#[104, 116, 116, 112, 58, 47, 47, 119, 119, 119, 46, 119, 51, 46, 111, 114, 103, 47, 88, 77, 76, 47, 49, 57, 57, 56, 47, 110, 97, 109, 101, 115, 112, 97, 99, 101]⟩ : ByteArray), true)) else (if a2.toList = ([] : List UInt8) then (spec_l3Bound.j0 k l0 a1 a2 (⟨#[120, 109, 108, 110, 115]⟩ : ByteArray)) else (if 6 + a2.size ≤ 9223372036854775807 then (spec_l3Bound.j0 k l0 a1 a2 ((⟨#[120, 109, 108, 110, 115, 58]⟩ : ByteArray) ++ a2)) else (none)))
set_option maxHeartbeats 8000000 in
set_option maxRecDepth 100000 in
theorem spec_l3Bound.calls (k : Nat) (A0 : Option Addr) (c0 : Nat) (l0 : List (S39)) (a1 : Int) (a2 : ByteArray) (r1 : ByteArray) (r2 : Bool) (w : World) (hr0 : Kd.C k39 w A0 l0.length l0) (hc0 : l0.length ≤ c0) (h : spec_l3Bound.f k l0 a1 a2 = some (r1, r2)) :
  Calls Tryd.prog 66 #[.slice A0 l0.length c0, .int .i64 a1, .string a2] w fun e w' => e = .returned (.tuple #[.string r1, .bool r2]) ∧ Drawn0 w w' := by
 have HR0 := Aside0.mk hr0
 have HC0 := Aside0.mk hc0
 clear hr0 hc0
 have H : (if a2.toList = ([120, 109, 108] : List UInt8) then (some ((⟨#[104, 116, 116, 112, 58, 47, 47, 119, 119, 119, 46, 119, 51, 46, 111, 114, 103, 47, 88, 77, 76, 47, 49, 57, 57, 56, 47, 110, 97, 109, 101, 115, 112, 97, 99, 101]⟩ : ByteArray), true)) else (if a2.toList = ([] : List UInt8) then (spec_l3Bound.j0 k l0 a1 a2 (⟨#[120, 109, 108, 110, 115]⟩ : ByteArray)) else (if 6 + a2.size ≤ 9223372036854775807 then (spec_l3Bound.j0 k l0 a1 a2 ((⟨#[120, 109, 108, 110, 115, 58]⟩ : ByteArray) ++ a2)) else (none)))) = some (r1, r2) := h
 clear h
 by_cases c4 : a2.toList = ([120, 109, 108] : List UInt8)
 ·rw [if_pos c4] at H
  have c4b0 := beq_iff_eq.mpr c4
  have c4b1 := bne_eq_false_iff_eq.mpr c4
  clear c4
  simp only [Option.some.injEq, Prod.mk.injEq] at H
  obtain ⟨rfl, rfl⟩ := H
  go_enter Tryd.func66, Tryd.ntmps66
  go_wp2
  go_ret2
  exact ⟨dq19, dq18⟩
 rw [if_neg c4] at H
 have c4b0 := beq_eq_false_iff_ne.mpr c4
 have c4b1 := bne_iff_ne.mpr c4
 have HC5 := Aside0.mk H
 clear H
 go_enter Tryd.func66, Tryd.ntmps66
 go_upto_if 15 with (fail)
 go_cut [8] (fun v8 wc => ∃ (kq : Nat) (x8_4 : ByteArray), v8 = .string x8_4 ∧ Aside0 (spec_l3Bound.j0 kq l0 a1 a2 x8_4 = some (r1, r2)) ∧ Aside0 (kq ≤ k) ∧ Drawn0 w wc)
 case first =>
  have H := HC5.out
  clear HC5
  by_cases c6 : a2.toList = ([] : List UInt8)
  ·rw [if_pos c6] at H
   have c6b0 := beq_iff_eq.mpr c6
   have c6b1 := bne_eq_false_iff_eq.mpr c6
   have c6b3 : (!a2.toList.isEmpty) = false := (bne_nilE64 a2.toList).symm.trans c6b1
   clear c6
   (first | rw [c6b0] | rw [c6b3] | (simp only [i64_w, i32_w]; rw [c6b0]) | skip)
   have H' := Aside0.mk H
   clear H
   go_wp2
   go_meet
   case rel => exact ⟨_, ((⟨#[120, 109, 108, 110, 115]⟩ : ByteArray)), dq19, H', ⟨dq26⟩, dq18⟩
  rw [if_neg c6] at H
  have c6b0 := beq_eq_false_iff_ne.mpr c6
  have c6b1 := bne_iff_ne.mpr c6
  have c6b3 : (!a2.toList.isEmpty) = true := (bne_nilE64 a2.toList).symm.trans c6b1
  (first | rw [c6b0] | rw [c6b3] | (simp only [i64_w, i32_w]; rw [c6b0]) | skip)
  by_cases c7 : 6 + a2.size ≤ 9223372036854775807
  rotate_left
  ·rw [if_neg c7] at H
   exact absurd H dq22
  rw [if_pos c7] at H
  have c7b0 := eq_true c7
  have c7b1 := decide_eq_true c7
  try have c7b2 : (9223372036854775807 < 6 + a2.size) = False := eq_false (Nat.not_lt.2 c7)
  have H' := Aside0.mk H
  clear H
  go_wp2
  go_meet
  case rel => exact ⟨_, ((⟨#[120, 109, 108, 110, 115, 58]⟩ : ByteArray) ++ a2), dq19, H', ⟨dq26⟩, dq18⟩
 clear HC5
 try clear c4
 try clear c4b0
 try clear c4b1
 obtain ⟨kq, x8_4, rfl, HA, HJ4, ⟨mc4, rfl⟩⟩ := hcut
 cases kq with
 | zero => exact absurd HA.out (by simp [spec_l3Bound.j0])
 | succ kj4 =>
  have H := HA.out
  clear HA
  simp only [spec_l3Bound.j0] at H
  have H' := Aside0.mk H
  clear H
  go_wp2
  go_loopg [9] kj4 (fun kq v9 w' => ∃ (x9_2 : Int), v9 = .int .i64 x9_2 ∧ Aside0 (spec_l3Bound.l0 kq l0 a2 x8_4 x9_2 = some (r1, r2)) ∧ Aside0 (kq ≤ kj4) ∧ Drawn0 w w')
  case atStart => exact ⟨(a1), dq19, H', ⟨Nat.le_refl _⟩, dq18⟩
  clear H'
  obtain ⟨x9_2, rfl, HA, HK2, ⟨m2, rfl⟩⟩ := hrel
  cases gk with
  | zero => exact absurd HA.out (by simp [spec_l3Bound.l0])
  | succ k2 =>
   have H := HA.out
   clear HA
   simp only [spec_l3Bound.l0] at H
   by_cases c8 : x9_2 ≥ 0
   rotate_left
   ·rw [if_neg c8] at H
    have c8b0 : decide (0 ≤ x9_2) = false := decide_eq_false c8
    clear c8
    simp only [Option.some.injEq, Prod.mk.injEq] at H
    obtain ⟨rfl, rfl⟩ := H
    go_wp2
    go_ret2
    exact ⟨dq19, dq18⟩
   rw [if_pos c8] at H
   have c8b0 : decide (0 ≤ x9_2) = true := decide_eq_true c8
   clear c8
   have H' := Aside0.mk H
   clear H
   go_wp2
   go_loopg [10] k2 (fun kq v10 w' => ∃ (x10_3 : Int), v10 = .int .i64 x10_3 ∧ Aside0 (spec_l3Bound.l1 kq l0 a2 x8_4 x9_2 x10_3 = some (r1, r2)) ∧ Aside0 (kq ≤ k2) ∧ Drawn0 w w')
   case atStart => exact ⟨(0), dq19, H', ⟨Nat.le_refl _⟩, dq18⟩
   clear H'
   try clear c8b0
   obtain ⟨x10_3, rfl, HA, HK3, ⟨m3, rfl⟩⟩ := hrel
   cases gk with
   | zero => exact absurd HA.out (by simp [spec_l3Bound.l1])
   | succ k3 =>
    have H := HA.out
    clear HA
    simp only [spec_l3Bound.l1] at H
    by_cases c9 : 0 ≤ x9_2
    rotate_left
    ·rw [if_neg c9] at H
     exact absurd H dq22
    rw [if_pos c9] at H
    have c9b0 := decide_eq_true c9
    clear c9
    by_cases c10 : x9_2 < (l0.length : Int)
    rotate_left
    ·rw [if_neg c10] at H
     exact absurd H dq22
    rw [if_pos c10] at H
    have c10b0 := decide_eq_true c10
    clear c10
    by_cases c11 : x10_3 < (((rd_T39 l0 x9_2).f3).length : Int)
    rotate_left
    ·rw [if_neg c11] at H
     have c11b0 := decide_eq_false c11
     clear c11
     have H' := Aside0.mk H
     clear H
     have p662 : 0 ≤ (x9_2 : Int) := of_decide_eq_true dq20
     have q662 : x9_2 < (l0.length : Int) := of_decide_eq_true dq20
     obtain ⟨ad662, A662_3, c662_3, e662, hx662_0, hx662_1, hx662_2, hx662_3, hl662_3, hi662_3⟩ := at_T39 HR0.out x9_2 p662 q662
     cases e662
     have HR662_3 := Aside0.mk hi662_3
     have HC662_3 := Aside0.mk hl662_3
     clear hi662_3 hl662_3
     replace p662 := eq_true p662
     replace q662 := eq_true q662
     have p667 : 0 ≤ (x9_2 : Int) := of_decide_eq_true dq20
     have q667 : x9_2 < (l0.length : Int) := of_decide_eq_true dq20
     obtain ⟨ad667, A667_3, c667_3, e667, hx667_0, hx667_1, hx667_2, hx667_3, hl667_3, hi667_3⟩ := at_T39 HR0.out x9_2 p667 q667
     obtain rfl : ad662 = ad667 := (by injection e667)
     have HR667_3 := Aside0.mk hi667_3
     have HC667_3 := Aside0.mk hl667_3
     clear hi667_3 hl667_3
     replace p667 := eq_true p667
     replace q667 := eq_true q667
     have ea_ := Option.some.inj (hx662_3.symm.trans hx667_3)
     injection ea_ with ea_ en_ ec_
     subst ea_
     subst ec_
     clear en_
     go_wp2
     go_roundg k3
     case measure => have := HJ4.out; have := HK2.out; have := HK3.out; omega
     case rel => exact ⟨((rd_T39 l0 x9_2).f0), dq19, H', ⟨dq119⟩, dq18⟩
    rw [if_pos c11] at H
    have c11b0 := decide_eq_true c11
    clear c11
    by_cases c12 : 0 ≤ x10_3
    rotate_left
    ·rw [if_neg c12] at H
     exact absurd H dq22
    rw [if_pos c12] at H
    have c12b0 := decide_eq_true c12
    clear c12
    by_cases c13 : ((rd_T46 ((rd_T39 l0 x9_2).f3) x10_3).f0).toList = x8_4.toList
    rotate_left
    ·rw [if_neg c13] at H
     have c13b0 := beq_eq_false_iff_ne.mpr c13
     have c13b1 := bne_iff_ne.mpr c13
     have H' := Aside0.mk H
     clear H
     have p662 : 0 ≤ (x9_2 : Int) := of_decide_eq_true dq20
     have q662 : x9_2 < (l0.length : Int) := of_decide_eq_true dq20
     obtain ⟨ad662, A662_3, c662_3, e662, hx662_0, hx662_1, hx662_2, hx662_3, hl662_3, hi662_3⟩ := at_T39 HR0.out x9_2 p662 q662
     cases e662
     have HR662_3 := Aside0.mk hi662_3
     have HC662_3 := Aside0.mk hl662_3
     clear hi662_3 hl662_3
     replace p662 := eq_true p662
     replace q662 := eq_true q662
     have p663 : 0 ≤ (x9_2 : Int) := of_decide_eq_true dq20
     have q663 : x9_2 < (l0.length : Int) := of_decide_eq_true dq20
     obtain ⟨ad663, A663_3, c663_3, e663, hx663_0, hx663_1, hx663_2, hx663_3, hl663_3, hi663_3⟩ := at_T39 HR0.out x9_2 p663 q663
     obtain rfl : ad662 = ad663 := (by injection e663)
     have HR663_3 := Aside0.mk hi663_3
     have HC663_3 := Aside0.mk hl663_3
     clear hi663_3 hl663_3
     replace p663 := eq_true p663
     replace q663 := eq_true q663
     have ea_ := Option.some.inj (hx662_3.symm.trans hx663_3)
     injection ea_ with ea_ en_ ec_
     subst ea_
     subst ec_
     clear en_
     have p664 : 0 ≤ (x10_3 : Int) := of_decide_eq_true dq20
     have q664 : x10_3 < (((rd_T39 l0 x9_2).f3).length : Int) := of_decide_eq_true dq20
     obtain ⟨ad664, e664, hx664_0, hx664_1⟩ := at_T46 HR663_3.out x10_3 p664 q664
     cases e664
     replace p664 := eq_true p664
     replace q664 := eq_true q664
     go_wp2
     go_roundg k3
     case measure => have := HJ4.out; have := HK2.out; have := HK3.out; omega
     case rel => exact ⟨(wrap64 (x10_3 + 1)), dq19, H', ⟨dq119⟩, dq18⟩
    rw [if_pos c13] at H
    have c13b0 := beq_iff_eq.mpr c13
    have c13b1 := bne_eq_false_iff_eq.mpr c13
    clear c13
    by_cases c14 : ((rd_T46 ((rd_T39 l0 x9_2).f3) x10_3).f1).toList = ([] : List UInt8)
    rotate_left
    ·rw [if_neg c14] at H
     have c14b0 := beq_eq_false_iff_ne.mpr c14
     have c14b1 := bne_iff_ne.mpr c14
     simp only [Option.some.injEq, Prod.mk.injEq] at H
     obtain ⟨rfl, rfl⟩ := H
     have p662 : 0 ≤ (x9_2 : Int) := of_decide_eq_true dq20
     have q662 : x9_2 < (l0.length : Int) := of_decide_eq_true dq20
     obtain ⟨ad662, A662_3, c662_3, e662, hx662_0, hx662_1, hx662_2, hx662_3, hl662_3, hi662_3⟩ := at_T39 HR0.out x9_2 p662 q662
     cases e662
     have HR662_3 := Aside0.mk hi662_3
     have HC662_3 := Aside0.mk hl662_3
     clear hi662_3 hl662_3
     replace p662 := eq_true p662
     replace q662 := eq_true q662
     have p663 : 0 ≤ (x9_2 : Int) := of_decide_eq_true dq20
     have q663 : x9_2 < (l0.length : Int) := of_decide_eq_true dq20
     obtain ⟨ad663, A663_3, c663_3, e663, hx663_0, hx663_1, hx663_2, hx663_3, hl663_3, hi663_3⟩ := at_T39 HR0.out x9_2 p663 q663
     obtain rfl : ad662 = ad663 := (by injection e663)
     have HR663_3 := Aside0.mk hi663_3
     have HC663_3 := Aside0.mk hl663_3
     clear hi663_3 hl663_3
     replace p663 := eq_true p663
     replace q663 := eq_true q663
     have ea_ := Option.some.inj (hx662_3.symm.trans hx663_3)
     injection ea_ with ea_ en_ ec_
     subst ea_
     subst ec_
     clear en_
     have p664 : 0 ≤ (x10_3 : Int) := of_decide_eq_true dq20
     have q664 : x10_3 < (((rd_T39 l0 x9_2).f3).length : Int) := of_decide_eq_true dq20
     obtain ⟨ad664, e664, hx664_0, hx664_1⟩ := at_T46 HR663_3.out x10_3 p664 q664
     cases e664
     replace p664 := eq_true p664
     replace q664 := eq_true q664
     have p665 : 0 ≤ (x9_2 : Int) := of_decide_eq_true dq20
     have q665 : x9_2 < (l0.length : Int) := of_decide_eq_true dq20
     obtain ⟨ad665, A665_3, c665_3, e665, hx665_0, hx665_1, hx665_2, hx665_3, hl665_3, hi665_3⟩ := at_T39 HR0.out x9_2 p665 q665
     obtain rfl : ad662 = ad665 := (by injection e665)
     have HR665_3 := Aside0.mk hi665_3
     have HC665_3 := Aside0.mk hl665_3
     clear hi665_3 hl665_3
     replace p665 := eq_true p665
     replace q665 := eq_true q665
     have ea_ := Option.some.inj (hx662_3.symm.trans hx665_3)
     injection ea_ with ea_ en_ ec_
     subst ea_
     subst ec_
     clear en_
     have p666 : 0 ≤ (x10_3 : Int) := of_decide_eq_true dq20
     have q666 : x10_3 < (((rd_T39 l0 x9_2).f3).length : Int) := of_decide_eq_true dq20
     obtain ⟨ad666, e666, hx666_0, hx666_1⟩ := at_T46 HR665_3.out x10_3 p666 q666
     cases e666
     replace p666 := eq_true p666
     replace q666 := eq_true q666
     go_wp2
     go_ret2
     exact ⟨dq19, dq18⟩
    rw [if_pos c14] at H
    have c14b0 := beq_iff_eq.mpr c14
    have c14b1 := bne_eq_false_iff_eq.mpr c14
    clear c14
    simp only [Option.some.injEq, Prod.mk.injEq] at H
    obtain ⟨rfl, rfl⟩ := H
    have p662 : 0 ≤ (x9_2 : Int) := of_decide_eq_true dq20
    have q662 : x9_2 < (l0.length : Int) := of_decide_eq_true dq20
    obtain ⟨ad662, A662_3, c662_3, e662, hx662_0, hx662_1, hx662_2, hx662_3, hl662_3, hi662_3⟩ := at_T39 HR0.out x9_2 p662 q662
    cases e662
    have HR662_3 := Aside0.mk hi662_3
    have HC662_3 := Aside0.mk hl662_3
    clear hi662_3 hl662_3
    replace p662 := eq_true p662
    replace q662 := eq_true q662
    have p663 : 0 ≤ (x9_2 : Int) := of_decide_eq_true dq20
    have q663 : x9_2 < (l0.length : Int) := of_decide_eq_true dq20
    obtain ⟨ad663, A663_3, c663_3, e663, hx663_0, hx663_1, hx663_2, hx663_3, hl663_3, hi663_3⟩ := at_T39 HR0.out x9_2 p663 q663
    obtain rfl : ad662 = ad663 := (by injection e663)
    have HR663_3 := Aside0.mk hi663_3
    have HC663_3 := Aside0.mk hl663_3
    clear hi663_3 hl663_3
    replace p663 := eq_true p663
    replace q663 := eq_true q663
    have ea_ := Option.some.inj (hx662_3.symm.trans hx663_3)
    injection ea_ with ea_ en_ ec_
    subst ea_
    subst ec_
    clear en_
    have p664 : 0 ≤ (x10_3 : Int) := of_decide_eq_true dq20
    have q664 : x10_3 < (((rd_T39 l0 x9_2).f3).length : Int) := of_decide_eq_true dq20
    obtain ⟨ad664, e664, hx664_0, hx664_1⟩ := at_T46 HR663_3.out x10_3 p664 q664
    cases e664
    replace p664 := eq_true p664
    replace q664 := eq_true q664
    have p665 : 0 ≤ (x9_2 : Int) := of_decide_eq_true dq20
    have q665 : x9_2 < (l0.length : Int) := of_decide_eq_true dq20
    obtain ⟨ad665, A665_3, c665_3, e665, hx665_0, hx665_1, hx665_2, hx665_3, hl665_3, hi665_3⟩ := at_T39 HR0.out x9_2 p665 q665
    obtain rfl : ad662 = ad665 := (by injection e665)
    have HR665_3 := Aside0.mk hi665_3
    have HC665_3 := Aside0.mk hl665_3
    clear hi665_3 hl665_3
    replace p665 := eq_true p665
    replace q665 := eq_true q665
    have ea_ := Option.some.inj (hx662_3.symm.trans hx665_3)
    injection ea_ with ea_ en_ ec_
    subst ea_
    subst ec_
    clear en_
    have p666 : 0 ≤ (x10_3 : Int) := of_decide_eq_true dq20
    have q666 : x10_3 < (((rd_T39 l0 x9_2).f3).length : Int) := of_decide_eq_true dq20
    obtain ⟨ad666, e666, hx666_0, hx666_1⟩ := at_T46 HR665_3.out x10_3 p666 q666
    cases e666
    replace p666 := eq_true p666
    replace q666 := eq_true q666
    go_wp2
    go_ret2
    exact ⟨dq19, dq18⟩

/-! ### spec_BoundAt: function 28 -/
def spec_BoundAt.f (k : Nat) (l0 : List (S39)) (a1 : Int) (a2 : ByteArray) : Option (ByteArray × Bool) := (spec_DocOk.f k l0).bind fun t668 => (if t668 = true then ((spec_l1In.f a1 0 (wrap64 ((l0.length : Int) - 1))).bind fun t669 => (if t669 = true then ((spec_l3Bound.f k l0 a1 a2).bind fun bt670 => (some (bt670.1, bt670.2))) else (some ((⟨#[]⟩ : ByteArray), false)))) else (some ((⟨#[]⟩ : ByteArray), false)))
set_option maxHeartbeats 8000000 in
set_option maxRecDepth 100000 in
theorem spec_BoundAt.calls (k : Nat) (A0 : Option Addr) (c0 : Nat) (l0 : List (S39)) (a1 : Int) (a2 : ByteArray) (r1 : ByteArray) (r2 : Bool) (w : World) (hr0 : Kd.C k39 w A0 l0.length l0) (hc0 : l0.length ≤ c0) (h : spec_BoundAt.f k l0 a1 a2 = some (r1, r2)) :
  Calls Tryd.prog 28 #[.slice A0 l0.length c0, .int .i64 a1, .string a2] w fun e w' => e = .returned (.tuple #[.string r1, .bool r2]) ∧ Below w.heap.size w w' := by
 have HR0 := Aside0.mk hr0
 have HC0 := Aside0.mk hc0
 clear hr0 hc0
 have HB := Aside0.mk (Below.refl w.heap.size w)
 have H : ((spec_DocOk.f k l0).bind fun t668 => (if t668 = true then ((spec_l1In.f a1 0 (wrap64 ((l0.length : Int) - 1))).bind fun t669 => (if t669 = true then ((spec_l3Bound.f k l0 a1 a2).bind fun bt670 => (some (bt670.1, bt670.2))) else (some ((⟨#[]⟩ : ByteArray), false)))) else (some ((⟨#[]⟩ : ByteArray), false)))) = some (r1, r2) := h
 clear h
 replace H := Option.bind_eq_some_iff.mp H
 obtain ⟨t668, A40, H⟩ := H
 replace H : (if t668 = true then ((spec_l1In.f a1 0 (wrap64 ((l0.length : Int) - 1))).bind fun t669 => (if t669 = true then ((spec_l3Bound.f k l0 a1 a2).bind fun bt670 => (some (bt670.1, bt670.2))) else (some ((⟨#[]⟩ : ByteArray), false)))) else (some ((⟨#[]⟩ : ByteArray), false))) = some (r1, r2) := H
 have A4 := Aside0.mk A40
 clear A40
 by_cases c5 : t668 = true
 rotate_left
 ·replace c5 := Bool.eq_false_iff.mpr c5
  subst c5
  have H1 : (some ((⟨#[]⟩ : ByteArray), false)) = some (r1, r2) := by rw [if_neg (show ¬ (false = true) by decide)] at H; exact H
  clear H
  have H := H1
  clear H1
  simp only [Option.some.injEq, Prod.mk.injEq] at H
  obtain ⟨rfl, rfl⟩ := H
  go_enter Tryd.func28, Tryd.ntmps28
  go_wp2_with (first | ((with_reducible refine gate_callee (f := 23) rfl ?_); refine goesL_ (some 9) rfl rfl Tryd.func23 dq24 rfl #[.slice A0 l0.length c0] rfl dq23 ?_; (with_reducible refine (spec_DocOk.calls k _ _ l0 false _ ?side1 ?side2 A4.out).mono ?_); (case side1 => exact dq16); (case side2 => exact HC0.out); rintro e w11 ⟨rfl, hb⟩; refine ⟨_, rfl, ?_⟩; have n0_ := Aside0.mk (below_step dq27 hb); clear HB; have HB := n0_; clear n0_; (try clear hb); (try clear hb2); (try clear hk); (try clear hi)))
  go_ret2
  exact ⟨dq29, dq27⟩
 subst c5
 have H1 : ((spec_l1In.f a1 0 (wrap64 ((l0.length : Int) - 1))).bind fun t669 => (if t669 = true then ((spec_l3Bound.f k l0 a1 a2).bind fun bt670 => (some (bt670.1, bt670.2))) else (some ((⟨#[]⟩ : ByteArray), false)))) = some (r1, r2) := by rw [if_pos rfl] at H; exact H
 clear H
 have H := H1
 clear H1
 replace H := Option.bind_eq_some_iff.mp H
 obtain ⟨t669, A60, H⟩ := H
 replace H : (if t669 = true then ((spec_l3Bound.f k l0 a1 a2).bind fun bt670 => (some (bt670.1, bt670.2))) else (some ((⟨#[]⟩ : ByteArray), false))) = some (r1, r2) := H
 have A6 := Aside0.mk A60
 clear A60
 by_cases c7 : t669 = true
 rotate_left
 ·replace c7 := Bool.eq_false_iff.mpr c7
  subst c7
  have H1 : (some ((⟨#[]⟩ : ByteArray), false)) = some (r1, r2) := by rw [if_neg (show ¬ (false = true) by decide)] at H; exact H
  clear H
  have H := H1
  clear H1
  simp only [Option.some.injEq, Prod.mk.injEq] at H
  obtain ⟨rfl, rfl⟩ := H
  go_enter Tryd.func28, Tryd.ntmps28
  go_wp2_with (first | ((with_reducible refine gate_callee (f := 23) rfl ?_); refine goesL_ (some 9) rfl rfl Tryd.func23 dq24 rfl #[.slice A0 l0.length c0] rfl dq23 ?_; (with_reducible refine (spec_DocOk.calls k _ _ l0 true _ ?side1 ?side2 A4.out).mono ?_); (case side1 => exact dq16); (case side2 => exact HC0.out); rintro e w10 ⟨rfl, hb⟩; refine ⟨_, rfl, ?_⟩; have n0_ := Aside0.mk (below_step dq27 hb); clear HB; have HB := n0_; clear n0_; (try clear hb); (try clear hb2); (try clear hk); (try clear hi)) | (go_at_call 41; (with_reducible refine (spec_l1In.calls a1 0 (wrap64 ((l0.length : Int) - 1)) false _ A6.out).mono ?_); rintro e w' ⟨rfl, ⟨nd, rfl⟩⟩))
  go_ret2
  exact ⟨dq29, dq27⟩
 subst c7
 have H1 : ((spec_l3Bound.f k l0 a1 a2).bind fun bt670 => (some (bt670.1, bt670.2))) = some (r1, r2) := by rw [if_pos rfl] at H; exact H
 clear H
 have H := H1
 clear H1
 replace H := Option.bind_eq_some_iff.mp H
 obtain ⟨⟨t670, t671⟩, A80, H⟩ := H
 replace H : (some (t670, t671)) = some (r1, r2) := H
 have A8 := Aside0.mk A80
 clear A80
 simp only [Option.some.injEq, Prod.mk.injEq] at H
 obtain ⟨rfl, rfl⟩ := H
 go_enter Tryd.func28, Tryd.ntmps28
 go_wp2_with (first | ((with_reducible refine gate_callee (f := 23) rfl ?_); refine goesL_ (some 9) rfl rfl Tryd.func23 dq24 rfl #[.slice A0 l0.length c0] rfl dq23 ?_; (with_reducible refine (spec_DocOk.calls k _ _ l0 true _ ?side1 ?side2 A4.out).mono ?_); (case side1 => exact dq16); (case side2 => exact HC0.out); rintro e w9 ⟨rfl, hb⟩; refine ⟨_, rfl, ?_⟩; have n0_ := Aside0.mk (below_step dq27 hb); clear HB; have HB := n0_; clear n0_; (try clear hb); (try clear hb2); (try clear hk); (try clear hi)) | (go_at_call 41; (with_reducible refine (spec_l1In.calls a1 0 (wrap64 ((l0.length : Int) - 1)) true _ A6.out).mono ?_); rintro e w' ⟨rfl, ⟨nd, rfl⟩⟩) | ((with_reducible refine gate_callee (f := 66) rfl ?_); refine goesL_ (some 22) rfl rfl Tryd.func66 dq24 rfl #[.slice A0 l0.length c0, .int .i64 a1, .string a2] rfl dq23 ?_; (with_reducible refine (spec_l3Bound.calls k _ _ l0 a1 a2 t670 t671 _ ?side1 ?side2 A8.out).mono ?_); (case side1 => repeat (first | exact (Kd.C_below HR0.out dq27) | (with_reducible refine Kd.C_alloc ?_ _) | (with_reducible refine Kd.C_drewN ?_ _) | (with_reducible refine Kd.C_drew ?_))); (case side2 => exact HC0.out); rintro e w' ⟨rfl, ⟨nd, rfl⟩⟩; refine ⟨_, rfl, ?_⟩))
 go_ret2
 exact ⟨dq29, dq27⟩

end Go.Proofs.YtpmjpbaeecnpiaaDoor.L
