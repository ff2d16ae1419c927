/- Words and contracts for the row RowFnFields: what the Go functions answer that it calls; printed by programs of the kit and of this session, and merged. -/
import Derived.Test.YtpmjpbaeecnpiaaGreatDoorQg3
import Derived.Lib.Hide
import Derived.Outline
namespace Go.Proofs.YtpmjpbaeecnpiaaGreatDoor.L
open Go.RowKit Go.Proofs.YtpmjpbaeecnpiaaGreatDoorW.PrintWords Go.Proofs.YtpmjpbaeecnpiaaGreatDoorW.PrintLast Go.Proofs.YtpmjpbaeecnpiaaGreatDoorW.PrintMore
attribute [local go_sem] max2_int min2_int max_two min_two max_three min_three max_four min_four
set_option linter.unusedVariables false
set_option linter.unusedSimpArgs false

/-! ### spec_l11Select: function 91 -/
mutual
def spec_l11Select.j2 : Nat → List (S65) → List ByteArray → List Int → Option (List Int)
 | 0, _, _, _ => none
 | k + 1, x0, x7, x10 => spec_l11Select.l2 k x0 x7 x10 0
def spec_l11Select.l2 : Nat → List (S65) → List ByteArray → List Int → Int → Option (List Int)
 | 0, _, _, _, _ => none
 | k + 1, x0, x7, x10, x13 => if x13 < (x7.length : Int) then (spec_l11Select.l3 k x0 x7 x10 x13 (([] : List Int)) 0) else ((spec_l8Sorted.f k x10).bind fun t239 => (some t239))
def spec_l11Select.l3 : Nat → List (S65) → List ByteArray → List Int → Int → List Int → Int → Option (List Int)
 | 0, _, _, _, _, _, _ => none
 | k + 1, x0, x7, x10, x13, x14, x15 => if x15 < (x10.length : Int) then (if 0 ≤ x15 then ((spec_l2Kids.f k x0 (rd x10 x15)).bind fun t246 => (spec_l11Select.l4 k x0 x7 x10 x13 x14 x15 t246 0)) else (none)) else (spec_l11Select.l2 k x0 x7 x14 (wrap64 (x13 + 1)))
def spec_l11Select.l4 : Nat → List (S65) → List ByteArray → List Int → Int → List Int → Int → List Int → Int → Option (List Int)
 | 0, _, _, _, _, _, _, _, _ => none
 | k + 1, x0, x7, x10, x13, x14, x15, x16, x17 => if x17 < (x16.length : Int) then (if 0 ≤ x17 then (if 0 ≤ (rd x16 x17) then (if (rd x16 x17) < (x0.length : Int) then (if 0 ≤ x13 then (if x13 < (x7.length : Int) then (if ((rd_T65 x0 (rd x16 x17)).f1).toList = (rdOf ByteArray.empty x7 x13).toList then (if x14.length < 17592186044416 then (spec_l11Select.l4 k x0 x7 x10 x13 (x14 ++ [rd x16 x17]) x15 x16 (wrap64 (x17 + 1))) else (none)) else (spec_l11Select.l4 k x0 x7 x10 x13 x14 x15 x16 (wrap64 (x17 + 1)))) else (none)) else (none)) else (none)) else (none)) else (none)) else (spec_l11Select.l3 k x0 x7 x10 x13 x14 (wrap64 (x15 + 1)))
def spec_l11Select.l0 : Nat → List (S65) → Int → List ByteArray → List Int → Int → Option (List Int)
 | 0, _, _, _, _, _ => none
 | k + 1, x0, x1, x7, x10, x11 => if x11 < (x0.length : Int) then (spec_l11Select.l1 k x0 x1 x7 x10 x11 x11) else (spec_l11Select.j2 k x0 x7 x10)
def spec_l11Select.l1 : Nat → List (S65) → Int → List ByteArray → List Int → Int → Int → Option (List Int)
 | 0, _, _, _, _, _, _ => none
 | k + 1, x0, x1, x7, x10, x11, x12 => if x12 > x1 then (if 0 ≤ x12 then (if x12 < (x0.length : Int) then (spec_l11Select.l1 k x0 x1 x7 x10 x11 ((rd_T65 x0 x12).f0)) else (none)) else (none)) else (if x12 = x1 then (if 0 ≤ x11 then (if x11 < (x0.length : Int) then (if ((rd_T65 x0 x11).f1).toList = ([] : List UInt8) then (spec_l11Select.l0 k x0 x1 x7 x10 (wrap64 (x11 + 1))) else (if x10.length < 17592186044416 then (spec_l11Select.l0 k x0 x1 x7 (x10 ++ [x11]) (wrap64 (x11 + 1))) else (none))) else (none)) else (none)) else (spec_l11Select.l0 k x0 x1 x7 x10 (wrap64 (x11 + 1))))
end
def spec_l11Select.f (k : Nat) (l0 : List (S65)) (a1 : Int) (a2 : ByteArray) : Option (List Int) := (spec_l11Steps.f k a2).bind fun bt226 => ((some (([a1] : List Int) : List Int)).bind fun y231 => (if bt226.2.1 = true then (spec_l11Select.l0 k l0 a1 bt226.1 y231 (wrap64 (a1 + 1))) else (spec_l11Select.j2 k l0 bt226.1 y231)))
set_option maxHeartbeats 8000000 in
set_option maxRecDepth 100000 in
theorem spec_l11Select.calls (k : Nat) (P0_ : Nat → Prop) (A0 : Option Addr) (c0 : Nat) (l0 : List (S65)) (a1 : Int) (a2 : ByteArray) (r : List Int) (w : World) (hs0 : Kd.V k65 65 w w.heap.size (fun k_ => P0_ k_) (.slice A0 l0.length c0) l0) (h : spec_l11Select.f k l0 a1 a2 = some r) :
  Calls Tryz.prog 91 #[.slice A0 l0.length c0, .int .i64 a1, .string a2] w fun e w' => ∃ v0_ : Value, e = .returned (v0_) ∧ Kd.R (Kd.int .i64) 2 w' w.heap.size (fun k_ => (w.heap.size ≤ k_)) v0_ r ∧ Below w.heap.size w w' := by
 have HO0 := Aside0.mk (show Kd.V k65 65 w w.heap.size (fun k_ => (P0_ k_ ∨ w.heap.size ≤ k_)) (.slice A0 l0.length c0) l0 from Kd.V_mono hs0 (fun k_ hk => .inl hk))
 have HB := Aside0.mk (Below.refl w.heap.size w)
 have H : ((spec_l11Steps.f k a2).bind fun bt226 => ((some (([a1] : List Int) : List Int)).bind fun y231 => (if bt226.2.1 = true then (spec_l11Select.l0 k l0 a1 bt226.1 y231 (wrap64 (a1 + 1))) else (spec_l11Select.j2 k l0 bt226.1 y231)))) = some r := h
 clear h
 replace H := Option.bind_eq_some_iff.mp H
 obtain ⟨⟨t226, t227, t228⟩, A40, H⟩ := H
 replace H : ((some (([a1] : List Int) : List Int)).bind fun y231 => (if t227 = true then (spec_l11Select.l0 k l0 a1 t226 y231 (wrap64 (a1 + 1))) else (spec_l11Select.j2 k l0 t226 y231))) = some r := H
 have A4 := Aside0.mk A40
 clear A40
 obtain ⟨y231, hy231⟩ : ∃ y_ : List Int, y_ = (([a1] : List Int)) := ⟨_, rfl⟩
 replace H : (if t227 = true then (spec_l11Select.l0 k l0 a1 t226 y231 (wrap64 (a1 + 1))) else (spec_l11Select.j2 k l0 t226 y231)) = some r := by first | (rw [hy231]; with_reducible exact H) | (have H2_ := (Option.bind_some _ _).symm.trans H; rw [hy231]; with_reducible exact H2_) | (have H2_ := (Option.bind_some _ _).symm.trans H; with_reducible exact H2_) | with_reducible exact H | (rw [hy231]; exact H) | exact H
 have Ny231 := Aside0.mk hy231
 clear hy231
 have HC5 := Aside0.mk H
 clear H
 go_enter Tryz.func91, Tryz.ntmps91
 go_upto_if 26 with (first | (go_at_call 90; (with_reducible refine (spec_l11Steps.calls k a2 t226 t227 t228 _ A4.out).mono ?_); rintro e w6 ⟨v229, rfl, ho0, hb⟩; have n0_ := Aside0.mk (Kd.V_elder' (by (with_reducible repeat (first | apply Kd.V_alloc | apply Kd.V_drewN | apply Kd.V_drew)); exact HO0.out) (Kd.R_base ho0) hb); have n1_ := Aside0.mk (Kd.R_lower (Kd.R_newM (M := fun k_ => (w.heap.size ≤ k_)) ho0 (below_size dq25) (fun k_ h_ => h_)) (below_size dq25)); have n2_ := Aside0.mk (below_step dq25 hb); clear HO0; clear HB; have HO0 := n0_; have HO230 := n1_; have HB := n2_; clear n0_ n1_ n2_; (try clear hb); (try clear hb2); (try clear hk); (try clear hi); (try clear ho0)) | ((with_reducible refine gate_dst (N := 25) rfl ?_); refine Kd.R_lit (Kd.int .i64) _ 2 ?hg (N := 25) ?hd (xs := ([a1] : List Int)) (inner := [.int .i64 a1]) (ok := fun _ => True) (okp := fun _ => True) ?hr ?hp (fun _ hk => hk) trivial (Below.refl _ _) (Nat.le_refl _) dq20 ?_; (case hd => rfl); (case hg => rfl); (case hr => exact dq0); (case hp => exact (Reps.one (show Kd.M (Kd.int .i64) _ _ _ a1 [.int .i64 a1] from rfl) (Reps.none _ _))); intro v232 w7 ho8 hb hg_ hnew_; clear hg_ hnew_; (first | rw [← Ny231.out] at ho8 | (simp only [Int.reduceToNat] at ho8; rw [← Ny231.out] at ho8)); have n0_ := Aside0.mk (Kd.V_elder' (by (with_reducible repeat (first | apply Kd.V_alloc | apply Kd.V_drewN | apply Kd.V_drew)); exact HO0.out) (Kd.R_base ho8) hb); have n1_ := Aside0.mk (Kd.R_below (by (with_reducible repeat (first | apply Kd.R_alloc | apply Kd.R_drewN | apply Kd.R_drew)); exact HO230.out) hb); have n2_ := Aside0.mk (Kd.R_lower (Kd.R_newM (M := fun k_ => (w.heap.size ≤ k_)) ho8 (below_size dq25) (fun k_ h_ => h_)) (below_size dq25)); have n3_ := Aside0.mk (below_step dq25 hb); clear HO0; clear HO230; clear HB; have HO0 := n0_; have HO230 := n1_; have HO233 := n2_; have HB := n3_; clear n0_ n1_ n2_ n3_; clear hb ho8))
 (try simp only [Act.put, List.setIfInBounds_toArray, List.set_cons_zero, List.set_cons_succ])
 go_cut [10] (fun v10 wc => ∃ (kq : Nat) (x10_4 : List Int), Aside0 (spec_l11Select.j2 kq l0 t226 x10_4 = some r) ∧ Aside0 (kq ≤ k) ∧ Aside0 (Kd.V k65 65 wc w.heap.size (fun k_ => (P0_ k_ ∨ w.heap.size ≤ k_) ∧ some k_ ≠ (v229 : Value).ownBlock ∧ some k_ ≠ (v10 : Value).ownBlock) (.slice A0 l0.length c0) l0) ∧ Aside0 (Kd.R Kd.string 9 wc w.heap.size (fun k_ => (w.heap.size ≤ k_)) v229 t226) ∧ Aside0 (Kd.R (Kd.int .i64) 2 wc w.heap.size (fun k_ => (w.heap.size ≤ k_)) v10 x10_4) ∧ Aside0 (Below w.heap.size w wc))
 case first =>
  have H := HC5.out
  clear HC5
  by_cases c9 : t227 = true
  rotate_left
  ·replace c9 := Bool.eq_false_iff.mpr c9
   subst c9
   have H1 : (spec_l11Select.j2 k l0 t226 y231) = some r := by rw [if_neg (show ¬ (false = true) by decide)] at H; exact H
   clear H
   have H := H1
   clear H1
   have H' := Aside0.mk H
   clear H
   go_wp2
   go_meet
   case rel => exact ⟨_, (y231), H', ⟨dq24⟩, ⟨dq46⟩, ⟨dq45⟩, ⟨dq44⟩, ⟨dq25⟩⟩
  subst c9
  have H1 : (spec_l11Select.l0 k l0 a1 t226 y231 (wrap64 (a1 + 1))) = some r := by rw [if_pos rfl] at H; exact H
  clear H
  have H := H1
  clear H1
  have H' := Aside0.mk H
  clear H
  go_wp2
  go_loopg [10, 11] k (fun kq v10 v11 w' => ∃ (x10_1 : List Int) (x11_1 : Int), v11 = .int .i64 x11_1 ∧ Aside0 (spec_l11Select.l0 kq l0 a1 t226 x10_1 x11_1 = some r) ∧ Aside0 (kq ≤ k) ∧ Aside0 (Kd.V k65 65 w' w.heap.size (fun k_ => (P0_ k_ ∨ w.heap.size ≤ k_) ∧ some k_ ≠ (v229 : Value).ownBlock ∧ some k_ ≠ (v10 : Value).ownBlock) (.slice A0 l0.length c0) l0) ∧ Aside0 (Kd.R Kd.string 9 w' w.heap.size (fun k_ => (w.heap.size ≤ k_)) v229 t226) ∧ Aside0 (Kd.R (Kd.int .i64) 2 w' w.heap.size (fun k_ => (w.heap.size ≤ k_)) v10 x10_1) ∧ Aside0 (Below w.heap.size w w'))
  case atStart => exact ⟨(y231), (wrap64 (a1 + 1)), dq17, H', ⟨Nat.le_refl _⟩, ⟨dq46⟩, ⟨dq45⟩, ⟨dq44⟩, ⟨dq25⟩⟩
  clear H'
  obtain ⟨x10_1, x11_1, rfl, HA, HK1, HO_0, HO_7, HO_10, HB⟩ := hrel
  cases gk with
  | zero => exact absurd HA.out (by simp [spec_l11Select.l0])
  | succ k1 =>
   have H := HA.out
   clear HA
   simp only [spec_l11Select.l0] at H
   by_cases c10 : x11_1 < (l0.length : Int)
   rotate_left
   ·rw [if_neg c10] at H
    have c10b0 := decide_eq_false c10
    clear c10
    (first | rw [c10b0] | (simp only [i64_w, i32_w]; rw [c10b0]) | skip)
    have H' := Aside0.mk H
    clear H
    go_wp2
    go_meet
    case rel => exact ⟨_, (x10_1), H', ⟨dq31⟩, ⟨dq49⟩, ⟨dq48⟩, ⟨dq47⟩, ⟨dq25⟩⟩
   rw [if_pos c10] at H
   have c10b0 := decide_eq_true c10
   clear c10
   (first | rw [c10b0] | (simp only [i64_w, i32_w]; rw [c10b0]) | skip)
   have H' := Aside0.mk H
   clear H
   go_wp2
   go_loopg [12] k1 (fun kq v12 w' => ∃ (x12_2 : Int), v12 = .int .i64 x12_2 ∧ Aside0 (spec_l11Select.l1 kq l0 a1 t226 x10_1 x11_1 x12_2 = some r) ∧ Aside0 (kq ≤ k1) ∧ Aside0 (Kd.V k65 65 w' w.heap.size (fun k_ => (P0_ k_ ∨ w.heap.size ≤ k_) ∧ some k_ ≠ (v229 : Value).ownBlock ∧ some k_ ≠ (u10 : Value).ownBlock) (.slice A0 l0.length c0) l0) ∧ Aside0 (Kd.R Kd.string 9 w' w.heap.size (fun k_ => (w.heap.size ≤ k_)) v229 t226) ∧ Aside0 (Kd.R (Kd.int .i64) 2 w' w.heap.size (fun k_ => (w.heap.size ≤ k_)) u10 x10_1) ∧ Aside0 (Below w.heap.size w w'))
   case atStart => exact ⟨(x11_1), dq17, H', ⟨Nat.le_refl _⟩, ⟨dq49⟩, ⟨dq48⟩, ⟨dq47⟩, ⟨dq25⟩⟩
   clear H'
   try clear c10b0
   obtain ⟨x12_2, rfl, HA, HK2, HO_0, HO_7, HO_10, HB⟩ := hrel
   cases gk with
   | zero => exact absurd HA.out (by simp [spec_l11Select.l1])
   | succ k2 =>
    have H := HA.out
    clear HA
    simp only [spec_l11Select.l1] at H
    by_cases c11 : x12_2 > a1
    ·rw [if_pos c11] at H
     have c11b0 : decide (a1 < x12_2) = true := decide_eq_true c11
     clear c11
     by_cases c12 : 0 ≤ x12_2
     rotate_left
     ·rw [if_neg c12] at H
      exact absurd H dq20
     rw [if_pos c12] at H
     have c12b0 := decide_eq_true c12
     clear c12
     by_cases c13 : x12_2 < (l0.length : Int)
     rotate_left
     ·rw [if_neg c13] at H
      exact absurd H dq20
     rw [if_pos c13] at H
     have c13b0 := decide_eq_true c13
     clear c13
     have H' := Aside0.mk H
     clear H
     have p234 : 0 ≤ (x12_2 : Int) := of_decide_eq_true dq18
     have q234 : x12_2 < (l0.length : Int) := of_decide_eq_true dq18
     obtain ⟨ad234, A234_3, c234_3, e234, hx234_0, hx234_1, hx234_2, hx234_3, hl234_3, hi234_3⟩ := at_T65 (Kd.V_reads' HO_0.out).2.2 x12_2 p234 q234
     cases e234
     obtain ⟨ce234, hce234, hMe234, hcc234⟩ := Kd.V_get HO_0.out z65 x12_2 p234 (by first | exact q234 | exact of_decide_eq_true dq18 | (have e_ := (Kd.V_reads' HO_0.out).1; omega))
     obtain ⟨ua234_3, uc234_3, rfl, ul234_3, ge234_3⟩ := k65_openF hMe234
     have hv234_3 := hcc234 3 _ rfl
     rw [add_field _ _ 3 dq23] at hv234_3
     replace hv234_3 := Option.some.inj (hv234_3.symm.trans hx234_3)
     injection hv234_3 with hva_ hvn_ hvc_
     rw [hva_] at ge234_3
     rw [hvc_] at ul234_3
     have HL234_3 := Aside0.mk (show Kd.V k67 67 _ w.heap.size _ _ ((rd_T65 l0 x12_2).f3) from Kd.V_mk ul234_3 ge234_3)
     clear hva_ hvn_ hvc_ ge234_3 ul234_3
     clear hcc234 hce234
     have HR234_3 := Aside0.mk hi234_3
     have HC234_3 := Aside0.mk hl234_3
     clear hi234_3 hl234_3
     replace p234 := eq_true p234
     replace q234 := eq_true q234
     go_wp2
     go_roundg k2
     case measure => have := HK1.out; have := HK2.out; omega
     case rel => exact ⟨((rd_T65 l0 x12_2).f0), dq17, H', ⟨dq43⟩, ⟨dq49⟩, ⟨dq48⟩, ⟨dq47⟩, ⟨dq25⟩⟩
    rw [if_neg c11] at H
    have c11b0 : decide (a1 < x12_2) = false := decide_eq_false c11
    clear c11
    by_cases c14 : x12_2 = a1
    rotate_left
    ·rw [if_neg c14] at H
     have c14b0 := beq_eq_false_iff_ne.mpr c14
     have c14b1 := bne_iff_ne.mpr c14
     have H' := Aside0.mk H
     clear H
     go_wp2
     go_roundg k2
     case measure => have := HK1.out; have := HK2.out; omega
     case rel => exact ⟨(x10_1), (wrap64 (x11_1 + 1)), dq17, H', ⟨dq43⟩, ⟨dq49⟩, ⟨dq48⟩, ⟨dq47⟩, ⟨dq25⟩⟩
    rw [if_pos c14] at H
    have c14b0 := beq_iff_eq.mpr c14
    have c14b1 := bne_eq_false_iff_eq.mpr c14
    clear c14
    by_cases c15 : 0 ≤ x11_1
    rotate_left
    ·rw [if_neg c15] at H
     exact absurd H dq20
    rw [if_pos c15] at H
    have c15b0 := decide_eq_true c15
    clear c15
    by_cases c16 : x11_1 < (l0.length : Int)
    rotate_left
    ·rw [if_neg c16] at H
     exact absurd H dq20
    rw [if_pos c16] at H
    have c16b0 := decide_eq_true c16
    clear c16
    by_cases c17 : ((rd_T65 l0 x11_1).f1).toList = ([] : List UInt8)
    ·rw [if_pos c17] at H
     have c17b0 := beq_iff_eq.mpr c17
     have c17b1 := bne_eq_false_iff_eq.mpr c17
     clear c17
     have H' := Aside0.mk H
     clear H
     have p235 : 0 ≤ (x11_1 : Int) := of_decide_eq_true dq18
     have q235 : x11_1 < (l0.length : Int) := of_decide_eq_true dq18
     obtain ⟨ad235, A235_3, c235_3, e235, hx235_0, hx235_1, hx235_2, hx235_3, hl235_3, hi235_3⟩ := at_T65 (Kd.V_reads' HO_0.out).2.2 x11_1 p235 q235
     cases e235
     obtain ⟨ce235, hce235, hMe235, hcc235⟩ := Kd.V_get HO_0.out z65 x11_1 p235 dq50
     obtain ⟨ua235_3, uc235_3, rfl, ul235_3, ge235_3⟩ := k65_openF hMe235
     have hv235_3 := hcc235 3 _ rfl
     rw [add_field _ _ 3 dq23] at hv235_3
     replace hv235_3 := Option.some.inj (hv235_3.symm.trans hx235_3)
     injection hv235_3 with hva_ hvn_ hvc_
     rw [hva_] at ge235_3
     rw [hvc_] at ul235_3
     have HL235_3 := Aside0.mk (show Kd.V k67 67 _ w.heap.size _ _ ((rd_T65 l0 x11_1).f3) from Kd.V_mk ul235_3 ge235_3)
     clear hva_ hvn_ hvc_ ge235_3 ul235_3
     clear hcc235 hce235
     have HR235_3 := Aside0.mk hi235_3
     have HC235_3 := Aside0.mk hl235_3
     clear hi235_3 hl235_3
     replace p235 := eq_true p235
     replace q235 := eq_true q235
     go_wp2
     go_roundg k2
     case measure => have := HK1.out; have := HK2.out; omega
     case rel => exact ⟨(x10_1), (wrap64 (x11_1 + 1)), dq17, H', ⟨dq43⟩, ⟨dq49⟩, ⟨dq48⟩, ⟨dq47⟩, ⟨dq25⟩⟩
    rw [if_neg c17] at H
    have c17b0 := beq_eq_false_iff_ne.mpr c17
    have c17b1 := bne_iff_ne.mpr c17
    by_cases c18 : x10_1.length < 17592186044416
    rotate_left
    ·rw [if_neg c18] at H
     exact absurd H dq20
    rw [if_pos c18] at H
    have LMc18 := Aside0.mk c18
    clear c18
    obtain ⟨y236, hy236⟩ : ∃ y_ : List Int, y_ = (x10_1 ++ [x11_1]) := ⟨_, rfl⟩
    replace H : (spec_l11Select.l0 k2 l0 a1 t226 y236 (wrap64 (x11_1 + 1))) = some r := by first | (rw [hy236]; with_reducible exact H) | (have H2_ := (Option.bind_some _ _).symm.trans H; rw [hy236]; with_reducible exact H2_) | (have H2_ := (Option.bind_some _ _).symm.trans H; with_reducible exact H2_) | with_reducible exact H | (rw [hy236]; exact H) | exact H
    have Ny236 := Aside0.mk hy236
    clear hy236
    have H' := Aside0.mk H
    clear H
    have p235 : 0 ≤ (x11_1 : Int) := of_decide_eq_true dq18
    have q235 : x11_1 < (l0.length : Int) := of_decide_eq_true dq18
    obtain ⟨ad235, A235_3, c235_3, e235, hx235_0, hx235_1, hx235_2, hx235_3, hl235_3, hi235_3⟩ := at_T65 (Kd.V_reads' HO_0.out).2.2 x11_1 p235 q235
    cases e235
    obtain ⟨ce235, hce235, hMe235, hcc235⟩ := Kd.V_get HO_0.out z65 x11_1 p235 dq50
    obtain ⟨ua235_3, uc235_3, rfl, ul235_3, ge235_3⟩ := k65_openF hMe235
    have hv235_3 := hcc235 3 _ rfl
    rw [add_field _ _ 3 dq23] at hv235_3
    replace hv235_3 := Option.some.inj (hv235_3.symm.trans hx235_3)
    injection hv235_3 with hva_ hvn_ hvc_
    rw [hva_] at ge235_3
    rw [hvc_] at ul235_3
    have HL235_3 := Aside0.mk (show Kd.V k67 67 _ w.heap.size _ _ ((rd_T65 l0 x11_1).f3) from Kd.V_mk ul235_3 ge235_3)
    clear hva_ hvn_ hvc_ ge235_3 ul235_3
    clear hcc235 hce235
    have HR235_3 := Aside0.mk hi235_3
    have HC235_3 := Aside0.mk hl235_3
    clear hi235_3 hl235_3
    replace p235 := eq_true p235
    replace q235 := eq_true q235
    go_wp2_with (first | ((with_reducible refine gate_builtin (b := .append) (xs := #[.tmp 55, .tmp 57]) rfl ?_); at_builtin; refine Kd.R_append (Kd.int .i64) (w0 := w) w.heap.size rfl (.tmp 55) (.tmp 57) 47 2 (.int .i64 0) 8 rfl Tryz.underlying47 info2 rfl dq29 dq23 u10 x10_1 x11_1 [.int .i64 x11_1] (fun k_ => (w.heap.size ≤ k_)) (fun _ => False) rfl rfl ?aP (fun _ hk => hk.elim) ?aF ?aO ?aB ?aS ?aL ?_; (case aP => exact rfl); (case aB => exact dq25); (case aF => exact (fun k_ hk => (Nat.le_trans (below_size dq25) hk))); (case aO => exact dq47); (case aS => exact (below_size dq25)); (case aL => have := LMc18.out; omega); intro v237 w19 ho hb hg hat; rw [← Ny236.out] at ho; have n0_ := Aside0.mk (Kd.V_afterv (ok := (fun k_ => (P0_ k_ ∨ w.heap.size ≤ k_) ∧ some k_ ≠ (v229 : Value).ownBlock)) (by (with_reducible repeat (first | apply Kd.V_alloc | apply Kd.V_drewN | apply Kd.V_drew)); exact Kd.V_mono HO_0.out (fun _ hk => ⟨⟨hk.1, hk.2.1⟩, hk.2.2⟩)) hg hat); have n1_ := Aside0.mk (Kd.R_over' dq48 (Kd.R_typed dq47) dq29 hg); have n2_ := Aside0.mk (Kd.V_afterv (ok := (fun k_ => (P0_ k_ ∨ w.heap.size ≤ k_) ∧ some k_ ≠ (v229 : Value).ownBlock)) (by (with_reducible repeat (first | apply Kd.V_alloc | apply Kd.V_drewN | apply Kd.V_drew)); exact Kd.V_mono HL235_3.out (fun _ hk => ⟨⟨hk.1, hk.2.1⟩, hk.2.2⟩)) hg hat); have n3_ := Aside0.mk (hb); have n4_ := Aside0.mk (ho); clear HO_0; clear HO_7; clear HL235_3; clear HB; clear HO_10; have HO_0 := n0_; have HO_7 := n1_; have HL235_3 := n2_; have HB := n3_; have HO238 := n4_; clear n0_ n1_ n2_ n3_ n4_; clear ho hb hg hat))
    go_roundg k2
    case measure => have := HK1.out; have := HK2.out; omega
    case rel => exact ⟨(y236), (wrap64 (x11_1 + 1)), dq17, H', ⟨dq43⟩, ⟨by (with_reducible repeat (first | apply Kd.V_alloc | apply Kd.V_drewN | apply Kd.V_drew)); exact Kd.V_mono HO_0.out (fun _ hk => ⟨hk.1.1, ⟨hk.1.2, hk.2⟩⟩)⟩, ⟨dq48⟩, ⟨by (with_reducible repeat (first | apply Kd.R_alloc | apply Kd.R_drewN | apply Kd.R_drew)); exact HO238.out⟩, ⟨dq25⟩⟩
 clear HC5
 obtain ⟨kq, x10_4, HA, HJ4, HO_0, HO_7, HO_10, HB⟩ := hcut
 cases kq with
 | zero => exact absurd HA.out (by simp [spec_l11Select.j2])
 | succ kj4 =>
  have H := HA.out
  clear HA
  simp only [spec_l11Select.j2] at H
  have H' := Aside0.mk H
  clear H
  go_wp2
  go_loopg [10, 13] kj4 (fun kq v10 v13 w' => ∃ (x10_2 : List Int) (x13_2 : Int), v13 = .int .i64 x13_2 ∧ Aside0 (spec_l11Select.l2 kq l0 t226 x10_2 x13_2 = some r) ∧ Aside0 (kq ≤ kj4) ∧ Aside0 (Kd.V k65 65 w' w.heap.size (fun k_ => (P0_ k_ ∨ w.heap.size ≤ k_) ∧ some k_ ≠ (v229 : Value).ownBlock ∧ some k_ ≠ (v10 : Value).ownBlock) (.slice A0 l0.length c0) l0) ∧ Aside0 (Kd.R Kd.string 9 w' w.heap.size (fun k_ => (w.heap.size ≤ k_)) v229 t226) ∧ Aside0 (Kd.R (Kd.int .i64) 2 w' w.heap.size (fun k_ => (w.heap.size ≤ k_)) v10 x10_2) ∧ Aside0 (Below w.heap.size w w'))
  case atStart => exact ⟨(x10_4), (0), dq17, H', ⟨Nat.le_refl _⟩, ⟨dq49⟩, ⟨dq48⟩, ⟨dq47⟩, ⟨dq25⟩⟩
  clear H'
  obtain ⟨x10_2, x13_2, rfl, HA, HK2, HO_0, HO_7, HO_10, HB⟩ := hrel
  cases gk with
  | zero => exact absurd HA.out (by simp [spec_l11Select.l2])
  | succ k2 =>
   have H := HA.out
   clear HA
   simp only [spec_l11Select.l2] at H
   by_cases c20 : x13_2 < (t226.length : Int)
   rotate_left
   ·rw [if_neg c20] at H
    have c20b0 := decide_eq_false c20
    clear c20
    replace H := Option.bind_eq_some_iff.mp H
    obtain ⟨t239, A420, H⟩ := H
    replace H : (some t239) = some r := H
    have A42 := Aside0.mk A420
    clear A420
    obtain rfl := Option.some.inj H
    obtain ⟨Ao43, co43, eo43⟩ := Kd.R_slice HO_7.out
    subst eo43
    obtain ⟨Ao44, co44, eo44⟩ := Kd.R_slice HO_10.out
    subst eo44
    go_wp2_with (first | (go_at_call 132; (with_reducible refine (spec_l8Sorted.calls k2 _ _ x10_2 t239 _ ?side1 ?side2 A42.out).mono ?_); (case side1 => repeat (first | exact (Kd.R_reads' HO_10.out).2.2 | (with_reducible refine Kd.C_alloc ?_ _) | (with_reducible refine Kd.C_drewN ?_ _) | (with_reducible refine Kd.C_drew ?_))); (case side2 => exact (Kd.R_reads' HO_10.out).2.1); rintro e w45 ⟨v240, rfl, ho0, hb⟩; have n0_ := Aside0.mk (Kd.V_elder' dq49 (Kd.R_base ho0) hb); have n1_ := Aside0.mk (Kd.R_below dq48 hb); have n2_ := Aside0.mk (Kd.R_elder' dq47 (Kd.R_base ho0) hb); have n3_ := Aside0.mk (Kd.R_lower (Kd.R_new' (Kd.R_newM (M := fun k_ => (w.heap.size ≤ k_)) ho0 (below_size dq25) (fun k_ h_ => h_)) (Kd.R_lt dq47)) (below_size dq25)); have n4_ := Aside0.mk (below_step dq25 hb); clear HO_0; clear HO_7; clear HO_10; clear HB; have HO_0 := n0_; have HO_7 := n1_; have HO_10 := n2_; have HO241 := n3_; have HB := n4_; clear n0_ n1_ n2_ n3_ n4_; (try clear hb); (try clear hb2); (try clear hk); (try clear hi); (try clear ho0)))
    go_ret
    exact ⟨_, dq27, by (with_reducible repeat (first | apply Kd.R_alloc | apply Kd.R_drewN | apply Kd.R_drew)); exact Kd.R_mono HO241.out (fun _ hk => hk.1.1), dq25⟩
   rw [if_pos c20] at H
   have c20b0 := decide_eq_true c20
   clear c20
   obtain ⟨y242, hy242⟩ : ∃ y_ : List Int, y_ = (([] : List Int)) := ⟨_, rfl⟩
   replace H : (spec_l11Select.l3 k2 l0 t226 x10_2 x13_2 y242 0) = some r := by first | (rw [hy242]; with_reducible exact H) | (have H2_ := (Option.bind_some _ _).symm.trans H; rw [hy242]; with_reducible exact H2_) | (have H2_ := (Option.bind_some _ _).symm.trans H; with_reducible exact H2_) | with_reducible exact H | (rw [hy242]; exact H) | exact H
   have Ny242 := Aside0.mk hy242
   clear hy242
   have H' := Aside0.mk H
   clear H
   obtain ⟨Ao21, co21, eo21⟩ := Kd.R_slice HO_7.out
   subst eo21
   go_wp2_with (first | ((with_reducible refine gate_dst (N := 65) rfl ?_); refine Kd.R_lit (Kd.int .i64) _ 2 ?hg (N := 65) ?hd (xs := ([] : List Int)) (inner := []) (ok := fun _ => True) (okp := fun _ => True) ?hr ?hp (fun _ hk => hk) trivial (Below.refl _ _) (Nat.le_refl _) dq20 ?_; (case hd => rfl); (case hg => rfl); (case hr => exact dq0); (case hp => exact (Reps.none _ _)); intro v243 w22 ho23 hb hg_ hnew_; clear hg_ hnew_; (first | rw [← Ny242.out] at ho23 | (simp only [Int.reduceToNat] at ho23; rw [← Ny242.out] at ho23)); have n0_ := Aside0.mk (Kd.V_elder' dq49 (Kd.R_base ho23) hb); have n1_ := Aside0.mk (Kd.R_below dq48 hb); have n2_ := Aside0.mk (Kd.R_elder' dq47 (Kd.R_base ho23) hb); have n3_ := Aside0.mk (Kd.R_lower (Kd.R_new' (Kd.R_newM (M := fun k_ => (w.heap.size ≤ k_)) ho23 (below_size dq25) (fun k_ h_ => h_)) (Kd.R_lt dq47)) (below_size dq25)); have n4_ := Aside0.mk (below_step dq25 hb); clear HO_0; clear HO_7; clear HO_10; clear HB; have HO_0 := n0_; have HO_7 := n1_; have HO_10 := n2_; have HO244 := n3_; have HB := n4_; clear n0_ n1_ n2_ n3_ n4_; clear hb ho23))
   go_loopg [14, 15] k2 (fun kq v14 v15 w' => ∃ (x14_3 : List Int) (x15_3 : Int), v15 = .int .i64 x15_3 ∧ Aside0 (spec_l11Select.l3 kq l0 t226 x10_2 x13_2 x14_3 x15_3 = some r) ∧ Aside0 (kq ≤ k2) ∧ Aside0 (Kd.V k65 65 w' w.heap.size (fun k_ => (P0_ k_ ∨ w.heap.size ≤ k_) ∧ some k_ ≠ ((.slice Ao21 t226.length co21) : Value).ownBlock ∧ some k_ ≠ (u10 : Value).ownBlock ∧ some k_ ≠ (v14 : Value).ownBlock) (.slice A0 l0.length c0) l0) ∧ Aside0 (Kd.R Kd.string 9 w' w.heap.size (fun k_ => (w.heap.size ≤ k_)) (.slice Ao21 t226.length co21) t226) ∧ Aside0 (Kd.R (Kd.int .i64) 2 w' w.heap.size (fun k_ => (w.heap.size ≤ k_) ∧ some k_ ≠ (v14 : Value).ownBlock) u10 x10_2) ∧ Aside0 (Kd.R (Kd.int .i64) 2 w' w.heap.size (fun k_ => (w.heap.size ≤ k_) ∧ some k_ ≠ (u10 : Value).ownBlock) v14 x14_3) ∧ Aside0 (Below w.heap.size w w'))
   case atStart => exact ⟨(y242), (0), dq17, H', ⟨Nat.le_refl _⟩, ⟨by (with_reducible repeat (first | apply Kd.V_alloc | apply Kd.V_drewN | apply Kd.V_drew)); exact Kd.V_mono HO_0.out (fun _ hk => ⟨hk.1.1, ⟨hk.1.2.1, ⟨hk.1.2.2, hk.2⟩⟩⟩)⟩, ⟨dq48⟩, ⟨dq47⟩, ⟨by (with_reducible repeat (first | apply Kd.R_alloc | apply Kd.R_drewN | apply Kd.R_drew)); exact Kd.R_mono HO244.out (fun _ hk => ⟨hk.1.1, hk.2⟩)⟩, ⟨dq25⟩⟩
   clear H'
   try clear c20b0
   obtain ⟨x14_3, x15_3, rfl, HA, HK3, HO_0, HO_7, HO_10, HO_14, HB⟩ := hrel
   cases gk with
   | zero => exact absurd HA.out (by simp [spec_l11Select.l3])
   | succ k3 =>
    have H := HA.out
    clear HA
    simp only [spec_l11Select.l3] at H
    by_cases c24 : x15_3 < (x10_2.length : Int)
    rotate_left
    ·rw [if_neg c24] at H
     have c24b0 := decide_eq_false c24
     clear c24
     have H' := Aside0.mk H
     clear H
     obtain ⟨Ao41, co41, eo41⟩ := Kd.R_slice HO_10.out
     subst eo41
     go_wp2
     go_roundg k3
     case measure => have := HJ4.out; have := HK2.out; have := HK3.out; omega
     case rel => exact ⟨(x14_3), (wrap64 (x13_2 + 1)), dq17, H', ⟨dq54⟩, ⟨by (with_reducible repeat (first | apply Kd.V_alloc | apply Kd.V_drewN | apply Kd.V_drew)); exact Kd.V_mono HO_0.out (fun _ hk => ⟨hk.1, ⟨hk.2.1, hk.2.2.2⟩⟩)⟩, ⟨dq48⟩, ⟨by (with_reducible repeat (first | apply Kd.R_alloc | apply Kd.R_drewN | apply Kd.R_drew)); exact Kd.R_mono HO_14.out (fun _ hk => hk.1)⟩, ⟨dq25⟩⟩
    rw [if_pos c24] at H
    have c24b0 := decide_eq_true c24
    clear c24
    by_cases c25 : 0 ≤ x15_3
    rotate_left
    ·rw [if_neg c25] at H
     exact absurd H dq20
    rw [if_pos c25] at H
    have c25b0 := decide_eq_true c25
    clear c25
    replace H := Option.bind_eq_some_iff.mp H
    obtain ⟨t246, A260, H⟩ := H
    replace H : (spec_l11Select.l4 k3 l0 t226 x10_2 x13_2 x14_3 x15_3 t246 0) = some r := H
    have A26 := Aside0.mk A260
    clear A260
    have H' := Aside0.mk H
    clear H
    obtain ⟨Ao27, co27, eo27⟩ := Kd.R_slice HO_10.out
    subst eo27
    have p245 : 0 ≤ (x15_3 : Int) := of_decide_eq_true dq18
    have q245 : x15_3 < (x10_2.length : Int) := of_decide_eq_true dq18
    obtain ⟨ad245, e245, hx245_0⟩ := Kd.at_int (Kd.R_reads' HO_10.out).2.2 x15_3 p245 q245
    cases e245
    replace p245 := eq_true p245
    replace q245 := eq_true q245
    go_wp2_with (first | (go_at_call 131; (with_reducible refine (spec_l2Kids.calls k3 _ _ l0 (rd x10_2 x15_3) t246 _ ?side1 ?side2 A26.out).mono ?_); (case side1 => repeat (first | exact (Kd.V_reads' HO_0.out).2.2 | (with_reducible refine Kd.C_alloc ?_ _) | (with_reducible refine Kd.C_drewN ?_ _) | (with_reducible refine Kd.C_drew ?_))); (case side2 => exact (Kd.V_reads' HO_0.out).2.1); rintro e w28 ⟨v247, rfl, ho0, hb⟩; have n0_ := Aside0.mk (Kd.V_elder' dq49 (Kd.R_base ho0) hb); have n1_ := Aside0.mk (Kd.R_below dq48 hb); have n2_ := Aside0.mk (Kd.R_elder' dq47 (Kd.R_base ho0) hb); have n3_ := Aside0.mk (Kd.R_elder' dq51 (Kd.R_base ho0) hb); have n4_ := Aside0.mk (Kd.R_lower (Kd.R_new' (Kd.R_new' (Kd.R_newM (M := fun k_ => (w.heap.size ≤ k_)) ho0 (below_size dq25) (fun k_ h_ => h_)) (Kd.R_lt dq47)) (Kd.R_lt dq51)) (below_size dq25)); have n5_ := Aside0.mk (below_step dq25 hb); clear HO_0; clear HO_7; clear HO_10; clear HO_14; clear HB; have HO_0 := n0_; have HO_7 := n1_; have HO_10 := n2_; have HO_14 := n3_; have HO248 := n4_; have HB := n5_; clear n0_ n1_ n2_ n3_ n4_ n5_; (try clear hb); (try clear hb2); (try clear hk); (try clear hi); (try clear ho0)))
    go_loopg [14, 17] k3 (fun kq v14 v17 w' => ∃ (x14_4 : List Int) (x17_4 : Int), v17 = .int .i64 x17_4 ∧ Aside0 (spec_l11Select.l4 kq l0 t226 x10_2 x13_2 x14_4 x15_3 t246 x17_4 = some r) ∧ Aside0 (kq ≤ k3) ∧ Aside0 (Kd.V k65 65 w' w.heap.size (fun k_ => (P0_ k_ ∨ w.heap.size ≤ k_) ∧ some k_ ≠ ((.slice Ao21 t226.length co21) : Value).ownBlock ∧ some k_ ≠ ((.slice (some ad245) x10_2.length co27) : Value).ownBlock ∧ some k_ ≠ (v14 : Value).ownBlock ∧ some k_ ≠ (v247 : Value).ownBlock) (.slice A0 l0.length c0) l0) ∧ Aside0 (Kd.R Kd.string 9 w' w.heap.size (fun k_ => (w.heap.size ≤ k_)) (.slice Ao21 t226.length co21) t226) ∧ Aside0 (Kd.R (Kd.int .i64) 2 w' w.heap.size (fun k_ => (w.heap.size ≤ k_) ∧ some k_ ≠ (v14 : Value).ownBlock ∧ some k_ ≠ (v247 : Value).ownBlock) (.slice (some ad245) x10_2.length co27) x10_2) ∧ Aside0 (Kd.R (Kd.int .i64) 2 w' w.heap.size (fun k_ => (w.heap.size ≤ k_) ∧ some k_ ≠ ((.slice (some ad245) x10_2.length co27) : Value).ownBlock ∧ some k_ ≠ (v247 : Value).ownBlock) v14 x14_4) ∧ Aside0 (Kd.R (Kd.int .i64) 2 w' w.heap.size (fun k_ => (w.heap.size ≤ k_) ∧ some k_ ≠ ((.slice (some ad245) x10_2.length co27) : Value).ownBlock ∧ some k_ ≠ (v14 : Value).ownBlock) v247 t246) ∧ Aside0 (Below w.heap.size w w'))
    case atStart => exact ⟨(x14_3), (0), dq17, H', ⟨Nat.le_refl _⟩, ⟨by (with_reducible repeat (first | apply Kd.V_alloc | apply Kd.V_drewN | apply Kd.V_drew)); exact Kd.V_mono HO_0.out (fun _ hk => ⟨hk.1.1, ⟨hk.1.2.1, ⟨hk.1.2.2.1, ⟨hk.1.2.2.2, hk.2⟩⟩⟩⟩)⟩, ⟨dq48⟩, ⟨by (with_reducible repeat (first | apply Kd.R_alloc | apply Kd.R_drewN | apply Kd.R_drew)); exact Kd.R_mono HO_10.out (fun _ hk => ⟨hk.1.1, ⟨hk.1.2, hk.2⟩⟩)⟩, ⟨by (with_reducible repeat (first | apply Kd.R_alloc | apply Kd.R_drewN | apply Kd.R_drew)); exact Kd.R_mono HO_14.out (fun _ hk => ⟨hk.1.1, ⟨hk.1.2, hk.2⟩⟩)⟩, ⟨by (with_reducible repeat (first | apply Kd.R_alloc | apply Kd.R_drewN | apply Kd.R_drew)); exact Kd.R_mono HO248.out (fun _ hk => ⟨hk.1.1.1, ⟨hk.1.2, hk.2⟩⟩)⟩, ⟨dq25⟩⟩
    clear H'
    try clear c24b0
    try clear c25b0
    try clear hx245_0
    try clear p245
    try clear q245
    obtain ⟨x14_4, x17_4, rfl, HA, HK4, HO_0, HO_7, HO_10, HO_14, HO_16, HB⟩ := hrel
    cases gk with
    | zero => exact absurd HA.out (by simp [spec_l11Select.l4])
    | succ k4 =>
     have H := HA.out
     clear HA
     simp only [spec_l11Select.l4] at H
     by_cases c29 : x17_4 < (t246.length : Int)
     rotate_left
     ·rw [if_neg c29] at H
      have c29b0 := decide_eq_false c29
      clear c29
      have H' := Aside0.mk H
      clear H
      obtain ⟨Ao40, co40, eo40⟩ := Kd.R_slice HO_16.out
      subst eo40
      go_wp2
      go_roundg k4
      case measure => have := HJ4.out; have := HK2.out; have := HK3.out; have := HK4.out; omega
      case rel => exact ⟨(x14_4), (wrap64 (x15_3 + 1)), dq17, H', ⟨dq53⟩, ⟨by (with_reducible repeat (first | apply Kd.V_alloc | apply Kd.V_drewN | apply Kd.V_drew)); exact Kd.V_mono HO_0.out (fun _ hk => ⟨hk.1, ⟨hk.2.1, ⟨hk.2.2.1, hk.2.2.2.1⟩⟩⟩)⟩, ⟨dq48⟩, ⟨by (with_reducible repeat (first | apply Kd.R_alloc | apply Kd.R_drewN | apply Kd.R_drew)); exact Kd.R_mono HO_10.out (fun _ hk => ⟨hk.1, hk.2.1⟩)⟩, ⟨by (with_reducible repeat (first | apply Kd.R_alloc | apply Kd.R_drewN | apply Kd.R_drew)); exact Kd.R_mono HO_14.out (fun _ hk => ⟨hk.1, hk.2.1⟩)⟩, ⟨dq25⟩⟩
     rw [if_pos c29] at H
     have c29b0 := decide_eq_true c29
     clear c29
     by_cases c30 : 0 ≤ x17_4
     rotate_left
     ·rw [if_neg c30] at H
      exact absurd H dq20
     rw [if_pos c30] at H
     have c30b0 := decide_eq_true c30
     clear c30
     by_cases c31 : 0 ≤ (rd t246 x17_4)
     rotate_left
     ·rw [if_neg c31] at H
      exact absurd H dq20
     rw [if_pos c31] at H
     have c31b0 := decide_eq_true c31
     clear c31
     by_cases c32 : (rd t246 x17_4) < (l0.length : Int)
     rotate_left
     ·rw [if_neg c32] at H
      exact absurd H dq20
     rw [if_pos c32] at H
     have c32b0 := decide_eq_true c32
     clear c32
     by_cases c33 : 0 ≤ x13_2
     rotate_left
     ·rw [if_neg c33] at H
      exact absurd H dq20
     rw [if_pos c33] at H
     have c33b0 := decide_eq_true c33
     clear c33
     by_cases c34 : x13_2 < (t226.length : Int)
     rotate_left
     ·rw [if_neg c34] at H
      exact absurd H dq20
     rw [if_pos c34] at H
     have c34b0 := decide_eq_true c34
     clear c34
     by_cases c35 : ((rd_T65 l0 (rd t246 x17_4)).f1).toList = (rdOf ByteArray.empty t226 x13_2).toList
     rotate_left
     ·rw [if_neg c35] at H
      have c35b0 := beq_eq_false_iff_ne.mpr c35
      have c35b1 := bne_iff_ne.mpr c35
      have H' := Aside0.mk H
      clear H
      obtain ⟨Ao39, co39, eo39⟩ := Kd.R_slice HO_16.out
      subst eo39
      have p249 : 0 ≤ (x17_4 : Int) := of_decide_eq_true dq18
      have q249 : x17_4 < (t246.length : Int) := of_decide_eq_true dq18
      obtain ⟨ad249, e249, hx249_0⟩ := Kd.at_int (Kd.R_reads' HO_16.out).2.2 x17_4 p249 q249
      cases e249
      replace p249 := eq_true p249
      replace q249 := eq_true q249
      have p250 : 0 ≤ ((rd t246 x17_4) : Int) := of_decide_eq_true dq18
      have q250 : (rd t246 x17_4) < (l0.length : Int) := of_decide_eq_true dq18
      obtain ⟨ad250, A250_3, c250_3, e250, hx250_0, hx250_1, hx250_2, hx250_3, hl250_3, hi250_3⟩ := at_T65 (Kd.V_reads' HO_0.out).2.2 (rd t246 x17_4) p250 q250
      cases e250
      obtain ⟨ce250, hce250, hMe250, hcc250⟩ := Kd.V_get HO_0.out z65 (rd t246 x17_4) p250 dq52
      obtain ⟨ua250_3, uc250_3, rfl, ul250_3, ge250_3⟩ := k65_openF hMe250
      have hv250_3 := hcc250 3 _ rfl
      rw [add_field _ _ 3 dq23] at hv250_3
      replace hv250_3 := Option.some.inj (hv250_3.symm.trans hx250_3)
      injection hv250_3 with hva_ hvn_ hvc_
      rw [hva_] at ge250_3
      rw [hvc_] at ul250_3
      have HL250_3 := Aside0.mk (show Kd.V k67 67 _ w.heap.size _ _ ((rd_T65 l0 (rd t246 x17_4)).f3) from Kd.V_mk ul250_3 ge250_3)
      clear hva_ hvn_ hvc_ ge250_3 ul250_3
      clear hcc250 hce250
      have HR250_3 := Aside0.mk hi250_3
      have HC250_3 := Aside0.mk hl250_3
      clear hi250_3 hl250_3
      replace p250 := eq_true p250
      replace q250 := eq_true q250
      have p251 : 0 ≤ (x13_2 : Int) := of_decide_eq_true dq18
      have q251 : x13_2 < (t226.length : Int) := of_decide_eq_true dq18
      obtain ⟨ad251, e251, hx251_0⟩ := Kd.at_string (Kd.R_reads' HO_7.out).2.2 x13_2 p251 q251
      cases e251
      replace p251 := eq_true p251
      replace q251 := eq_true q251
      go_wp2
      repeat (go_quiet (fail); try go_wp2)
      go_roundg k4
      case measure => have := HJ4.out; have := HK2.out; have := HK3.out; have := HK4.out; omega
      case rel => exact ⟨(x14_4), (wrap64 (x17_4 + 1)), dq17, H', ⟨dq53⟩, ⟨dq49⟩, ⟨dq48⟩, ⟨dq47⟩, ⟨dq51⟩, ⟨by (with_reducible repeat (first | apply Kd.R_alloc | apply Kd.R_drewN | apply Kd.R_drew)); exact HO_16.out⟩, ⟨dq25⟩⟩
     rw [if_pos c35] at H
     have c35b0 := beq_iff_eq.mpr c35
     have c35b1 := bne_eq_false_iff_eq.mpr c35
     clear c35
     by_cases c36 : x14_4.length < 17592186044416
     rotate_left
     ·rw [if_neg c36] at H
      exact absurd H dq20
     rw [if_pos c36] at H
     have LMc36 := Aside0.mk c36
     clear c36
     obtain ⟨y253, hy253⟩ : ∃ y_ : List Int, y_ = (x14_4 ++ [rd t246 x17_4]) := ⟨_, rfl⟩
     replace H : (spec_l11Select.l4 k4 l0 t226 x10_2 x13_2 y253 x15_3 t246 (wrap64 (x17_4 + 1))) = some r := by first | (rw [hy253]; with_reducible exact H) | (have H2_ := (Option.bind_some _ _).symm.trans H; rw [hy253]; with_reducible exact H2_) | (have H2_ := (Option.bind_some _ _).symm.trans H; with_reducible exact H2_) | with_reducible exact H | (rw [hy253]; exact H) | exact H
     have Ny253 := Aside0.mk hy253
     clear hy253
     have H' := Aside0.mk H
     clear H
     obtain ⟨Ao37, co37, eo37⟩ := Kd.R_slice HO_16.out
     subst eo37
     have p249 : 0 ≤ (x17_4 : Int) := of_decide_eq_true dq18
     have q249 : x17_4 < (t246.length : Int) := of_decide_eq_true dq18
     obtain ⟨ad249, e249, hx249_0⟩ := Kd.at_int (Kd.R_reads' HO_16.out).2.2 x17_4 p249 q249
     cases e249
     replace p249 := eq_true p249
     replace q249 := eq_true q249
     have p250 : 0 ≤ ((rd t246 x17_4) : Int) := of_decide_eq_true dq18
     have q250 : (rd t246 x17_4) < (l0.length : Int) := of_decide_eq_true dq18
     obtain ⟨ad250, A250_3, c250_3, e250, hx250_0, hx250_1, hx250_2, hx250_3, hl250_3, hi250_3⟩ := at_T65 (Kd.V_reads' HO_0.out).2.2 (rd t246 x17_4) p250 q250
     cases e250
     obtain ⟨ce250, hce250, hMe250, hcc250⟩ := Kd.V_get HO_0.out z65 (rd t246 x17_4) p250 dq52
     obtain ⟨ua250_3, uc250_3, rfl, ul250_3, ge250_3⟩ := k65_openF hMe250
     have hv250_3 := hcc250 3 _ rfl
     rw [add_field _ _ 3 dq23] at hv250_3
     replace hv250_3 := Option.some.inj (hv250_3.symm.trans hx250_3)
     injection hv250_3 with hva_ hvn_ hvc_
     rw [hva_] at ge250_3
     rw [hvc_] at ul250_3
     have HL250_3 := Aside0.mk (show Kd.V k67 67 _ w.heap.size _ _ ((rd_T65 l0 (rd t246 x17_4)).f3) from Kd.V_mk ul250_3 ge250_3)
     clear hva_ hvn_ hvc_ ge250_3 ul250_3
     clear hcc250 hce250
     have HR250_3 := Aside0.mk hi250_3
     have HC250_3 := Aside0.mk hl250_3
     clear hi250_3 hl250_3
     replace p250 := eq_true p250
     replace q250 := eq_true q250
     have p251 : 0 ≤ (x13_2 : Int) := of_decide_eq_true dq18
     have q251 : x13_2 < (t226.length : Int) := of_decide_eq_true dq18
     obtain ⟨ad251, e251, hx251_0⟩ := Kd.at_string (Kd.R_reads' HO_7.out).2.2 x13_2 p251 q251
     cases e251
     replace p251 := eq_true p251
     replace q251 := eq_true q251
     have p252 : 0 ≤ (x17_4 : Int) := of_decide_eq_true dq18
     have q252 : x17_4 < (t246.length : Int) := of_decide_eq_true dq18
     obtain ⟨ad252, e252, hx252_0⟩ := Kd.at_int (Kd.R_reads' HO_16.out).2.2 x17_4 p252 q252
     obtain rfl : ad249 = ad252 := (by injection e252)
     replace p252 := eq_true p252
     replace q252 := eq_true q252
     go_wp2_with (fail)
     repeat (go_quiet (fail); try go_wp2_with (first | ((with_reducible refine gate_builtin (b := .append) (xs := #[.tmp 97, .tmp 102]) rfl ?_); at_builtin; refine Kd.R_append (Kd.int .i64) (w0 := w) w.heap.size rfl (.tmp 97) (.tmp 102) 47 2 (.int .i64 0) 8 rfl Tryz.underlying47 info2 rfl dq29 dq23 u14 x14_4 (rd t246 x17_4) [.int .i64 (rd t246 x17_4)] (fun k_ => (w.heap.size ≤ k_) ∧ some k_ ≠ (.slice (some ad245) x10_2.length co27 : Value).ownBlock ∧ some k_ ≠ (.slice (some ad249) t246.length co37 : Value).ownBlock) (fun _ => False) rfl rfl ?aP (fun _ hk => hk.elim) ?aF ?aO ?aB ?aS ?aL ?_; (case aP => exact rfl); (case aB => exact dq25); (case aF => exact (fun k_ hk => ⟨(Nat.le_trans (below_size dq25) hk), Kd.fresh' (Kd.R_lt dq47) k_ hk, Kd.fresh' (Kd.R_lt (by (with_reducible repeat (first | apply Kd.R_alloc | apply Kd.R_drewN | apply Kd.R_drew)); exact HO_16.out)) k_ hk⟩)); (case aO => exact dq51); (case aS => exact (below_size dq25)); (case aL => have := LMc36.out; omega); intro v254 w38 ho hb hg hat; rw [← Ny253.out] at ho; have n0_ := Aside0.mk (Kd.V_afterv (ok := (fun k_ => (P0_ k_ ∨ w.heap.size ≤ k_) ∧ some k_ ≠ (.slice (some ad251) t226.length co21 : Value).ownBlock ∧ some k_ ≠ (.slice (some ad245) x10_2.length co27 : Value).ownBlock ∧ some k_ ≠ (.slice (some ad249) t246.length co37 : Value).ownBlock)) (by (with_reducible repeat (first | apply Kd.V_alloc | apply Kd.V_drewN | apply Kd.V_drew)); exact Kd.V_mono HO_0.out (fun _ hk => ⟨⟨hk.1, ⟨hk.2.1, ⟨hk.2.2.1, hk.2.2.2.2⟩⟩⟩, hk.2.2.2.1⟩)) hg hat); have n1_ := Aside0.mk (Kd.R_over' dq48 (Kd.R_typed dq51) dq29 hg); have n2_ := Aside0.mk (Kd.R_after (ok := (fun k_ => (w.heap.size ≤ k_) ∧ some k_ ≠ (.slice (some ad249) t246.length co37 : Value).ownBlock)) (by (with_reducible repeat (first | apply Kd.R_alloc | apply Kd.R_drewN | apply Kd.R_drew)); exact Kd.R_mono HO_10.out (fun _ hk => ⟨⟨hk.1, hk.2.2⟩, hk.2.1⟩)) hg hat); have n3_ := Aside0.mk (Kd.R_after (ok := (fun k_ => (w.heap.size ≤ k_) ∧ some k_ ≠ (.slice (some ad245) x10_2.length co27 : Value).ownBlock)) (by (with_reducible repeat (first | apply Kd.R_alloc | apply Kd.R_drewN | apply Kd.R_drew)); exact Kd.R_mono HO_16.out (fun _ hk => ⟨⟨hk.1, hk.2.1⟩, hk.2.2⟩)) hg hat); have n4_ := Aside0.mk (Kd.V_afterv (ok := (fun k_ => (P0_ k_ ∨ w.heap.size ≤ k_) ∧ some k_ ≠ (.slice (some ad251) t226.length co21 : Value).ownBlock ∧ some k_ ≠ (.slice (some ad245) x10_2.length co27 : Value).ownBlock ∧ some k_ ≠ (.slice (some ad249) t246.length co37 : Value).ownBlock)) (by (with_reducible repeat (first | apply Kd.V_alloc | apply Kd.V_drewN | apply Kd.V_drew)); exact Kd.V_mono HL250_3.out (fun _ hk => ⟨⟨hk.1, ⟨hk.2.1, ⟨hk.2.2.1, hk.2.2.2.2⟩⟩⟩, hk.2.2.2.1⟩)) hg hat); have n5_ := Aside0.mk (hb); have n6_ := Aside0.mk (ho); clear HO_0; clear HO_7; clear HO_10; clear HO_16; clear HL250_3; clear HB; clear HO_14; have HO_0 := n0_; have HO_7 := n1_; have HO_10 := n2_; have HO_16 := n3_; have HL250_3 := n4_; have HB := n5_; have HO255 := n6_; clear n0_ n1_ n2_ n3_ n4_ n5_ n6_; clear ho hb hg hat)))
     go_roundg k4
     case measure => have := HJ4.out; have := HK2.out; have := HK3.out; have := HK4.out; omega
     case rel => exact ⟨(y253), (wrap64 (x17_4 + 1)), dq17, H', ⟨dq53⟩, ⟨by (with_reducible repeat (first | apply Kd.V_alloc | apply Kd.V_drewN | apply Kd.V_drew)); exact Kd.V_mono HO_0.out (fun _ hk => ⟨hk.1.1, ⟨hk.1.2.1, ⟨hk.1.2.2.1, ⟨hk.2, hk.1.2.2.2⟩⟩⟩⟩)⟩, ⟨dq48⟩, ⟨by (with_reducible repeat (first | apply Kd.R_alloc | apply Kd.R_drewN | apply Kd.R_drew)); exact Kd.R_mono HO_10.out (fun _ hk => ⟨hk.1.1, ⟨hk.2, hk.1.2⟩⟩)⟩, ⟨by (with_reducible repeat (first | apply Kd.R_alloc | apply Kd.R_drewN | apply Kd.R_drew)); exact HO255.out⟩, ⟨by (with_reducible repeat (first | apply Kd.R_alloc | apply Kd.R_drewN | apply Kd.R_drew)); exact Kd.R_mono HO_16.out (fun _ hk => ⟨hk.1.1, ⟨hk.1.2, hk.2⟩⟩)⟩, ⟨dq25⟩⟩

/-! ### spec_l2Text: function 93 -/
def spec_l2Text.l0 : Nat → List (S65) → ByteArray → List Int → Int → Option (ByteArray)
 | 0, _, _, _, _ => none
 | k + 1, x0, x5, x6, x7 => if x7 < (x6.length : Int) then (if 0 ≤ x7 then (if 0 ≤ (rd x6 x7) then (if (rd x6 x7) < (x0.length : Int) then (if x5.size + ((rd_T65 x0 (rd x6 x7)).f2).size ≤ 9223372036854775807 then (spec_l2Text.l0 k x0 (x5 ++ ((rd_T65 x0 (rd x6 x7)).f2)) x6 (wrap64 (x7 + 1))) else (none)) else (none)) else (none)) else (none)) else (some x5)
def spec_l2Text.f (k : Nat) (l0 : List (S65)) (a1 : Int) : Option (ByteArray) := (spec_l2Kids.f k l0 a1).bind fun t265 => (spec_l2Text.l0 k l0 (⟨#[]⟩ : ByteArray) t265 0)
set_option maxHeartbeats 8000000 in
set_option maxRecDepth 100000 in
theorem spec_l2Text.calls (k : Nat) (A0 : Option Addr) (c0 : Nat) (l0 : List (S65)) (a1 : Int) (r : ByteArray) (w : World) (hr0 : Kd.C k65 w A0 l0.length l0) (hc0 : l0.length ≤ c0) (h : spec_l2Text.f k l0 a1 = some r) :
  Calls Tryz.prog 93 #[.slice A0 l0.length c0, .int .i64 a1] w fun e w' => e = .returned (.string r) ∧ Below w.heap.size w w' := by
 have HR0 := Aside0.mk hr0
 have HC0 := Aside0.mk hc0
 clear hr0 hc0
 have HB := Aside0.mk (Below.refl w.heap.size w)
 have H : ((spec_l2Kids.f k l0 a1).bind fun t265 => (spec_l2Text.l0 k l0 (⟨#[]⟩ : ByteArray) t265 0)) = some r := h
 clear h
 replace H := Option.bind_eq_some_iff.mp H
 obtain ⟨t265, A30, H⟩ := H
 replace H : (spec_l2Text.l0 k l0 (⟨#[]⟩ : ByteArray) t265 0) = some r := H
 have A3 := Aside0.mk A30
 clear A30
 have H' := Aside0.mk H
 clear H
 go_enter Tryz.func93, Tryz.ntmps93
 go_wp2_with (first | ((with_reducible refine gate_callee (f := 131) rfl ?_); refine goesL_ (some 10) rfl rfl Tryz.func131 dq22 rfl #[.slice A0 l0.length c0, .int .i64 a1] rfl dq21 ?_; (with_reducible refine (spec_l2Kids.calls k _ _ l0 a1 t265 _ ?side1 ?side2 A3.out).mono ?_); (case side1 => exact dq2); (case side2 => exact HC0.out); rintro e w4 ⟨v266, rfl, ho0, hb⟩; refine ⟨_, rfl, ?_⟩; have n0_ := Aside0.mk (Kd.R_lower ho0 (below_size dq25)); have n1_ := Aside0.mk (below_step dq25 hb); clear HB; have HO267 := n0_; have HB := n1_; clear n0_ n1_; (try clear hb); (try clear hb2); (try clear hk); (try clear hi); (try clear ho0)))
 go_loopg [5, 7] k (fun kq v5 v7 w' => ∃ (x5_1 : ByteArray) (x7_1 : Int), v5 = .string x5_1 ∧ v7 = .int .i64 x7_1 ∧ Aside0 (spec_l2Text.l0 kq l0 x5_1 t265 x7_1 = some r) ∧ Aside0 (kq ≤ k) ∧ Aside0 (Kd.R (Kd.int .i64) 2 w' w.heap.size (fun _ => True) v266 t265) ∧ Aside0 (Below w.heap.size w w'))
 case atStart => exact ⟨((⟨#[]⟩ : ByteArray)), (0), dq17, dq17, H', ⟨Nat.le_refl _⟩, ⟨by (with_reducible repeat (first | apply Kd.R_alloc | apply Kd.R_drewN | apply Kd.R_drew)); exact HO267.out⟩, ⟨dq25⟩⟩
 clear H'
 try clear c1
 try clear p2
 obtain ⟨x5_1, x7_1, rfl, rfl, HA, HK1, HO_6, HB⟩ := hrel
 cases gk with
 | zero => exact absurd HA.out (by simp [spec_l2Text.l0])
 | succ k1 =>
  have H := HA.out
  clear HA
  simp only [spec_l2Text.l0] at H
  by_cases c5 : x7_1 < (t265.length : Int)
  rotate_left
  ·rw [if_neg c5] at H
   have c5b0 := decide_eq_false c5
   clear c5
   obtain rfl := Option.some.inj H
   obtain ⟨Ao11, co11, eo11⟩ := Kd.R_slice HO_6.out
   subst eo11
   go_wp2
   go_ret
   exact ⟨dq27, dq25⟩
  rw [if_pos c5] at H
  have c5b0 := decide_eq_true c5
  clear c5
  by_cases c6 : 0 ≤ x7_1
  rotate_left
  ·rw [if_neg c6] at H
   exact absurd H dq20
  rw [if_pos c6] at H
  have c6b0 := decide_eq_true c6
  clear c6
  by_cases c7 : 0 ≤ (rd t265 x7_1)
  rotate_left
  ·rw [if_neg c7] at H
   exact absurd H dq20
  rw [if_pos c7] at H
  have c7b0 := decide_eq_true c7
  clear c7
  by_cases c8 : (rd t265 x7_1) < (l0.length : Int)
  rotate_left
  ·rw [if_neg c8] at H
   exact absurd H dq20
  rw [if_pos c8] at H
  have c8b0 := decide_eq_true c8
  clear c8
  by_cases c9 : x5_1.size + ((rd_T65 l0 (rd t265 x7_1)).f2).size ≤ 9223372036854775807
  rotate_left
  ·rw [if_neg c9] at H
   exact absurd H dq20
  rw [if_pos c9] at H
  have c9b0 := eq_true c9
  have c9b1 := decide_eq_true c9
  try have c9b2 : (9223372036854775807 < x5_1.size + ((rd_T65 l0 (rd t265 x7_1)).f2).size) = False := eq_false (Nat.not_lt.2 c9)
  have H' := Aside0.mk H
  clear H
  obtain ⟨Ao10, co10, eo10⟩ := Kd.R_slice HO_6.out
  subst eo10
  have p268 : 0 ≤ (x7_1 : Int) := of_decide_eq_true dq18
  have q268 : x7_1 < (t265.length : Int) := of_decide_eq_true dq18
  obtain ⟨ad268, e268, hx268_0⟩ := Kd.at_int (Kd.R_reads' HO_6.out).2.2 x7_1 p268 q268
  cases e268
  replace p268 := eq_true p268
  replace q268 := eq_true q268
  have p269 : 0 ≤ ((rd t265 x7_1) : Int) := of_decide_eq_true dq18
  have q269 : (rd t265 x7_1) < (l0.length : Int) := of_decide_eq_true dq18
  obtain ⟨ad269, A269_3, c269_3, e269, hx269_0, hx269_1, hx269_2, hx269_3, hl269_3, hi269_3⟩ := at_T65 HR0.out (rd t265 x7_1) p269 q269
  cases e269
  replace hx269_0 := (HB.out.cell (World.block_lt_of_cell? w _ hx269_0)).trans hx269_0
  replace hx269_1 := (HB.out.cell (World.block_lt_of_cell? w _ hx269_1)).trans hx269_1
  replace hx269_2 := (HB.out.cell (World.block_lt_of_cell? w _ hx269_2)).trans hx269_2
  replace hx269_3 := (HB.out.cell (World.block_lt_of_cell? w _ hx269_3)).trans hx269_3
  have HR269_3 := Aside0.mk hi269_3
  have HC269_3 := Aside0.mk hl269_3
  clear hi269_3 hl269_3
  replace p269 := eq_true p269
  replace q269 := eq_true q269
  go_wp2
  go_roundg k1
  case measure => have := HK1.out; omega
  case rel => exact ⟨(x5_1 ++ ((rd_T65 l0 (rd t265 x7_1)).f2)), (wrap64 (x7_1 + 1)), dq17, dq17, H', ⟨dq19⟩, ⟨dq37⟩, ⟨dq25⟩⟩

/-! ### spec_l7Blank: function 133 -/
def spec_l7Blank.f (a0 : Int) : Option (Bool) := if a0 = 32 then (some true) else (if a0 = 9 then (some true) else (if a0 = 10 then (some true) else (some (a0 == 13))))
set_option maxHeartbeats 8000000 in
set_option maxRecDepth 100000 in
theorem spec_l7Blank.calls (a0 : Int) (r : Bool) (w : World) (h : spec_l7Blank.f a0 = some r) :
  Calls Tryz.prog 133 #[.int .u8 a0] w fun e w' => e = .returned (.bool r) ∧ Drawn0 w w' := by
 have H : (if a0 = 32 then (some true) else (if a0 = 9 then (some true) else (if a0 = 10 then (some true) else (some (a0 == 13))))) = some r := h
 clear h
 by_cases c2 : a0 = 32
 ·rw [if_pos c2] at H
  have c2b0 := beq_iff_eq.mpr c2
  have c2b1 := bne_eq_false_iff_eq.mpr c2
  clear c2
  obtain rfl := Option.some.inj H
  go_enter Tryz.func133, Tryz.ntmps133
  go_wp2
  go_ret
  exact ⟨dq17, dq16⟩
 rw [if_neg c2] at H
 have c2b0 := beq_eq_false_iff_ne.mpr c2
 have c2b1 := bne_iff_ne.mpr c2
 by_cases c3 : a0 = 9
 ·rw [if_pos c3] at H
  have c3b0 := beq_iff_eq.mpr c3
  have c3b1 := bne_eq_false_iff_eq.mpr c3
  clear c3
  obtain rfl := Option.some.inj H
  go_enter Tryz.func133, Tryz.ntmps133
  go_wp2
  go_ret
  exact ⟨dq17, dq16⟩
 rw [if_neg c3] at H
 have c3b0 := beq_eq_false_iff_ne.mpr c3
 have c3b1 := bne_iff_ne.mpr c3
 by_cases c4 : a0 = 10
 rotate_left
 ·rw [if_neg c4] at H
  have c4b0 := beq_eq_false_iff_ne.mpr c4
  have c4b1 := bne_iff_ne.mpr c4
  obtain rfl := Option.some.inj H
  go_enter Tryz.func133, Tryz.ntmps133
  go_wp2
  go_ret
  exact ⟨dq17, dq16⟩
 rw [if_pos c4] at H
 have c4b0 := beq_iff_eq.mpr c4
 have c4b1 := bne_eq_false_iff_eq.mpr c4
 clear c4
 obtain rfl := Option.some.inj H
 go_enter Tryz.func133, Tryz.ntmps133
 go_wp2
 go_ret
 exact ⟨dq17, dq16⟩

/-! ### spec_l7Words: function 135 -/
mutual
def spec_l7Words.l0 : Nat → ByteArray → List ByteArray → ByteArray → Int → Option (List ByteArray)
 | 0, _, _, _, _ => none
 | k + 1, x0, x3, x4, x5 => if x5 ≤ (x0.size : Int) then (if x5 < (x0.size : Int) then (if 0 ≤ x5 then ((spec_l7Blank.f (bt x0 x5)).bind fun t259 => (spec_l7Words.j1 k x0 x3 x4 x5 (!t259))) else (none)) else (spec_l7Words.j1 k x0 x3 x4 x5 false)) else (some x3)
def spec_l7Words.j1 : Nat → ByteArray → List ByteArray → ByteArray → Int → Bool → Option (List ByteArray)
 | 0, _, _, _, _, _ => none
 | k + 1, x0, x3, x4, x5, x23 => if x23 = true then (if 0 ≤ x5 then (if x5 ≤ (wrap64 (x5 + 1)) then (if (wrap64 (x5 + 1)) ≤ (x0.size : Int) then (if x4.size + (x0.extract (x5 : Int).toNat ((wrap64 (x5 + 1)) : Int).toNat).size ≤ 9223372036854775807 then (spec_l7Words.l0 k x0 x3 (x4 ++ (x0.extract (x5 : Int).toNat ((wrap64 (x5 + 1)) : Int).toNat)) (wrap64 (x5 + 1))) else (none)) else (none)) else (none)) else (none)) else (if x4.toList = ([] : List UInt8) then (spec_l7Words.l0 k x0 x3 (⟨#[]⟩ : ByteArray) (wrap64 (x5 + 1))) else (if x3.length < 8796093022208 then (spec_l7Words.l0 k x0 (x3 ++ [x4]) (⟨#[]⟩ : ByteArray) (wrap64 (x5 + 1))) else (none)))
end
def spec_l7Words.f (k : Nat) (a0 : ByteArray) : Option (List ByteArray) := spec_l7Words.l0 k a0 (([] : List ByteArray)) (⟨#[]⟩ : ByteArray) 0
set_option maxHeartbeats 8000000 in
set_option maxRecDepth 100000 in
theorem spec_l7Words.calls (k : Nat) (a0 : ByteArray) (r : List ByteArray) (w : World) (h : spec_l7Words.f k a0 = some r) :
  Calls Tryz.prog 135 #[.string a0] w fun e w' => ∃ v0_ : Value, e = .returned (v0_) ∧ Kd.R Kd.string 9 w' w.heap.size (fun _ => True) v0_ r ∧ Below w.heap.size w w' := by
 have HB := Aside0.mk (Below.refl w.heap.size w)
 have H : (spec_l7Words.l0 k a0 (([] : List ByteArray)) (⟨#[]⟩ : ByteArray) 0) = some r := h
 clear h
 obtain ⟨y256, hy256⟩ : ∃ y_ : List ByteArray, y_ = (([] : List ByteArray)) := ⟨_, rfl⟩
 replace H : (spec_l7Words.l0 k a0 y256 (⟨#[]⟩ : ByteArray) 0) = some r := by first | (rw [hy256]; with_reducible exact H) | (have H2_ := (Option.bind_some _ _).symm.trans H; rw [hy256]; with_reducible exact H2_) | (have H2_ := (Option.bind_some _ _).symm.trans H; with_reducible exact H2_) | with_reducible exact H | (rw [hy256]; exact H) | exact H
 have Ny256 := Aside0.mk hy256
 clear hy256
 have H' := Aside0.mk H
 clear H
 go_enter Tryz.func135, Tryz.ntmps135
 go_wp2_with (first | ((with_reducible refine gate_dst (N := 6) rfl ?_); refine Kd.R_lit Kd.string _ 9 ?hg (N := 6) ?hd (xs := ([] : List ByteArray)) (inner := []) (ok := fun _ => True) (okp := fun _ => True) ?hr ?hp (fun _ hk => hk) trivial (Below.refl _ _) (Nat.le_refl _) dq20 ?_; (case hd => rfl); (case hg => rfl); (case hr => exact dq0); (case hp => exact (Reps.none _ _)); intro v257 w2 ho3 hb hg_ hnew_; clear hg_ hnew_; (first | rw [← Ny256.out] at ho3 | (simp only [Int.reduceToNat] at ho3; rw [← Ny256.out] at ho3)); have n0_ := Aside0.mk (Kd.R_lower ho3 (below_size dq25)); have n1_ := Aside0.mk (below_step dq25 hb); clear HB; have HO258 := n0_; have HB := n1_; clear n0_ n1_; clear hb ho3))
 go_loopg [3, 4, 5] k (fun kq v3 v4 v5 w' => ∃ (x3_1 : List ByteArray) (x4_1 : ByteArray) (x5_1 : Int), v4 = .string x4_1 ∧ v5 = .int .i64 x5_1 ∧ Aside0 (spec_l7Words.l0 kq a0 x3_1 x4_1 x5_1 = some r) ∧ Aside0 (kq ≤ k) ∧ Aside0 (Kd.R Kd.string 9 w' w.heap.size (fun _ => True) v3 x3_1) ∧ Aside0 (Below w.heap.size w w'))
 case atStart => exact ⟨(y256), ((⟨#[]⟩ : ByteArray)), (0), dq17, dq17, H', ⟨Nat.le_refl _⟩, ⟨by (with_reducible repeat (first | apply Kd.R_alloc | apply Kd.R_drewN | apply Kd.R_drew)); exact HO258.out⟩, ⟨dq25⟩⟩
 clear H'
 obtain ⟨x3_1, x4_1, x5_1, rfl, rfl, HA, HK1, HO_3, HB⟩ := hrel
 cases gk with
 | zero => exact absurd HA.out (by simp [spec_l7Words.l0])
 | succ k1 =>
  have H := HA.out
  clear HA
  simp only [spec_l7Words.l0] at H
  by_cases c4 : x5_1 ≤ (a0.size : Int)
  rotate_left
  ·rw [if_neg c4] at H
   have c4b0 := decide_eq_false c4
   clear c4
   obtain rfl := Option.some.inj H
   go_wp2
   go_ret
   exact ⟨_, dq27, dq30, dq25⟩
  rw [if_pos c4] at H
  have c4b0 := decide_eq_true c4
  clear c4
  have HC5 := Aside0.mk H
  clear H
  go_upto_region 6 with (fail)
  go_cut [23] (fun v23 wc => ∃ (kq : Nat) (x23_4 : Bool), v23 = .bool x23_4 ∧ Aside0 (spec_l7Words.j1 kq a0 x3_1 x4_1 x5_1 x23_4 = some r) ∧ Aside0 (kq ≤ k1) ∧ Aside0 (Kd.R Kd.string 9 wc w.heap.size (fun _ => True) u3 x3_1) ∧ Aside0 (Below w.heap.size w wc))
  case first =>
   have H := HC5.out
   clear HC5
   by_cases c6 : x5_1 < (a0.size : Int)
   rotate_left
   ·rw [if_neg c6] at H
    have c6b0 := decide_eq_false c6
    clear c6
    (first | rw [c6b0] | (simp only [i64_w, i32_w]; rw [c6b0]) | skip)
    have H' := Aside0.mk H
    clear H
    go_wp2
    go_meet
    case rel => exact ⟨_, (false), dq17, H', ⟨dq31⟩, ⟨dq30⟩, ⟨dq25⟩⟩
   rw [if_pos c6] at H
   have c6b0 := decide_eq_true c6
   clear c6
   (first | rw [c6b0] | (simp only [i64_w, i32_w]; rw [c6b0]) | skip)
   by_cases c7 : 0 ≤ x5_1
   rotate_left
   ·rw [if_neg c7] at H
    exact absurd H dq20
   rw [if_pos c7] at H
   have c7b0 := decide_eq_true c7
   clear c7
   replace H := Option.bind_eq_some_iff.mp H
   obtain ⟨t259, A90, H⟩ := H
   replace H : (spec_l7Words.j1 k1 a0 x3_1 x4_1 x5_1 (!t259)) = some r := H
   have A9 := Aside0.mk A90
   clear A90
   have H' := Aside0.mk H
   clear H
   have p8 : 0 ≤ (x5_1 : Int) := of_decide_eq_true dq18
   have q8 : x5_1 < (a0.size : Int) := of_decide_eq_true dq18
   have hx8 := bt_at a0 x5_1
   replace p8 := eq_true p8
   replace q8 := eq_true q8
   go_wp2_with (first | (go_at_call 133; (with_reducible refine (spec_l7Blank.calls (bt a0 x5_1) t259 _ A9.out).mono ?_); rintro e w' ⟨rfl, ⟨nd, rfl⟩⟩))
   go_meet
   case rel => exact ⟨_, (!t259), dq17, H', ⟨dq31⟩, ⟨dq30⟩, ⟨dq25⟩⟩
  clear HC5
  try clear c4b0
  obtain ⟨kq, x23_4, rfl, HA, HJ4, HO_3, HB⟩ := hcut
  cases kq with
  | zero => exact absurd HA.out (by simp [spec_l7Words.j1])
  | succ kj4 =>
   have H := HA.out
   clear HA
   simp only [spec_l7Words.j1] at H
   by_cases c10 : x23_4 = true
   ·subst c10
    have H1 : (if 0 ≤ x5_1 then (if x5_1 ≤ (wrap64 (x5_1 + 1)) then (if (wrap64 (x5_1 + 1)) ≤ (a0.size : Int) then (if x4_1.size + (a0.extract (x5_1 : Int).toNat ((wrap64 (x5_1 + 1)) : Int).toNat).size ≤ 9223372036854775807 then (spec_l7Words.l0 kj4 a0 x3_1 (x4_1 ++ (a0.extract (x5_1 : Int).toNat ((wrap64 (x5_1 + 1)) : Int).toNat)) (wrap64 (x5_1 + 1))) else (none)) else (none)) else (none)) else (none)) = some r := by rw [if_pos rfl] at H; exact H
    clear H
    have H := H1
    clear H1
    by_cases c11 : 0 ≤ x5_1
    rotate_left
    ·rw [if_neg c11] at H
     exact absurd H dq20
    rw [if_pos c11] at H
    have c11b0 := eq_true c11
    have c11b1 := decide_eq_true c11
    clear c11
    by_cases c12 : x5_1 ≤ (wrap64 (x5_1 + 1))
    rotate_left
    ·rw [if_neg c12] at H
     exact absurd H dq20
    rw [if_pos c12] at H
    have c12b0 := eq_true c12
    have c12b1 := decide_eq_true c12
    by_cases c13 : (wrap64 (x5_1 + 1)) ≤ (a0.size : Int)
    rotate_left
    ·rw [if_neg c13] at H
     exact absurd H dq20
    rw [if_pos c13] at H
    have c13b0 := eq_true c13
    have c13b1 := decide_eq_true c13
    by_cases c14 : x4_1.size + (a0.extract (x5_1 : Int).toNat ((wrap64 (x5_1 + 1)) : Int).toNat).size ≤ 9223372036854775807
    rotate_left
    ·rw [if_neg c14] at H
     exact absurd H dq20
    rw [if_pos c14] at H
    have c14b0 := eq_true c14
    have c14b1 := decide_eq_true c14
    try have c14b2 : (9223372036854775807 < x4_1.size + (a0.extract (x5_1 : Int).toNat ((wrap64 (x5_1 + 1)) : Int).toNat).size) = False := eq_false (Nat.not_lt.2 c14)
    have H' := Aside0.mk H
    clear H
    go_wp2
    go_roundg kj4
    case measure => have := HK1.out; have := HJ4.out; omega
    case rel => exact ⟨(x3_1), (x4_1 ++ (a0.extract (x5_1 : Int).toNat ((wrap64 (x5_1 + 1)) : Int).toNat)), (wrap64 (x5_1 + 1)), dq17, dq17, H', ⟨by have := HK1.out; have := HJ4.out; omega⟩, ⟨dq30⟩, ⟨dq25⟩⟩
   replace c10 := Bool.eq_false_iff.mpr c10
   subst c10
   have H1 : (if x4_1.toList = ([] : List UInt8) then (spec_l7Words.l0 kj4 a0 x3_1 (⟨#[]⟩ : ByteArray) (wrap64 (x5_1 + 1))) else (if x3_1.length < 8796093022208 then (spec_l7Words.l0 kj4 a0 (x3_1 ++ [x4_1]) (⟨#[]⟩ : ByteArray) (wrap64 (x5_1 + 1))) else (none))) = some r := by rw [if_neg (show ¬ (false = true) by decide)] at H; exact H
   clear H
   have H := H1
   clear H1
   by_cases c15 : x4_1.toList = ([] : List UInt8)
   ·rw [if_pos c15] at H
    have c15b0 := beq_iff_eq.mpr c15
    have c15b1 := bne_eq_false_iff_eq.mpr c15
    clear c15
    have H' := Aside0.mk H
    clear H
    go_wp2
    go_roundg kj4
    case measure => have := HK1.out; have := HJ4.out; omega
    case rel => exact ⟨(x3_1), ((⟨#[]⟩ : ByteArray)), (wrap64 (x5_1 + 1)), dq17, dq17, H', ⟨by have := HK1.out; have := HJ4.out; omega⟩, ⟨dq30⟩, ⟨dq25⟩⟩
   rw [if_neg c15] at H
   have c15b0 := beq_eq_false_iff_ne.mpr c15
   have c15b1 := bne_iff_ne.mpr c15
   by_cases c16 : x3_1.length < 8796093022208
   rotate_left
   ·rw [if_neg c16] at H
    exact absurd H dq20
   rw [if_pos c16] at H
   have LMc16 := Aside0.mk c16
   clear c16
   obtain ⟨y260, hy260⟩ : ∃ y_ : List ByteArray, y_ = (x3_1 ++ [x4_1]) := ⟨_, rfl⟩
   replace H : (spec_l7Words.l0 kj4 a0 y260 (⟨#[]⟩ : ByteArray) (wrap64 (x5_1 + 1))) = some r := by first | (rw [hy260]; with_reducible exact H) | (have H2_ := (Option.bind_some _ _).symm.trans H; rw [hy260]; with_reducible exact H2_) | (have H2_ := (Option.bind_some _ _).symm.trans H; with_reducible exact H2_) | with_reducible exact H | (rw [hy260]; exact H) | exact H
   have Ny260 := Aside0.mk hy260
   clear hy260
   have H' := Aside0.mk H
   clear H
   go_wp2_with (first | ((with_reducible refine gate_builtin (b := .append) (xs := #[.tmp 33, .tmp 35]) rfl ?_); at_builtin; refine Kd.R_append Kd.string (w0 := w) w.heap.size rfl (.tmp 33) (.tmp 35) 30 9 (.string ⟨#[]⟩) 16 rfl Tryz.underlying30 info9 rfl dq29 dq23 u3 x3_1 x4_1 [.string x4_1] (fun _ => True) (fun _ => False) rfl rfl ?aP (fun _ hk => hk.elim) ?aF ?aO ?aB ?aS ?aL ?_; (case aP => exact rfl); (case aB => exact dq25); (case aF => exact (fun _ _ => trivial)); (case aO => exact dq30); (case aS => exact (below_size dq25)); (case aL => have := LMc16.out; omega); intro v261 w17 ho hb hg hat; rw [← Ny260.out] at ho; have n0_ := Aside0.mk (hb); have n1_ := Aside0.mk (ho); clear HB; clear HO_3; have HB := n0_; have HO262 := n1_; clear n0_ n1_; clear ho hb hg hat))
   go_roundg kj4
   case measure => have := HK1.out; have := HJ4.out; omega
   case rel => exact ⟨(y260), ((⟨#[]⟩ : ByteArray)), (wrap64 (x5_1 + 1)), dq17, dq17, H', ⟨by have := HK1.out; have := HJ4.out; omega⟩, ⟨by (with_reducible repeat (first | apply Kd.R_alloc | apply Kd.R_drewN | apply Kd.R_drew)); exact HO262.out⟩, ⟨dq25⟩⟩

/-! ### spec_l7Join: function 134 -/
def spec_l7Join.l0 : Nat → List ByteArray → ByteArray → Int → Option (ByteArray)
 | 0, _, _, _ => none
 | k + 1, x0, x3, x4 => if x4 < (x0.length : Int) then (if x4 > 0 then (if x3.size + 1 ≤ 9223372036854775807 then (if 0 ≤ x4 then (if (x3 ++ (⟨#[32]⟩ : ByteArray)).size + (rdOf ByteArray.empty x0 x4).size ≤ 9223372036854775807 then (spec_l7Join.l0 k x0 ((x3 ++ (⟨#[32]⟩ : ByteArray)) ++ (rdOf ByteArray.empty x0 x4)) (wrap64 (x4 + 1))) else (none)) else (none)) else (none)) else (if 0 ≤ x4 then (if x3.size + (rdOf ByteArray.empty x0 x4).size ≤ 9223372036854775807 then (spec_l7Join.l0 k x0 (x3 ++ (rdOf ByteArray.empty x0 x4)) (wrap64 (x4 + 1))) else (none)) else (none))) else (some x3)
def spec_l7Join.f (k : Nat) (l0 : List ByteArray) : Option (ByteArray) := spec_l7Join.l0 k l0 (⟨#[]⟩ : ByteArray) 0
set_option maxHeartbeats 8000000 in
set_option maxRecDepth 100000 in
theorem spec_l7Join.calls (k : Nat) (A0 : Option Addr) (c0 : Nat) (l0 : List ByteArray) (r : ByteArray) (w : World) (hr0 : Kd.C Kd.string w A0 l0.length l0) (hc0 : l0.length ≤ c0) (h : spec_l7Join.f k l0 = some r) :
  Calls Tryz.prog 134 #[.slice A0 l0.length c0] w fun e w' => e = .returned (.string r) ∧ Drawn0 w w' := by
 have HR0 := Aside0.mk hr0
 have HC0 := Aside0.mk hc0
 clear hr0 hc0
 have H : (spec_l7Join.l0 k l0 (⟨#[]⟩ : ByteArray) 0) = some r := h
 clear h
 have H' := Aside0.mk H
 clear H
 go_enter Tryz.func134, Tryz.ntmps134
 go_wp2
 go_loopg [3, 4] k (fun kq v3 v4 w' => ∃ (x3_1 : ByteArray) (x4_1 : Int), v3 = .string x3_1 ∧ v4 = .int .i64 x4_1 ∧ Aside0 (spec_l7Join.l0 kq l0 x3_1 x4_1 = some r) ∧ Aside0 (kq ≤ k) ∧ Drawn0 w w')
 case atStart => exact ⟨((⟨#[]⟩ : ByteArray)), (0), dq17, dq17, H', ⟨Nat.le_refl _⟩, dq16⟩
 clear H'
 try clear c1
 obtain ⟨x3_1, x4_1, rfl, rfl, HA, HK1, ⟨m1, rfl⟩⟩ := hrel
 cases gk with
 | zero => exact absurd HA.out (by simp [spec_l7Join.l0])
 | succ k1 =>
  have H := HA.out
  clear HA
  simp only [spec_l7Join.l0] at H
  by_cases c2 : x4_1 < (l0.length : Int)
  rotate_left
  ·rw [if_neg c2] at H
   have c2b0 := decide_eq_false c2
   clear c2
   obtain rfl := Option.some.inj H
   go_wp2
   go_ret
   exact ⟨dq17, dq16⟩
  rw [if_pos c2] at H
  have c2b0 := decide_eq_true c2
  clear c2
  by_cases c3 : x4_1 > 0
  rotate_left
  ·rw [if_neg c3] at H
   have c3b0 : decide (0 < x4_1) = false := decide_eq_false c3
   clear c3
   by_cases c7 : 0 ≤ x4_1
   rotate_left
   ·rw [if_neg c7] at H
    exact absurd H dq20
   rw [if_pos c7] at H
   have c7b0 := decide_eq_true c7
   clear c7
   by_cases c8 : x3_1.size + (rdOf ByteArray.empty l0 x4_1).size ≤ 9223372036854775807
   rotate_left
   ·rw [if_neg c8] at H
    exact absurd H dq20
   rw [if_pos c8] at H
   have c8b0 := eq_true c8
   have c8b1 := decide_eq_true c8
   try have c8b2 : (9223372036854775807 < x3_1.size + (rdOf ByteArray.empty l0 x4_1).size) = False := eq_false (Nat.not_lt.2 c8)
   have H' := Aside0.mk H
   clear H
   have p264 : 0 ≤ (x4_1 : Int) := of_decide_eq_true dq18
   have q264 : x4_1 < (l0.length : Int) := of_decide_eq_true dq18
   obtain ⟨ad264, e264, hx264_0⟩ := Kd.at_string HR0.out x4_1 p264 q264
   cases e264
   replace p264 := eq_true p264
   replace q264 := eq_true q264
   go_wp2
   go_roundg k1
   case measure => have := HK1.out; omega
   case rel => exact ⟨(x3_1 ++ (rdOf ByteArray.empty l0 x4_1)), (wrap64 (x4_1 + 1)), dq17, dq17, H', ⟨dq19⟩, dq16⟩
  rw [if_pos c3] at H
  have c3b0 : decide (0 < x4_1) = true := decide_eq_true c3
  clear c3
  by_cases c4 : x3_1.size + 1 ≤ 9223372036854775807
  rotate_left
  ·rw [if_neg c4] at H
   exact absurd H dq20
  rw [if_pos c4] at H
  have c4b0 := eq_true c4
  have c4b1 := decide_eq_true c4
  try have c4b2 : (9223372036854775807 < x3_1.size + 1) = False := eq_false (Nat.not_lt.2 c4)
  by_cases c5 : 0 ≤ x4_1
  rotate_left
  ·rw [if_neg c5] at H
   exact absurd H dq20
  rw [if_pos c5] at H
  have c5b0 := decide_eq_true c5
  clear c5
  by_cases c6 : (x3_1 ++ (⟨#[32]⟩ : ByteArray)).size + (rdOf ByteArray.empty l0 x4_1).size ≤ 9223372036854775807
  rotate_left
  ·rw [if_neg c6] at H
   exact absurd H dq20
  rw [if_pos c6] at H
  have c6b0 := eq_true c6
  have c6b1 := decide_eq_true c6
  try have c6b2 : (9223372036854775807 < (x3_1 ++ (⟨#[32]⟩ : ByteArray)).size + (rdOf ByteArray.empty l0 x4_1).size) = False := eq_false (Nat.not_lt.2 c6)
  try have c6b9 : (9223372036854775807 < ((x3_1.size + 1) + (rdOf ByteArray.empty l0 x4_1).size)) = False := eq_false (Nat.not_lt.2 (by have h_ := c6; simp only [ByteArray.size_append] at h_; exact h_))
  have H' := Aside0.mk H
  clear H
  have p263 : 0 ≤ (x4_1 : Int) := of_decide_eq_true dq18
  have q263 : x4_1 < (l0.length : Int) := of_decide_eq_true dq18
  obtain ⟨ad263, e263, hx263_0⟩ := Kd.at_string HR0.out x4_1 p263 q263
  cases e263
  replace p263 := eq_true p263
  replace q263 := eq_true q263
  go_wp2
  go_roundg k1
  case measure => have := HK1.out; omega
  case rel => exact ⟨((x3_1 ++ (⟨#[32]⟩ : ByteArray)) ++ (rdOf ByteArray.empty l0 x4_1)), (wrap64 (x4_1 + 1)), dq17, dq17, H', ⟨dq19⟩, dq16⟩

end Go.Proofs.YtpmjpbaeecnpiaaGreatDoor.L

namespace Go.Proofs.YtpmjpbaeecnpiaaGreatDoor.L
open Go.RowKit Go.Proofs.YtpmjpbaeecnpiaaGreatDoorW.PrintWords Go.Proofs.YtpmjpbaeecnpiaaGreatDoorW.PrintLast Go.Proofs.YtpmjpbaeecnpiaaGreatDoorW.PrintMore
set_option linter.unusedVariables false
set_option linter.unusedSimpArgs false

def spec_White.f (k : Nat) (a0 : ByteArray) (a1 : Int) : Option (ByteArray) := if a1 = 2 then (spec_l7Words.f k a0).bind fun t => (spec_l7Join.f k t) else none
set_option maxHeartbeats 2000000 in
theorem spec_White.calls (k : Nat) (a0 : ByteArray) (a1 : Int) (r : ByteArray) (w : World) (h : spec_White.f k a0 a1 = some r) :
    Calls Tryz.prog 92 #[.string a0, .int .i64 a1] w fun e w' => e = .returned (.string r) ∧ Below w.heap.size w w' := by
  unfold spec_White.f at h
  by_cases c : a1 = 2
  · rw [if_pos c] at h
    subst c
    obtain ⟨t, h1, h2⟩ := Option.bind_eq_some_iff.1 h
    have H1 := Aside0.mk h1
    have H2 := Aside0.mk h2
    clear h h1 h2
    go_enter Tryz.func92, Tryz.ntmps92
    go_wp2_with fail
    refine (spec_l7Words.calls k a0 t _ H1.out).mono ?_
    rintro e w1 ⟨v0, rfl, ho, hb⟩
    obtain ⟨A, ca, rfl⟩ := Kd.R_slice ho
    have HO := Aside0.mk ho
    have HB := Aside0.mk hb
    clear ho hb
    go_wp2_with fail
    refine (spec_l7Join.calls k _ _ t r _ ?s1 ?s2 H2.out).mono ?_
    case s1 => repeat (first | exact (Kd.R_reads' HO.out).2.2 | (with_reducible refine Kd.C_alloc ?_ _) | (with_reducible refine Kd.C_drewN ?_ _) | (with_reducible refine Kd.C_drew ?_))
    case s2 => exact (Kd.R_reads' HO.out).2.1
    rintro e w2 ⟨rfl, ⟨nd, rfl⟩⟩
    go_wp2
    go_ret
    exact ⟨rfl, by repeat (first | (with_reducible first | exact HB.out | apply below_alloc | apply pw_below_drewN | apply below_drew1) | exact HB.out)⟩
  · rw [if_neg c] at h
    cases h
end Go.Proofs.YtpmjpbaeecnpiaaGreatDoor.L

namespace Go.Proofs.YtpmjpbaeecnpiaaGreatDoor.L
open Go.RowKit Go.Proofs.YtpmjpbaeecnpiaaGreatDoorW.PrintWords Go.Proofs.YtpmjpbaeecnpiaaGreatDoorW.PrintLast Go.Proofs.YtpmjpbaeecnpiaaGreatDoorW.PrintMore
attribute [local go_sem] max2_int min2_int max_two min_two max_three min_three max_four min_four
set_option linter.unusedVariables false
set_option linter.unusedSimpArgs false

theorem bne_nilE26 (l : List UInt8) : (l != ([] : List UInt8)) = !l.isEmpty := by cases l <;> rfl
/-! ### spec_l11Value: function 48 -/
mutual
def spec_l11Value.j0 : Nat → List (S65) → ByteArray → List Int → Option (ByteArray × Int)
 | 0, _, _, _ => none
 | k + 1, x0, x9, x11 => spec_l11Value.l0 k x0 x9 x11 (⟨#[]⟩ : ByteArray) 0 0
def spec_l11Value.l0 : Nat → List (S65) → ByteArray → List Int → ByteArray → Int → Int → Option (ByteArray × Int)
 | 0, _, _, _, _, _, _ => none
 | k + 1, x0, x9, x11, x12, x13, x14 => if x14 < (x11.length : Int) then (if x9.toList = ([] : List UInt8) then (if 0 ≤ x14 then ((spec_l2Text.f k x0 (rd x11 x14)).bind fun t280 => ((spec_White.f k t280 2).bind fun t281 => (spec_l11Value.l0 k x0 x9 x11 t281 (wrap64 (x13 + 1)) (wrap64 (x14 + 1))))) else (none)) else (spec_l11Value.l1 k x0 x9 x11 x12 x13 x14 0)) else (if x13 = 1 then (some (x12, 1)) else (some ((⟨#[]⟩ : ByteArray), x13)))
def spec_l11Value.l1 : Nat → List (S65) → ByteArray → List Int → ByteArray → Int → Int → Int → Option (ByteArray × Int)
 | 0, _, _, _, _, _, _, _ => none
 | k + 1, x0, x9, x11, x12, x13, x14, x15 => if 0 ≤ x14 then (if x14 < (x11.length : Int) then (if 0 ≤ (rd x11 x14) then (if (rd x11 x14) < (x0.length : Int) then (if x15 < (((rd_T65 x0 (rd x11 x14)).f3).length : Int) then (if 0 ≤ x15 then (if ((rd_T67 ((rd_T65 x0 (rd x11 x14)).f3) x15).f0).toList = x9.toList then ((spec_White.f k ((rd_T67 ((rd_T65 x0 (rd x11 x14)).f3) x15).f1) 2).bind fun t290 => (spec_l11Value.l1 k x0 x9 x11 t290 (wrap64 (x13 + 1)) x14 (wrap64 (x15 + 1)))) else (spec_l11Value.l1 k x0 x9 x11 x12 x13 x14 (wrap64 (x15 + 1)))) else (none)) else (spec_l11Value.l0 k x0 x9 x11 x12 x13 (wrap64 (x14 + 1)))) else (none)) else (none)) else (none)) else (none)
end
def spec_l11Value.f (k : Nat) (l0 : List (S65)) (a1 : Int) (a2 : ByteArray) : Option (ByteArray × Int) := (spec_l11Field.f k a2).bind fun bt270 => (if bt270.1.toList = ([] : List UInt8) then (spec_l11Value.j0 k l0 bt270.2.1 (([a1] : List Int))) else ((spec_l11Select.f k l0 a1 bt270.1).bind fun t276 => (spec_l11Value.j0 k l0 bt270.2.1 t276)))
set_option maxHeartbeats 8000000 in
set_option maxRecDepth 100000 in
theorem spec_l11Value.calls (k : Nat) (A0 : Option Addr) (c0 : Nat) (l0 : List (S65)) (a1 : Int) (a2 : ByteArray) (r1 : ByteArray) (r2 : Int) (w : World) (hr0 : Kd.C k65 w A0 l0.length l0) (hc0 : l0.length ≤ c0) (h : spec_l11Value.f k l0 a1 a2 = some (r1, r2)) :
  Calls Tryz.prog 48 #[.slice A0 l0.length c0, .int .i64 a1, .string a2] w fun e w' => e = .returned (.tuple #[.string r1, .int .i64 r2]) ∧ Below w.heap.size w w' := by
 have HR0 := Aside0.mk hr0
 have HC0 := Aside0.mk hc0
 clear hr0 hc0
 have HB := Aside0.mk (Below.refl w.heap.size w)
 have H : ((spec_l11Field.f k a2).bind fun bt270 => (if bt270.1.toList = ([] : List UInt8) then (spec_l11Value.j0 k l0 bt270.2.1 (([a1] : List Int))) else ((spec_l11Select.f k l0 a1 bt270.1).bind fun t276 => (spec_l11Value.j0 k l0 bt270.2.1 t276)))) = some (r1, r2) := h
 clear h
 replace H := Option.bind_eq_some_iff.mp H
 obtain ⟨⟨t270, t271, t272⟩, A40, H⟩ := H
 replace H : (if t270.toList = ([] : List UInt8) then (spec_l11Value.j0 k l0 t271 (([a1] : List Int))) else ((spec_l11Select.f k l0 a1 t270).bind fun t276 => (spec_l11Value.j0 k l0 t271 t276))) = some (r1, r2) := H
 have A4 := Aside0.mk A40
 clear A40
 obtain ⟨y273, hy273⟩ : ∃ y_ : List Int, y_ = (([a1] : List Int)) := ⟨_, rfl⟩
 replace H : (if t270.toList = ([] : List UInt8) then (spec_l11Value.j0 k l0 t271 y273) else ((spec_l11Select.f k l0 a1 t270).bind fun t276 => (spec_l11Value.j0 k l0 t271 t276))) = some (r1, r2) := by first | (rw [hy273]; with_reducible exact H) | (have H2_ := (Option.bind_some _ _).symm.trans H; rw [hy273]; with_reducible exact H2_) | (have H2_ := (Option.bind_some _ _).symm.trans H; with_reducible exact H2_) | with_reducible exact H | (rw [hy273]; exact H) | exact H
 have Ny273 := Aside0.mk hy273
 clear hy273
 have HC5 := Aside0.mk H
 clear H
 go_enter Tryz.func48, Tryz.ntmps48
 go_upto_if 25 with (first | ((with_reducible refine gate_callee (f := 46) rfl ?_); refine goesL_ (some 18) rfl rfl Tryz.func46 dq22 rfl #[.string a2] rfl dq21 ?_; (with_reducible refine (spec_l11Field.calls k a2 t270 t271 t272 _ A4.out).mono ?_); rintro e w6 ⟨rfl, hb⟩; refine ⟨_, rfl, ?_⟩; have n0_ := Aside0.mk (below_step dq25 hb); clear HB; have HB := n0_; clear n0_; (try clear hb); (try clear hb2); (try clear hk); (try clear hi)) | ((with_reducible refine gate_dst (N := 23) rfl ?_); refine Kd.R_lit (Kd.int .i64) _ 2 ?hg (N := 23) ?hd (xs := ([a1] : List Int)) (inner := [.int .i64 a1]) (ok := fun _ => True) (okp := fun _ => True) ?hr ?hp (fun _ hk => hk) trivial (Below.refl _ _) (Nat.le_refl _) dq20 ?_; (case hd => rfl); (case hg => rfl); (case hr => exact dq0); (case hp => exact (Reps.one (show Kd.M (Kd.int .i64) _ _ _ a1 [.int .i64 a1] from rfl) (Reps.none _ _))); intro v274 w7 ho8 hb hg_ hnew_; clear hg_ hnew_; (first | rw [← Ny273.out] at ho8 | (simp only [Int.reduceToNat] at ho8; rw [← Ny273.out] at ho8)); have n0_ := Aside0.mk (Kd.R_lower ho8 (below_size dq25)); have n1_ := Aside0.mk (below_step dq25 hb); clear HB; have HO275 := n0_; have HB := n1_; clear n0_ n1_; clear hb ho8))
 (try simp only [Act.put, List.setIfInBounds_toArray, List.set_cons_zero, List.set_cons_succ])
 go_cut [11] (fun v11 wc => ∃ (kq : Nat) (x11_4 : List Int), Aside0 (spec_l11Value.j0 kq l0 t271 x11_4 = some (r1, r2)) ∧ Aside0 (kq ≤ k) ∧ Aside0 (Kd.R (Kd.int .i64) 2 wc w.heap.size (fun _ => True) v11 x11_4) ∧ Aside0 (Below w.heap.size w wc))
 case first =>
  have H := HC5.out
  clear HC5
  by_cases c9 : t270.toList = ([] : List UInt8)
  ·rw [if_pos c9] at H
   have c9b0 := beq_iff_eq.mpr c9
   have c9b1 := bne_eq_false_iff_eq.mpr c9
   have c9b3 : (!t270.toList.isEmpty) = false := (bne_nilE26 t270.toList).symm.trans c9b1
   clear c9
   (first | rw [c9b0] | rw [c9b3] | (simp only [i64_w, i32_w]; rw [c9b0]) | skip)
   have H' := Aside0.mk H
   clear H
   go_wp2
   go_meet
   case rel => exact ⟨_, (y273), H', ⟨dq24⟩, ⟨dq55⟩, ⟨dq25⟩⟩
  rw [if_neg c9] at H
  have c9b0 := beq_eq_false_iff_ne.mpr c9
  have c9b1 := bne_iff_ne.mpr c9
  have c9b3 : (!t270.toList.isEmpty) = true := (bne_nilE26 t270.toList).symm.trans c9b1
  (first | rw [c9b0] | rw [c9b3] | (simp only [i64_w, i32_w]; rw [c9b0]) | skip)
  replace H := Option.bind_eq_some_iff.mp H
  obtain ⟨t276, A100, H⟩ := H
  replace H : (spec_l11Value.j0 k l0 t271 t276) = some (r1, r2) := H
  have A10 := Aside0.mk A100
  clear A100
  have H' := Aside0.mk H
  clear H
  go_wp2_with (first | ((with_reducible refine gate_callee (f := 91) rfl ?_); refine goesL_ (some 29) rfl rfl Tryz.func91 dq22 rfl #[.slice A0 l0.length c0, .int .i64 a1, .string t270] rfl dq21 ?_; (with_reducible refine (spec_l11Select.calls k (fun k_ => k_ < w.heap.size) _ _ l0 a1 t270 t276 _ ?side1 A10.out).mono ?_); (case side1 => exact Kd.V_mk HC0.out (Kd.F_below (Kd.C_F k65_heap HR0.out) dq25)); rintro e w11 ⟨v277, rfl, ho0, hb⟩; refine ⟨_, rfl, ?_⟩; have n0_ := Aside0.mk (Kd.R_elder' dq55 (Kd.R_base ho0) hb); have n1_ := Aside0.mk (Kd.R_lower (Kd.R_new' (Kd.R_mono (ok' := fun k_ => True) ho0 (fun _ hk_ => trivial)) (Kd.R_lt dq55)) (below_size dq25)); have n2_ := Aside0.mk (below_step dq25 hb); clear HO275; clear HB; have HO275 := n0_; have HO278 := n1_; have HB := n2_; clear n0_ n1_ n2_; (try clear hb); (try clear hb2); (try clear hk); (try clear hi); (try clear ho0)))
  go_meet
  case rel => exact ⟨_, (t276), H', ⟨dq24⟩, ⟨by (with_reducible repeat (first | apply Kd.R_alloc | apply Kd.R_drewN | apply Kd.R_drew)); exact Kd.R_mono HO278.out (fun _ hk => trivial)⟩, ⟨dq25⟩⟩
 clear HC5
 obtain ⟨kq, x11_4, HA, HJ4, HO_11, HB⟩ := hcut
 cases kq with
 | zero => exact absurd HA.out (by simp [spec_l11Value.j0])
 | succ kj4 =>
  have H := HA.out
  clear HA
  simp only [spec_l11Value.j0] at H
  have H' := Aside0.mk H
  clear H
  go_wp2
  go_loopg [12, 13, 14] kj4 (fun kq v12 v13 v14 w' => ∃ (x12_2 : ByteArray) (x13_2 : Int) (x14_2 : Int), v12 = .string x12_2 ∧ v13 = .int .i64 x13_2 ∧ v14 = .int .i64 x14_2 ∧ Aside0 (spec_l11Value.l0 kq l0 t271 x11_4 x12_2 x13_2 x14_2 = some (r1, r2)) ∧ Aside0 (kq ≤ kj4) ∧ Aside0 (Kd.R (Kd.int .i64) 2 w' w.heap.size (fun _ => True) u11 x11_4) ∧ Aside0 (Below w.heap.size w w'))
  case atStart => exact ⟨((⟨#[]⟩ : ByteArray)), (0), (0), dq17, dq17, dq17, H', ⟨Nat.le_refl _⟩, ⟨dq56⟩, ⟨dq25⟩⟩
  clear H'
  obtain ⟨x12_2, x13_2, x14_2, rfl, rfl, rfl, HA, HK2, HO_11, HB⟩ := hrel
  cases gk with
  | zero => exact absurd HA.out (by simp [spec_l11Value.l0])
  | succ k2 =>
   have H := HA.out
   clear HA
   simp only [spec_l11Value.l0] at H
   by_cases c12 : x14_2 < (x11_4.length : Int)
   rotate_left
   ·rw [if_neg c12] at H
    have c12b0 := decide_eq_false c12
    clear c12
    by_cases c30 : x13_2 = 1
    rotate_left
    ·rw [if_neg c30] at H
     have c30b0 := beq_eq_false_iff_ne.mpr c30
     have c30b1 := bne_iff_ne.mpr c30
     simp only [Option.some.injEq, Prod.mk.injEq] at H
     obtain ⟨rfl, rfl⟩ := H
     obtain ⟨Ao32, co32, eo32⟩ := Kd.R_slice HO_11.out
     subst eo32
     go_wp2
     go_ret2
     exact ⟨dq27, dq25⟩
    rw [if_pos c30] at H
    have c30b0 := beq_iff_eq.mpr c30
    have c30b1 := bne_eq_false_iff_eq.mpr c30
    clear c30
    simp only [Option.some.injEq, Prod.mk.injEq] at H
    obtain ⟨rfl, rfl⟩ := H
    obtain ⟨Ao31, co31, eo31⟩ := Kd.R_slice HO_11.out
    subst eo31
    go_wp2
    go_ret2
    exact ⟨dq27, dq25⟩
   rw [if_pos c12] at H
   have c12b0 := decide_eq_true c12
   clear c12
   by_cases c13 : t271.toList = ([] : List UInt8)
   ·rw [if_pos c13] at H
    have c13b0 := beq_iff_eq.mpr c13
    have c13b1 := bne_eq_false_iff_eq.mpr c13
    have c13b3 : (!t271.toList.isEmpty) = false := (bne_nilE26 t271.toList).symm.trans c13b1
    clear c13
    by_cases c14 : 0 ≤ x14_2
    rotate_left
    ·rw [if_neg c14] at H
     exact absurd H dq20
    rw [if_pos c14] at H
    have c14b0 := decide_eq_true c14
    clear c14
    replace H := Option.bind_eq_some_iff.mp H
    obtain ⟨t280, A150, H⟩ := H
    replace H : ((spec_White.f k2 t280 2).bind fun t281 => (spec_l11Value.l0 k2 l0 t271 x11_4 t281 (wrap64 (x13_2 + 1)) (wrap64 (x14_2 + 1)))) = some (r1, r2) := H
    have A15 := Aside0.mk A150
    clear A150
    replace H := Option.bind_eq_some_iff.mp H
    obtain ⟨t281, A160, H⟩ := H
    replace H : (spec_l11Value.l0 k2 l0 t271 x11_4 t281 (wrap64 (x13_2 + 1)) (wrap64 (x14_2 + 1))) = some (r1, r2) := H
    have A16 := Aside0.mk A160
    clear A160
    have H' := Aside0.mk H
    clear H
    obtain ⟨Ao17, co17, eo17⟩ := Kd.R_slice HO_11.out
    subst eo17
    have p279 : 0 ≤ (x14_2 : Int) := of_decide_eq_true dq18
    have q279 : x14_2 < (x11_4.length : Int) := of_decide_eq_true dq18
    obtain ⟨ad279, e279, hx279_0⟩ := Kd.at_int (Kd.R_reads' HO_11.out).2.2 x14_2 p279 q279
    cases e279
    replace p279 := eq_true p279
    replace q279 := eq_true q279
    go_wp2_with (first | ((with_reducible refine gate_callee (f := 93) rfl ?_); refine goesL_ (some 43) rfl rfl Tryz.func93 dq22 rfl #[.slice A0 l0.length c0, .int .i64 (rd x11_4 x14_2)] rfl dq21 ?_; (with_reducible refine (spec_l2Text.calls k2 _ _ l0 (rd x11_4 x14_2) t280 _ ?side1 ?side2 A15.out).mono ?_); (case side1 => exact dq1); (case side2 => exact HC0.out); rintro e w18 ⟨rfl, hb⟩; refine ⟨_, rfl, ?_⟩; have n0_ := Aside0.mk (Kd.R_below dq56 hb); have n1_ := Aside0.mk (below_step dq25 hb); clear HO_11; clear HB; have HO_11 := n0_; have HB := n1_; clear n0_ n1_; (try clear hb); (try clear hb2); (try clear hk); (try clear hi)) | ((with_reducible refine gate_callee (f := 92) rfl ?_); refine goesL_ (some 44) rfl rfl Tryz.func92 dq22 rfl #[.string t280, .int .i64 2] rfl dq21 ?_; (with_reducible refine (spec_White.calls k2 t280 2 t281 _ A16.out).mono ?_); rintro e w19 ⟨rfl, hb⟩; refine ⟨_, rfl, ?_⟩; have n0_ := Aside0.mk (Kd.R_below dq56 hb); have n1_ := Aside0.mk (below_step dq25 hb); clear HO_11; clear HB; have HO_11 := n0_; have HB := n1_; clear n0_ n1_; (try clear hb); (try clear hb2); (try clear hk); (try clear hi)))
    go_roundg k2
    case measure => have := HJ4.out; have := HK2.out; omega
    case rel => exact ⟨(t281), (wrap64 (x13_2 + 1)), (wrap64 (x14_2 + 1)), dq17, dq17, dq17, H', ⟨by have := HJ4.out; have := HK2.out; omega⟩, ⟨dq56⟩, ⟨dq25⟩⟩
   rw [if_neg c13] at H
   have c13b0 := beq_eq_false_iff_ne.mpr c13
   have c13b1 := bne_iff_ne.mpr c13
   have c13b3 : (!t271.toList.isEmpty) = true := (bne_nilE26 t271.toList).symm.trans c13b1
   have H' := Aside0.mk H
   clear H
   obtain ⟨Ao20, co20, eo20⟩ := Kd.R_slice HO_11.out
   subst eo20
   go_wp2
   go_loopg [12, 13, 15] k2 (fun kq v12 v13 v15 w' => ∃ (x12_3 : ByteArray) (x13_3 : Int) (x15_3 : Int), v12 = .string x12_3 ∧ v13 = .int .i64 x13_3 ∧ v15 = .int .i64 x15_3 ∧ Aside0 (spec_l11Value.l1 kq l0 t271 x11_4 x12_3 x13_3 x14_2 x15_3 = some (r1, r2)) ∧ Aside0 (kq ≤ k2) ∧ Aside0 (Kd.R (Kd.int .i64) 2 w' w.heap.size (fun _ => True) (.slice Ao20 x11_4.length co20) x11_4) ∧ Aside0 (Below w.heap.size w w'))
   case atStart => exact ⟨(x12_2), (x13_2), (0), dq17, dq17, dq17, H', ⟨Nat.le_refl _⟩, ⟨dq56⟩, ⟨dq25⟩⟩
   clear H'
   try clear c12b0
   try clear c13
   try clear c13b0
   try clear c13b1
   obtain ⟨x12_3, x13_3, x15_3, rfl, rfl, rfl, HA, HK3, HO_11, HB⟩ := hrel
   cases gk with
   | zero => exact absurd HA.out (by simp [spec_l11Value.l1])
   | succ k3 =>
    have H := HA.out
    clear HA
    simp only [spec_l11Value.l1] at H
    by_cases c21 : 0 ≤ x14_2
    rotate_left
    ·rw [if_neg c21] at H
     exact absurd H dq20
    rw [if_pos c21] at H
    have c21b0 := decide_eq_true c21
    clear c21
    by_cases c22 : x14_2 < (x11_4.length : Int)
    rotate_left
    ·rw [if_neg c22] at H
     exact absurd H dq20
    rw [if_pos c22] at H
    have c22b0 := decide_eq_true c22
    clear c22
    by_cases c23 : 0 ≤ (rd x11_4 x14_2)
    rotate_left
    ·rw [if_neg c23] at H
     exact absurd H dq20
    rw [if_pos c23] at H
    have c23b0 := decide_eq_true c23
    clear c23
    by_cases c24 : (rd x11_4 x14_2) < (l0.length : Int)
    rotate_left
    ·rw [if_neg c24] at H
     exact absurd H dq20
    rw [if_pos c24] at H
    have c24b0 := decide_eq_true c24
    clear c24
    by_cases c25 : x15_3 < (((rd_T65 l0 (rd x11_4 x14_2)).f3).length : Int)
    rotate_left
    ·rw [if_neg c25] at H
     have c25b0 := decide_eq_false c25
     clear c25
     have H' := Aside0.mk H
     clear H
     have p282 : 0 ≤ (x14_2 : Int) := of_decide_eq_true dq18
     have q282 : x14_2 < (x11_4.length : Int) := of_decide_eq_true dq18
     obtain ⟨ad282, e282, hx282_0⟩ := Kd.at_int (Kd.R_reads' HO_11.out).2.2 x14_2 p282 q282
     cases e282
     replace p282 := eq_true p282
     replace q282 := eq_true q282
     have p283 : 0 ≤ ((rd x11_4 x14_2) : Int) := of_decide_eq_true dq18
     have q283 : (rd x11_4 x14_2) < (l0.length : Int) := of_decide_eq_true dq18
     obtain ⟨ad283, A283_3, c283_3, e283, hx283_0, hx283_1, hx283_2, hx283_3, hl283_3, hi283_3⟩ := at_T65 HR0.out (rd x11_4 x14_2) p283 q283
     cases e283
     replace hx283_0 := (HB.out.cell (World.block_lt_of_cell? w _ hx283_0)).trans hx283_0
     replace hx283_1 := (HB.out.cell (World.block_lt_of_cell? w _ hx283_1)).trans hx283_1
     replace hx283_2 := (HB.out.cell (World.block_lt_of_cell? w _ hx283_2)).trans hx283_2
     replace hx283_3 := (HB.out.cell (World.block_lt_of_cell? w _ hx283_3)).trans hx283_3
     have HR283_3 := Aside0.mk hi283_3
     have HC283_3 := Aside0.mk hl283_3
     clear hi283_3 hl283_3
     replace p283 := eq_true p283
     replace q283 := eq_true q283
     go_wp2
     go_roundg k3
     case measure => have := HJ4.out; have := HK2.out; have := HK3.out; omega
     case rel => exact ⟨(x12_3), (x13_3), (wrap64 (x14_2 + 1)), dq17, dq17, dq17, H', ⟨dq54⟩, ⟨dq56⟩, ⟨dq25⟩⟩
    rw [if_pos c25] at H
    have c25b0 := decide_eq_true c25
    clear c25
    by_cases c26 : 0 ≤ x15_3
    rotate_left
    ·rw [if_neg c26] at H
     exact absurd H dq20
    rw [if_pos c26] at H
    have c26b0 := decide_eq_true c26
    clear c26
    by_cases c27 : ((rd_T67 ((rd_T65 l0 (rd x11_4 x14_2)).f3) x15_3).f0).toList = t271.toList
    rotate_left
    ·rw [if_neg c27] at H
     have c27b0 := beq_eq_false_iff_ne.mpr c27
     have c27b1 := bne_iff_ne.mpr c27
     have H' := Aside0.mk H
     clear H
     have p282 : 0 ≤ (x14_2 : Int) := of_decide_eq_true dq18
     have q282 : x14_2 < (x11_4.length : Int) := of_decide_eq_true dq18
     obtain ⟨ad282, e282, hx282_0⟩ := Kd.at_int (Kd.R_reads' HO_11.out).2.2 x14_2 p282 q282
     cases e282
     replace p282 := eq_true p282
     replace q282 := eq_true q282
     have p283 : 0 ≤ ((rd x11_4 x14_2) : Int) := of_decide_eq_true dq18
     have q283 : (rd x11_4 x14_2) < (l0.length : Int) := of_decide_eq_true dq18
     obtain ⟨ad283, A283_3, c283_3, e283, hx283_0, hx283_1, hx283_2, hx283_3, hl283_3, hi283_3⟩ := at_T65 HR0.out (rd x11_4 x14_2) p283 q283
     cases e283
     replace hx283_0 := (HB.out.cell (World.block_lt_of_cell? w _ hx283_0)).trans hx283_0
     replace hx283_1 := (HB.out.cell (World.block_lt_of_cell? w _ hx283_1)).trans hx283_1
     replace hx283_2 := (HB.out.cell (World.block_lt_of_cell? w _ hx283_2)).trans hx283_2
     replace hx283_3 := (HB.out.cell (World.block_lt_of_cell? w _ hx283_3)).trans hx283_3
     have HR283_3 := Aside0.mk hi283_3
     have HC283_3 := Aside0.mk hl283_3
     clear hi283_3 hl283_3
     replace p283 := eq_true p283
     replace q283 := eq_true q283
     have p284 : 0 ≤ (x14_2 : Int) := of_decide_eq_true dq18
     have q284 : x14_2 < (x11_4.length : Int) := of_decide_eq_true dq18
     obtain ⟨ad284, e284, hx284_0⟩ := Kd.at_int (Kd.R_reads' HO_11.out).2.2 x14_2 p284 q284
     obtain rfl : ad282 = ad284 := (by injection e284)
     replace p284 := eq_true p284
     replace q284 := eq_true q284
     have p285 : 0 ≤ ((rd x11_4 x14_2) : Int) := of_decide_eq_true dq18
     have q285 : (rd x11_4 x14_2) < (l0.length : Int) := of_decide_eq_true dq18
     obtain ⟨ad285, A285_3, c285_3, e285, hx285_0, hx285_1, hx285_2, hx285_3, hl285_3, hi285_3⟩ := at_T65 HR0.out (rd x11_4 x14_2) p285 q285
     obtain rfl : ad283 = ad285 := (by injection e285)
     replace hx285_0 := (HB.out.cell (World.block_lt_of_cell? w _ hx285_0)).trans hx285_0
     replace hx285_1 := (HB.out.cell (World.block_lt_of_cell? w _ hx285_1)).trans hx285_1
     replace hx285_2 := (HB.out.cell (World.block_lt_of_cell? w _ hx285_2)).trans hx285_2
     replace hx285_3 := (HB.out.cell (World.block_lt_of_cell? w _ hx285_3)).trans hx285_3
     have HR285_3 := Aside0.mk hi285_3
     have HC285_3 := Aside0.mk hl285_3
     clear hi285_3 hl285_3
     replace p285 := eq_true p285
     replace q285 := eq_true q285
     have ea_ := Option.some.inj (hx283_3.symm.trans hx285_3)
     injection ea_ with ea_ en_ ec_
     subst ea_
     subst ec_
     clear en_
     have p286 : 0 ≤ (x15_3 : Int) := of_decide_eq_true dq18
     have q286 : x15_3 < (((rd_T65 l0 (rd x11_4 x14_2)).f3).length : Int) := of_decide_eq_true dq18
     obtain ⟨ad286, e286, hx286_0, hx286_1⟩ := at_T67 HR285_3.out x15_3 p286 q286
     cases e286
     replace hx286_0 := (HB.out.cell (World.block_lt_of_cell? w _ hx286_0)).trans hx286_0
     replace hx286_1 := (HB.out.cell (World.block_lt_of_cell? w _ hx286_1)).trans hx286_1
     replace p286 := eq_true p286
     replace q286 := eq_true q286
     go_wp2
     go_roundg k3
     case measure => have := HJ4.out; have := HK2.out; have := HK3.out; omega
     case rel => exact ⟨(x12_3), (x13_3), (wrap64 (x15_3 + 1)), dq17, dq17, dq17, H', ⟨dq54⟩, ⟨dq56⟩, ⟨dq25⟩⟩
    rw [if_pos c27] at H
    have c27b0 := beq_iff_eq.mpr c27
    have c27b1 := bne_eq_false_iff_eq.mpr c27
    clear c27
    replace H := Option.bind_eq_some_iff.mp H
    obtain ⟨t290, A280, H⟩ := H
    replace H : (spec_l11Value.l1 k3 l0 t271 x11_4 t290 (wrap64 (x13_3 + 1)) x14_2 (wrap64 (x15_3 + 1))) = some (r1, r2) := H
    have A28 := Aside0.mk A280
    clear A280
    have H' := Aside0.mk H
    clear H
    have p282 : 0 ≤ (x14_2 : Int) := of_decide_eq_true dq18
    have q282 : x14_2 < (x11_4.length : Int) := of_decide_eq_true dq18
    obtain ⟨ad282, e282, hx282_0⟩ := Kd.at_int (Kd.R_reads' HO_11.out).2.2 x14_2 p282 q282
    cases e282
    replace p282 := eq_true p282
    replace q282 := eq_true q282
    have p283 : 0 ≤ ((rd x11_4 x14_2) : Int) := of_decide_eq_true dq18
    have q283 : (rd x11_4 x14_2) < (l0.length : Int) := of_decide_eq_true dq18
    obtain ⟨ad283, A283_3, c283_3, e283, hx283_0, hx283_1, hx283_2, hx283_3, hl283_3, hi283_3⟩ := at_T65 HR0.out (rd x11_4 x14_2) p283 q283
    cases e283
    replace hx283_0 := (HB.out.cell (World.block_lt_of_cell? w _ hx283_0)).trans hx283_0
    replace hx283_1 := (HB.out.cell (World.block_lt_of_cell? w _ hx283_1)).trans hx283_1
    replace hx283_2 := (HB.out.cell (World.block_lt_of_cell? w _ hx283_2)).trans hx283_2
    replace hx283_3 := (HB.out.cell (World.block_lt_of_cell? w _ hx283_3)).trans hx283_3
    have HR283_3 := Aside0.mk hi283_3
    have HC283_3 := Aside0.mk hl283_3
    clear hi283_3 hl283_3
    replace p283 := eq_true p283
    replace q283 := eq_true q283
    have p284 : 0 ≤ (x14_2 : Int) := of_decide_eq_true dq18
    have q284 : x14_2 < (x11_4.length : Int) := of_decide_eq_true dq18
    obtain ⟨ad284, e284, hx284_0⟩ := Kd.at_int (Kd.R_reads' HO_11.out).2.2 x14_2 p284 q284
    obtain rfl : ad282 = ad284 := (by injection e284)
    replace p284 := eq_true p284
    replace q284 := eq_true q284
    have p285 : 0 ≤ ((rd x11_4 x14_2) : Int) := of_decide_eq_true dq18
    have q285 : (rd x11_4 x14_2) < (l0.length : Int) := of_decide_eq_true dq18
    obtain ⟨ad285, A285_3, c285_3, e285, hx285_0, hx285_1, hx285_2, hx285_3, hl285_3, hi285_3⟩ := at_T65 HR0.out (rd x11_4 x14_2) p285 q285
    obtain rfl : ad283 = ad285 := (by injection e285)
    replace hx285_0 := (HB.out.cell (World.block_lt_of_cell? w _ hx285_0)).trans hx285_0
    replace hx285_1 := (HB.out.cell (World.block_lt_of_cell? w _ hx285_1)).trans hx285_1
    replace hx285_2 := (HB.out.cell (World.block_lt_of_cell? w _ hx285_2)).trans hx285_2
    replace hx285_3 := (HB.out.cell (World.block_lt_of_cell? w _ hx285_3)).trans hx285_3
    have HR285_3 := Aside0.mk hi285_3
    have HC285_3 := Aside0.mk hl285_3
    clear hi285_3 hl285_3
    replace p285 := eq_true p285
    replace q285 := eq_true q285
    have ea_ := Option.some.inj (hx283_3.symm.trans hx285_3)
    injection ea_ with ea_ en_ ec_
    subst ea_
    subst ec_
    clear en_
    have p286 : 0 ≤ (x15_3 : Int) := of_decide_eq_true dq18
    have q286 : x15_3 < (((rd_T65 l0 (rd x11_4 x14_2)).f3).length : Int) := of_decide_eq_true dq18
    obtain ⟨ad286, e286, hx286_0, hx286_1⟩ := at_T67 HR285_3.out x15_3 p286 q286
    cases e286
    replace hx286_0 := (HB.out.cell (World.block_lt_of_cell? w _ hx286_0)).trans hx286_0
    replace hx286_1 := (HB.out.cell (World.block_lt_of_cell? w _ hx286_1)).trans hx286_1
    replace p286 := eq_true p286
    replace q286 := eq_true q286
    have p287 : 0 ≤ (x14_2 : Int) := of_decide_eq_true dq18
    have q287 : x14_2 < (x11_4.length : Int) := of_decide_eq_true dq18
    obtain ⟨ad287, e287, hx287_0⟩ := Kd.at_int (Kd.R_reads' HO_11.out).2.2 x14_2 p287 q287
    obtain rfl : ad282 = ad287 := (by injection e287)
    replace p287 := eq_true p287
    replace q287 := eq_true q287
    have p288 : 0 ≤ ((rd x11_4 x14_2) : Int) := of_decide_eq_true dq18
    have q288 : (rd x11_4 x14_2) < (l0.length : Int) := of_decide_eq_true dq18
    obtain ⟨ad288, A288_3, c288_3, e288, hx288_0, hx288_1, hx288_2, hx288_3, hl288_3, hi288_3⟩ := at_T65 HR0.out (rd x11_4 x14_2) p288 q288
    obtain rfl : ad283 = ad288 := (by injection e288)
    replace hx288_0 := (HB.out.cell (World.block_lt_of_cell? w _ hx288_0)).trans hx288_0
    replace hx288_1 := (HB.out.cell (World.block_lt_of_cell? w _ hx288_1)).trans hx288_1
    replace hx288_2 := (HB.out.cell (World.block_lt_of_cell? w _ hx288_2)).trans hx288_2
    replace hx288_3 := (HB.out.cell (World.block_lt_of_cell? w _ hx288_3)).trans hx288_3
    have HR288_3 := Aside0.mk hi288_3
    have HC288_3 := Aside0.mk hl288_3
    clear hi288_3 hl288_3
    replace p288 := eq_true p288
    replace q288 := eq_true q288
    have ea_ := Option.some.inj (hx283_3.symm.trans hx288_3)
    injection ea_ with ea_ en_ ec_
    subst ea_
    subst ec_
    clear en_
    have p289 : 0 ≤ (x15_3 : Int) := of_decide_eq_true dq18
    have q289 : x15_3 < (((rd_T65 l0 (rd x11_4 x14_2)).f3).length : Int) := of_decide_eq_true dq18
    obtain ⟨ad289, e289, hx289_0, hx289_1⟩ := at_T67 HR288_3.out x15_3 p289 q289
    cases e289
    replace hx289_0 := (HB.out.cell (World.block_lt_of_cell? w _ hx289_0)).trans hx289_0
    replace hx289_1 := (HB.out.cell (World.block_lt_of_cell? w _ hx289_1)).trans hx289_1
    replace p289 := eq_true p289
    replace q289 := eq_true q289
    go_wp2_with (first | ((with_reducible refine gate_callee (f := 92) rfl ?_); refine goesL_ (some 86) rfl rfl Tryz.func92 dq22 rfl #[.string ((rd_T67 ((rd_T65 l0 (rd x11_4 x14_2)).f3) x15_3).f1), .int .i64 2] rfl dq21 ?_; (with_reducible refine (spec_White.calls k3 ((rd_T67 ((rd_T65 l0 (rd x11_4 x14_2)).f3) x15_3).f1) 2 t290 _ A28.out).mono ?_); rintro e w29 ⟨rfl, hb⟩; refine ⟨_, rfl, ?_⟩; have n0_ := Aside0.mk (Kd.R_below dq56 hb); have n1_ := Aside0.mk (below_step dq25 hb); clear HO_11; clear HB; have HO_11 := n0_; have HB := n1_; clear n0_ n1_; (try clear hb); (try clear hb2); (try clear hk); (try clear hi)))
    go_roundg k3
    case measure => have := HJ4.out; have := HK2.out; have := HK3.out; omega
    case rel => exact ⟨(t290), (wrap64 (x13_3 + 1)), (wrap64 (x15_3 + 1)), dq17, dq17, dq17, H', ⟨dq54⟩, ⟨dq56⟩, ⟨dq25⟩⟩

/-! ### spec_FieldOf: function 10 -/
def spec_FieldOf.f (k : Nat) (l0 : List (S65)) (a1 : Int) (a2 : ByteArray) : Option (ByteArray × Int) := (spec_l11Field.f k a2).bind fun bt291 => ((spec_DocOk.f k l0).bind fun t294 => (if t294 = true then ((spec_l1In.f a1 0 (wrap64 ((l0.length : Int) - 1))).bind fun t295 => (if t295 = true then (if 0 ≤ a1 then (if a1 < (l0.length : Int) then (if ((rd_T65 l0 a1).f1).toList = ([] : List UInt8) then (some ((⟨#[]⟩ : ByteArray), (-1))) else (if bt291.2.2 = true then (if (a2.size : Int) > 20000 then (some ((⟨#[]⟩ : ByteArray), (-1))) else ((spec_l11Value.f k l0 a1 a2).bind fun bt297 => (some (bt297.1, bt297.2)))) else (some ((⟨#[]⟩ : ByteArray), (-1))))) else (none)) else (none)) else (some ((⟨#[]⟩ : ByteArray), (-1))))) else (some ((⟨#[]⟩ : ByteArray), (-1)))))
set_option maxHeartbeats 8000000 in
set_option maxRecDepth 100000 in
theorem spec_FieldOf.calls (k : Nat) (A0 : Option Addr) (c0 : Nat) (l0 : List (S65)) (a1 : Int) (a2 : ByteArray) (r1 : ByteArray) (r2 : Int) (w : World) (hr0 : Kd.C k65 w A0 l0.length l0) (hc0 : l0.length ≤ c0) (h : spec_FieldOf.f k l0 a1 a2 = some (r1, r2)) :
  Calls Tryz.prog 10 #[.slice A0 l0.length c0, .int .i64 a1, .string a2] w fun e w' => e = .returned (.tuple #[.string r1, .int .i64 r2]) ∧ Below w.heap.size w w' := by
 have HR0 := Aside0.mk hr0
 have HC0 := Aside0.mk hc0
 clear hr0 hc0
 have HB := Aside0.mk (Below.refl w.heap.size w)
 have H : ((spec_l11Field.f k a2).bind fun bt291 => ((spec_DocOk.f k l0).bind fun t294 => (if t294 = true then ((spec_l1In.f a1 0 (wrap64 ((l0.length : Int) - 1))).bind fun t295 => (if t295 = true then (if 0 ≤ a1 then (if a1 < (l0.length : Int) then (if ((rd_T65 l0 a1).f1).toList = ([] : List UInt8) then (some ((⟨#[]⟩ : ByteArray), (-1))) else (if bt291.2.2 = true then (if (a2.size : Int) > 20000 then (some ((⟨#[]⟩ : ByteArray), (-1))) else ((spec_l11Value.f k l0 a1 a2).bind fun bt297 => (some (bt297.1, bt297.2)))) else (some ((⟨#[]⟩ : ByteArray), (-1))))) else (none)) else (none)) else (some ((⟨#[]⟩ : ByteArray), (-1))))) else (some ((⟨#[]⟩ : ByteArray), (-1)))))) = some (r1, r2) := h
 clear h
 replace H := Option.bind_eq_some_iff.mp H
 obtain ⟨⟨t291, t292, t293⟩, A40, H⟩ := H
 replace H : ((spec_DocOk.f k l0).bind fun t294 => (if t294 = true then ((spec_l1In.f a1 0 (wrap64 ((l0.length : Int) - 1))).bind fun t295 => (if t295 = true then (if 0 ≤ a1 then (if a1 < (l0.length : Int) then (if ((rd_T65 l0 a1).f1).toList = ([] : List UInt8) then (some ((⟨#[]⟩ : ByteArray), (-1))) else (if t293 = true then (if (a2.size : Int) > 20000 then (some ((⟨#[]⟩ : ByteArray), (-1))) else ((spec_l11Value.f k l0 a1 a2).bind fun bt297 => (some (bt297.1, bt297.2)))) else (some ((⟨#[]⟩ : ByteArray), (-1))))) else (none)) else (none)) else (some ((⟨#[]⟩ : ByteArray), (-1))))) else (some ((⟨#[]⟩ : ByteArray), (-1))))) = some (r1, r2) := H
 have A4 := Aside0.mk A40
 clear A40
 replace H := Option.bind_eq_some_iff.mp H
 obtain ⟨t294, A50, H⟩ := H
 replace H : (if t294 = true then ((spec_l1In.f a1 0 (wrap64 ((l0.length : Int) - 1))).bind fun t295 => (if t295 = true then (if 0 ≤ a1 then (if a1 < (l0.length : Int) then (if ((rd_T65 l0 a1).f1).toList = ([] : List UInt8) then (some ((⟨#[]⟩ : ByteArray), (-1))) else (if t293 = true then (if (a2.size : Int) > 20000 then (some ((⟨#[]⟩ : ByteArray), (-1))) else ((spec_l11Value.f k l0 a1 a2).bind fun bt297 => (some (bt297.1, bt297.2)))) else (some ((⟨#[]⟩ : ByteArray), (-1))))) else (none)) else (none)) else (some ((⟨#[]⟩ : ByteArray), (-1))))) else (some ((⟨#[]⟩ : ByteArray), (-1)))) = some (r1, r2) := H
 have A5 := Aside0.mk A50
 clear A50
 by_cases c6 : t294 = true
 rotate_left
 ·replace c6 := Bool.eq_false_iff.mpr c6
  subst c6
  have H1 : (some ((⟨#[]⟩ : ByteArray), (-1))) = some (r1, r2) := by rw [if_neg (show ¬ (false = true) by decide)] at H; exact H
  clear H
  have H := H1
  clear H1
  simp only [Option.some.injEq, Prod.mk.injEq] at H
  obtain ⟨rfl, rfl⟩ := H
  go_enter Tryz.func10, Tryz.ntmps10
  go_wp2_with (first | ((with_reducible refine gate_callee (f := 46) rfl ?_); refine goesL_ (some 13) rfl rfl Tryz.func46 dq22 rfl #[.string a2] rfl dq21 ?_; (with_reducible refine (spec_l11Field.calls k a2 t291 t292 t293 _ A4.out).mono ?_); rintro e w26 ⟨rfl, hb⟩; refine ⟨_, rfl, ?_⟩; have n0_ := Aside0.mk (below_step dq25 hb); clear HB; have HB := n0_; clear n0_; (try clear hb); (try clear hb2); (try clear hk); (try clear hi)) | ((with_reducible refine gate_callee (f := 43) rfl ?_); refine goesL_ (some 18) rfl rfl Tryz.func43 dq22 rfl #[.slice A0 l0.length c0] rfl dq21 ?_; (with_reducible refine (spec_DocOk.calls k _ _ l0 false _ ?side1 ?side2 A5.out).mono ?_); (case side1 => exact dq1); (case side2 => exact HC0.out); rintro e w27 ⟨rfl, hb⟩; refine ⟨_, rfl, ?_⟩; have n0_ := Aside0.mk (below_step dq25 hb); clear HB; have HB := n0_; clear n0_; (try clear hb); (try clear hb2); (try clear hk); (try clear hi)))
  go_ret2
  exact ⟨dq27, dq25⟩
 subst c6
 have H1 : ((spec_l1In.f a1 0 (wrap64 ((l0.length : Int) - 1))).bind fun t295 => (if t295 = true then (if 0 ≤ a1 then (if a1 < (l0.length : Int) then (if ((rd_T65 l0 a1).f1).toList = ([] : List UInt8) then (some ((⟨#[]⟩ : ByteArray), (-1))) else (if t293 = true then (if (a2.size : Int) > 20000 then (some ((⟨#[]⟩ : ByteArray), (-1))) else ((spec_l11Value.f k l0 a1 a2).bind fun bt297 => (some (bt297.1, bt297.2)))) else (some ((⟨#[]⟩ : ByteArray), (-1))))) else (none)) else (none)) else (some ((⟨#[]⟩ : ByteArray), (-1))))) = some (r1, r2) := by rw [if_pos rfl] at H; exact H
 clear H
 have H := H1
 clear H1
 replace H := Option.bind_eq_some_iff.mp H
 obtain ⟨t295, A70, H⟩ := H
 replace H : (if t295 = true then (if 0 ≤ a1 then (if a1 < (l0.length : Int) then (if ((rd_T65 l0 a1).f1).toList = ([] : List UInt8) then (some ((⟨#[]⟩ : ByteArray), (-1))) else (if t293 = true then (if (a2.size : Int) > 20000 then (some ((⟨#[]⟩ : ByteArray), (-1))) else ((spec_l11Value.f k l0 a1 a2).bind fun bt297 => (some (bt297.1, bt297.2)))) else (some ((⟨#[]⟩ : ByteArray), (-1))))) else (none)) else (none)) else (some ((⟨#[]⟩ : ByteArray), (-1)))) = some (r1, r2) := H
 have A7 := Aside0.mk A70
 clear A70
 by_cases c8 : t295 = true
 rotate_left
 ·replace c8 := Bool.eq_false_iff.mpr c8
  subst c8
  have H1 : (some ((⟨#[]⟩ : ByteArray), (-1))) = some (r1, r2) := by rw [if_neg (show ¬ (false = true) by decide)] at H; exact H
  clear H
  have H := H1
  clear H1
  simp only [Option.some.injEq, Prod.mk.injEq] at H
  obtain ⟨rfl, rfl⟩ := H
  go_enter Tryz.func10, Tryz.ntmps10
  go_wp2_with (first | ((with_reducible refine gate_callee (f := 46) rfl ?_); refine goesL_ (some 13) rfl rfl Tryz.func46 dq22 rfl #[.string a2] rfl dq21 ?_; (with_reducible refine (spec_l11Field.calls k a2 t291 t292 t293 _ A4.out).mono ?_); rintro e w24 ⟨rfl, hb⟩; refine ⟨_, rfl, ?_⟩; have n0_ := Aside0.mk (below_step dq25 hb); clear HB; have HB := n0_; clear n0_; (try clear hb); (try clear hb2); (try clear hk); (try clear hi)) | ((with_reducible refine gate_callee (f := 43) rfl ?_); refine goesL_ (some 18) rfl rfl Tryz.func43 dq22 rfl #[.slice A0 l0.length c0] rfl dq21 ?_; (with_reducible refine (spec_DocOk.calls k _ _ l0 true _ ?side1 ?side2 A5.out).mono ?_); (case side1 => exact dq1); (case side2 => exact HC0.out); rintro e w25 ⟨rfl, hb⟩; refine ⟨_, rfl, ?_⟩; have n0_ := Aside0.mk (below_step dq25 hb); clear HB; have HB := n0_; clear n0_; (try clear hb); (try clear hb2); (try clear hk); (try clear hi)) | (go_at_call 47; (with_reducible refine (spec_l1In.calls a1 0 (wrap64 ((l0.length : Int) - 1)) false _ A7.out).mono ?_); rintro e w' ⟨rfl, ⟨nd, rfl⟩⟩))
  go_ret2
  exact ⟨dq27, dq25⟩
 subst c8
 have H1 : (if 0 ≤ a1 then (if a1 < (l0.length : Int) then (if ((rd_T65 l0 a1).f1).toList = ([] : List UInt8) then (some ((⟨#[]⟩ : ByteArray), (-1))) else (if t293 = true then (if (a2.size : Int) > 20000 then (some ((⟨#[]⟩ : ByteArray), (-1))) else ((spec_l11Value.f k l0 a1 a2).bind fun bt297 => (some (bt297.1, bt297.2)))) else (some ((⟨#[]⟩ : ByteArray), (-1))))) else (none)) else (none)) = some (r1, r2) := by rw [if_pos rfl] at H; exact H
 clear H
 have H := H1
 clear H1
 by_cases c9 : 0 ≤ a1
 rotate_left
 ·rw [if_neg c9] at H
  exact absurd H dq20
 rw [if_pos c9] at H
 have c9b0 := decide_eq_true c9
 clear c9
 by_cases c10 : a1 < (l0.length : Int)
 rotate_left
 ·rw [if_neg c10] at H
  exact absurd H dq20
 rw [if_pos c10] at H
 have c10b0 := decide_eq_true c10
 clear c10
 by_cases c11 : ((rd_T65 l0 a1).f1).toList = ([] : List UInt8)
 ·rw [if_pos c11] at H
  have c11b0 := beq_iff_eq.mpr c11
  have c11b1 := bne_eq_false_iff_eq.mpr c11
  clear c11
  simp only [Option.some.injEq, Prod.mk.injEq] at H
  obtain ⟨rfl, rfl⟩ := H
  go_enter Tryz.func10, Tryz.ntmps10
  go_wp2_with (first | ((with_reducible refine gate_callee (f := 46) rfl ?_); refine goesL_ (some 13) rfl rfl Tryz.func46 dq22 rfl #[.string a2] rfl dq21 ?_; (with_reducible refine (spec_l11Field.calls k a2 t291 t292 t293 _ A4.out).mono ?_); rintro e w12 ⟨rfl, hb⟩; refine ⟨_, rfl, ?_⟩; have n0_ := Aside0.mk (below_step dq25 hb); clear HB; have HB := n0_; clear n0_; (try clear hb); (try clear hb2); (try clear hk); (try clear hi)) | ((with_reducible refine gate_callee (f := 43) rfl ?_); refine goesL_ (some 18) rfl rfl Tryz.func43 dq22 rfl #[.slice A0 l0.length c0] rfl dq21 ?_; (with_reducible refine (spec_DocOk.calls k _ _ l0 true _ ?side1 ?side2 A5.out).mono ?_); (case side1 => exact dq1); (case side2 => exact HC0.out); rintro e w13 ⟨rfl, hb⟩; refine ⟨_, rfl, ?_⟩; have n0_ := Aside0.mk (below_step dq25 hb); clear HB; have HB := n0_; clear n0_; (try clear hb); (try clear hb2); (try clear hk); (try clear hi)) | (go_at_call 47; (with_reducible refine (spec_l1In.calls a1 0 (wrap64 ((l0.length : Int) - 1)) true _ A7.out).mono ?_); rintro e w' ⟨rfl, ⟨nd, rfl⟩⟩; have p296 : 0 ≤ (a1 : Int) := of_decide_eq_true dq18; have q296 : a1 < (l0.length : Int) := of_decide_eq_true dq18; obtain ⟨ad296, A296_3, c296_3, e296, hx296_0, hx296_1, hx296_2, hx296_3, hl296_3, hi296_3⟩ := at_T65 HR0.out a1 p296 q296; cases e296; replace hx296_0 := (HB.out.cell (World.block_lt_of_cell? w _ hx296_0)).trans hx296_0; replace hx296_1 := (HB.out.cell (World.block_lt_of_cell? w _ hx296_1)).trans hx296_1; replace hx296_2 := (HB.out.cell (World.block_lt_of_cell? w _ hx296_2)).trans hx296_2; replace hx296_3 := (HB.out.cell (World.block_lt_of_cell? w _ hx296_3)).trans hx296_3; have HR296_3 := Aside0.mk hi296_3; have HC296_3 := Aside0.mk hl296_3; clear hi296_3 hl296_3; replace p296 := eq_true p296; replace q296 := eq_true q296))
  go_ret2
  exact ⟨dq27, dq25⟩
 rw [if_neg c11] at H
 have c11b0 := beq_eq_false_iff_ne.mpr c11
 have c11b1 := bne_iff_ne.mpr c11
 by_cases c14 : t293 = true
 rotate_left
 ·replace c14 := Bool.eq_false_iff.mpr c14
  subst c14
  have H1 : (some ((⟨#[]⟩ : ByteArray), (-1))) = some (r1, r2) := by rw [if_neg (show ¬ (false = true) by decide)] at H; exact H
  clear H
  have H := H1
  clear H1
  simp only [Option.some.injEq, Prod.mk.injEq] at H
  obtain ⟨rfl, rfl⟩ := H
  go_enter Tryz.func10, Tryz.ntmps10
  go_wp2_with (first | ((with_reducible refine gate_callee (f := 46) rfl ?_); refine goesL_ (some 13) rfl rfl Tryz.func46 dq22 rfl #[.string a2] rfl dq21 ?_; (with_reducible refine (spec_l11Field.calls k a2 t291 t292 false _ A4.out).mono ?_); rintro e w22 ⟨rfl, hb⟩; refine ⟨_, rfl, ?_⟩; have n0_ := Aside0.mk (below_step dq25 hb); clear HB; have HB := n0_; clear n0_; (try clear hb); (try clear hb2); (try clear hk); (try clear hi)) | ((with_reducible refine gate_callee (f := 43) rfl ?_); refine goesL_ (some 18) rfl rfl Tryz.func43 dq22 rfl #[.slice A0 l0.length c0] rfl dq21 ?_; (with_reducible refine (spec_DocOk.calls k _ _ l0 true _ ?side1 ?side2 A5.out).mono ?_); (case side1 => exact dq1); (case side2 => exact HC0.out); rintro e w23 ⟨rfl, hb⟩; refine ⟨_, rfl, ?_⟩; have n0_ := Aside0.mk (below_step dq25 hb); clear HB; have HB := n0_; clear n0_; (try clear hb); (try clear hb2); (try clear hk); (try clear hi)) | (go_at_call 47; (with_reducible refine (spec_l1In.calls a1 0 (wrap64 ((l0.length : Int) - 1)) true _ A7.out).mono ?_); rintro e w' ⟨rfl, ⟨nd, rfl⟩⟩; have p296 : 0 ≤ (a1 : Int) := of_decide_eq_true dq18; have q296 : a1 < (l0.length : Int) := of_decide_eq_true dq18; obtain ⟨ad296, A296_3, c296_3, e296, hx296_0, hx296_1, hx296_2, hx296_3, hl296_3, hi296_3⟩ := at_T65 HR0.out a1 p296 q296; cases e296; replace hx296_0 := (HB.out.cell (World.block_lt_of_cell? w _ hx296_0)).trans hx296_0; replace hx296_1 := (HB.out.cell (World.block_lt_of_cell? w _ hx296_1)).trans hx296_1; replace hx296_2 := (HB.out.cell (World.block_lt_of_cell? w _ hx296_2)).trans hx296_2; replace hx296_3 := (HB.out.cell (World.block_lt_of_cell? w _ hx296_3)).trans hx296_3; have HR296_3 := Aside0.mk hi296_3; have HC296_3 := Aside0.mk hl296_3; clear hi296_3 hl296_3; replace p296 := eq_true p296; replace q296 := eq_true q296))
  go_ret2
  exact ⟨dq27, dq25⟩
 subst c14
 have H1 : (if (a2.size : Int) > 20000 then (some ((⟨#[]⟩ : ByteArray), (-1))) else ((spec_l11Value.f k l0 a1 a2).bind fun bt297 => (some (bt297.1, bt297.2)))) = some (r1, r2) := by rw [if_pos rfl] at H; exact H
 clear H
 have H := H1
 clear H1
 by_cases c15 : (a2.size : Int) > 20000
 ·rw [if_pos c15] at H
  have c15b0 : decide (20000 < (a2.size : Int)) = true := decide_eq_true c15
  have c15b1 : decide (20000 < a2.size) = true := decide_eq_true dq23
  clear c15
  simp only [Option.some.injEq, Prod.mk.injEq] at H
  obtain ⟨rfl, rfl⟩ := H
  go_enter Tryz.func10, Tryz.ntmps10
  go_wp2_with (first | ((with_reducible refine gate_callee (f := 46) rfl ?_); refine goesL_ (some 13) rfl rfl Tryz.func46 dq22 rfl #[.string a2] rfl dq21 ?_; (with_reducible refine (spec_l11Field.calls k a2 t291 t292 true _ A4.out).mono ?_); rintro e w16 ⟨rfl, hb⟩; refine ⟨_, rfl, ?_⟩; have n0_ := Aside0.mk (below_step dq25 hb); clear HB; have HB := n0_; clear n0_; (try clear hb); (try clear hb2); (try clear hk); (try clear hi)) | ((with_reducible refine gate_callee (f := 43) rfl ?_); refine goesL_ (some 18) rfl rfl Tryz.func43 dq22 rfl #[.slice A0 l0.length c0] rfl dq21 ?_; (with_reducible refine (spec_DocOk.calls k _ _ l0 true _ ?side1 ?side2 A5.out).mono ?_); (case side1 => exact dq1); (case side2 => exact HC0.out); rintro e w17 ⟨rfl, hb⟩; refine ⟨_, rfl, ?_⟩; have n0_ := Aside0.mk (below_step dq25 hb); clear HB; have HB := n0_; clear n0_; (try clear hb); (try clear hb2); (try clear hk); (try clear hi)) | (go_at_call 47; (with_reducible refine (spec_l1In.calls a1 0 (wrap64 ((l0.length : Int) - 1)) true _ A7.out).mono ?_); rintro e w' ⟨rfl, ⟨nd, rfl⟩⟩; have p296 : 0 ≤ (a1 : Int) := of_decide_eq_true dq18; have q296 : a1 < (l0.length : Int) := of_decide_eq_true dq18; obtain ⟨ad296, A296_3, c296_3, e296, hx296_0, hx296_1, hx296_2, hx296_3, hl296_3, hi296_3⟩ := at_T65 HR0.out a1 p296 q296; cases e296; replace hx296_0 := (HB.out.cell (World.block_lt_of_cell? w _ hx296_0)).trans hx296_0; replace hx296_1 := (HB.out.cell (World.block_lt_of_cell? w _ hx296_1)).trans hx296_1; replace hx296_2 := (HB.out.cell (World.block_lt_of_cell? w _ hx296_2)).trans hx296_2; replace hx296_3 := (HB.out.cell (World.block_lt_of_cell? w _ hx296_3)).trans hx296_3; have HR296_3 := Aside0.mk hi296_3; have HC296_3 := Aside0.mk hl296_3; clear hi296_3 hl296_3; replace p296 := eq_true p296; replace q296 := eq_true q296))
  go_ret2
  exact ⟨dq27, dq25⟩
 rw [if_neg c15] at H
 have c15b0 : decide (20000 < (a2.size : Int)) = false := decide_eq_false c15
 have c15b1 : decide (20000 < a2.size) = false := decide_eq_false dq23
 clear c15
 replace H := Option.bind_eq_some_iff.mp H
 obtain ⟨⟨t297, t298⟩, A180, H⟩ := H
 replace H : (some (t297, t298)) = some (r1, r2) := H
 have A18 := Aside0.mk A180
 clear A180
 simp only [Option.some.injEq, Prod.mk.injEq] at H
 obtain ⟨rfl, rfl⟩ := H
 go_enter Tryz.func10, Tryz.ntmps10
 go_wp2_with (first | ((with_reducible refine gate_callee (f := 46) rfl ?_); refine goesL_ (some 13) rfl rfl Tryz.func46 dq22 rfl #[.string a2] rfl dq21 ?_; (with_reducible refine (spec_l11Field.calls k a2 t291 t292 true _ A4.out).mono ?_); rintro e w19 ⟨rfl, hb⟩; refine ⟨_, rfl, ?_⟩; have n0_ := Aside0.mk (below_step dq25 hb); clear HB; have HB := n0_; clear n0_; (try clear hb); (try clear hb2); (try clear hk); (try clear hi)) | ((with_reducible refine gate_callee (f := 43) rfl ?_); refine goesL_ (some 18) rfl rfl Tryz.func43 dq22 rfl #[.slice A0 l0.length c0] rfl dq21 ?_; (with_reducible refine (spec_DocOk.calls k _ _ l0 true _ ?side1 ?side2 A5.out).mono ?_); (case side1 => exact dq1); (case side2 => exact HC0.out); rintro e w20 ⟨rfl, hb⟩; refine ⟨_, rfl, ?_⟩; have n0_ := Aside0.mk (below_step dq25 hb); clear HB; have HB := n0_; clear n0_; (try clear hb); (try clear hb2); (try clear hk); (try clear hi)) | (go_at_call 47; (with_reducible refine (spec_l1In.calls a1 0 (wrap64 ((l0.length : Int) - 1)) true _ A7.out).mono ?_); rintro e w' ⟨rfl, ⟨nd, rfl⟩⟩; have p296 : 0 ≤ (a1 : Int) := of_decide_eq_true dq18; have q296 : a1 < (l0.length : Int) := of_decide_eq_true dq18; obtain ⟨ad296, A296_3, c296_3, e296, hx296_0, hx296_1, hx296_2, hx296_3, hl296_3, hi296_3⟩ := at_T65 HR0.out a1 p296 q296; cases e296; replace hx296_0 := (HB.out.cell (World.block_lt_of_cell? w _ hx296_0)).trans hx296_0; replace hx296_1 := (HB.out.cell (World.block_lt_of_cell? w _ hx296_1)).trans hx296_1; replace hx296_2 := (HB.out.cell (World.block_lt_of_cell? w _ hx296_2)).trans hx296_2; replace hx296_3 := (HB.out.cell (World.block_lt_of_cell? w _ hx296_3)).trans hx296_3; have HR296_3 := Aside0.mk hi296_3; have HC296_3 := Aside0.mk hl296_3; clear hi296_3 hl296_3; replace p296 := eq_true p296; replace q296 := eq_true q296) | ((with_reducible refine gate_callee (f := 48) rfl ?_); refine goesL_ (some 48) rfl rfl Tryz.func48 dq22 rfl #[.slice (some ad296) l0.length c0, .int .i64 a1, .string a2] rfl dq21 ?_; (with_reducible refine (spec_l11Value.calls k _ _ l0 a1 a2 t297 t298 _ ?side1 ?side2 A18.out).mono ?_); (case side1 => repeat (first | exact (Kd.C_below HR0.out dq25) | (with_reducible refine Kd.C_alloc ?_ _) | (with_reducible refine Kd.C_drewN ?_ _) | (with_reducible refine Kd.C_drew ?_))); (case side2 => exact HC0.out); rintro e w21 ⟨rfl, hb⟩; refine ⟨_, rfl, ?_⟩; have n0_ := Aside0.mk (below_step dq25 hb); clear HB; have HB := n0_; clear n0_; (try clear hb); (try clear hb2); (try clear hk); (try clear hi)))
 go_ret2
 exact ⟨dq27, dq25⟩

/-! ### impl_in: function 99 -/
def impl_in.f (a0 : Int) (a1 : Int) (a2 : Int) : Option (Bool) := if a1 ≤ a0 then (some (decide (a0 ≤ a2))) else (some false)
set_option maxHeartbeats 8000000 in
set_option maxRecDepth 100000 in
theorem impl_in.calls (a0 : Int) (a1 : Int) (a2 : Int) (r : Bool) (w : World) (h : impl_in.f a0 a1 a2 = some r) :
  Calls Tryz.prog 99 #[.int .i64 a0, .int .i64 a1, .int .i64 a2] w fun e w' => e = .returned (.bool r) ∧ Drawn0 w w' := by
 have H : (if a1 ≤ a0 then (some (decide (a0 ≤ a2))) else (some false)) = some r := h
 clear h
 by_cases c4 : a1 ≤ a0
 ·rw [if_pos c4] at H
  have c4b0 := decide_eq_true c4
  clear c4
  obtain rfl := Option.some.inj H
  go_enter Tryz.func99, Tryz.ntmps99
  go_wp2
  go_ret
  exact ⟨dq17, dq16⟩
 rw [if_neg c4] at H
 have c4b0 := decide_eq_false c4
 clear c4
 obtain rfl := Option.some.inj H
 go_enter Tryz.func99, Tryz.ntmps99
 go_wp2
 go_ret
 exact ⟨dq17, dq16⟩

/-! ### impl_NameOk: function 96 -/
def impl_NameOk.l0 : Nat → ByteArray → Int → Int → Option (Bool)
 | 0, _, _, _ => none
 | k + 1, x0, x7, x8 => if x8 < x7 then (if 0 ≤ x8 then (if x8 < (x0.size : Int) then (if (bt x0 x8) ≥ 97 then (if (bt x0 x8) ≤ 122 then (impl_NameOk.l0 k x0 x7 (wrap64 (x8 + 1))) else (if (bt x0 x8) ≥ 65 then (if (bt x0 x8) ≤ 90 then (impl_NameOk.l0 k x0 x7 (wrap64 (x8 + 1))) else (if ((bt x0 x8) = 95) then (impl_NameOk.l0 k x0 x7 (wrap64 (x8 + 1))) else (if x8 = 0 then (some false) else (if (bt x0 x8) ≥ 48 then (if ((bt x0 x8) ≤ 57) then (impl_NameOk.l0 k x0 x7 (wrap64 (x8 + 1))) else (if (bt x0 x8) = 46 then (impl_NameOk.l0 k x0 x7 (wrap64 (x8 + 1))) else (if (bt x0 x8) = 45 then (impl_NameOk.l0 k x0 x7 (wrap64 (x8 + 1))) else (some false)))) else (if (bt x0 x8) = 46 then (impl_NameOk.l0 k x0 x7 (wrap64 (x8 + 1))) else (if (bt x0 x8) = 45 then (impl_NameOk.l0 k x0 x7 (wrap64 (x8 + 1))) else (some false))))))) else (if ((bt x0 x8) = 95) then (impl_NameOk.l0 k x0 x7 (wrap64 (x8 + 1))) else (if x8 = 0 then (some false) else (if (bt x0 x8) ≥ 48 then (if ((bt x0 x8) ≤ 57) then (impl_NameOk.l0 k x0 x7 (wrap64 (x8 + 1))) else (if (bt x0 x8) = 46 then (impl_NameOk.l0 k x0 x7 (wrap64 (x8 + 1))) else (if (bt x0 x8) = 45 then (impl_NameOk.l0 k x0 x7 (wrap64 (x8 + 1))) else (some false)))) else (if (bt x0 x8) = 46 then (impl_NameOk.l0 k x0 x7 (wrap64 (x8 + 1))) else (if (bt x0 x8) = 45 then (impl_NameOk.l0 k x0 x7 (wrap64 (x8 + 1))) else (some false)))))))) else (if (bt x0 x8) ≥ 65 then (if (bt x0 x8) ≤ 90 then (impl_NameOk.l0 k x0 x7 (wrap64 (x8 + 1))) else (if ((bt x0 x8) = 95) then (impl_NameOk.l0 k x0 x7 (wrap64 (x8 + 1))) else (if x8 = 0 then (some false) else (if (bt x0 x8) ≥ 48 then (if ((bt x0 x8) ≤ 57) then (impl_NameOk.l0 k x0 x7 (wrap64 (x8 + 1))) else (if (bt x0 x8) = 46 then (impl_NameOk.l0 k x0 x7 (wrap64 (x8 + 1))) else (if (bt x0 x8) = 45 then (impl_NameOk.l0 k x0 x7 (wrap64 (x8 + 1))) else (some false)))) else (if (bt x0 x8) = 46 then (impl_NameOk.l0 k x0 x7 (wrap64 (x8 + 1))) else (if (bt x0 x8) = 45 then (impl_NameOk.l0 k x0 x7 (wrap64 (x8 + 1))) else (some false))))))) else (if ((bt x0 x8) = 95) then (impl_NameOk.l0 k x0 x7 (wrap64 (x8 + 1))) else (if x8 = 0 then (some false) else (if (bt x0 x8) ≥ 48 then (if ((bt x0 x8) ≤ 57) then (impl_NameOk.l0 k x0 x7 (wrap64 (x8 + 1))) else (if (bt x0 x8) = 46 then (impl_NameOk.l0 k x0 x7 (wrap64 (x8 + 1))) else (if (bt x0 x8) = 45 then (impl_NameOk.l0 k x0 x7 (wrap64 (x8 + 1))) else (some false)))) else (if (bt x0 x8) = 46 then (impl_NameOk.l0 k x0 x7 (wrap64 (x8 + 1))) else (if (bt x0 x8) = 45 then (impl_NameOk.l0 k x0 x7 (wrap64 (x8 + 1))) else (some false)))))))) else (none)) else (none)) else ((impl_in.f (x0.size : Int) 1 40).bind fun t299 => (some t299))
def impl_NameOk.f (k : Nat) (a0 : ByteArray) : Option (Bool) := impl_NameOk.l0 k a0 (a0.size : Int) 0
set_option maxHeartbeats 8000000 in
set_option maxRecDepth 100000 in
theorem impl_NameOk.calls (k : Nat) (a0 : ByteArray) (r : Bool) (w : World) (h : impl_NameOk.f k a0 = some r) :
  Calls Tryz.prog 96 #[.string a0] w fun e w' => e = .returned (.bool r) ∧ Drawn0 w w' := by
 have H : (impl_NameOk.l0 k a0 (a0.size : Int) 0) = some r := h
 clear h
 have H' := Aside0.mk H
 clear H
 go_enter Tryz.func96, Tryz.ntmps96
 go_wp2
 go_loopg [8] k (fun kq v8 w' => ∃ (x8_1 : Int), v8 = .int .i64 x8_1 ∧ Aside0 (impl_NameOk.l0 kq a0 (a0.size : Int) x8_1 = some r) ∧ Aside0 (kq ≤ k) ∧ Drawn0 w w')
 case atStart => exact ⟨(0), dq17, H', ⟨Nat.le_refl _⟩, dq16⟩
 clear H'
 obtain ⟨x8_1, rfl, HA, HK1, ⟨m1, rfl⟩⟩ := hrel
 cases gk with
 | zero => exact absurd HA.out (by simp [impl_NameOk.l0])
 | succ k1 =>
  have H := HA.out
  clear HA
  simp only [impl_NameOk.l0] at H
  by_cases c2 : x8_1 < (a0.size : Int)
  rotate_left
  ·rw [if_neg c2] at H
   have c2b0 := decide_eq_false c2
   clear c2
   replace H := Option.bind_eq_some_iff.mp H
   obtain ⟨t299, A440, H⟩ := H
   replace H : (some t299) = some r := H
   have A44 := Aside0.mk A440
   clear A440
   obtain rfl := Option.some.inj H
   go_wp2_with (first | ((with_reducible refine gate_callee (f := 99) rfl ?_); refine goesL_ (some 58) rfl rfl Tryz.func99 dq22 rfl #[.int .i64 (a0.size : Int), .int .i64 1, .int .i64 40] rfl dq21 ?_; (with_reducible refine (impl_in.calls (a0.size : Int) 1 40 t299 _ A44.out).mono ?_); rintro e w' ⟨rfl, ⟨nd, rfl⟩⟩; refine ⟨_, rfl, ?_⟩))
   go_ret
   exact ⟨dq17, dq16⟩
  rw [if_pos c2] at H
  have c2b0 := decide_eq_true c2
  clear c2
  by_cases c3 : 0 ≤ x8_1
  rotate_left
  ·rw [if_neg c3] at H
   exact absurd H dq20
  rw [if_pos c3] at H
  have c3b0 := decide_eq_true c3
  clear c3
  by_cases c4 : x8_1 < (a0.size : Int)
  rotate_left
  ·rw [if_neg c4] at H
   exact absurd H dq20
  rw [if_pos c4] at H
  have c4b0 := decide_eq_true c4
  clear c4
  by_cases c6 : (bt a0 x8_1) ≥ 97
  rotate_left
  ·rw [if_neg c6] at H
   have c6b0 : decide (97 ≤ (bt a0 x8_1)) = false := decide_eq_false c6
   clear c6
   by_cases c26 : (bt a0 x8_1) ≥ 65
   rotate_left
   ·rw [if_neg c26] at H
    have c26b0 : decide (65 ≤ (bt a0 x8_1)) = false := decide_eq_false c26
    clear c26
    by_cases c36 : ((bt a0 x8_1) = 95)
    ·rw [if_pos c36] at H
     have c36b0 : ((bt a0 x8_1) == 95) = true := beq_iff_eq.mpr c36
     have c36b1 : ((bt a0 x8_1) != 95) = false := bne_eq_false_iff_eq.mpr c36
     clear c36
     have H' := Aside0.mk H
     clear H
     have p5 : 0 ≤ (x8_1 : Int) := of_decide_eq_true dq18
     have q5 : x8_1 < (a0.size : Int) := of_decide_eq_true dq18
     have hx5 := bt_at a0 x8_1
     replace p5 := eq_true p5
     replace q5 := eq_true q5
     go_wp2
     go_roundg k1
     case measure => have := HK1.out; omega
     case rel => exact ⟨(wrap64 (x8_1 + 1)), dq17, H', ⟨dq19⟩, dq16⟩
    rw [if_neg c36] at H
    have c36b0 : ((bt a0 x8_1) == 95) = false := beq_eq_false_iff_ne.mpr c36
    have c36b1 : ((bt a0 x8_1) != 95) = true := bne_iff_ne.mpr c36
    by_cases c37 : x8_1 = 0
    ·rw [if_pos c37] at H
     have c37b0 := beq_iff_eq.mpr c37
     have c37b1 := bne_eq_false_iff_eq.mpr c37
     clear c37
     obtain rfl := Option.some.inj H
     have p5 : 0 ≤ (x8_1 : Int) := of_decide_eq_true dq18
     have q5 : x8_1 < (a0.size : Int) := of_decide_eq_true dq18
     have hx5 := bt_at a0 x8_1
     replace p5 := eq_true p5
     replace q5 := eq_true q5
     go_wp2
     go_ret
     exact ⟨dq17, dq16⟩
    rw [if_neg c37] at H
    have c37b0 := beq_eq_false_iff_ne.mpr c37
    have c37b1 := bne_iff_ne.mpr c37
    by_cases c38 : (bt a0 x8_1) ≥ 48
    rotate_left
    ·rw [if_neg c38] at H
     have c38b0 : decide (48 ≤ (bt a0 x8_1)) = false := decide_eq_false c38
     clear c38
     by_cases c42 : (bt a0 x8_1) = 46
     ·rw [if_pos c42] at H
      have c42b0 := beq_iff_eq.mpr c42
      have c42b1 := bne_eq_false_iff_eq.mpr c42
      clear c42
      have H' := Aside0.mk H
      clear H
      have p5 : 0 ≤ (x8_1 : Int) := of_decide_eq_true dq18
      have q5 : x8_1 < (a0.size : Int) := of_decide_eq_true dq18
      have hx5 := bt_at a0 x8_1
      replace p5 := eq_true p5
      replace q5 := eq_true q5
      go_wp2
      go_roundg k1
      case measure => have := HK1.out; omega
      case rel => exact ⟨(wrap64 (x8_1 + 1)), dq17, H', ⟨dq19⟩, dq16⟩
     rw [if_neg c42] at H
     have c42b0 := beq_eq_false_iff_ne.mpr c42
     have c42b1 := bne_iff_ne.mpr c42
     by_cases c43 : (bt a0 x8_1) = 45
     rotate_left
     ·rw [if_neg c43] at H
      have c43b0 := beq_eq_false_iff_ne.mpr c43
      have c43b1 := bne_iff_ne.mpr c43
      obtain rfl := Option.some.inj H
      have p5 : 0 ≤ (x8_1 : Int) := of_decide_eq_true dq18
      have q5 : x8_1 < (a0.size : Int) := of_decide_eq_true dq18
      have hx5 := bt_at a0 x8_1
      replace p5 := eq_true p5
      replace q5 := eq_true q5
      go_wp2
      go_ret
      exact ⟨dq17, dq16⟩
     rw [if_pos c43] at H
     have c43b0 := beq_iff_eq.mpr c43
     have c43b1 := bne_eq_false_iff_eq.mpr c43
     clear c43
     have H' := Aside0.mk H
     clear H
     have p5 : 0 ≤ (x8_1 : Int) := of_decide_eq_true dq18
     have q5 : x8_1 < (a0.size : Int) := of_decide_eq_true dq18
     have hx5 := bt_at a0 x8_1
     replace p5 := eq_true p5
     replace q5 := eq_true q5
     go_wp2
     go_roundg k1
     case measure => have := HK1.out; omega
     case rel => exact ⟨(wrap64 (x8_1 + 1)), dq17, H', ⟨dq19⟩, dq16⟩
    rw [if_pos c38] at H
    have c38b0 : decide (48 ≤ (bt a0 x8_1)) = true := decide_eq_true c38
    clear c38
    by_cases c39 : ((bt a0 x8_1) ≤ 57)
    ·rw [if_pos c39] at H
     have c39b0 : decide ((bt a0 x8_1) ≤ 57) = true := decide_eq_true c39
     clear c39
     have H' := Aside0.mk H
     clear H
     have p5 : 0 ≤ (x8_1 : Int) := of_decide_eq_true dq18
     have q5 : x8_1 < (a0.size : Int) := of_decide_eq_true dq18
     have hx5 := bt_at a0 x8_1
     replace p5 := eq_true p5
     replace q5 := eq_true q5
     go_wp2
     go_roundg k1
     case measure => have := HK1.out; omega
     case rel => exact ⟨(wrap64 (x8_1 + 1)), dq17, H', ⟨dq19⟩, dq16⟩
    rw [if_neg c39] at H
    have c39b0 : decide ((bt a0 x8_1) ≤ 57) = false := decide_eq_false c39
    clear c39
    by_cases c40 : (bt a0 x8_1) = 46
    ·rw [if_pos c40] at H
     have c40b0 := beq_iff_eq.mpr c40
     have c40b1 := bne_eq_false_iff_eq.mpr c40
     clear c40
     have H' := Aside0.mk H
     clear H
     have p5 : 0 ≤ (x8_1 : Int) := of_decide_eq_true dq18
     have q5 : x8_1 < (a0.size : Int) := of_decide_eq_true dq18
     have hx5 := bt_at a0 x8_1
     replace p5 := eq_true p5
     replace q5 := eq_true q5
     go_wp2
     go_roundg k1
     case measure => have := HK1.out; omega
     case rel => exact ⟨(wrap64 (x8_1 + 1)), dq17, H', ⟨dq19⟩, dq16⟩
    rw [if_neg c40] at H
    have c40b0 := beq_eq_false_iff_ne.mpr c40
    have c40b1 := bne_iff_ne.mpr c40
    by_cases c41 : (bt a0 x8_1) = 45
    rotate_left
    ·rw [if_neg c41] at H
     have c41b0 := beq_eq_false_iff_ne.mpr c41
     have c41b1 := bne_iff_ne.mpr c41
     obtain rfl := Option.some.inj H
     have p5 : 0 ≤ (x8_1 : Int) := of_decide_eq_true dq18
     have q5 : x8_1 < (a0.size : Int) := of_decide_eq_true dq18
     have hx5 := bt_at a0 x8_1
     replace p5 := eq_true p5
     replace q5 := eq_true q5
     go_wp2
     go_ret
     exact ⟨dq17, dq16⟩
    rw [if_pos c41] at H
    have c41b0 := beq_iff_eq.mpr c41
    have c41b1 := bne_eq_false_iff_eq.mpr c41
    clear c41
    have H' := Aside0.mk H
    clear H
    have p5 : 0 ≤ (x8_1 : Int) := of_decide_eq_true dq18
    have q5 : x8_1 < (a0.size : Int) := of_decide_eq_true dq18
    have hx5 := bt_at a0 x8_1
    replace p5 := eq_true p5
    replace q5 := eq_true q5
    go_wp2
    go_roundg k1
    case measure => have := HK1.out; omega
    case rel => exact ⟨(wrap64 (x8_1 + 1)), dq17, H', ⟨dq19⟩, dq16⟩
   rw [if_pos c26] at H
   have c26b0 : decide (65 ≤ (bt a0 x8_1)) = true := decide_eq_true c26
   clear c26
   by_cases c27 : (bt a0 x8_1) ≤ 90
   ·rw [if_pos c27] at H
    have c27b0 := decide_eq_true c27
    clear c27
    have H' := Aside0.mk H
    clear H
    have p5 : 0 ≤ (x8_1 : Int) := of_decide_eq_true dq18
    have q5 : x8_1 < (a0.size : Int) := of_decide_eq_true dq18
    have hx5 := bt_at a0 x8_1
    replace p5 := eq_true p5
    replace q5 := eq_true q5
    go_wp2
    go_roundg k1
    case measure => have := HK1.out; omega
    case rel => exact ⟨(wrap64 (x8_1 + 1)), dq17, H', ⟨dq19⟩, dq16⟩
   rw [if_neg c27] at H
   have c27b0 := decide_eq_false c27
   clear c27
   by_cases c28 : ((bt a0 x8_1) = 95)
   ·rw [if_pos c28] at H
    have c28b0 : ((bt a0 x8_1) == 95) = true := beq_iff_eq.mpr c28
    have c28b1 : ((bt a0 x8_1) != 95) = false := bne_eq_false_iff_eq.mpr c28
    clear c28
    have H' := Aside0.mk H
    clear H
    have p5 : 0 ≤ (x8_1 : Int) := of_decide_eq_true dq18
    have q5 : x8_1 < (a0.size : Int) := of_decide_eq_true dq18
    have hx5 := bt_at a0 x8_1
    replace p5 := eq_true p5
    replace q5 := eq_true q5
    go_wp2
    go_roundg k1
    case measure => have := HK1.out; omega
    case rel => exact ⟨(wrap64 (x8_1 + 1)), dq17, H', ⟨dq19⟩, dq16⟩
   rw [if_neg c28] at H
   have c28b0 : ((bt a0 x8_1) == 95) = false := beq_eq_false_iff_ne.mpr c28
   have c28b1 : ((bt a0 x8_1) != 95) = true := bne_iff_ne.mpr c28
   by_cases c29 : x8_1 = 0
   ·rw [if_pos c29] at H
    have c29b0 := beq_iff_eq.mpr c29
    have c29b1 := bne_eq_false_iff_eq.mpr c29
    clear c29
    obtain rfl := Option.some.inj H
    have p5 : 0 ≤ (x8_1 : Int) := of_decide_eq_true dq18
    have q5 : x8_1 < (a0.size : Int) := of_decide_eq_true dq18
    have hx5 := bt_at a0 x8_1
    replace p5 := eq_true p5
    replace q5 := eq_true q5
    go_wp2
    go_ret
    exact ⟨dq17, dq16⟩
   rw [if_neg c29] at H
   have c29b0 := beq_eq_false_iff_ne.mpr c29
   have c29b1 := bne_iff_ne.mpr c29
   by_cases c30 : (bt a0 x8_1) ≥ 48
   rotate_left
   ·rw [if_neg c30] at H
    have c30b0 : decide (48 ≤ (bt a0 x8_1)) = false := decide_eq_false c30
    clear c30
    by_cases c34 : (bt a0 x8_1) = 46
    ·rw [if_pos c34] at H
     have c34b0 := beq_iff_eq.mpr c34
     have c34b1 := bne_eq_false_iff_eq.mpr c34
     clear c34
     have H' := Aside0.mk H
     clear H
     have p5 : 0 ≤ (x8_1 : Int) := of_decide_eq_true dq18
     have q5 : x8_1 < (a0.size : Int) := of_decide_eq_true dq18
     have hx5 := bt_at a0 x8_1
     replace p5 := eq_true p5
     replace q5 := eq_true q5
     go_wp2
     go_roundg k1
     case measure => have := HK1.out; omega
     case rel => exact ⟨(wrap64 (x8_1 + 1)), dq17, H', ⟨dq19⟩, dq16⟩
    rw [if_neg c34] at H
    have c34b0 := beq_eq_false_iff_ne.mpr c34
    have c34b1 := bne_iff_ne.mpr c34
    by_cases c35 : (bt a0 x8_1) = 45
    rotate_left
    ·rw [if_neg c35] at H
     have c35b0 := beq_eq_false_iff_ne.mpr c35
     have c35b1 := bne_iff_ne.mpr c35
     obtain rfl := Option.some.inj H
     have p5 : 0 ≤ (x8_1 : Int) := of_decide_eq_true dq18
     have q5 : x8_1 < (a0.size : Int) := of_decide_eq_true dq18
     have hx5 := bt_at a0 x8_1
     replace p5 := eq_true p5
     replace q5 := eq_true q5
     go_wp2
     go_ret
     exact ⟨dq17, dq16⟩
    rw [if_pos c35] at H
    have c35b0 := beq_iff_eq.mpr c35
    have c35b1 := bne_eq_false_iff_eq.mpr c35
    clear c35
    have H' := Aside0.mk H
    clear H
    have p5 : 0 ≤ (x8_1 : Int) := of_decide_eq_true dq18
    have q5 : x8_1 < (a0.size : Int) := of_decide_eq_true dq18
    have hx5 := bt_at a0 x8_1
    replace p5 := eq_true p5
    replace q5 := eq_true q5
    go_wp2
    go_roundg k1
    case measure => have := HK1.out; omega
    case rel => exact ⟨(wrap64 (x8_1 + 1)), dq17, H', ⟨dq19⟩, dq16⟩
   rw [if_pos c30] at H
   have c30b0 : decide (48 ≤ (bt a0 x8_1)) = true := decide_eq_true c30
   clear c30
   by_cases c31 : ((bt a0 x8_1) ≤ 57)
   ·rw [if_pos c31] at H
    have c31b0 : decide ((bt a0 x8_1) ≤ 57) = true := decide_eq_true c31
    clear c31
    have H' := Aside0.mk H
    clear H
    have p5 : 0 ≤ (x8_1 : Int) := of_decide_eq_true dq18
    have q5 : x8_1 < (a0.size : Int) := of_decide_eq_true dq18
    have hx5 := bt_at a0 x8_1
    replace p5 := eq_true p5
    replace q5 := eq_true q5
    go_wp2
    go_roundg k1
    case measure => have := HK1.out; omega
    case rel => exact ⟨(wrap64 (x8_1 + 1)), dq17, H', ⟨dq19⟩, dq16⟩
   rw [if_neg c31] at H
   have c31b0 : decide ((bt a0 x8_1) ≤ 57) = false := decide_eq_false c31
   clear c31
   by_cases c32 : (bt a0 x8_1) = 46
   ·rw [if_pos c32] at H
    have c32b0 := beq_iff_eq.mpr c32
    have c32b1 := bne_eq_false_iff_eq.mpr c32
    clear c32
    have H' := Aside0.mk H
    clear H
    have p5 : 0 ≤ (x8_1 : Int) := of_decide_eq_true dq18
    have q5 : x8_1 < (a0.size : Int) := of_decide_eq_true dq18
    have hx5 := bt_at a0 x8_1
    replace p5 := eq_true p5
    replace q5 := eq_true q5
    go_wp2
    go_roundg k1
    case measure => have := HK1.out; omega
    case rel => exact ⟨(wrap64 (x8_1 + 1)), dq17, H', ⟨dq19⟩, dq16⟩
   rw [if_neg c32] at H
   have c32b0 := beq_eq_false_iff_ne.mpr c32
   have c32b1 := bne_iff_ne.mpr c32
   by_cases c33 : (bt a0 x8_1) = 45
   rotate_left
   ·rw [if_neg c33] at H
    have c33b0 := beq_eq_false_iff_ne.mpr c33
    have c33b1 := bne_iff_ne.mpr c33
    obtain rfl := Option.some.inj H
    have p5 : 0 ≤ (x8_1 : Int) := of_decide_eq_true dq18
    have q5 : x8_1 < (a0.size : Int) := of_decide_eq_true dq18
    have hx5 := bt_at a0 x8_1
    replace p5 := eq_true p5
    replace q5 := eq_true q5
    go_wp2
    go_ret
    exact ⟨dq17, dq16⟩
   rw [if_pos c33] at H
   have c33b0 := beq_iff_eq.mpr c33
   have c33b1 := bne_eq_false_iff_eq.mpr c33
   clear c33
   have H' := Aside0.mk H
   clear H
   have p5 : 0 ≤ (x8_1 : Int) := of_decide_eq_true dq18
   have q5 : x8_1 < (a0.size : Int) := of_decide_eq_true dq18
   have hx5 := bt_at a0 x8_1
   replace p5 := eq_true p5
   replace q5 := eq_true q5
   go_wp2
   go_roundg k1
   case measure => have := HK1.out; omega
   case rel => exact ⟨(wrap64 (x8_1 + 1)), dq17, H', ⟨dq19⟩, dq16⟩
  rw [if_pos c6] at H
  have c6b0 : decide (97 ≤ (bt a0 x8_1)) = true := decide_eq_true c6
  clear c6
  by_cases c7 : (bt a0 x8_1) ≤ 122
  ·rw [if_pos c7] at H
   have c7b0 := decide_eq_true c7
   clear c7
   have H' := Aside0.mk H
   clear H
   have p5 : 0 ≤ (x8_1 : Int) := of_decide_eq_true dq18
   have q5 : x8_1 < (a0.size : Int) := of_decide_eq_true dq18
   have hx5 := bt_at a0 x8_1
   replace p5 := eq_true p5
   replace q5 := eq_true q5
   go_wp2
   go_roundg k1
   case measure => have := HK1.out; omega
   case rel => exact ⟨(wrap64 (x8_1 + 1)), dq17, H', ⟨dq19⟩, dq16⟩
  rw [if_neg c7] at H
  have c7b0 := decide_eq_false c7
  clear c7
  by_cases c8 : (bt a0 x8_1) ≥ 65
  rotate_left
  ·rw [if_neg c8] at H
   have c8b0 : decide (65 ≤ (bt a0 x8_1)) = false := decide_eq_false c8
   clear c8
   by_cases c18 : ((bt a0 x8_1) = 95)
   ·rw [if_pos c18] at H
    have c18b0 : ((bt a0 x8_1) == 95) = true := beq_iff_eq.mpr c18
    have c18b1 : ((bt a0 x8_1) != 95) = false := bne_eq_false_iff_eq.mpr c18
    clear c18
    have H' := Aside0.mk H
    clear H
    have p5 : 0 ≤ (x8_1 : Int) := of_decide_eq_true dq18
    have q5 : x8_1 < (a0.size : Int) := of_decide_eq_true dq18
    have hx5 := bt_at a0 x8_1
    replace p5 := eq_true p5
    replace q5 := eq_true q5
    go_wp2
    go_roundg k1
    case measure => have := HK1.out; omega
    case rel => exact ⟨(wrap64 (x8_1 + 1)), dq17, H', ⟨dq19⟩, dq16⟩
   rw [if_neg c18] at H
   have c18b0 : ((bt a0 x8_1) == 95) = false := beq_eq_false_iff_ne.mpr c18
   have c18b1 : ((bt a0 x8_1) != 95) = true := bne_iff_ne.mpr c18
   by_cases c19 : x8_1 = 0
   ·rw [if_pos c19] at H
    have c19b0 := beq_iff_eq.mpr c19
    have c19b1 := bne_eq_false_iff_eq.mpr c19
    clear c19
    obtain rfl := Option.some.inj H
    have p5 : 0 ≤ (x8_1 : Int) := of_decide_eq_true dq18
    have q5 : x8_1 < (a0.size : Int) := of_decide_eq_true dq18
    have hx5 := bt_at a0 x8_1
    replace p5 := eq_true p5
    replace q5 := eq_true q5
    go_wp2
    go_ret
    exact ⟨dq17, dq16⟩
   rw [if_neg c19] at H
   have c19b0 := beq_eq_false_iff_ne.mpr c19
   have c19b1 := bne_iff_ne.mpr c19
   by_cases c20 : (bt a0 x8_1) ≥ 48
   rotate_left
   ·rw [if_neg c20] at H
    have c20b0 : decide (48 ≤ (bt a0 x8_1)) = false := decide_eq_false c20
    clear c20
    by_cases c24 : (bt a0 x8_1) = 46
    ·rw [if_pos c24] at H
     have c24b0 := beq_iff_eq.mpr c24
     have c24b1 := bne_eq_false_iff_eq.mpr c24
     clear c24
     have H' := Aside0.mk H
     clear H
     have p5 : 0 ≤ (x8_1 : Int) := of_decide_eq_true dq18
     have q5 : x8_1 < (a0.size : Int) := of_decide_eq_true dq18
     have hx5 := bt_at a0 x8_1
     replace p5 := eq_true p5
     replace q5 := eq_true q5
     go_wp2
     go_roundg k1
     case measure => have := HK1.out; omega
     case rel => exact ⟨(wrap64 (x8_1 + 1)), dq17, H', ⟨dq19⟩, dq16⟩
    rw [if_neg c24] at H
    have c24b0 := beq_eq_false_iff_ne.mpr c24
    have c24b1 := bne_iff_ne.mpr c24
    by_cases c25 : (bt a0 x8_1) = 45
    rotate_left
    ·rw [if_neg c25] at H
     have c25b0 := beq_eq_false_iff_ne.mpr c25
     have c25b1 := bne_iff_ne.mpr c25
     obtain rfl := Option.some.inj H
     have p5 : 0 ≤ (x8_1 : Int) := of_decide_eq_true dq18
     have q5 : x8_1 < (a0.size : Int) := of_decide_eq_true dq18
     have hx5 := bt_at a0 x8_1
     replace p5 := eq_true p5
     replace q5 := eq_true q5
     go_wp2
     go_ret
     exact ⟨dq17, dq16⟩
    rw [if_pos c25] at H
    have c25b0 := beq_iff_eq.mpr c25
    have c25b1 := bne_eq_false_iff_eq.mpr c25
    clear c25
    have H' := Aside0.mk H
    clear H
    have p5 : 0 ≤ (x8_1 : Int) := of_decide_eq_true dq18
    have q5 : x8_1 < (a0.size : Int) := of_decide_eq_true dq18
    have hx5 := bt_at a0 x8_1
    replace p5 := eq_true p5
    replace q5 := eq_true q5
    go_wp2
    go_roundg k1
    case measure => have := HK1.out; omega
    case rel => exact ⟨(wrap64 (x8_1 + 1)), dq17, H', ⟨dq19⟩, dq16⟩
   rw [if_pos c20] at H
   have c20b0 : decide (48 ≤ (bt a0 x8_1)) = true := decide_eq_true c20
   clear c20
   by_cases c21 : ((bt a0 x8_1) ≤ 57)
   ·rw [if_pos c21] at H
    have c21b0 : decide ((bt a0 x8_1) ≤ 57) = true := decide_eq_true c21
    clear c21
    have H' := Aside0.mk H
    clear H
    have p5 : 0 ≤ (x8_1 : Int) := of_decide_eq_true dq18
    have q5 : x8_1 < (a0.size : Int) := of_decide_eq_true dq18
    have hx5 := bt_at a0 x8_1
    replace p5 := eq_true p5
    replace q5 := eq_true q5
    go_wp2
    go_roundg k1
    case measure => have := HK1.out; omega
    case rel => exact ⟨(wrap64 (x8_1 + 1)), dq17, H', ⟨dq19⟩, dq16⟩
   rw [if_neg c21] at H
   have c21b0 : decide ((bt a0 x8_1) ≤ 57) = false := decide_eq_false c21
   clear c21
   by_cases c22 : (bt a0 x8_1) = 46
   ·rw [if_pos c22] at H
    have c22b0 := beq_iff_eq.mpr c22
    have c22b1 := bne_eq_false_iff_eq.mpr c22
    clear c22
    have H' := Aside0.mk H
    clear H
    have p5 : 0 ≤ (x8_1 : Int) := of_decide_eq_true dq18
    have q5 : x8_1 < (a0.size : Int) := of_decide_eq_true dq18
    have hx5 := bt_at a0 x8_1
    replace p5 := eq_true p5
    replace q5 := eq_true q5
    go_wp2
    go_roundg k1
    case measure => have := HK1.out; omega
    case rel => exact ⟨(wrap64 (x8_1 + 1)), dq17, H', ⟨dq19⟩, dq16⟩
   rw [if_neg c22] at H
   have c22b0 := beq_eq_false_iff_ne.mpr c22
   have c22b1 := bne_iff_ne.mpr c22
   by_cases c23 : (bt a0 x8_1) = 45
   rotate_left
   ·rw [if_neg c23] at H
    have c23b0 := beq_eq_false_iff_ne.mpr c23
    have c23b1 := bne_iff_ne.mpr c23
    obtain rfl := Option.some.inj H
    have p5 : 0 ≤ (x8_1 : Int) := of_decide_eq_true dq18
    have q5 : x8_1 < (a0.size : Int) := of_decide_eq_true dq18
    have hx5 := bt_at a0 x8_1
    replace p5 := eq_true p5
    replace q5 := eq_true q5
    go_wp2
    go_ret
    exact ⟨dq17, dq16⟩
   rw [if_pos c23] at H
   have c23b0 := beq_iff_eq.mpr c23
   have c23b1 := bne_eq_false_iff_eq.mpr c23
   clear c23
   have H' := Aside0.mk H
   clear H
   have p5 : 0 ≤ (x8_1 : Int) := of_decide_eq_true dq18
   have q5 : x8_1 < (a0.size : Int) := of_decide_eq_true dq18
   have hx5 := bt_at a0 x8_1
   replace p5 := eq_true p5
   replace q5 := eq_true q5
   go_wp2
   go_roundg k1
   case measure => have := HK1.out; omega
   case rel => exact ⟨(wrap64 (x8_1 + 1)), dq17, H', ⟨dq19⟩, dq16⟩
  rw [if_pos c8] at H
  have c8b0 : decide (65 ≤ (bt a0 x8_1)) = true := decide_eq_true c8
  clear c8
  by_cases c9 : (bt a0 x8_1) ≤ 90
  ·rw [if_pos c9] at H
   have c9b0 := decide_eq_true c9
   clear c9
   have H' := Aside0.mk H
   clear H
   have p5 : 0 ≤ (x8_1 : Int) := of_decide_eq_true dq18
   have q5 : x8_1 < (a0.size : Int) := of_decide_eq_true dq18
   have hx5 := bt_at a0 x8_1
   replace p5 := eq_true p5
   replace q5 := eq_true q5
   go_wp2
   go_roundg k1
   case measure => have := HK1.out; omega
   case rel => exact ⟨(wrap64 (x8_1 + 1)), dq17, H', ⟨dq19⟩, dq16⟩
  rw [if_neg c9] at H
  have c9b0 := decide_eq_false c9
  clear c9
  by_cases c10 : ((bt a0 x8_1) = 95)
  ·rw [if_pos c10] at H
   have c10b0 : ((bt a0 x8_1) == 95) = true := beq_iff_eq.mpr c10
   have c10b1 : ((bt a0 x8_1) != 95) = false := bne_eq_false_iff_eq.mpr c10
   clear c10
   have H' := Aside0.mk H
   clear H
   have p5 : 0 ≤ (x8_1 : Int) := of_decide_eq_true dq18
   have q5 : x8_1 < (a0.size : Int) := of_decide_eq_true dq18
   have hx5 := bt_at a0 x8_1
   replace p5 := eq_true p5
   replace q5 := eq_true q5
   go_wp2
   go_roundg k1
   case measure => have := HK1.out; omega
   case rel => exact ⟨(wrap64 (x8_1 + 1)), dq17, H', ⟨dq19⟩, dq16⟩
  rw [if_neg c10] at H
  have c10b0 : ((bt a0 x8_1) == 95) = false := beq_eq_false_iff_ne.mpr c10
  have c10b1 : ((bt a0 x8_1) != 95) = true := bne_iff_ne.mpr c10
  by_cases c11 : x8_1 = 0
  ·rw [if_pos c11] at H
   have c11b0 := beq_iff_eq.mpr c11
   have c11b1 := bne_eq_false_iff_eq.mpr c11
   clear c11
   obtain rfl := Option.some.inj H
   have p5 : 0 ≤ (x8_1 : Int) := of_decide_eq_true dq18
   have q5 : x8_1 < (a0.size : Int) := of_decide_eq_true dq18
   have hx5 := bt_at a0 x8_1
   replace p5 := eq_true p5
   replace q5 := eq_true q5
   go_wp2
   go_ret
   exact ⟨dq17, dq16⟩
  rw [if_neg c11] at H
  have c11b0 := beq_eq_false_iff_ne.mpr c11
  have c11b1 := bne_iff_ne.mpr c11
  by_cases c12 : (bt a0 x8_1) ≥ 48
  rotate_left
  ·rw [if_neg c12] at H
   have c12b0 : decide (48 ≤ (bt a0 x8_1)) = false := decide_eq_false c12
   clear c12
   by_cases c16 : (bt a0 x8_1) = 46
   ·rw [if_pos c16] at H
    have c16b0 := beq_iff_eq.mpr c16
    have c16b1 := bne_eq_false_iff_eq.mpr c16
    clear c16
    have H' := Aside0.mk H
    clear H
    have p5 : 0 ≤ (x8_1 : Int) := of_decide_eq_true dq18
    have q5 : x8_1 < (a0.size : Int) := of_decide_eq_true dq18
    have hx5 := bt_at a0 x8_1
    replace p5 := eq_true p5
    replace q5 := eq_true q5
    go_wp2
    go_roundg k1
    case measure => have := HK1.out; omega
    case rel => exact ⟨(wrap64 (x8_1 + 1)), dq17, H', ⟨dq19⟩, dq16⟩
   rw [if_neg c16] at H
   have c16b0 := beq_eq_false_iff_ne.mpr c16
   have c16b1 := bne_iff_ne.mpr c16
   by_cases c17 : (bt a0 x8_1) = 45
   rotate_left
   ·rw [if_neg c17] at H
    have c17b0 := beq_eq_false_iff_ne.mpr c17
    have c17b1 := bne_iff_ne.mpr c17
    obtain rfl := Option.some.inj H
    have p5 : 0 ≤ (x8_1 : Int) := of_decide_eq_true dq18
    have q5 : x8_1 < (a0.size : Int) := of_decide_eq_true dq18
    have hx5 := bt_at a0 x8_1
    replace p5 := eq_true p5
    replace q5 := eq_true q5
    go_wp2
    go_ret
    exact ⟨dq17, dq16⟩
   rw [if_pos c17] at H
   have c17b0 := beq_iff_eq.mpr c17
   have c17b1 := bne_eq_false_iff_eq.mpr c17
   clear c17
   have H' := Aside0.mk H
   clear H
   have p5 : 0 ≤ (x8_1 : Int) := of_decide_eq_true dq18
   have q5 : x8_1 < (a0.size : Int) := of_decide_eq_true dq18
   have hx5 := bt_at a0 x8_1
   replace p5 := eq_true p5
   replace q5 := eq_true q5
   go_wp2
   go_roundg k1
   case measure => have := HK1.out; omega
   case rel => exact ⟨(wrap64 (x8_1 + 1)), dq17, H', ⟨dq19⟩, dq16⟩
  rw [if_pos c12] at H
  have c12b0 : decide (48 ≤ (bt a0 x8_1)) = true := decide_eq_true c12
  clear c12
  by_cases c13 : ((bt a0 x8_1) ≤ 57)
  ·rw [if_pos c13] at H
   have c13b0 : decide ((bt a0 x8_1) ≤ 57) = true := decide_eq_true c13
   clear c13
   have H' := Aside0.mk H
   clear H
   have p5 : 0 ≤ (x8_1 : Int) := of_decide_eq_true dq18
   have q5 : x8_1 < (a0.size : Int) := of_decide_eq_true dq18
   have hx5 := bt_at a0 x8_1
   replace p5 := eq_true p5
   replace q5 := eq_true q5
   go_wp2
   go_roundg k1
   case measure => have := HK1.out; omega
   case rel => exact ⟨(wrap64 (x8_1 + 1)), dq17, H', ⟨dq19⟩, dq16⟩
  rw [if_neg c13] at H
  have c13b0 : decide ((bt a0 x8_1) ≤ 57) = false := decide_eq_false c13
  clear c13
  by_cases c14 : (bt a0 x8_1) = 46
  ·rw [if_pos c14] at H
   have c14b0 := beq_iff_eq.mpr c14
   have c14b1 := bne_eq_false_iff_eq.mpr c14
   clear c14
   have H' := Aside0.mk H
   clear H
   have p5 : 0 ≤ (x8_1 : Int) := of_decide_eq_true dq18
   have q5 : x8_1 < (a0.size : Int) := of_decide_eq_true dq18
   have hx5 := bt_at a0 x8_1
   replace p5 := eq_true p5
   replace q5 := eq_true q5
   go_wp2
   go_roundg k1
   case measure => have := HK1.out; omega
   case rel => exact ⟨(wrap64 (x8_1 + 1)), dq17, H', ⟨dq19⟩, dq16⟩
  rw [if_neg c14] at H
  have c14b0 := beq_eq_false_iff_ne.mpr c14
  have c14b1 := bne_iff_ne.mpr c14
  by_cases c15 : (bt a0 x8_1) = 45
  rotate_left
  ·rw [if_neg c15] at H
   have c15b0 := beq_eq_false_iff_ne.mpr c15
   have c15b1 := bne_iff_ne.mpr c15
   obtain rfl := Option.some.inj H
   have p5 : 0 ≤ (x8_1 : Int) := of_decide_eq_true dq18
   have q5 : x8_1 < (a0.size : Int) := of_decide_eq_true dq18
   have hx5 := bt_at a0 x8_1
   replace p5 := eq_true p5
   replace q5 := eq_true q5
   go_wp2
   go_ret
   exact ⟨dq17, dq16⟩
  rw [if_pos c15] at H
  have c15b0 := beq_iff_eq.mpr c15
  have c15b1 := bne_eq_false_iff_eq.mpr c15
  clear c15
  have H' := Aside0.mk H
  clear H
  have p5 : 0 ≤ (x8_1 : Int) := of_decide_eq_true dq18
  have q5 : x8_1 < (a0.size : Int) := of_decide_eq_true dq18
  have hx5 := bt_at a0 x8_1
  replace p5 := eq_true p5
  replace q5 := eq_true q5
  go_wp2
  go_roundg k1
  case measure => have := HK1.out; omega
  case rel => exact ⟨(wrap64 (x8_1 + 1)), dq17, H', ⟨dq19⟩, dq16⟩

end Go.Proofs.YtpmjpbaeecnpiaaGreatDoor.L
