/- Words and contracts for the row RowFnExactFieldOf: what the Go functions answer that it calls; printed by programs of the kit and of this session, and merged. -/
import Derived.Test.YtpmjpbaeecnpiaaGreatDoorQf3
import Derived.Lib.Hide
import Derived.Outline
namespace Go.Proofs.YtpmjpbaeecnpiaaGreatDoor.L
open Go.RowKit Go.Proofs.YtpmjpbaeecnpiaaGreatDoorW.PrintWords Go.Proofs.YtpmjpbaeecnpiaaGreatDoorW.PrintLast Go.Proofs.YtpmjpbaeecnpiaaGreatDoorW.PrintMore
attribute [local go_sem] max2_int min2_int max_two min_two max_three min_three max_four min_four
set_option linter.unusedVariables false
set_option linter.unusedSimpArgs false

/-! ### spec_l8Sorted: function 132 -/
mutual
def spec_l8Sorted.l0 : Nat → List Int → List Int → Int → Option (List Int)
 | 0, _, _, _ => none
 | k + 1, x0, x3, x4 => if x4 < (x0.length : Int) then (spec_l8Sorted.l1 k x0 x3 x4 0) else (some x3)
def spec_l8Sorted.l1 : Nat → List Int → List Int → Int → Int → Option (List Int)
 | 0, _, _, _, _ => none
 | k + 1, x0, x3, x4, x5 => if x5 < (x3.length : Int) then (if 0 ≤ x5 then (if 0 ≤ x4 then (if x4 < (x0.length : Int) then (if (rd x3 x5) < (rd x0 x4) then (spec_l8Sorted.l1 k x0 x3 x4 (wrap64 (x5 + 1))) else (if (rd x3 x5) = (rd x0 x4) then (spec_l8Sorted.l0 k x0 x3 (wrap64 (x4 + 1))) else ((some (([] : List Int) : List Int)).bind fun y191 => (if x5 ≤ (x3.length : Int) then ((some (x3.take (x5 : Int).toNat : List Int)).bind fun y194 => (if y191.length + y194.length < 17592186044416 then ((some (y191 ++ y194 : List Int)).bind fun y198 => (if y198.length < 17592186044416 then ((some (y198 ++ [rd x0 x4] : List Int)).bind fun y202 => ((some (x3.drop (x5 : Int).toNat : List Int)).bind fun y205 => (if y202.length + y205.length < 17592186044416 then (spec_l8Sorted.l0 k x0 (y202 ++ y205) (wrap64 (x4 + 1))) else (none)))) else (none))) else (none))) else (none))))) else (none)) else (none)) else (none)) else ((some (([] : List Int) : List Int)).bind fun y212 => (if 0 ≤ x5 then (if x5 ≤ (x3.length : Int) then ((some (x3.take (x5 : Int).toNat : List Int)).bind fun y215 => (if y212.length + y215.length < 17592186044416 then ((some (y212 ++ y215 : List Int)).bind fun y219 => (if 0 ≤ x4 then (if x4 < (x0.length : Int) then (if y219.length < 17592186044416 then ((some (y219 ++ [rd x0 x4] : List Int)).bind fun y223 => ((some (x3.drop (x5 : Int).toNat : List Int)).bind fun y226 => (if y223.length + y226.length < 17592186044416 then (spec_l8Sorted.l0 k x0 (y223 ++ y226) (wrap64 (x4 + 1))) else (none)))) else (none)) else (none)) else (none))) else (none))) else (none)) else (none)))
end
def spec_l8Sorted.f (k : Nat) (l0 : List Int) : Option (List Int) := spec_l8Sorted.l0 k l0 (([] : List Int)) 0
set_option maxHeartbeats 8000000 in
set_option maxRecDepth 100000 in
theorem spec_l8Sorted.calls (k : Nat) (A0 : Option Addr) (c0 : Nat) (l0 : List Int) (r : List Int) (w : World) (hr0 : Kd.C (Kd.int .i64) w A0 l0.length l0) (hc0 : l0.length ≤ c0) (h : spec_l8Sorted.f k l0 = some r) :
  Calls Tryz.prog 132 #[.slice A0 l0.length c0] w fun e w' => ∃ v0_ : Value, e = .returned (v0_) ∧ Kd.R (Kd.int .i64) 2 w' w.heap.size (fun _ => True) v0_ r ∧ Below w.heap.size w w' := by
 have HR0 := Aside0.mk hr0
 have HC0 := Aside0.mk hc0
 clear hr0 hc0
 have HB := Aside0.mk (Below.refl w.heap.size w)
 have H : (spec_l8Sorted.l0 k l0 (([] : List Int)) 0) = some r := h
 clear h
 obtain ⟨y184, hy184⟩ : ∃ y_ : List Int, y_ = (([] : List Int)) := ⟨_, rfl⟩
 replace H : (spec_l8Sorted.l0 k l0 y184 0) = some r := by first | (rw [hy184]; with_reducible exact H) | (have H2_ := (Option.bind_some _ _).symm.trans H; rw [hy184]; with_reducible exact H2_) | (have H2_ := (Option.bind_some _ _).symm.trans H; with_reducible exact H2_) | with_reducible exact H | (rw [hy184]; exact H) | exact H
 have Ny184 := Aside0.mk hy184
 clear hy184
 have H' := Aside0.mk H
 clear H
 go_enter Tryz.func132, Tryz.ntmps132
 go_wp2_with (first | ((with_reducible refine gate_dst (N := 7) rfl ?_); refine Kd.R_lit (Kd.int .i64) _ 2 ?hg (N := 7) ?hd (xs := ([] : List Int)) (inner := []) (ok := fun _ => True) (okp := fun _ => True) ?hr ?hp (fun _ hk => hk) trivial (Below.refl _ _) (Nat.le_refl _) dq17 ?_; (case hd => rfl); (case hg => rfl); (case hr => exact dq0); (case hp => exact (Reps.none _ _)); intro v185 w2 ho3 hb hg_ hnew_; clear hg_ hnew_; (first | rw [← Ny184.out] at ho3 | (simp only [Int.reduceToNat] at ho3; rw [← Ny184.out] at ho3)); have n0_ := Aside0.mk (Kd.R_lower ho3 (below_size dq9)); have n1_ := Aside0.mk (below_step dq9 hb); clear HB; have HO186 := n0_; have HB := n1_; clear n0_ n1_; clear hb ho3))
 go_loopg [3, 4] k (fun kq v3 v4 w' => ∃ (x3_1 : List Int) (x4_1 : Int), v4 = .int .i64 x4_1 ∧ Aside0 (spec_l8Sorted.l0 kq l0 x3_1 x4_1 = some r) ∧ Aside0 (kq ≤ k) ∧ Aside0 (Kd.R (Kd.int .i64) 2 w' w.heap.size (fun _ => True) v3 x3_1) ∧ Aside0 (Below w.heap.size w w'))
 case atStart => exact ⟨(y184), (0), dq12, H', ⟨Nat.le_refl _⟩, ⟨by (with_reducible repeat (first | apply Kd.R_alloc | apply Kd.R_drewN | apply Kd.R_drew)); exact HO186.out⟩, ⟨dq9⟩⟩
 clear H'
 obtain ⟨x3_1, x4_1, rfl, HA, HK1, HO_3, HB⟩ := hrel
 cases gk with
 | zero => exact absurd HA.out (by simp [spec_l8Sorted.l0])
 | succ k1 =>
  have H := HA.out
  clear HA
  simp only [spec_l8Sorted.l0] at H
  by_cases c4 : x4_1 < (l0.length : Int)
  rotate_left
  ·rw [if_neg c4] at H
   have c4b0 := decide_eq_false c4
   clear c4
   obtain rfl := Option.some.inj H
   go_wp2
   go_ret
   exact ⟨_, dq11, dq25, dq9⟩
  rw [if_pos c4] at H
  have c4b0 := decide_eq_true c4
  clear c4
  have H' := Aside0.mk H
  clear H
  go_wp2
  go_loopg [5] k1 (fun kq v5 w' => ∃ (x5_2 : Int), v5 = .int .i64 x5_2 ∧ Aside0 (spec_l8Sorted.l1 kq l0 x3_1 x4_1 x5_2 = some r) ∧ Aside0 (kq ≤ k1) ∧ Aside0 (Kd.R (Kd.int .i64) 2 w' w.heap.size (fun _ => True) u3 x3_1) ∧ Aside0 (Below w.heap.size w w'))
  case atStart => exact ⟨(0), dq12, H', ⟨Nat.le_refl _⟩, ⟨dq25⟩, ⟨dq9⟩⟩
  clear H'
  try clear c4b0
  obtain ⟨x5_2, rfl, HA, HK2, HO_3, HB⟩ := hrel
  cases gk with
  | zero => exact absurd HA.out (by simp [spec_l8Sorted.l1])
  | succ k2 =>
   have H := HA.out
   clear HA
   simp only [spec_l8Sorted.l1] at H
   by_cases c5 : x5_2 < (x3_1.length : Int)
   rotate_left
   ·rw [if_neg c5] at H
    have c5b0 := decide_eq_false c5
    clear c5
    obtain ⟨y212, hy212⟩ : ∃ y_ : List Int, y_ = (([] : List Int)) := ⟨_, rfl⟩
    replace H : (if 0 ≤ x5_2 then (if x5_2 ≤ (x3_1.length : Int) then ((some (x3_1.take (x5_2 : Int).toNat : List Int)).bind fun y215 => (if y212.length + y215.length < 17592186044416 then ((some (y212 ++ y215 : List Int)).bind fun y219 => (if 0 ≤ x4_1 then (if x4_1 < (l0.length : Int) then (if y219.length < 17592186044416 then ((some (y219 ++ [rd l0 x4_1] : List Int)).bind fun y223 => ((some (x3_1.drop (x5_2 : Int).toNat : List Int)).bind fun y226 => (if y223.length + y226.length < 17592186044416 then (spec_l8Sorted.l0 k2 l0 (y223 ++ y226) (wrap64 (x4_1 + 1))) else (none)))) else (none)) else (none)) else (none))) else (none))) else (none)) else (none)) = some r := by first | (rw [hy212]; with_reducible exact H) | (have H2_ := (Option.bind_some _ _).symm.trans H; rw [hy212]; with_reducible exact H2_) | (have H2_ := (Option.bind_some _ _).symm.trans H; with_reducible exact H2_) | with_reducible exact H | (rw [hy212]; exact H) | exact H
    have Ny212 := Aside0.mk hy212
    clear hy212
    by_cases c28 : 0 ≤ x5_2
    rotate_left
    ·rw [if_neg c28] at H
     exact absurd H dq17
    rw [if_pos c28] at H
    have c28b0 := eq_true c28
    have c28b1 := decide_eq_true c28
    clear c28
    by_cases c29 : x5_2 ≤ (x3_1.length : Int)
    rotate_left
    ·rw [if_neg c29] at H
     exact absurd H dq17
    rw [if_pos c29] at H
    have c29b0 := eq_true c29
    have c29b1 := decide_eq_true c29
    clear c29
    obtain ⟨y215, hy215⟩ : ∃ y_ : List Int, y_ = (x3_1.take (x5_2 : Int).toNat) := ⟨_, rfl⟩
    replace H : (if y212.length + y215.length < 17592186044416 then ((some (y212 ++ y215 : List Int)).bind fun y219 => (if 0 ≤ x4_1 then (if x4_1 < (l0.length : Int) then (if y219.length < 17592186044416 then ((some (y219 ++ [rd l0 x4_1] : List Int)).bind fun y223 => ((some (x3_1.drop (x5_2 : Int).toNat : List Int)).bind fun y226 => (if y223.length + y226.length < 17592186044416 then (spec_l8Sorted.l0 k2 l0 (y223 ++ y226) (wrap64 (x4_1 + 1))) else (none)))) else (none)) else (none)) else (none))) else (none)) = some r := by first | (rw [hy215]; with_reducible exact H) | (have H2_ := (Option.bind_some _ _).symm.trans H; rw [hy215]; with_reducible exact H2_) | (have H2_ := (Option.bind_some _ _).symm.trans H; with_reducible exact H2_) | with_reducible exact H | (rw [hy215]; exact H) | exact H
    have Ny215 := Aside0.mk hy215
    clear hy215
    by_cases c30 : y212.length + y215.length < 17592186044416
    rotate_left
    ·rw [if_neg c30] at H
     exact absurd H dq17
    rw [if_pos c30] at H
    have LMc30 := Aside0.mk c30
    clear c30
    obtain ⟨y219, hy219⟩ : ∃ y_ : List Int, y_ = (y212 ++ y215) := ⟨_, rfl⟩
    replace H : (if 0 ≤ x4_1 then (if x4_1 < (l0.length : Int) then (if y219.length < 17592186044416 then ((some (y219 ++ [rd l0 x4_1] : List Int)).bind fun y223 => ((some (x3_1.drop (x5_2 : Int).toNat : List Int)).bind fun y226 => (if y223.length + y226.length < 17592186044416 then (spec_l8Sorted.l0 k2 l0 (y223 ++ y226) (wrap64 (x4_1 + 1))) else (none)))) else (none)) else (none)) else (none)) = some r := by first | (rw [hy219]; with_reducible exact H) | (have H2_ := (Option.bind_some _ _).symm.trans H; rw [hy219]; with_reducible exact H2_) | (have H2_ := (Option.bind_some _ _).symm.trans H; with_reducible exact H2_) | with_reducible exact H | (rw [hy219]; exact H) | exact H
    have Ny219 := Aside0.mk hy219
    clear hy219
    by_cases c31 : 0 ≤ x4_1
    rotate_left
    ·rw [if_neg c31] at H
     exact absurd H dq17
    rw [if_pos c31] at H
    have c31b0 := decide_eq_true c31
    clear c31
    by_cases c32 : x4_1 < (l0.length : Int)
    rotate_left
    ·rw [if_neg c32] at H
     exact absurd H dq17
    rw [if_pos c32] at H
    have c32b0 := decide_eq_true c32
    clear c32
    by_cases c33 : y219.length < 17592186044416
    rotate_left
    ·rw [if_neg c33] at H
     exact absurd H dq17
    rw [if_pos c33] at H
    have LMc33 := Aside0.mk c33
    clear c33
    obtain ⟨y223, hy223⟩ : ∃ y_ : List Int, y_ = (y219 ++ [rd l0 x4_1]) := ⟨_, rfl⟩
    replace H : ((some (x3_1.drop (x5_2 : Int).toNat : List Int)).bind fun y226 => (if y223.length + y226.length < 17592186044416 then (spec_l8Sorted.l0 k2 l0 (y223 ++ y226) (wrap64 (x4_1 + 1))) else (none))) = some r := by first | (rw [hy223]; with_reducible exact H) | (have H2_ := (Option.bind_some _ _).symm.trans H; rw [hy223]; with_reducible exact H2_) | (have H2_ := (Option.bind_some _ _).symm.trans H; with_reducible exact H2_) | with_reducible exact H | (rw [hy223]; exact H) | exact H
    have Ny223 := Aside0.mk hy223
    clear hy223
    have c34b0 := eq_true (of_decide_eq_true dq13 : 0 ≤ x5_2)
    have c35b0 := eq_true (of_decide_eq_true dq13 : x5_2 ≤ (x3_1.length : Int))
    obtain ⟨y226, hy226⟩ : ∃ y_ : List Int, y_ = (x3_1.drop (x5_2 : Int).toNat) := ⟨_, rfl⟩
    replace H : (if y223.length + y226.length < 17592186044416 then (spec_l8Sorted.l0 k2 l0 (y223 ++ y226) (wrap64 (x4_1 + 1))) else (none)) = some r := by first | (rw [hy226]; with_reducible exact H) | (have H2_ := (Option.bind_some _ _).symm.trans H; rw [hy226]; with_reducible exact H2_) | (have H2_ := (Option.bind_some _ _).symm.trans H; with_reducible exact H2_) | with_reducible exact H | (rw [hy226]; exact H) | exact H
    have Ny226 := Aside0.mk hy226
    clear hy226
    by_cases c36 : y223.length + y226.length < 17592186044416
    rotate_left
    ·rw [if_neg c36] at H
     exact absurd H dq17
    rw [if_pos c36] at H
    have LMc36 := Aside0.mk c36
    clear c36
    obtain ⟨y230, hy230⟩ : ∃ y_ : List Int, y_ = (y223 ++ y226) := ⟨_, rfl⟩
    replace H : (spec_l8Sorted.l0 k2 l0 y230 (wrap64 (x4_1 + 1))) = some r := by first | (rw [hy230]; with_reducible exact H) | (have H2_ := (Option.bind_some _ _).symm.trans H; rw [hy230]; with_reducible exact H2_) | (have H2_ := (Option.bind_some _ _).symm.trans H; with_reducible exact H2_) | with_reducible exact H | (rw [hy230]; exact H) | exact H
    have Ny230 := Aside0.mk hy230
    clear hy230
    have H' := Aside0.mk H
    clear H
    obtain ⟨Ao37, co37, eo37⟩ := Kd.R_slice HO_3.out
    subst eo37
    go_wp2_with (fail)
    repeat (go_quiet (fail); try go_wp2_with (first | ((with_reducible refine gate_dst (N := 46) rfl ?_); refine Kd.R_lit (Kd.int .i64) _ 2 ?hg (N := 46) ?hd (xs := ([] : List Int)) (inner := []) (ok := fun _ => True) (okp := fun _ => True) ?hr ?hp (fun _ hk => hk) trivial (Below.refl _ _) (Nat.le_refl _) dq17 ?_; (case hd => rfl); (case hg => rfl); (case hr => exact dq0); (case hp => exact (Reps.none _ _)); intro v213 w38 ho39 hb hg_ hnew_; clear hg_ hnew_; (first | rw [← Ny212.out] at ho39 | (simp only [Int.reduceToNat] at ho39; rw [← Ny212.out] at ho39)); have n0_ := Aside0.mk (Kd.R_elder' dq25 (Kd.R_base ho39) hb); have n1_ := Aside0.mk (Kd.R_lower (Kd.R_new' ho39 (Kd.R_lt dq25)) (below_size dq9)); have n2_ := Aside0.mk (below_step dq9 hb); clear HO_3; clear HB; have HO_3 := n0_; have HO214 := n1_; have HB := n2_; clear n0_ n1_ n2_; clear hb ho39; have q40 : (x5_2 : Int) ≤ ((x3_1.length : Int) : Int) := of_decide_eq_true dq13; obtain ⟨i040, hi040, _, hsz40, _⟩ := info_parts info2; have hroom40 : x3_1.length ≤ co37 := (Kd.R_reads' HO_3.out).2.1; have hC40 : Kd.C (Kd.int .i64) _ Ao37 x3_1.length x3_1 := (Kd.R_reads' HO_3.out).2.2; have hcut40 := cut_to (P := Tryz.prog) 47 2 .i64 Tryz.underlying47 hi040 Ao37 x3_1.length co37 x5_2 (of_decide_eq_true dq13) q40 hroom40; have hr40 := Kd.C_take (m := (x5_2 : Int).toNat) hC40 dq20; have hy40 : y215.length = (x5_2 : Int).toNat := (by rw [Ny215.out, List.length_take]; omega); rw [← Ny215.out] at hr40; rw [← hy40] at hcut40; have HR218 := Aside0.mk hr40; have HC218 := Aside0.mk (show y215.length ≤ co37 from by omega); clear hr40 hC40 hroom40 hi040 hsz40; have KY40 := Aside0.mk hy40; clear hy40; have KL40 := Aside0.mk (show (x5_2 : Int).toNat ≤ x3_1.length from by omega); replace q40 := eq_true q40) | ((with_reducible refine gate_builtin (b := .append) (xs := #[.tmp 46, .tmp 49]) rfl ?_); at_builtin; refine Kd.R_append_rows (Kd.int .i64) (w0 := w) w.heap.size rfl (.tmp 46) (.tmp 49) 47 2 (.int .i64 0) 8 rfl Tryz.underlying47 info2 rfl dq24 dq20 v213 y212 y215 _ _ _ (fun k_ => some k_ ≠ (.slice Ao37 x3_1.length co37 : Value).ownBlock) (fun _ => False) rfl rfl ?aO ?aR (fun _ _ h => h) (fun _ h => h.elim) ?aF ?aB ?aS ?aL ?_; (case aR => repeat (first | exact (by repeat (first | (with_reducible exact HR218.out) | (with_reducible refine Kd.C_alloc ?_ _) | (with_reducible refine Kd.C_drewN ?_ _) | (with_reducible refine Kd.C_drew ?_) | exact HR218.out)) | (with_reducible refine Kd.C_alloc ?_ _) | (with_reducible refine Kd.C_drewN ?_ _) | (with_reducible refine Kd.C_drew ?_))); (case aB => exact dq9); (case aF => exact (fun k_ hk => Kd.fresh' (Kd.R_lt dq25) k_ hk)); (case aO => exact (by (with_reducible repeat (first | apply Kd.R_alloc | apply Kd.R_drewN | apply Kd.R_drew)); exact Kd.R_mono HO214.out (fun _ hk => hk.2))); (case aS => exact (below_size dq9)); (case aL => have := LMc30.out; omega); intro v220 w41 ho hb hg hat; rw [← Ny219.out] at ho; have n0_ := Aside0.mk (Kd.R_after (ok := (fun _ => True)) dq25 hg hat); have n1_ := Aside0.mk (hb); have n2_ := Aside0.mk ((show Kd.C (Kd.int .i64) w41 Ao37 y215.length y215 from by rw [Ny215.out]; exact Kd.C_take (m := (x5_2 : Int).toNat) ((Kd.R_reads' (Kd.R_after (ok := (fun _ => True)) dq25 hg hat)).2.2) KL40.out)); have n3_ := Aside0.mk (ho); clear HO_3; clear HB; clear HR218; clear HO214; have HO_3 := n0_; have HB := n1_; have HR218 := n2_; have HO221 := n3_; clear n0_ n1_ n2_ n3_; clear ho hb hg hat; have p222 : 0 ≤ (x4_1 : Int) := of_decide_eq_true dq13; have q222 : x4_1 < (l0.length : Int) := of_decide_eq_true dq13; obtain ⟨ad222, e222, hx222_0⟩ := Kd.at_int HR0.out x4_1 p222 q222; cases e222; replace hx222_0 := (HB.out.cell (World.block_lt_of_cell? w _ hx222_0)).trans hx222_0; replace p222 := eq_true p222; replace q222 := eq_true q222) | ((with_reducible refine gate_builtin (b := .append) (xs := #[.tmp 51, .tmp 56]) rfl ?_); at_builtin; refine Kd.R_append (Kd.int .i64) (w0 := w) w.heap.size rfl (.tmp 51) (.tmp 56) 47 2 (.int .i64 0) 8 rfl Tryz.underlying47 info2 rfl dq24 dq20 v220 y219 (rd l0 x4_1) [.int .i64 (rd l0 x4_1)] (fun k_ => some k_ ≠ (.slice Ao37 x3_1.length co37 : Value).ownBlock) (fun _ => False) rfl rfl ?aP (fun _ hk => hk.elim) ?aF ?aO ?aB ?aS ?aL ?_; (case aP => exact rfl); (case aB => exact dq9); (case aF => exact (fun k_ hk => Kd.fresh' (Kd.R_lt dq25) k_ hk)); (case aO => exact (by (with_reducible repeat (first | apply Kd.R_alloc | apply Kd.R_drewN | apply Kd.R_drew)); exact HO221.out)); (case aS => exact (below_size dq9)); (case aL => have := LMc33.out; omega); intro v224 w42 ho hb hg hat; rw [← Ny223.out] at ho; have n0_ := Aside0.mk (Kd.R_after (ok := (fun _ => True)) dq25 hg hat); have n1_ := Aside0.mk (hb); have n2_ := Aside0.mk ((show Kd.C (Kd.int .i64) w42 Ao37 y215.length y215 from by rw [Ny215.out]; exact Kd.C_take (m := (x5_2 : Int).toNat) ((Kd.R_reads' (Kd.R_after (ok := (fun _ => True)) dq25 hg hat)).2.2) KL40.out)); have n3_ := Aside0.mk (ho); clear HO_3; clear HB; clear HR218; clear HO221; have HO_3 := n0_; have HB := n1_; have HR218 := n2_; have HO225 := n3_; clear n0_ n1_ n2_ n3_; clear ho hb hg hat; have q43 : (x5_2 : Int) ≤ ((x3_1.length : Int) : Int) := of_decide_eq_true dq13; obtain ⟨i043, hi043, _, hsz43, _⟩ := info_parts info2; have hroom43 : x3_1.length ≤ co37 := (Kd.R_reads' HO_3.out).2.1; have hC43 : Kd.C (Kd.int .i64) _ Ao37 x3_1.length x3_1 := (Kd.R_reads' HO_3.out).2.2; have q043 : (0 : Int) ≤ (x5_2 : Int) := of_decide_eq_true dq13; have hcut43 := cut_from (P := Tryz.prog) 47 2 .i64 Tryz.underlying47 hi043 1 hsz43 Ao37 x3_1.length co37 x5_2 q043 q43; have hr43 := Kd.C_drop (m := (x5_2 : Int).toNat) (c := co37) hC43 dq20 hroom43; obtain ⟨A43, hA43⟩ : ∃ A1, A1 = (if co37 = (x5_2 : Int).toNat then Ao37 else (Ao37 : Option Addr).map (·.add ((x5_2 : Int).toNat * 1))) := ⟨_, rfl⟩; obtain ⟨c43, hc43⟩ : ∃ c1, c1 = co37 - (x5_2 : Int).toNat := ⟨_, rfl⟩; have hy43 : y226.length = x3_1.length - (x5_2 : Int).toNat := (by rw [Ny226.out, List.length_drop] <;> omega); rw [show (x3_1).drop (x5_2 : Int).toNat = y226 from Ny226.out.symm] at hr43; replace hr43 : Kd.C (Kd.int .i64) _ A43 y226.length y226 := (by rw [hA43]; exact hr43); rw [← hy43, ← hA43, ← hc43] at hcut43; have HR229 := Aside0.mk hr43; have HC229 := Aside0.mk (show y226.length ≤ c43 from by rw [hy43, hc43]; exact Nat.sub_le_sub_right hroom43 _); clear hr43 hC43 hroom43 hi043 hsz43 hc43; have KY43 := Aside0.mk hy43; have KA43 := Aside0.mk hA43; clear hy43 hA43; have KL43 := Aside0.mk (show (x5_2 : Int).toNat ≤ x3_1.length from by omega); replace q43 := eq_true q43) | ((with_reducible refine gate_builtin (b := .append) (xs := #[.tmp 58, .tmp 61]) rfl ?_); at_builtin; refine Kd.R_append_rows (Kd.int .i64) (w0 := w) w.heap.size rfl (.tmp 58) (.tmp 61) 47 2 (.int .i64 0) 8 rfl Tryz.underlying47 info2 rfl dq24 dq20 v224 y223 y226 _ _ _ (fun k_ => some k_ ≠ (.slice Ao37 x3_1.length co37 : Value).ownBlock) (fun _ => False) rfl rfl ?aO ?aR (fun _ _ h => h) (fun _ h => h.elim) ?aF ?aB ?aS ?aL ?_; (case aR => repeat (first | exact (by repeat (first | (with_reducible exact HR229.out) | (with_reducible refine Kd.C_alloc ?_ _) | (with_reducible refine Kd.C_drewN ?_ _) | (with_reducible refine Kd.C_drew ?_) | exact HR229.out)) | (with_reducible refine Kd.C_alloc ?_ _) | (with_reducible refine Kd.C_drewN ?_ _) | (with_reducible refine Kd.C_drew ?_))); (case aB => exact dq9); (case aF => exact (fun k_ hk => Kd.fresh' (Kd.R_lt dq25) k_ hk)); (case aO => exact (by (with_reducible repeat (first | apply Kd.R_alloc | apply Kd.R_drewN | apply Kd.R_drew)); exact HO225.out)); (case aS => exact (below_size dq9)); (case aL => have := LMc36.out; omega); intro v231 w44 ho hb hg hat; rw [← Ny230.out] at ho; have n0_ := Aside0.mk (Kd.R_after (ok := (fun _ => True)) dq25 hg hat); have n1_ := Aside0.mk (hb); have n2_ := Aside0.mk ((show Kd.C (Kd.int .i64) w44 Ao37 y215.length y215 from by rw [Ny215.out]; exact Kd.C_take (m := (x5_2 : Int).toNat) ((Kd.R_reads' (Kd.R_after (ok := (fun _ => True)) dq25 hg hat)).2.2) KL40.out)); have n3_ := Aside0.mk ((show Kd.C (Kd.int .i64) w44 A43 y226.length y226 from by rw [Ny226.out, KA43.out]; exact Kd.C_drop (m := (x5_2 : Int).toNat) (c := co37) ((Kd.R_reads' (Kd.R_after (ok := (fun _ => True)) dq25 hg hat)).2.2) KL43.out ((Kd.R_reads' (Kd.R_after (ok := (fun _ => True)) dq25 hg hat)).2.1))); have n4_ := Aside0.mk (ho); clear HO_3; clear HB; clear HR218; clear HR229; clear HO225; have HO_3 := n0_; have HB := n1_; have HR218 := n2_; have HR229 := n3_; have HO232 := n4_; clear n0_ n1_ n2_ n3_ n4_; clear ho hb hg hat)))
    go_roundg k2
    case measure => have := HK1.out; have := HK2.out; omega
    case rel => exact ⟨(y230), (wrap64 (x4_1 + 1)), dq12, H', ⟨dq37⟩, ⟨by (with_reducible repeat (first | apply Kd.R_alloc | apply Kd.R_drewN | apply Kd.R_drew)); exact Kd.R_mono HO232.out (fun _ hk => trivial)⟩, ⟨dq9⟩⟩
   rw [if_pos c5] at H
   have c5b0 := decide_eq_true c5
   clear c5
   by_cases c6 : 0 ≤ x5_2
   rotate_left
   ·rw [if_neg c6] at H
    exact absurd H dq17
   rw [if_pos c6] at H
   have c6b0 := decide_eq_true c6
   clear c6
   by_cases c7 : 0 ≤ x4_1
   rotate_left
   ·rw [if_neg c7] at H
    exact absurd H dq17
   rw [if_pos c7] at H
   have c7b0 := decide_eq_true c7
   clear c7
   by_cases c8 : x4_1 < (l0.length : Int)
   rotate_left
   ·rw [if_neg c8] at H
    exact absurd H dq17
   rw [if_pos c8] at H
   have c8b0 := decide_eq_true c8
   clear c8
   by_cases c9 : (rd x3_1 x5_2) < (rd l0 x4_1)
   ·rw [if_pos c9] at H
    have c9b0 := decide_eq_true c9
    clear c9
    have H' := Aside0.mk H
    clear H
    obtain ⟨Ao10, co10, eo10⟩ := Kd.R_slice HO_3.out
    subst eo10
    have p187 : 0 ≤ (x5_2 : Int) := of_decide_eq_true dq13
    have q187 : x5_2 < (x3_1.length : Int) := of_decide_eq_true dq13
    obtain ⟨ad187, e187, hx187_0⟩ := Kd.at_int (Kd.R_reads' HO_3.out).2.2 x5_2 p187 q187
    cases e187
    replace p187 := eq_true p187
    replace q187 := eq_true q187
    have p188 : 0 ≤ (x4_1 : Int) := of_decide_eq_true dq13
    have q188 : x4_1 < (l0.length : Int) := of_decide_eq_true dq13
    obtain ⟨ad188, e188, hx188_0⟩ := Kd.at_int HR0.out x4_1 p188 q188
    cases e188
    replace hx188_0 := (HB.out.cell (World.block_lt_of_cell? w _ hx188_0)).trans hx188_0
    replace p188 := eq_true p188
    replace q188 := eq_true q188
    go_wp2
    repeat (go_quiet (fail); try go_wp2)
    go_roundg k2
    case measure => have := HK1.out; have := HK2.out; omega
    case rel => exact ⟨(wrap64 (x5_2 + 1)), dq12, H', ⟨dq37⟩, ⟨dq25⟩, ⟨dq9⟩⟩
   rw [if_neg c9] at H
   have c9b0 := decide_eq_false c9
   clear c9
   by_cases c11 : (rd x3_1 x5_2) = (rd l0 x4_1)
   ·rw [if_pos c11] at H
    have c11b0 := beq_iff_eq.mpr c11
    have c11b1 := bne_eq_false_iff_eq.mpr c11
    clear c11
    have H' := Aside0.mk H
    clear H
    obtain ⟨Ao12, co12, eo12⟩ := Kd.R_slice HO_3.out
    subst eo12
    have p187 : 0 ≤ (x5_2 : Int) := of_decide_eq_true dq13
    have q187 : x5_2 < (x3_1.length : Int) := of_decide_eq_true dq13
    obtain ⟨ad187, e187, hx187_0⟩ := Kd.at_int (Kd.R_reads' HO_3.out).2.2 x5_2 p187 q187
    cases e187
    replace p187 := eq_true p187
    replace q187 := eq_true q187
    have p188 : 0 ≤ (x4_1 : Int) := of_decide_eq_true dq13
    have q188 : x4_1 < (l0.length : Int) := of_decide_eq_true dq13
    obtain ⟨ad188, e188, hx188_0⟩ := Kd.at_int HR0.out x4_1 p188 q188
    cases e188
    replace hx188_0 := (HB.out.cell (World.block_lt_of_cell? w _ hx188_0)).trans hx188_0
    replace p188 := eq_true p188
    replace q188 := eq_true q188
    have p189 : 0 ≤ (x5_2 : Int) := of_decide_eq_true dq13
    have q189 : x5_2 < (x3_1.length : Int) := of_decide_eq_true dq13
    obtain ⟨ad189, e189, hx189_0⟩ := Kd.at_int (Kd.R_reads' HO_3.out).2.2 x5_2 p189 q189
    obtain rfl : ad187 = ad189 := (by injection e189)
    replace p189 := eq_true p189
    replace q189 := eq_true q189
    have p190 : 0 ≤ (x4_1 : Int) := of_decide_eq_true dq13
    have q190 : x4_1 < (l0.length : Int) := of_decide_eq_true dq13
    obtain ⟨ad190, e190, hx190_0⟩ := Kd.at_int HR0.out x4_1 p190 q190
    obtain rfl : ad188 = ad190 := (by injection e190)
    replace hx190_0 := (HB.out.cell (World.block_lt_of_cell? w _ hx190_0)).trans hx190_0
    replace p190 := eq_true p190
    replace q190 := eq_true q190
    go_wp2
    repeat (go_quiet (fail); try go_wp2)
    go_roundg k2
    case measure => have := HK1.out; have := HK2.out; omega
    case rel => exact ⟨(x3_1), (wrap64 (x4_1 + 1)), dq12, H', ⟨dq37⟩, ⟨dq25⟩, ⟨dq9⟩⟩
   rw [if_neg c11] at H
   have c11b0 := beq_eq_false_iff_ne.mpr c11
   have c11b1 := bne_iff_ne.mpr c11
   obtain ⟨y191, hy191⟩ : ∃ y_ : List Int, y_ = (([] : List Int)) := ⟨_, rfl⟩
   replace H : (if x5_2 ≤ (x3_1.length : Int) then ((some (x3_1.take (x5_2 : Int).toNat : List Int)).bind fun y194 => (if y191.length + y194.length < 17592186044416 then ((some (y191 ++ y194 : List Int)).bind fun y198 => (if y198.length < 17592186044416 then ((some (y198 ++ [rd l0 x4_1] : List Int)).bind fun y202 => ((some (x3_1.drop (x5_2 : Int).toNat : List Int)).bind fun y205 => (if y202.length + y205.length < 17592186044416 then (spec_l8Sorted.l0 k2 l0 (y202 ++ y205) (wrap64 (x4_1 + 1))) else (none)))) else (none))) else (none))) else (none)) = some r := by first | (rw [hy191]; with_reducible exact H) | (have H2_ := (Option.bind_some _ _).symm.trans H; rw [hy191]; with_reducible exact H2_) | (have H2_ := (Option.bind_some _ _).symm.trans H; with_reducible exact H2_) | with_reducible exact H | (rw [hy191]; exact H) | exact H
   have Ny191 := Aside0.mk hy191
   clear hy191
   have c13b0 := eq_true (of_decide_eq_true dq13 : 0 ≤ x5_2)
   by_cases c14 : x5_2 ≤ (x3_1.length : Int)
   rotate_left
   ·rw [if_neg c14] at H
    exact absurd H dq17
   rw [if_pos c14] at H
   have c14b0 := eq_true c14
   have c14b1 := decide_eq_true c14
   clear c14
   obtain ⟨y194, hy194⟩ : ∃ y_ : List Int, y_ = (x3_1.take (x5_2 : Int).toNat) := ⟨_, rfl⟩
   replace H : (if y191.length + y194.length < 17592186044416 then ((some (y191 ++ y194 : List Int)).bind fun y198 => (if y198.length < 17592186044416 then ((some (y198 ++ [rd l0 x4_1] : List Int)).bind fun y202 => ((some (x3_1.drop (x5_2 : Int).toNat : List Int)).bind fun y205 => (if y202.length + y205.length < 17592186044416 then (spec_l8Sorted.l0 k2 l0 (y202 ++ y205) (wrap64 (x4_1 + 1))) else (none)))) else (none))) else (none)) = some r := by first | (rw [hy194]; with_reducible exact H) | (have H2_ := (Option.bind_some _ _).symm.trans H; rw [hy194]; with_reducible exact H2_) | (have H2_ := (Option.bind_some _ _).symm.trans H; with_reducible exact H2_) | with_reducible exact H | (rw [hy194]; exact H) | exact H
   have Ny194 := Aside0.mk hy194
   clear hy194
   by_cases c15 : y191.length + y194.length < 17592186044416
   rotate_left
   ·rw [if_neg c15] at H
    exact absurd H dq17
   rw [if_pos c15] at H
   have LMc15 := Aside0.mk c15
   clear c15
   obtain ⟨y198, hy198⟩ : ∃ y_ : List Int, y_ = (y191 ++ y194) := ⟨_, rfl⟩
   replace H : (if y198.length < 17592186044416 then ((some (y198 ++ [rd l0 x4_1] : List Int)).bind fun y202 => ((some (x3_1.drop (x5_2 : Int).toNat : List Int)).bind fun y205 => (if y202.length + y205.length < 17592186044416 then (spec_l8Sorted.l0 k2 l0 (y202 ++ y205) (wrap64 (x4_1 + 1))) else (none)))) else (none)) = some r := by first | (rw [hy198]; with_reducible exact H) | (have H2_ := (Option.bind_some _ _).symm.trans H; rw [hy198]; with_reducible exact H2_) | (have H2_ := (Option.bind_some _ _).symm.trans H; with_reducible exact H2_) | with_reducible exact H | (rw [hy198]; exact H) | exact H
   have Ny198 := Aside0.mk hy198
   clear hy198
   by_cases c16 : y198.length < 17592186044416
   rotate_left
   ·rw [if_neg c16] at H
    exact absurd H dq17
   rw [if_pos c16] at H
   have LMc16 := Aside0.mk c16
   clear c16
   obtain ⟨y202, hy202⟩ : ∃ y_ : List Int, y_ = (y198 ++ [rd l0 x4_1]) := ⟨_, rfl⟩
   replace H : ((some (x3_1.drop (x5_2 : Int).toNat : List Int)).bind fun y205 => (if y202.length + y205.length < 17592186044416 then (spec_l8Sorted.l0 k2 l0 (y202 ++ y205) (wrap64 (x4_1 + 1))) else (none))) = some r := by first | (rw [hy202]; with_reducible exact H) | (have H2_ := (Option.bind_some _ _).symm.trans H; rw [hy202]; with_reducible exact H2_) | (have H2_ := (Option.bind_some _ _).symm.trans H; with_reducible exact H2_) | with_reducible exact H | (rw [hy202]; exact H) | exact H
   have Ny202 := Aside0.mk hy202
   clear hy202
   have c17b0 := eq_true (of_decide_eq_true dq13 : 0 ≤ x5_2)
   have c18b0 := eq_true (of_decide_eq_true dq13 : x5_2 ≤ (x3_1.length : Int))
   obtain ⟨y205, hy205⟩ : ∃ y_ : List Int, y_ = (x3_1.drop (x5_2 : Int).toNat) := ⟨_, rfl⟩
   replace H : (if y202.length + y205.length < 17592186044416 then (spec_l8Sorted.l0 k2 l0 (y202 ++ y205) (wrap64 (x4_1 + 1))) else (none)) = some r := by first | (rw [hy205]; with_reducible exact H) | (have H2_ := (Option.bind_some _ _).symm.trans H; rw [hy205]; with_reducible exact H2_) | (have H2_ := (Option.bind_some _ _).symm.trans H; with_reducible exact H2_) | with_reducible exact H | (rw [hy205]; exact H) | exact H
   have Ny205 := Aside0.mk hy205
   clear hy205
   by_cases c19 : y202.length + y205.length < 17592186044416
   rotate_left
   ·rw [if_neg c19] at H
    exact absurd H dq17
   rw [if_pos c19] at H
   have LMc19 := Aside0.mk c19
   clear c19
   obtain ⟨y209, hy209⟩ : ∃ y_ : List Int, y_ = (y202 ++ y205) := ⟨_, rfl⟩
   replace H : (spec_l8Sorted.l0 k2 l0 y209 (wrap64 (x4_1 + 1))) = some r := by first | (rw [hy209]; with_reducible exact H) | (have H2_ := (Option.bind_some _ _).symm.trans H; rw [hy209]; with_reducible exact H2_) | (have H2_ := (Option.bind_some _ _).symm.trans H; with_reducible exact H2_) | with_reducible exact H | (rw [hy209]; exact H) | exact H
   have Ny209 := Aside0.mk hy209
   clear hy209
   have H' := Aside0.mk H
   clear H
   obtain ⟨Ao20, co20, eo20⟩ := Kd.R_slice HO_3.out
   subst eo20
   have p187 : 0 ≤ (x5_2 : Int) := of_decide_eq_true dq13
   have q187 : x5_2 < (x3_1.length : Int) := of_decide_eq_true dq13
   obtain ⟨ad187, e187, hx187_0⟩ := Kd.at_int (Kd.R_reads' HO_3.out).2.2 x5_2 p187 q187
   cases e187
   replace p187 := eq_true p187
   replace q187 := eq_true q187
   have p188 : 0 ≤ (x4_1 : Int) := of_decide_eq_true dq13
   have q188 : x4_1 < (l0.length : Int) := of_decide_eq_true dq13
   obtain ⟨ad188, e188, hx188_0⟩ := Kd.at_int HR0.out x4_1 p188 q188
   cases e188
   replace hx188_0 := (HB.out.cell (World.block_lt_of_cell? w _ hx188_0)).trans hx188_0
   replace p188 := eq_true p188
   replace q188 := eq_true q188
   have p189 : 0 ≤ (x5_2 : Int) := of_decide_eq_true dq13
   have q189 : x5_2 < (x3_1.length : Int) := of_decide_eq_true dq13
   obtain ⟨ad189, e189, hx189_0⟩ := Kd.at_int (Kd.R_reads' HO_3.out).2.2 x5_2 p189 q189
   obtain rfl : ad187 = ad189 := (by injection e189)
   replace p189 := eq_true p189
   replace q189 := eq_true q189
   have p190 : 0 ≤ (x4_1 : Int) := of_decide_eq_true dq13
   have q190 : x4_1 < (l0.length : Int) := of_decide_eq_true dq13
   obtain ⟨ad190, e190, hx190_0⟩ := Kd.at_int HR0.out x4_1 p190 q190
   obtain rfl : ad188 = ad190 := (by injection e190)
   replace hx190_0 := (HB.out.cell (World.block_lt_of_cell? w _ hx190_0)).trans hx190_0
   replace p190 := eq_true p190
   replace q190 := eq_true q190
   go_wp2_with (fail)
   repeat (go_quiet (fail); try go_wp2_with (first | ((with_reducible refine gate_dst (N := 46) rfl ?_); refine Kd.R_lit (Kd.int .i64) _ 2 ?hg (N := 46) ?hd (xs := ([] : List Int)) (inner := []) (ok := fun _ => True) (okp := fun _ => True) ?hr ?hp (fun _ hk => hk) trivial (Below.refl _ _) (Nat.le_refl _) dq17 ?_; (case hd => rfl); (case hg => rfl); (case hr => exact dq0); (case hp => exact (Reps.none _ _)); intro v192 w21 ho22 hb hg_ hnew_; clear hg_ hnew_; (first | rw [← Ny191.out] at ho22 | (simp only [Int.reduceToNat] at ho22; rw [← Ny191.out] at ho22)); have n0_ := Aside0.mk (Kd.R_elder' dq25 (Kd.R_base ho22) hb); have n1_ := Aside0.mk (Kd.R_lower (Kd.R_new' ho22 (Kd.R_lt dq25)) (below_size dq9)); have n2_ := Aside0.mk (below_step dq9 hb); clear HO_3; clear HB; have HO_3 := n0_; have HO193 := n1_; have HB := n2_; clear n0_ n1_ n2_; clear hb ho22; have q23 : (x5_2 : Int) ≤ ((x3_1.length : Int) : Int) := of_decide_eq_true dq13; obtain ⟨i023, hi023, _, hsz23, _⟩ := info_parts info2; have hroom23 : x3_1.length ≤ co20 := (Kd.R_reads' HO_3.out).2.1; have hC23 : Kd.C (Kd.int .i64) _ (some ad187) x3_1.length x3_1 := (Kd.R_reads' HO_3.out).2.2; have hcut23 := cut_to (P := Tryz.prog) 47 2 .i64 Tryz.underlying47 hi023 (some ad187) x3_1.length co20 x5_2 (of_decide_eq_true dq13) q23 hroom23; have hr23 := Kd.C_take (m := (x5_2 : Int).toNat) hC23 dq20; have hy23 : y194.length = (x5_2 : Int).toNat := (by rw [Ny194.out, List.length_take]; omega); rw [← Ny194.out] at hr23; rw [← hy23] at hcut23; have HR197 := Aside0.mk hr23; have HC197 := Aside0.mk (show y194.length ≤ co20 from by omega); clear hr23 hC23 hroom23 hi023 hsz23; have KY23 := Aside0.mk hy23; clear hy23; have KL23 := Aside0.mk (show (x5_2 : Int).toNat ≤ x3_1.length from by omega); replace q23 := eq_true q23) | ((with_reducible refine gate_builtin (b := .append) (xs := #[.tmp 46, .tmp 49]) rfl ?_); at_builtin; refine Kd.R_append_rows (Kd.int .i64) (w0 := w) w.heap.size rfl (.tmp 46) (.tmp 49) 47 2 (.int .i64 0) 8 rfl Tryz.underlying47 info2 rfl dq24 dq20 v192 y191 y194 _ _ _ (fun k_ => some k_ ≠ (.slice (some ad187) x3_1.length co20 : Value).ownBlock) (fun _ => False) rfl rfl ?aO ?aR (fun _ _ h => h) (fun _ h => h.elim) ?aF ?aB ?aS ?aL ?_; (case aR => repeat (first | exact (by repeat (first | (with_reducible exact HR197.out) | (with_reducible refine Kd.C_alloc ?_ _) | (with_reducible refine Kd.C_drewN ?_ _) | (with_reducible refine Kd.C_drew ?_) | exact HR197.out)) | (with_reducible refine Kd.C_alloc ?_ _) | (with_reducible refine Kd.C_drewN ?_ _) | (with_reducible refine Kd.C_drew ?_))); (case aB => exact dq9); (case aF => exact (fun k_ hk => Kd.fresh' (Kd.R_lt dq25) k_ hk)); (case aO => exact (by (with_reducible repeat (first | apply Kd.R_alloc | apply Kd.R_drewN | apply Kd.R_drew)); exact Kd.R_mono HO193.out (fun _ hk => hk.2))); (case aS => exact (below_size dq9)); (case aL => have := LMc15.out; omega); intro v199 w24 ho hb hg hat; rw [← Ny198.out] at ho; have n0_ := Aside0.mk (Kd.R_after (ok := (fun _ => True)) dq25 hg hat); have n1_ := Aside0.mk (hb); have n2_ := Aside0.mk ((show Kd.C (Kd.int .i64) w24 (some ad187) y194.length y194 from by rw [Ny194.out]; exact Kd.C_take (m := (x5_2 : Int).toNat) ((Kd.R_reads' (Kd.R_after (ok := (fun _ => True)) dq25 hg hat)).2.2) KL23.out)); have n3_ := Aside0.mk (ho); clear HO_3; clear HB; clear HR197; clear HO193; have HO_3 := n0_; have HB := n1_; have HR197 := n2_; have HO200 := n3_; clear n0_ n1_ n2_ n3_; clear ho hb hg hat; have p201 : 0 ≤ (x4_1 : Int) := of_decide_eq_true dq13; have q201 : x4_1 < (l0.length : Int) := of_decide_eq_true dq13; obtain ⟨ad201, e201, hx201_0⟩ := Kd.at_int HR0.out x4_1 p201 q201; obtain rfl : ad188 = ad201 := (by injection e201); replace hx201_0 := (HB.out.cell (World.block_lt_of_cell? w _ hx201_0)).trans hx201_0; replace p201 := eq_true p201; replace q201 := eq_true q201) | ((with_reducible refine gate_builtin (b := .append) (xs := #[.tmp 51, .tmp 56]) rfl ?_); at_builtin; refine Kd.R_append (Kd.int .i64) (w0 := w) w.heap.size rfl (.tmp 51) (.tmp 56) 47 2 (.int .i64 0) 8 rfl Tryz.underlying47 info2 rfl dq24 dq20 v199 y198 (rd l0 x4_1) [.int .i64 (rd l0 x4_1)] (fun k_ => some k_ ≠ (.slice (some ad187) x3_1.length co20 : Value).ownBlock) (fun _ => False) rfl rfl ?aP (fun _ hk => hk.elim) ?aF ?aO ?aB ?aS ?aL ?_; (case aP => exact rfl); (case aB => exact dq9); (case aF => exact (fun k_ hk => Kd.fresh' (Kd.R_lt dq25) k_ hk)); (case aO => exact (by (with_reducible repeat (first | apply Kd.R_alloc | apply Kd.R_drewN | apply Kd.R_drew)); exact HO200.out)); (case aS => exact (below_size dq9)); (case aL => have := LMc16.out; omega); intro v203 w25 ho hb hg hat; rw [← Ny202.out] at ho; have n0_ := Aside0.mk (Kd.R_after (ok := (fun _ => True)) dq25 hg hat); have n1_ := Aside0.mk (hb); have n2_ := Aside0.mk ((show Kd.C (Kd.int .i64) w25 (some ad187) y194.length y194 from by rw [Ny194.out]; exact Kd.C_take (m := (x5_2 : Int).toNat) ((Kd.R_reads' (Kd.R_after (ok := (fun _ => True)) dq25 hg hat)).2.2) KL23.out)); have n3_ := Aside0.mk (ho); clear HO_3; clear HB; clear HR197; clear HO200; have HO_3 := n0_; have HB := n1_; have HR197 := n2_; have HO204 := n3_; clear n0_ n1_ n2_ n3_; clear ho hb hg hat; have q26 : (x5_2 : Int) ≤ ((x3_1.length : Int) : Int) := of_decide_eq_true dq13; obtain ⟨i026, hi026, _, hsz26, _⟩ := info_parts info2; have hroom26 : x3_1.length ≤ co20 := (Kd.R_reads' HO_3.out).2.1; have hC26 : Kd.C (Kd.int .i64) _ (some ad187) x3_1.length x3_1 := (Kd.R_reads' HO_3.out).2.2; have q026 : (0 : Int) ≤ (x5_2 : Int) := of_decide_eq_true dq13; have hcut26 := cut_from (P := Tryz.prog) 47 2 .i64 Tryz.underlying47 hi026 1 hsz26 (some ad187) x3_1.length co20 x5_2 q026 q26; have hr26 := Kd.C_drop (m := (x5_2 : Int).toNat) (c := co20) hC26 dq20 hroom26; obtain ⟨A26, hA26⟩ : ∃ A1, A1 = (if co20 = (x5_2 : Int).toNat then (some ad187) else ((some ad187) : Option Addr).map (·.add ((x5_2 : Int).toNat * 1))) := ⟨_, rfl⟩; obtain ⟨c26, hc26⟩ : ∃ c1, c1 = co20 - (x5_2 : Int).toNat := ⟨_, rfl⟩; have hy26 : y205.length = x3_1.length - (x5_2 : Int).toNat := (by rw [Ny205.out, List.length_drop] <;> omega); rw [show (x3_1).drop (x5_2 : Int).toNat = y205 from Ny205.out.symm] at hr26; replace hr26 : Kd.C (Kd.int .i64) _ A26 y205.length y205 := (by rw [hA26]; exact hr26); rw [← hy26, ← hA26, ← hc26] at hcut26; have HR208 := Aside0.mk hr26; have HC208 := Aside0.mk (show y205.length ≤ c26 from by rw [hy26, hc26]; exact Nat.sub_le_sub_right hroom26 _); clear hr26 hC26 hroom26 hi026 hsz26 hc26; have KY26 := Aside0.mk hy26; have KA26 := Aside0.mk hA26; clear hy26 hA26; have KL26 := Aside0.mk (show (x5_2 : Int).toNat ≤ x3_1.length from by omega); replace q26 := eq_true q26) | ((with_reducible refine gate_builtin (b := .append) (xs := #[.tmp 58, .tmp 61]) rfl ?_); at_builtin; refine Kd.R_append_rows (Kd.int .i64) (w0 := w) w.heap.size rfl (.tmp 58) (.tmp 61) 47 2 (.int .i64 0) 8 rfl Tryz.underlying47 info2 rfl dq24 dq20 v203 y202 y205 _ _ _ (fun k_ => some k_ ≠ (.slice (some ad187) x3_1.length co20 : Value).ownBlock) (fun _ => False) rfl rfl ?aO ?aR (fun _ _ h => h) (fun _ h => h.elim) ?aF ?aB ?aS ?aL ?_; (case aR => repeat (first | exact (by repeat (first | (with_reducible exact HR208.out) | (with_reducible refine Kd.C_alloc ?_ _) | (with_reducible refine Kd.C_drewN ?_ _) | (with_reducible refine Kd.C_drew ?_) | exact HR208.out)) | (with_reducible refine Kd.C_alloc ?_ _) | (with_reducible refine Kd.C_drewN ?_ _) | (with_reducible refine Kd.C_drew ?_))); (case aB => exact dq9); (case aF => exact (fun k_ hk => Kd.fresh' (Kd.R_lt dq25) k_ hk)); (case aO => exact (by (with_reducible repeat (first | apply Kd.R_alloc | apply Kd.R_drewN | apply Kd.R_drew)); exact HO204.out)); (case aS => exact (below_size dq9)); (case aL => have := LMc19.out; omega); intro v210 w27 ho hb hg hat; rw [← Ny209.out] at ho; have n0_ := Aside0.mk (Kd.R_after (ok := (fun _ => True)) dq25 hg hat); have n1_ := Aside0.mk (hb); have n2_ := Aside0.mk ((show Kd.C (Kd.int .i64) w27 (some ad187) y194.length y194 from by rw [Ny194.out]; exact Kd.C_take (m := (x5_2 : Int).toNat) ((Kd.R_reads' (Kd.R_after (ok := (fun _ => True)) dq25 hg hat)).2.2) KL23.out)); have n3_ := Aside0.mk ((show Kd.C (Kd.int .i64) w27 A26 y205.length y205 from by rw [Ny205.out, KA26.out]; exact Kd.C_drop (m := (x5_2 : Int).toNat) (c := co20) ((Kd.R_reads' (Kd.R_after (ok := (fun _ => True)) dq25 hg hat)).2.2) KL26.out ((Kd.R_reads' (Kd.R_after (ok := (fun _ => True)) dq25 hg hat)).2.1))); have n4_ := Aside0.mk (ho); clear HO_3; clear HB; clear HR197; clear HR208; clear HO204; have HO_3 := n0_; have HB := n1_; have HR197 := n2_; have HR208 := n3_; have HO211 := n4_; clear n0_ n1_ n2_ n3_ n4_; clear ho hb hg hat)))
   go_roundg k2
   case measure => have := HK1.out; have := HK2.out; omega
   case rel => exact ⟨(y209), (wrap64 (x4_1 + 1)), dq12, H', ⟨dq37⟩, ⟨by (with_reducible repeat (first | apply Kd.R_alloc | apply Kd.R_drewN | apply Kd.R_drew)); exact Kd.R_mono HO211.out (fun _ hk => trivial)⟩, ⟨dq9⟩⟩

/-! ### spec_l11Select: function 91 -/
mutual
def spec_l11Select.j2 : Nat → List (S65) → List ByteArray → List Int → Option (List Int)
 | 0, _, _, _ => none
 | k + 1, x0, x7, x10 => spec_l11Select.l2 k x0 x7 x10 0
def spec_l11Select.l2 : Nat → List (S65) → List ByteArray → List Int → Int → Option (List Int)
 | 0, _, _, _, _ => none
 | k + 1, x0, x7, x10, x13 => if x13 < (x7.length : Int) then (spec_l11Select.l3 k x0 x7 x10 x13 (([] : List Int)) 0) else ((spec_l8Sorted.f k x10).bind fun t246 => (some t246))
def spec_l11Select.l3 : Nat → List (S65) → List ByteArray → List Int → Int → List Int → Int → Option (List Int)
 | 0, _, _, _, _, _, _ => none
 | k + 1, x0, x7, x10, x13, x14, x15 => if x15 < (x10.length : Int) then (if 0 ≤ x15 then ((spec_l2Kids.f k x0 (rd x10 x15)).bind fun t253 => (spec_l11Select.l4 k x0 x7 x10 x13 x14 x15 t253 0)) else (none)) else (spec_l11Select.l2 k x0 x7 x14 (wrap64 (x13 + 1)))
def spec_l11Select.l4 : Nat → List (S65) → List ByteArray → List Int → Int → List Int → Int → List Int → Int → Option (List Int)
 | 0, _, _, _, _, _, _, _, _ => none
 | k + 1, x0, x7, x10, x13, x14, x15, x16, x17 => if x17 < (x16.length : Int) then (if 0 ≤ x17 then (if 0 ≤ (rd x16 x17) then (if (rd x16 x17) < (x0.length : Int) then (if 0 ≤ x13 then (if x13 < (x7.length : Int) then (if ((rd_T65 x0 (rd x16 x17)).f1).toList = (rdOf ByteArray.empty x7 x13).toList then (if x14.length < 17592186044416 then (spec_l11Select.l4 k x0 x7 x10 x13 (x14 ++ [rd x16 x17]) x15 x16 (wrap64 (x17 + 1))) else (none)) else (spec_l11Select.l4 k x0 x7 x10 x13 x14 x15 x16 (wrap64 (x17 + 1)))) else (none)) else (none)) else (none)) else (none)) else (none)) else (spec_l11Select.l3 k x0 x7 x10 x13 x14 (wrap64 (x15 + 1)))
def spec_l11Select.l0 : Nat → List (S65) → Int → List ByteArray → List Int → Int → Option (List Int)
 | 0, _, _, _, _, _ => none
 | k + 1, x0, x1, x7, x10, x11 => if x11 < (x0.length : Int) then (spec_l11Select.l1 k x0 x1 x7 x10 x11 x11) else (spec_l11Select.j2 k x0 x7 x10)
def spec_l11Select.l1 : Nat → List (S65) → Int → List ByteArray → List Int → Int → Int → Option (List Int)
 | 0, _, _, _, _, _, _ => none
 | k + 1, x0, x1, x7, x10, x11, x12 => if x12 > x1 then (if 0 ≤ x12 then (if x12 < (x0.length : Int) then (spec_l11Select.l1 k x0 x1 x7 x10 x11 ((rd_T65 x0 x12).f0)) else (none)) else (none)) else (if x12 = x1 then (if 0 ≤ x11 then (if x11 < (x0.length : Int) then (if ((rd_T65 x0 x11).f1).toList = ([] : List UInt8) then (spec_l11Select.l0 k x0 x1 x7 x10 (wrap64 (x11 + 1))) else (if x10.length < 17592186044416 then (spec_l11Select.l0 k x0 x1 x7 (x10 ++ [x11]) (wrap64 (x11 + 1))) else (none))) else (none)) else (none)) else (spec_l11Select.l0 k x0 x1 x7 x10 (wrap64 (x11 + 1))))
end
def spec_l11Select.f (k : Nat) (l0 : List (S65)) (a1 : Int) (a2 : ByteArray) : Option (List Int) := (spec_l11Steps.f k a2).bind fun bt233 => ((some (([a1] : List Int) : List Int)).bind fun y238 => (if bt233.2.1 = true then (spec_l11Select.l0 k l0 a1 bt233.1 y238 (wrap64 (a1 + 1))) else (spec_l11Select.j2 k l0 bt233.1 y238)))
set_option maxHeartbeats 8000000 in
set_option maxRecDepth 100000 in
theorem spec_l11Select.calls (k : Nat) (P0_ : Nat → Prop) (A0 : Option Addr) (c0 : Nat) (l0 : List (S65)) (a1 : Int) (a2 : ByteArray) (r : List Int) (w : World) (hs0 : Kd.V k65 65 w w.heap.size (fun k_ => P0_ k_) (.slice A0 l0.length c0) l0) (h : spec_l11Select.f k l0 a1 a2 = some r) :
  Calls Tryz.prog 91 #[.slice A0 l0.length c0, .int .i64 a1, .string a2] w fun e w' => ∃ v0_ : Value, e = .returned (v0_) ∧ Kd.R (Kd.int .i64) 2 w' w.heap.size (fun k_ => (w.heap.size ≤ k_)) v0_ r ∧ Below w.heap.size w w' := by
 have HO0 := Aside0.mk (show Kd.V k65 65 w w.heap.size (fun k_ => (P0_ k_ ∨ w.heap.size ≤ k_)) (.slice A0 l0.length c0) l0 from Kd.V_mono hs0 (fun k_ hk => .inl hk))
 have HB := Aside0.mk (Below.refl w.heap.size w)
 have H : ((spec_l11Steps.f k a2).bind fun bt233 => ((some (([a1] : List Int) : List Int)).bind fun y238 => (if bt233.2.1 = true then (spec_l11Select.l0 k l0 a1 bt233.1 y238 (wrap64 (a1 + 1))) else (spec_l11Select.j2 k l0 bt233.1 y238)))) = some r := h
 clear h
 replace H := Option.bind_eq_some_iff.mp H
 obtain ⟨⟨t233, t234, t235⟩, A40, H⟩ := H
 replace H : ((some (([a1] : List Int) : List Int)).bind fun y238 => (if t234 = true then (spec_l11Select.l0 k l0 a1 t233 y238 (wrap64 (a1 + 1))) else (spec_l11Select.j2 k l0 t233 y238))) = some r := H
 have A4 := Aside0.mk A40
 clear A40
 obtain ⟨y238, hy238⟩ : ∃ y_ : List Int, y_ = (([a1] : List Int)) := ⟨_, rfl⟩
 replace H : (if t234 = true then (spec_l11Select.l0 k l0 a1 t233 y238 (wrap64 (a1 + 1))) else (spec_l11Select.j2 k l0 t233 y238)) = some r := by first | (rw [hy238]; with_reducible exact H) | (have H2_ := (Option.bind_some _ _).symm.trans H; rw [hy238]; with_reducible exact H2_) | (have H2_ := (Option.bind_some _ _).symm.trans H; with_reducible exact H2_) | with_reducible exact H | (rw [hy238]; exact H) | exact H
 have Ny238 := Aside0.mk hy238
 clear hy238
 have HC5 := Aside0.mk H
 clear H
 go_enter Tryz.func91, Tryz.ntmps91
 go_upto_if 26 with (first | (go_at_call 90; (with_reducible refine (spec_l11Steps.calls k a2 t233 t234 t235 _ A4.out).mono ?_); rintro e w6 ⟨v236, rfl, ho0, hb⟩; have n0_ := Aside0.mk (Kd.V_elder' (by (with_reducible repeat (first | apply Kd.V_alloc | apply Kd.V_drewN | apply Kd.V_drew)); exact HO0.out) (Kd.R_base ho0) hb); have n1_ := Aside0.mk (Kd.R_lower (Kd.R_newM (M := fun k_ => (w.heap.size ≤ k_)) ho0 (below_size dq9) (fun k_ h_ => h_)) (below_size dq9)); have n2_ := Aside0.mk (below_step dq9 hb); clear HO0; clear HB; have HO0 := n0_; have HO237 := n1_; have HB := n2_; clear n0_ n1_ n2_; (try clear hb); (try clear hb2); (try clear hk); (try clear hi); (try clear ho0)) | ((with_reducible refine gate_dst (N := 25) rfl ?_); refine Kd.R_lit (Kd.int .i64) _ 2 ?hg (N := 25) ?hd (xs := ([a1] : List Int)) (inner := [.int .i64 a1]) (ok := fun _ => True) (okp := fun _ => True) ?hr ?hp (fun _ hk => hk) trivial (Below.refl _ _) (Nat.le_refl _) dq17 ?_; (case hd => rfl); (case hg => rfl); (case hr => exact dq0); (case hp => exact (Reps.one (show Kd.M (Kd.int .i64) _ _ _ a1 [.int .i64 a1] from rfl) (Reps.none _ _))); intro v239 w7 ho8 hb hg_ hnew_; clear hg_ hnew_; (first | rw [← Ny238.out] at ho8 | (simp only [Int.reduceToNat] at ho8; rw [← Ny238.out] at ho8)); have n0_ := Aside0.mk (Kd.V_elder' (by (with_reducible repeat (first | apply Kd.V_alloc | apply Kd.V_drewN | apply Kd.V_drew)); exact HO0.out) (Kd.R_base ho8) hb); have n1_ := Aside0.mk (Kd.R_below (by (with_reducible repeat (first | apply Kd.R_alloc | apply Kd.R_drewN | apply Kd.R_drew)); exact HO237.out) hb); have n2_ := Aside0.mk (Kd.R_lower (Kd.R_newM (M := fun k_ => (w.heap.size ≤ k_)) ho8 (below_size dq9) (fun k_ h_ => h_)) (below_size dq9)); have n3_ := Aside0.mk (below_step dq9 hb); clear HO0; clear HO237; clear HB; have HO0 := n0_; have HO237 := n1_; have HO240 := n2_; have HB := n3_; clear n0_ n1_ n2_ n3_; clear hb ho8))
 (try simp only [Act.put, List.setIfInBounds_toArray, List.set_cons_zero, List.set_cons_succ])
 go_cut [10] (fun v10 wc => ∃ (kq : Nat) (x10_4 : List Int), Aside0 (spec_l11Select.j2 kq l0 t233 x10_4 = some r) ∧ Aside0 (kq ≤ k) ∧ Aside0 (Kd.V k65 65 wc w.heap.size (fun k_ => (P0_ k_ ∨ w.heap.size ≤ k_) ∧ some k_ ≠ (v236 : Value).ownBlock ∧ some k_ ≠ (v10 : Value).ownBlock) (.slice A0 l0.length c0) l0) ∧ Aside0 (Kd.R Kd.string 9 wc w.heap.size (fun k_ => (w.heap.size ≤ k_)) v236 t233) ∧ Aside0 (Kd.R (Kd.int .i64) 2 wc w.heap.size (fun k_ => (w.heap.size ≤ k_)) v10 x10_4) ∧ Aside0 (Below w.heap.size w wc))
 case first =>
  have H := HC5.out
  clear HC5
  by_cases c9 : t234 = true
  rotate_left
  ·replace c9 := Bool.eq_false_iff.mpr c9
   subst c9
   have H1 : (spec_l11Select.j2 k l0 t233 y238) = some r := by rw [if_neg (show ¬ (false = true) by decide)] at H; exact H
   clear H
   have H := H1
   clear H1
   have H' := Aside0.mk H
   clear H
   go_wp2
   go_meet
   case rel => exact ⟨_, (y238), H', ⟨dq21⟩, ⟨dq40⟩, ⟨dq39⟩, ⟨dq38⟩, ⟨dq9⟩⟩
  subst c9
  have H1 : (spec_l11Select.l0 k l0 a1 t233 y238 (wrap64 (a1 + 1))) = some r := by rw [if_pos rfl] at H; exact H
  clear H
  have H := H1
  clear H1
  have H' := Aside0.mk H
  clear H
  go_wp2
  go_loopg [10, 11] k (fun kq v10 v11 w' => ∃ (x10_1 : List Int) (x11_1 : Int), v11 = .int .i64 x11_1 ∧ Aside0 (spec_l11Select.l0 kq l0 a1 t233 x10_1 x11_1 = some r) ∧ Aside0 (kq ≤ k) ∧ Aside0 (Kd.V k65 65 w' w.heap.size (fun k_ => (P0_ k_ ∨ w.heap.size ≤ k_) ∧ some k_ ≠ (v236 : Value).ownBlock ∧ some k_ ≠ (v10 : Value).ownBlock) (.slice A0 l0.length c0) l0) ∧ Aside0 (Kd.R Kd.string 9 w' w.heap.size (fun k_ => (w.heap.size ≤ k_)) v236 t233) ∧ Aside0 (Kd.R (Kd.int .i64) 2 w' w.heap.size (fun k_ => (w.heap.size ≤ k_)) v10 x10_1) ∧ Aside0 (Below w.heap.size w w'))
  case atStart => exact ⟨(y238), (wrap64 (a1 + 1)), dq12, H', ⟨Nat.le_refl _⟩, ⟨dq40⟩, ⟨dq39⟩, ⟨dq38⟩, ⟨dq9⟩⟩
  clear H'
  obtain ⟨x10_1, x11_1, rfl, HA, HK1, HO_0, HO_7, HO_10, HB⟩ := hrel
  cases gk with
  | zero => exact absurd HA.out (by simp [spec_l11Select.l0])
  | succ k1 =>
   have H := HA.out
   clear HA
   simp only [spec_l11Select.l0] at H
   by_cases c10 : x11_1 < (l0.length : Int)
   rotate_left
   ·rw [if_neg c10] at H
    have c10b0 := decide_eq_false c10
    clear c10
    (first | rw [c10b0] | (simp only [i64_w, i32_w]; rw [c10b0]) | skip)
    have H' := Aside0.mk H
    clear H
    go_wp2
    go_meet
    case rel => exact ⟨_, (x10_1), H', ⟨dq26⟩, ⟨dq43⟩, ⟨dq42⟩, ⟨dq41⟩, ⟨dq9⟩⟩
   rw [if_pos c10] at H
   have c10b0 := decide_eq_true c10
   clear c10
   (first | rw [c10b0] | (simp only [i64_w, i32_w]; rw [c10b0]) | skip)
   have H' := Aside0.mk H
   clear H
   go_wp2
   go_loopg [12] k1 (fun kq v12 w' => ∃ (x12_2 : Int), v12 = .int .i64 x12_2 ∧ Aside0 (spec_l11Select.l1 kq l0 a1 t233 x10_1 x11_1 x12_2 = some r) ∧ Aside0 (kq ≤ k1) ∧ Aside0 (Kd.V k65 65 w' w.heap.size (fun k_ => (P0_ k_ ∨ w.heap.size ≤ k_) ∧ some k_ ≠ (v236 : Value).ownBlock ∧ some k_ ≠ (u10 : Value).ownBlock) (.slice A0 l0.length c0) l0) ∧ Aside0 (Kd.R Kd.string 9 w' w.heap.size (fun k_ => (w.heap.size ≤ k_)) v236 t233) ∧ Aside0 (Kd.R (Kd.int .i64) 2 w' w.heap.size (fun k_ => (w.heap.size ≤ k_)) u10 x10_1) ∧ Aside0 (Below w.heap.size w w'))
   case atStart => exact ⟨(x11_1), dq12, H', ⟨Nat.le_refl _⟩, ⟨dq43⟩, ⟨dq42⟩, ⟨dq41⟩, ⟨dq9⟩⟩
   clear H'
   try clear c10b0
   obtain ⟨x12_2, rfl, HA, HK2, HO_0, HO_7, HO_10, HB⟩ := hrel
   cases gk with
   | zero => exact absurd HA.out (by simp [spec_l11Select.l1])
   | succ k2 =>
    have H := HA.out
    clear HA
    simp only [spec_l11Select.l1] at H
    by_cases c11 : x12_2 > a1
    ·rw [if_pos c11] at H
     have c11b0 : decide (a1 < x12_2) = true := decide_eq_true c11
     clear c11
     by_cases c12 : 0 ≤ x12_2
     rotate_left
     ·rw [if_neg c12] at H
      exact absurd H dq17
     rw [if_pos c12] at H
     have c12b0 := decide_eq_true c12
     clear c12
     by_cases c13 : x12_2 < (l0.length : Int)
     rotate_left
     ·rw [if_neg c13] at H
      exact absurd H dq17
     rw [if_pos c13] at H
     have c13b0 := decide_eq_true c13
     clear c13
     have H' := Aside0.mk H
     clear H
     have p241 : 0 ≤ (x12_2 : Int) := of_decide_eq_true dq13
     have q241 : x12_2 < (l0.length : Int) := of_decide_eq_true dq13
     obtain ⟨ad241, A241_3, c241_3, e241, hx241_0, hx241_1, hx241_2, hx241_3, hl241_3, hi241_3⟩ := at_T65 (Kd.V_reads' HO_0.out).2.2 x12_2 p241 q241
     cases e241
     obtain ⟨ce241, hce241, hMe241, hcc241⟩ := Kd.V_get HO_0.out z65 x12_2 p241 (by first | exact q241 | exact of_decide_eq_true dq13 | (have e_ := (Kd.V_reads' HO_0.out).1; omega))
     obtain ⟨ua241_3, uc241_3, rfl, ul241_3, ge241_3⟩ := k65_openF hMe241
     have hv241_3 := hcc241 3 _ rfl
     rw [add_field _ _ 3 dq20] at hv241_3
     replace hv241_3 := Option.some.inj (hv241_3.symm.trans hx241_3)
     injection hv241_3 with hva_ hvn_ hvc_
     rw [hva_] at ge241_3
     rw [hvc_] at ul241_3
     have HL241_3 := Aside0.mk (show Kd.V k67 67 _ w.heap.size _ _ ((rd_T65 l0 x12_2).f3) from Kd.V_mk ul241_3 ge241_3)
     clear hva_ hvn_ hvc_ ge241_3 ul241_3
     clear hcc241 hce241
     have HR241_3 := Aside0.mk hi241_3
     have HC241_3 := Aside0.mk hl241_3
     clear hi241_3 hl241_3
     replace p241 := eq_true p241
     replace q241 := eq_true q241
     go_wp2
     go_roundg k2
     case measure => have := HK1.out; have := HK2.out; omega
     case rel => exact ⟨((rd_T65 l0 x12_2).f0), dq12, H', ⟨dq37⟩, ⟨dq43⟩, ⟨dq42⟩, ⟨dq41⟩, ⟨dq9⟩⟩
    rw [if_neg c11] at H
    have c11b0 : decide (a1 < x12_2) = false := decide_eq_false c11
    clear c11
    by_cases c14 : x12_2 = a1
    rotate_left
    ·rw [if_neg c14] at H
     have c14b0 := beq_eq_false_iff_ne.mpr c14
     have c14b1 := bne_iff_ne.mpr c14
     have H' := Aside0.mk H
     clear H
     go_wp2
     go_roundg k2
     case measure => have := HK1.out; have := HK2.out; omega
     case rel => exact ⟨(x10_1), (wrap64 (x11_1 + 1)), dq12, H', ⟨dq37⟩, ⟨dq43⟩, ⟨dq42⟩, ⟨dq41⟩, ⟨dq9⟩⟩
    rw [if_pos c14] at H
    have c14b0 := beq_iff_eq.mpr c14
    have c14b1 := bne_eq_false_iff_eq.mpr c14
    clear c14
    by_cases c15 : 0 ≤ x11_1
    rotate_left
    ·rw [if_neg c15] at H
     exact absurd H dq17
    rw [if_pos c15] at H
    have c15b0 := decide_eq_true c15
    clear c15
    by_cases c16 : x11_1 < (l0.length : Int)
    rotate_left
    ·rw [if_neg c16] at H
     exact absurd H dq17
    rw [if_pos c16] at H
    have c16b0 := decide_eq_true c16
    clear c16
    by_cases c17 : ((rd_T65 l0 x11_1).f1).toList = ([] : List UInt8)
    ·rw [if_pos c17] at H
     have c17b0 := beq_iff_eq.mpr c17
     have c17b1 := bne_eq_false_iff_eq.mpr c17
     clear c17
     have H' := Aside0.mk H
     clear H
     have p242 : 0 ≤ (x11_1 : Int) := of_decide_eq_true dq13
     have q242 : x11_1 < (l0.length : Int) := of_decide_eq_true dq13
     obtain ⟨ad242, A242_3, c242_3, e242, hx242_0, hx242_1, hx242_2, hx242_3, hl242_3, hi242_3⟩ := at_T65 (Kd.V_reads' HO_0.out).2.2 x11_1 p242 q242
     cases e242
     obtain ⟨ce242, hce242, hMe242, hcc242⟩ := Kd.V_get HO_0.out z65 x11_1 p242 dq44
     obtain ⟨ua242_3, uc242_3, rfl, ul242_3, ge242_3⟩ := k65_openF hMe242
     have hv242_3 := hcc242 3 _ rfl
     rw [add_field _ _ 3 dq20] at hv242_3
     replace hv242_3 := Option.some.inj (hv242_3.symm.trans hx242_3)
     injection hv242_3 with hva_ hvn_ hvc_
     rw [hva_] at ge242_3
     rw [hvc_] at ul242_3
     have HL242_3 := Aside0.mk (show Kd.V k67 67 _ w.heap.size _ _ ((rd_T65 l0 x11_1).f3) from Kd.V_mk ul242_3 ge242_3)
     clear hva_ hvn_ hvc_ ge242_3 ul242_3
     clear hcc242 hce242
     have HR242_3 := Aside0.mk hi242_3
     have HC242_3 := Aside0.mk hl242_3
     clear hi242_3 hl242_3
     replace p242 := eq_true p242
     replace q242 := eq_true q242
     go_wp2
     go_roundg k2
     case measure => have := HK1.out; have := HK2.out; omega
     case rel => exact ⟨(x10_1), (wrap64 (x11_1 + 1)), dq12, H', ⟨dq37⟩, ⟨dq43⟩, ⟨dq42⟩, ⟨dq41⟩, ⟨dq9⟩⟩
    rw [if_neg c17] at H
    have c17b0 := beq_eq_false_iff_ne.mpr c17
    have c17b1 := bne_iff_ne.mpr c17
    by_cases c18 : x10_1.length < 17592186044416
    rotate_left
    ·rw [if_neg c18] at H
     exact absurd H dq17
    rw [if_pos c18] at H
    have LMc18 := Aside0.mk c18
    clear c18
    obtain ⟨y243, hy243⟩ : ∃ y_ : List Int, y_ = (x10_1 ++ [x11_1]) := ⟨_, rfl⟩
    replace H : (spec_l11Select.l0 k2 l0 a1 t233 y243 (wrap64 (x11_1 + 1))) = some r := by first | (rw [hy243]; with_reducible exact H) | (have H2_ := (Option.bind_some _ _).symm.trans H; rw [hy243]; with_reducible exact H2_) | (have H2_ := (Option.bind_some _ _).symm.trans H; with_reducible exact H2_) | with_reducible exact H | (rw [hy243]; exact H) | exact H
    have Ny243 := Aside0.mk hy243
    clear hy243
    have H' := Aside0.mk H
    clear H
    have p242 : 0 ≤ (x11_1 : Int) := of_decide_eq_true dq13
    have q242 : x11_1 < (l0.length : Int) := of_decide_eq_true dq13
    obtain ⟨ad242, A242_3, c242_3, e242, hx242_0, hx242_1, hx242_2, hx242_3, hl242_3, hi242_3⟩ := at_T65 (Kd.V_reads' HO_0.out).2.2 x11_1 p242 q242
    cases e242
    obtain ⟨ce242, hce242, hMe242, hcc242⟩ := Kd.V_get HO_0.out z65 x11_1 p242 dq44
    obtain ⟨ua242_3, uc242_3, rfl, ul242_3, ge242_3⟩ := k65_openF hMe242
    have hv242_3 := hcc242 3 _ rfl
    rw [add_field _ _ 3 dq20] at hv242_3
    replace hv242_3 := Option.some.inj (hv242_3.symm.trans hx242_3)
    injection hv242_3 with hva_ hvn_ hvc_
    rw [hva_] at ge242_3
    rw [hvc_] at ul242_3
    have HL242_3 := Aside0.mk (show Kd.V k67 67 _ w.heap.size _ _ ((rd_T65 l0 x11_1).f3) from Kd.V_mk ul242_3 ge242_3)
    clear hva_ hvn_ hvc_ ge242_3 ul242_3
    clear hcc242 hce242
    have HR242_3 := Aside0.mk hi242_3
    have HC242_3 := Aside0.mk hl242_3
    clear hi242_3 hl242_3
    replace p242 := eq_true p242
    replace q242 := eq_true q242
    go_wp2_with (first | ((with_reducible refine gate_builtin (b := .append) (xs := #[.tmp 55, .tmp 57]) rfl ?_); at_builtin; refine Kd.R_append (Kd.int .i64) (w0 := w) w.heap.size rfl (.tmp 55) (.tmp 57) 47 2 (.int .i64 0) 8 rfl Tryz.underlying47 info2 rfl dq24 dq20 u10 x10_1 x11_1 [.int .i64 x11_1] (fun k_ => (w.heap.size ≤ k_)) (fun _ => False) rfl rfl ?aP (fun _ hk => hk.elim) ?aF ?aO ?aB ?aS ?aL ?_; (case aP => exact rfl); (case aB => exact dq9); (case aF => exact (fun k_ hk => (Nat.le_trans (below_size dq9) hk))); (case aO => exact dq41); (case aS => exact (below_size dq9)); (case aL => have := LMc18.out; omega); intro v244 w19 ho hb hg hat; rw [← Ny243.out] at ho; have n0_ := Aside0.mk (Kd.V_afterv (ok := (fun k_ => (P0_ k_ ∨ w.heap.size ≤ k_) ∧ some k_ ≠ (v236 : Value).ownBlock)) (by (with_reducible repeat (first | apply Kd.V_alloc | apply Kd.V_drewN | apply Kd.V_drew)); exact Kd.V_mono HO_0.out (fun _ hk => ⟨⟨hk.1, hk.2.1⟩, hk.2.2⟩)) hg hat); have n1_ := Aside0.mk (Kd.R_over' dq42 (Kd.R_typed dq41) dq24 hg); have n2_ := Aside0.mk (Kd.V_afterv (ok := (fun k_ => (P0_ k_ ∨ w.heap.size ≤ k_) ∧ some k_ ≠ (v236 : Value).ownBlock)) (by (with_reducible repeat (first | apply Kd.V_alloc | apply Kd.V_drewN | apply Kd.V_drew)); exact Kd.V_mono HL242_3.out (fun _ hk => ⟨⟨hk.1, hk.2.1⟩, hk.2.2⟩)) hg hat); have n3_ := Aside0.mk (hb); have n4_ := Aside0.mk (ho); clear HO_0; clear HO_7; clear HL242_3; clear HB; clear HO_10; have HO_0 := n0_; have HO_7 := n1_; have HL242_3 := n2_; have HB := n3_; have HO245 := n4_; clear n0_ n1_ n2_ n3_ n4_; clear ho hb hg hat))
    go_roundg k2
    case measure => have := HK1.out; have := HK2.out; omega
    case rel => exact ⟨(y243), (wrap64 (x11_1 + 1)), dq12, H', ⟨dq37⟩, ⟨by (with_reducible repeat (first | apply Kd.V_alloc | apply Kd.V_drewN | apply Kd.V_drew)); exact Kd.V_mono HO_0.out (fun _ hk => ⟨hk.1.1, ⟨hk.1.2, hk.2⟩⟩)⟩, ⟨dq42⟩, ⟨by (with_reducible repeat (first | apply Kd.R_alloc | apply Kd.R_drewN | apply Kd.R_drew)); exact HO245.out⟩, ⟨dq9⟩⟩
 clear HC5
 obtain ⟨kq, x10_4, HA, HJ4, HO_0, HO_7, HO_10, HB⟩ := hcut
 cases kq with
 | zero => exact absurd HA.out (by simp [spec_l11Select.j2])
 | succ kj4 =>
  have H := HA.out
  clear HA
  simp only [spec_l11Select.j2] at H
  have H' := Aside0.mk H
  clear H
  go_wp2
  go_loopg [10, 13] kj4 (fun kq v10 v13 w' => ∃ (x10_2 : List Int) (x13_2 : Int), v13 = .int .i64 x13_2 ∧ Aside0 (spec_l11Select.l2 kq l0 t233 x10_2 x13_2 = some r) ∧ Aside0 (kq ≤ kj4) ∧ Aside0 (Kd.V k65 65 w' w.heap.size (fun k_ => (P0_ k_ ∨ w.heap.size ≤ k_) ∧ some k_ ≠ (v236 : Value).ownBlock ∧ some k_ ≠ (v10 : Value).ownBlock) (.slice A0 l0.length c0) l0) ∧ Aside0 (Kd.R Kd.string 9 w' w.heap.size (fun k_ => (w.heap.size ≤ k_)) v236 t233) ∧ Aside0 (Kd.R (Kd.int .i64) 2 w' w.heap.size (fun k_ => (w.heap.size ≤ k_)) v10 x10_2) ∧ Aside0 (Below w.heap.size w w'))
  case atStart => exact ⟨(x10_4), (0), dq12, H', ⟨Nat.le_refl _⟩, ⟨dq43⟩, ⟨dq42⟩, ⟨dq41⟩, ⟨dq9⟩⟩
  clear H'
  obtain ⟨x10_2, x13_2, rfl, HA, HK2, HO_0, HO_7, HO_10, HB⟩ := hrel
  cases gk with
  | zero => exact absurd HA.out (by simp [spec_l11Select.l2])
  | succ k2 =>
   have H := HA.out
   clear HA
   simp only [spec_l11Select.l2] at H
   by_cases c20 : x13_2 < (t233.length : Int)
   rotate_left
   ·rw [if_neg c20] at H
    have c20b0 := decide_eq_false c20
    clear c20
    replace H := Option.bind_eq_some_iff.mp H
    obtain ⟨t246, A420, H⟩ := H
    replace H : (some t246) = some r := H
    have A42 := Aside0.mk A420
    clear A420
    obtain rfl := Option.some.inj H
    obtain ⟨Ao43, co43, eo43⟩ := Kd.R_slice HO_7.out
    subst eo43
    obtain ⟨Ao44, co44, eo44⟩ := Kd.R_slice HO_10.out
    subst eo44
    go_wp2_with (first | (go_at_call 132; (with_reducible refine (spec_l8Sorted.calls k2 _ _ x10_2 t246 _ ?side1 ?side2 A42.out).mono ?_); (case side1 => repeat (first | exact (Kd.R_reads' HO_10.out).2.2 | (with_reducible refine Kd.C_alloc ?_ _) | (with_reducible refine Kd.C_drewN ?_ _) | (with_reducible refine Kd.C_drew ?_))); (case side2 => exact (Kd.R_reads' HO_10.out).2.1); rintro e w45 ⟨v247, rfl, ho0, hb⟩; have n0_ := Aside0.mk (Kd.V_elder' dq43 (Kd.R_base ho0) hb); have n1_ := Aside0.mk (Kd.R_below dq42 hb); have n2_ := Aside0.mk (Kd.R_elder' dq41 (Kd.R_base ho0) hb); have n3_ := Aside0.mk (Kd.R_lower (Kd.R_new' (Kd.R_newM (M := fun k_ => (w.heap.size ≤ k_)) ho0 (below_size dq9) (fun k_ h_ => h_)) (Kd.R_lt dq41)) (below_size dq9)); have n4_ := Aside0.mk (below_step dq9 hb); clear HO_0; clear HO_7; clear HO_10; clear HB; have HO_0 := n0_; have HO_7 := n1_; have HO_10 := n2_; have HO248 := n3_; have HB := n4_; clear n0_ n1_ n2_ n3_ n4_; (try clear hb); (try clear hb2); (try clear hk); (try clear hi); (try clear ho0)))
    go_ret
    exact ⟨_, dq11, by (with_reducible repeat (first | apply Kd.R_alloc | apply Kd.R_drewN | apply Kd.R_drew)); exact Kd.R_mono HO248.out (fun _ hk => hk.1.1), dq9⟩
   rw [if_pos c20] at H
   have c20b0 := decide_eq_true c20
   clear c20
   obtain ⟨y249, hy249⟩ : ∃ y_ : List Int, y_ = (([] : List Int)) := ⟨_, rfl⟩
   replace H : (spec_l11Select.l3 k2 l0 t233 x10_2 x13_2 y249 0) = some r := by first | (rw [hy249]; with_reducible exact H) | (have H2_ := (Option.bind_some _ _).symm.trans H; rw [hy249]; with_reducible exact H2_) | (have H2_ := (Option.bind_some _ _).symm.trans H; with_reducible exact H2_) | with_reducible exact H | (rw [hy249]; exact H) | exact H
   have Ny249 := Aside0.mk hy249
   clear hy249
   have H' := Aside0.mk H
   clear H
   obtain ⟨Ao21, co21, eo21⟩ := Kd.R_slice HO_7.out
   subst eo21
   go_wp2_with (first | ((with_reducible refine gate_dst (N := 65) rfl ?_); refine Kd.R_lit (Kd.int .i64) _ 2 ?hg (N := 65) ?hd (xs := ([] : List Int)) (inner := []) (ok := fun _ => True) (okp := fun _ => True) ?hr ?hp (fun _ hk => hk) trivial (Below.refl _ _) (Nat.le_refl _) dq17 ?_; (case hd => rfl); (case hg => rfl); (case hr => exact dq0); (case hp => exact (Reps.none _ _)); intro v250 w22 ho23 hb hg_ hnew_; clear hg_ hnew_; (first | rw [← Ny249.out] at ho23 | (simp only [Int.reduceToNat] at ho23; rw [← Ny249.out] at ho23)); have n0_ := Aside0.mk (Kd.V_elder' dq43 (Kd.R_base ho23) hb); have n1_ := Aside0.mk (Kd.R_below dq42 hb); have n2_ := Aside0.mk (Kd.R_elder' dq41 (Kd.R_base ho23) hb); have n3_ := Aside0.mk (Kd.R_lower (Kd.R_new' (Kd.R_newM (M := fun k_ => (w.heap.size ≤ k_)) ho23 (below_size dq9) (fun k_ h_ => h_)) (Kd.R_lt dq41)) (below_size dq9)); have n4_ := Aside0.mk (below_step dq9 hb); clear HO_0; clear HO_7; clear HO_10; clear HB; have HO_0 := n0_; have HO_7 := n1_; have HO_10 := n2_; have HO251 := n3_; have HB := n4_; clear n0_ n1_ n2_ n3_ n4_; clear hb ho23))
   go_loopg [14, 15] k2 (fun kq v14 v15 w' => ∃ (x14_3 : List Int) (x15_3 : Int), v15 = .int .i64 x15_3 ∧ Aside0 (spec_l11Select.l3 kq l0 t233 x10_2 x13_2 x14_3 x15_3 = some r) ∧ Aside0 (kq ≤ k2) ∧ Aside0 (Kd.V k65 65 w' w.heap.size (fun k_ => (P0_ k_ ∨ w.heap.size ≤ k_) ∧ some k_ ≠ ((.slice Ao21 t233.length co21) : Value).ownBlock ∧ some k_ ≠ (u10 : Value).ownBlock ∧ some k_ ≠ (v14 : Value).ownBlock) (.slice A0 l0.length c0) l0) ∧ Aside0 (Kd.R Kd.string 9 w' w.heap.size (fun k_ => (w.heap.size ≤ k_)) (.slice Ao21 t233.length co21) t233) ∧ Aside0 (Kd.R (Kd.int .i64) 2 w' w.heap.size (fun k_ => (w.heap.size ≤ k_) ∧ some k_ ≠ (v14 : Value).ownBlock) u10 x10_2) ∧ Aside0 (Kd.R (Kd.int .i64) 2 w' w.heap.size (fun k_ => (w.heap.size ≤ k_) ∧ some k_ ≠ (u10 : Value).ownBlock) v14 x14_3) ∧ Aside0 (Below w.heap.size w w'))
   case atStart => exact ⟨(y249), (0), dq12, H', ⟨Nat.le_refl _⟩, ⟨by (with_reducible repeat (first | apply Kd.V_alloc | apply Kd.V_drewN | apply Kd.V_drew)); exact Kd.V_mono HO_0.out (fun _ hk => ⟨hk.1.1, ⟨hk.1.2.1, ⟨hk.1.2.2, hk.2⟩⟩⟩)⟩, ⟨dq42⟩, ⟨dq41⟩, ⟨by (with_reducible repeat (first | apply Kd.R_alloc | apply Kd.R_drewN | apply Kd.R_drew)); exact Kd.R_mono HO251.out (fun _ hk => ⟨hk.1.1, hk.2⟩)⟩, ⟨dq9⟩⟩
   clear H'
   try clear c20b0
   obtain ⟨x14_3, x15_3, rfl, HA, HK3, HO_0, HO_7, HO_10, HO_14, HB⟩ := hrel
   cases gk with
   | zero => exact absurd HA.out (by simp [spec_l11Select.l3])
   | succ k3 =>
    have H := HA.out
    clear HA
    simp only [spec_l11Select.l3] at H
    by_cases c24 : x15_3 < (x10_2.length : Int)
    rotate_left
    ·rw [if_neg c24] at H
     have c24b0 := decide_eq_false c24
     clear c24
     have H' := Aside0.mk H
     clear H
     obtain ⟨Ao41, co41, eo41⟩ := Kd.R_slice HO_10.out
     subst eo41
     go_wp2
     go_roundg k3
     case measure => have := HJ4.out; have := HK2.out; have := HK3.out; omega
     case rel => exact ⟨(x14_3), (wrap64 (x13_2 + 1)), dq12, H', ⟨dq48⟩, ⟨by (with_reducible repeat (first | apply Kd.V_alloc | apply Kd.V_drewN | apply Kd.V_drew)); exact Kd.V_mono HO_0.out (fun _ hk => ⟨hk.1, ⟨hk.2.1, hk.2.2.2⟩⟩)⟩, ⟨dq42⟩, ⟨by (with_reducible repeat (first | apply Kd.R_alloc | apply Kd.R_drewN | apply Kd.R_drew)); exact Kd.R_mono HO_14.out (fun _ hk => hk.1)⟩, ⟨dq9⟩⟩
    rw [if_pos c24] at H
    have c24b0 := decide_eq_true c24
    clear c24
    by_cases c25 : 0 ≤ x15_3
    rotate_left
    ·rw [if_neg c25] at H
     exact absurd H dq17
    rw [if_pos c25] at H
    have c25b0 := decide_eq_true c25
    clear c25
    replace H := Option.bind_eq_some_iff.mp H
    obtain ⟨t253, A260, H⟩ := H
    replace H : (spec_l11Select.l4 k3 l0 t233 x10_2 x13_2 x14_3 x15_3 t253 0) = some r := H
    have A26 := Aside0.mk A260
    clear A260
    have H' := Aside0.mk H
    clear H
    obtain ⟨Ao27, co27, eo27⟩ := Kd.R_slice HO_10.out
    subst eo27
    have p252 : 0 ≤ (x15_3 : Int) := of_decide_eq_true dq13
    have q252 : x15_3 < (x10_2.length : Int) := of_decide_eq_true dq13
    obtain ⟨ad252, e252, hx252_0⟩ := Kd.at_int (Kd.R_reads' HO_10.out).2.2 x15_3 p252 q252
    cases e252
    replace p252 := eq_true p252
    replace q252 := eq_true q252
    go_wp2_with (first | (go_at_call 131; (with_reducible refine (spec_l2Kids.calls k3 _ _ l0 (rd x10_2 x15_3) t253 _ ?side1 ?side2 A26.out).mono ?_); (case side1 => repeat (first | exact (Kd.V_reads' HO_0.out).2.2 | (with_reducible refine Kd.C_alloc ?_ _) | (with_reducible refine Kd.C_drewN ?_ _) | (with_reducible refine Kd.C_drew ?_))); (case side2 => exact (Kd.V_reads' HO_0.out).2.1); rintro e w28 ⟨v254, rfl, ho0, hb⟩; have n0_ := Aside0.mk (Kd.V_elder' dq43 (Kd.R_base ho0) hb); have n1_ := Aside0.mk (Kd.R_below dq42 hb); have n2_ := Aside0.mk (Kd.R_elder' dq41 (Kd.R_base ho0) hb); have n3_ := Aside0.mk (Kd.R_elder' dq45 (Kd.R_base ho0) hb); have n4_ := Aside0.mk (Kd.R_lower (Kd.R_new' (Kd.R_new' (Kd.R_newM (M := fun k_ => (w.heap.size ≤ k_)) ho0 (below_size dq9) (fun k_ h_ => h_)) (Kd.R_lt dq41)) (Kd.R_lt dq45)) (below_size dq9)); have n5_ := Aside0.mk (below_step dq9 hb); clear HO_0; clear HO_7; clear HO_10; clear HO_14; clear HB; have HO_0 := n0_; have HO_7 := n1_; have HO_10 := n2_; have HO_14 := n3_; have HO255 := n4_; have HB := n5_; clear n0_ n1_ n2_ n3_ n4_ n5_; (try clear hb); (try clear hb2); (try clear hk); (try clear hi); (try clear ho0)))
    go_loopg [14, 17] k3 (fun kq v14 v17 w' => ∃ (x14_4 : List Int) (x17_4 : Int), v17 = .int .i64 x17_4 ∧ Aside0 (spec_l11Select.l4 kq l0 t233 x10_2 x13_2 x14_4 x15_3 t253 x17_4 = some r) ∧ Aside0 (kq ≤ k3) ∧ Aside0 (Kd.V k65 65 w' w.heap.size (fun k_ => (P0_ k_ ∨ w.heap.size ≤ k_) ∧ some k_ ≠ ((.slice Ao21 t233.length co21) : Value).ownBlock ∧ some k_ ≠ ((.slice (some ad252) x10_2.length co27) : Value).ownBlock ∧ some k_ ≠ (v14 : Value).ownBlock ∧ some k_ ≠ (v254 : Value).ownBlock) (.slice A0 l0.length c0) l0) ∧ Aside0 (Kd.R Kd.string 9 w' w.heap.size (fun k_ => (w.heap.size ≤ k_)) (.slice Ao21 t233.length co21) t233) ∧ Aside0 (Kd.R (Kd.int .i64) 2 w' w.heap.size (fun k_ => (w.heap.size ≤ k_) ∧ some k_ ≠ (v14 : Value).ownBlock ∧ some k_ ≠ (v254 : Value).ownBlock) (.slice (some ad252) x10_2.length co27) x10_2) ∧ Aside0 (Kd.R (Kd.int .i64) 2 w' w.heap.size (fun k_ => (w.heap.size ≤ k_) ∧ some k_ ≠ ((.slice (some ad252) x10_2.length co27) : Value).ownBlock ∧ some k_ ≠ (v254 : Value).ownBlock) v14 x14_4) ∧ Aside0 (Kd.R (Kd.int .i64) 2 w' w.heap.size (fun k_ => (w.heap.size ≤ k_) ∧ some k_ ≠ ((.slice (some ad252) x10_2.length co27) : Value).ownBlock ∧ some k_ ≠ (v14 : Value).ownBlock) v254 t253) ∧ Aside0 (Below w.heap.size w w'))
    case atStart => exact ⟨(x14_3), (0), dq12, H', ⟨Nat.le_refl _⟩, ⟨by (with_reducible repeat (first | apply Kd.V_alloc | apply Kd.V_drewN | apply Kd.V_drew)); exact Kd.V_mono HO_0.out (fun _ hk => ⟨hk.1.1, ⟨hk.1.2.1, ⟨hk.1.2.2.1, ⟨hk.1.2.2.2, hk.2⟩⟩⟩⟩)⟩, ⟨dq42⟩, ⟨by (with_reducible repeat (first | apply Kd.R_alloc | apply Kd.R_drewN | apply Kd.R_drew)); exact Kd.R_mono HO_10.out (fun _ hk => ⟨hk.1.1, ⟨hk.1.2, hk.2⟩⟩)⟩, ⟨by (with_reducible repeat (first | apply Kd.R_alloc | apply Kd.R_drewN | apply Kd.R_drew)); exact Kd.R_mono HO_14.out (fun _ hk => ⟨hk.1.1, ⟨hk.1.2, hk.2⟩⟩)⟩, ⟨by (with_reducible repeat (first | apply Kd.R_alloc | apply Kd.R_drewN | apply Kd.R_drew)); exact Kd.R_mono HO255.out (fun _ hk => ⟨hk.1.1.1, ⟨hk.1.2, hk.2⟩⟩)⟩, ⟨dq9⟩⟩
    clear H'
    try clear c24b0
    try clear c25b0
    try clear hx252_0
    try clear p252
    try clear q252
    obtain ⟨x14_4, x17_4, rfl, HA, HK4, HO_0, HO_7, HO_10, HO_14, HO_16, HB⟩ := hrel
    cases gk with
    | zero => exact absurd HA.out (by simp [spec_l11Select.l4])
    | succ k4 =>
     have H := HA.out
     clear HA
     simp only [spec_l11Select.l4] at H
     by_cases c29 : x17_4 < (t253.length : Int)
     rotate_left
     ·rw [if_neg c29] at H
      have c29b0 := decide_eq_false c29
      clear c29
      have H' := Aside0.mk H
      clear H
      obtain ⟨Ao40, co40, eo40⟩ := Kd.R_slice HO_16.out
      subst eo40
      go_wp2
      go_roundg k4
      case measure => have := HJ4.out; have := HK2.out; have := HK3.out; have := HK4.out; omega
      case rel => exact ⟨(x14_4), (wrap64 (x15_3 + 1)), dq12, H', ⟨dq47⟩, ⟨by (with_reducible repeat (first | apply Kd.V_alloc | apply Kd.V_drewN | apply Kd.V_drew)); exact Kd.V_mono HO_0.out (fun _ hk => ⟨hk.1, ⟨hk.2.1, ⟨hk.2.2.1, hk.2.2.2.1⟩⟩⟩)⟩, ⟨dq42⟩, ⟨by (with_reducible repeat (first | apply Kd.R_alloc | apply Kd.R_drewN | apply Kd.R_drew)); exact Kd.R_mono HO_10.out (fun _ hk => ⟨hk.1, hk.2.1⟩)⟩, ⟨by (with_reducible repeat (first | apply Kd.R_alloc | apply Kd.R_drewN | apply Kd.R_drew)); exact Kd.R_mono HO_14.out (fun _ hk => ⟨hk.1, hk.2.1⟩)⟩, ⟨dq9⟩⟩
     rw [if_pos c29] at H
     have c29b0 := decide_eq_true c29
     clear c29
     by_cases c30 : 0 ≤ x17_4
     rotate_left
     ·rw [if_neg c30] at H
      exact absurd H dq17
     rw [if_pos c30] at H
     have c30b0 := decide_eq_true c30
     clear c30
     by_cases c31 : 0 ≤ (rd t253 x17_4)
     rotate_left
     ·rw [if_neg c31] at H
      exact absurd H dq17
     rw [if_pos c31] at H
     have c31b0 := decide_eq_true c31
     clear c31
     by_cases c32 : (rd t253 x17_4) < (l0.length : Int)
     rotate_left
     ·rw [if_neg c32] at H
      exact absurd H dq17
     rw [if_pos c32] at H
     have c32b0 := decide_eq_true c32
     clear c32
     by_cases c33 : 0 ≤ x13_2
     rotate_left
     ·rw [if_neg c33] at H
      exact absurd H dq17
     rw [if_pos c33] at H
     have c33b0 := decide_eq_true c33
     clear c33
     by_cases c34 : x13_2 < (t233.length : Int)
     rotate_left
     ·rw [if_neg c34] at H
      exact absurd H dq17
     rw [if_pos c34] at H
     have c34b0 := decide_eq_true c34
     clear c34
     by_cases c35 : ((rd_T65 l0 (rd t253 x17_4)).f1).toList = (rdOf ByteArray.empty t233 x13_2).toList
     rotate_left
     ·rw [if_neg c35] at H
      have c35b0 := beq_eq_false_iff_ne.mpr c35
      have c35b1 := bne_iff_ne.mpr c35
      have H' := Aside0.mk H
      clear H
      obtain ⟨Ao39, co39, eo39⟩ := Kd.R_slice HO_16.out
      subst eo39
      have p256 : 0 ≤ (x17_4 : Int) := of_decide_eq_true dq13
      have q256 : x17_4 < (t253.length : Int) := of_decide_eq_true dq13
      obtain ⟨ad256, e256, hx256_0⟩ := Kd.at_int (Kd.R_reads' HO_16.out).2.2 x17_4 p256 q256
      cases e256
      replace p256 := eq_true p256
      replace q256 := eq_true q256
      have p257 : 0 ≤ ((rd t253 x17_4) : Int) := of_decide_eq_true dq13
      have q257 : (rd t253 x17_4) < (l0.length : Int) := of_decide_eq_true dq13
      obtain ⟨ad257, A257_3, c257_3, e257, hx257_0, hx257_1, hx257_2, hx257_3, hl257_3, hi257_3⟩ := at_T65 (Kd.V_reads' HO_0.out).2.2 (rd t253 x17_4) p257 q257
      cases e257
      obtain ⟨ce257, hce257, hMe257, hcc257⟩ := Kd.V_get HO_0.out z65 (rd t253 x17_4) p257 dq46
      obtain ⟨ua257_3, uc257_3, rfl, ul257_3, ge257_3⟩ := k65_openF hMe257
      have hv257_3 := hcc257 3 _ rfl
      rw [add_field _ _ 3 dq20] at hv257_3
      replace hv257_3 := Option.some.inj (hv257_3.symm.trans hx257_3)
      injection hv257_3 with hva_ hvn_ hvc_
      rw [hva_] at ge257_3
      rw [hvc_] at ul257_3
      have HL257_3 := Aside0.mk (show Kd.V k67 67 _ w.heap.size _ _ ((rd_T65 l0 (rd t253 x17_4)).f3) from Kd.V_mk ul257_3 ge257_3)
      clear hva_ hvn_ hvc_ ge257_3 ul257_3
      clear hcc257 hce257
      have HR257_3 := Aside0.mk hi257_3
      have HC257_3 := Aside0.mk hl257_3
      clear hi257_3 hl257_3
      replace p257 := eq_true p257
      replace q257 := eq_true q257
      have p258 : 0 ≤ (x13_2 : Int) := of_decide_eq_true dq13
      have q258 : x13_2 < (t233.length : Int) := of_decide_eq_true dq13
      obtain ⟨ad258, e258, hx258_0⟩ := Kd.at_string (Kd.R_reads' HO_7.out).2.2 x13_2 p258 q258
      cases e258
      replace p258 := eq_true p258
      replace q258 := eq_true q258
      go_wp2
      repeat (go_quiet (fail); try go_wp2)
      go_roundg k4
      case measure => have := HJ4.out; have := HK2.out; have := HK3.out; have := HK4.out; omega
      case rel => exact ⟨(x14_4), (wrap64 (x17_4 + 1)), dq12, H', ⟨dq47⟩, ⟨dq43⟩, ⟨dq42⟩, ⟨dq41⟩, ⟨dq45⟩, ⟨by (with_reducible repeat (first | apply Kd.R_alloc | apply Kd.R_drewN | apply Kd.R_drew)); exact HO_16.out⟩, ⟨dq9⟩⟩
     rw [if_pos c35] at H
     have c35b0 := beq_iff_eq.mpr c35
     have c35b1 := bne_eq_false_iff_eq.mpr c35
     clear c35
     by_cases c36 : x14_4.length < 17592186044416
     rotate_left
     ·rw [if_neg c36] at H
      exact absurd H dq17
     rw [if_pos c36] at H
     have LMc36 := Aside0.mk c36
     clear c36
     obtain ⟨y260, hy260⟩ : ∃ y_ : List Int, y_ = (x14_4 ++ [rd t253 x17_4]) := ⟨_, rfl⟩
     replace H : (spec_l11Select.l4 k4 l0 t233 x10_2 x13_2 y260 x15_3 t253 (wrap64 (x17_4 + 1))) = some r := by first | (rw [hy260]; with_reducible exact H) | (have H2_ := (Option.bind_some _ _).symm.trans H; rw [hy260]; with_reducible exact H2_) | (have H2_ := (Option.bind_some _ _).symm.trans H; with_reducible exact H2_) | with_reducible exact H | (rw [hy260]; exact H) | exact H
     have Ny260 := Aside0.mk hy260
     clear hy260
     have H' := Aside0.mk H
     clear H
     obtain ⟨Ao37, co37, eo37⟩ := Kd.R_slice HO_16.out
     subst eo37
     have p256 : 0 ≤ (x17_4 : Int) := of_decide_eq_true dq13
     have q256 : x17_4 < (t253.length : Int) := of_decide_eq_true dq13
     obtain ⟨ad256, e256, hx256_0⟩ := Kd.at_int (Kd.R_reads' HO_16.out).2.2 x17_4 p256 q256
     cases e256
     replace p256 := eq_true p256
     replace q256 := eq_true q256
     have p257 : 0 ≤ ((rd t253 x17_4) : Int) := of_decide_eq_true dq13
     have q257 : (rd t253 x17_4) < (l0.length : Int) := of_decide_eq_true dq13
     obtain ⟨ad257, A257_3, c257_3, e257, hx257_0, hx257_1, hx257_2, hx257_3, hl257_3, hi257_3⟩ := at_T65 (Kd.V_reads' HO_0.out).2.2 (rd t253 x17_4) p257 q257
     cases e257
     obtain ⟨ce257, hce257, hMe257, hcc257⟩ := Kd.V_get HO_0.out z65 (rd t253 x17_4) p257 dq46
     obtain ⟨ua257_3, uc257_3, rfl, ul257_3, ge257_3⟩ := k65_openF hMe257
     have hv257_3 := hcc257 3 _ rfl
     rw [add_field _ _ 3 dq20] at hv257_3
     replace hv257_3 := Option.some.inj (hv257_3.symm.trans hx257_3)
     injection hv257_3 with hva_ hvn_ hvc_
     rw [hva_] at ge257_3
     rw [hvc_] at ul257_3
     have HL257_3 := Aside0.mk (show Kd.V k67 67 _ w.heap.size _ _ ((rd_T65 l0 (rd t253 x17_4)).f3) from Kd.V_mk ul257_3 ge257_3)
     clear hva_ hvn_ hvc_ ge257_3 ul257_3
     clear hcc257 hce257
     have HR257_3 := Aside0.mk hi257_3
     have HC257_3 := Aside0.mk hl257_3
     clear hi257_3 hl257_3
     replace p257 := eq_true p257
     replace q257 := eq_true q257
     have p258 : 0 ≤ (x13_2 : Int) := of_decide_eq_true dq13
     have q258 : x13_2 < (t233.length : Int) := of_decide_eq_true dq13
     obtain ⟨ad258, e258, hx258_0⟩ := Kd.at_string (Kd.R_reads' HO_7.out).2.2 x13_2 p258 q258
     cases e258
     replace p258 := eq_true p258
     replace q258 := eq_true q258
     have p259 : 0 ≤ (x17_4 : Int) := of_decide_eq_true dq13
     have q259 : x17_4 < (t253.length : Int) := of_decide_eq_true dq13
     obtain ⟨ad259, e259, hx259_0⟩ := Kd.at_int (Kd.R_reads' HO_16.out).2.2 x17_4 p259 q259
     obtain rfl : ad256 = ad259 := (by injection e259)
     replace p259 := eq_true p259
     replace q259 := eq_true q259
     go_wp2_with (fail)
     repeat (go_quiet (fail); try go_wp2_with (first | ((with_reducible refine gate_builtin (b := .append) (xs := #[.tmp 97, .tmp 102]) rfl ?_); at_builtin; refine Kd.R_append (Kd.int .i64) (w0 := w) w.heap.size rfl (.tmp 97) (.tmp 102) 47 2 (.int .i64 0) 8 rfl Tryz.underlying47 info2 rfl dq24 dq20 u14 x14_4 (rd t253 x17_4) [.int .i64 (rd t253 x17_4)] (fun k_ => (w.heap.size ≤ k_) ∧ some k_ ≠ (.slice (some ad252) x10_2.length co27 : Value).ownBlock ∧ some k_ ≠ (.slice (some ad256) t253.length co37 : Value).ownBlock) (fun _ => False) rfl rfl ?aP (fun _ hk => hk.elim) ?aF ?aO ?aB ?aS ?aL ?_; (case aP => exact rfl); (case aB => exact dq9); (case aF => exact (fun k_ hk => ⟨(Nat.le_trans (below_size dq9) hk), Kd.fresh' (Kd.R_lt dq41) k_ hk, Kd.fresh' (Kd.R_lt (by (with_reducible repeat (first | apply Kd.R_alloc | apply Kd.R_drewN | apply Kd.R_drew)); exact HO_16.out)) k_ hk⟩)); (case aO => exact dq45); (case aS => exact (below_size dq9)); (case aL => have := LMc36.out; omega); intro v261 w38 ho hb hg hat; rw [← Ny260.out] at ho; have n0_ := Aside0.mk (Kd.V_afterv (ok := (fun k_ => (P0_ k_ ∨ w.heap.size ≤ k_) ∧ some k_ ≠ (.slice (some ad258) t233.length co21 : Value).ownBlock ∧ some k_ ≠ (.slice (some ad252) x10_2.length co27 : Value).ownBlock ∧ some k_ ≠ (.slice (some ad256) t253.length co37 : Value).ownBlock)) (by (with_reducible repeat (first | apply Kd.V_alloc | apply Kd.V_drewN | apply Kd.V_drew)); exact Kd.V_mono HO_0.out (fun _ hk => ⟨⟨hk.1, ⟨hk.2.1, ⟨hk.2.2.1, hk.2.2.2.2⟩⟩⟩, hk.2.2.2.1⟩)) hg hat); have n1_ := Aside0.mk (Kd.R_over' dq42 (Kd.R_typed dq45) dq24 hg); have n2_ := Aside0.mk (Kd.R_after (ok := (fun k_ => (w.heap.size ≤ k_) ∧ some k_ ≠ (.slice (some ad256) t253.length co37 : Value).ownBlock)) (by (with_reducible repeat (first | apply Kd.R_alloc | apply Kd.R_drewN | apply Kd.R_drew)); exact Kd.R_mono HO_10.out (fun _ hk => ⟨⟨hk.1, hk.2.2⟩, hk.2.1⟩)) hg hat); have n3_ := Aside0.mk (Kd.R_after (ok := (fun k_ => (w.heap.size ≤ k_) ∧ some k_ ≠ (.slice (some ad252) x10_2.length co27 : Value).ownBlock)) (by (with_reducible repeat (first | apply Kd.R_alloc | apply Kd.R_drewN | apply Kd.R_drew)); exact Kd.R_mono HO_16.out (fun _ hk => ⟨⟨hk.1, hk.2.1⟩, hk.2.2⟩)) hg hat); have n4_ := Aside0.mk (Kd.V_afterv (ok := (fun k_ => (P0_ k_ ∨ w.heap.size ≤ k_) ∧ some k_ ≠ (.slice (some ad258) t233.length co21 : Value).ownBlock ∧ some k_ ≠ (.slice (some ad252) x10_2.length co27 : Value).ownBlock ∧ some k_ ≠ (.slice (some ad256) t253.length co37 : Value).ownBlock)) (by (with_reducible repeat (first | apply Kd.V_alloc | apply Kd.V_drewN | apply Kd.V_drew)); exact Kd.V_mono HL257_3.out (fun _ hk => ⟨⟨hk.1, ⟨hk.2.1, ⟨hk.2.2.1, hk.2.2.2.2⟩⟩⟩, hk.2.2.2.1⟩)) hg hat); have n5_ := Aside0.mk (hb); have n6_ := Aside0.mk (ho); clear HO_0; clear HO_7; clear HO_10; clear HO_16; clear HL257_3; clear HB; clear HO_14; have HO_0 := n0_; have HO_7 := n1_; have HO_10 := n2_; have HO_16 := n3_; have HL257_3 := n4_; have HB := n5_; have HO262 := n6_; clear n0_ n1_ n2_ n3_ n4_ n5_ n6_; clear ho hb hg hat)))
     go_roundg k4
     case measure => have := HJ4.out; have := HK2.out; have := HK3.out; have := HK4.out; omega
     case rel => exact ⟨(y260), (wrap64 (x17_4 + 1)), dq12, H', ⟨dq47⟩, ⟨by (with_reducible repeat (first | apply Kd.V_alloc | apply Kd.V_drewN | apply Kd.V_drew)); exact Kd.V_mono HO_0.out (fun _ hk => ⟨hk.1.1, ⟨hk.1.2.1, ⟨hk.1.2.2.1, ⟨hk.2, hk.1.2.2.2⟩⟩⟩⟩)⟩, ⟨dq42⟩, ⟨by (with_reducible repeat (first | apply Kd.R_alloc | apply Kd.R_drewN | apply Kd.R_drew)); exact Kd.R_mono HO_10.out (fun _ hk => ⟨hk.1.1, ⟨hk.2, hk.1.2⟩⟩)⟩, ⟨by (with_reducible repeat (first | apply Kd.R_alloc | apply Kd.R_drewN | apply Kd.R_drew)); exact HO262.out⟩, ⟨by (with_reducible repeat (first | apply Kd.R_alloc | apply Kd.R_drewN | apply Kd.R_drew)); exact Kd.R_mono HO_16.out (fun _ hk => ⟨hk.1.1, ⟨hk.1.2, hk.2⟩⟩)⟩, ⟨dq9⟩⟩

/-! ### spec_l2Text: function 93 -/
def spec_l2Text.l0 : Nat → List (S65) → ByteArray → List Int → Int → Option (ByteArray)
 | 0, _, _, _, _ => none
 | k + 1, x0, x5, x6, x7 => if x7 < (x6.length : Int) then (if 0 ≤ x7 then (if 0 ≤ (rd x6 x7) then (if (rd x6 x7) < (x0.length : Int) then (if x5.size + ((rd_T65 x0 (rd x6 x7)).f2).size ≤ 9223372036854775807 then (spec_l2Text.l0 k x0 (x5 ++ ((rd_T65 x0 (rd x6 x7)).f2)) x6 (wrap64 (x7 + 1))) else (none)) else (none)) else (none)) else (none)) else (some x5)
def spec_l2Text.f (k : Nat) (l0 : List (S65)) (a1 : Int) : Option (ByteArray) := (spec_l2Kids.f k l0 a1).bind fun t272 => (spec_l2Text.l0 k l0 (⟨#[]⟩ : ByteArray) t272 0)
set_option maxHeartbeats 8000000 in
set_option maxRecDepth 100000 in
theorem spec_l2Text.calls (k : Nat) (A0 : Option Addr) (c0 : Nat) (l0 : List (S65)) (a1 : Int) (r : ByteArray) (w : World) (hr0 : Kd.C k65 w A0 l0.length l0) (hc0 : l0.length ≤ c0) (h : spec_l2Text.f k l0 a1 = some r) :
  Calls Tryz.prog 93 #[.slice A0 l0.length c0, .int .i64 a1] w fun e w' => e = .returned (.string r) ∧ Below w.heap.size w w' := by
 have HR0 := Aside0.mk hr0
 have HC0 := Aside0.mk hc0
 clear hr0 hc0
 have HB := Aside0.mk (Below.refl w.heap.size w)
 have H : ((spec_l2Kids.f k l0 a1).bind fun t272 => (spec_l2Text.l0 k l0 (⟨#[]⟩ : ByteArray) t272 0)) = some r := h
 clear h
 replace H := Option.bind_eq_some_iff.mp H
 obtain ⟨t272, A30, H⟩ := H
 replace H : (spec_l2Text.l0 k l0 (⟨#[]⟩ : ByteArray) t272 0) = some r := H
 have A3 := Aside0.mk A30
 clear A30
 have H' := Aside0.mk H
 clear H
 go_enter Tryz.func93, Tryz.ntmps93
 go_wp2_with (first | ((with_reducible refine gate_callee (f := 131) rfl ?_); refine goesL_ (some 10) rfl rfl Tryz.func131 dq15 rfl #[.slice A0 l0.length c0, .int .i64 a1] rfl dq14 ?_; (with_reducible refine (spec_l2Kids.calls k _ _ l0 a1 t272 _ ?side1 ?side2 A3.out).mono ?_); (case side1 => exact dq3); (case side2 => exact HC0.out); rintro e w4 ⟨v273, rfl, ho0, hb⟩; refine ⟨_, rfl, ?_⟩; have n0_ := Aside0.mk (Kd.R_lower ho0 (below_size dq9)); have n1_ := Aside0.mk (below_step dq9 hb); clear HB; have HO274 := n0_; have HB := n1_; clear n0_ n1_; (try clear hb); (try clear hb2); (try clear hk); (try clear hi); (try clear ho0)))
 go_loopg [5, 7] k (fun kq v5 v7 w' => ∃ (x5_1 : ByteArray) (x7_1 : Int), v5 = .string x5_1 ∧ v7 = .int .i64 x7_1 ∧ Aside0 (spec_l2Text.l0 kq l0 x5_1 t272 x7_1 = some r) ∧ Aside0 (kq ≤ k) ∧ Aside0 (Kd.R (Kd.int .i64) 2 w' w.heap.size (fun _ => True) v273 t272) ∧ Aside0 (Below w.heap.size w w'))
 case atStart => exact ⟨((⟨#[]⟩ : ByteArray)), (0), dq12, dq12, H', ⟨Nat.le_refl _⟩, ⟨by (with_reducible repeat (first | apply Kd.R_alloc | apply Kd.R_drewN | apply Kd.R_drew)); exact HO274.out⟩, ⟨dq9⟩⟩
 clear H'
 try clear c1
 try clear p2
 obtain ⟨x5_1, x7_1, rfl, rfl, HA, HK1, HO_6, HB⟩ := hrel
 cases gk with
 | zero => exact absurd HA.out (by simp [spec_l2Text.l0])
 | succ k1 =>
  have H := HA.out
  clear HA
  simp only [spec_l2Text.l0] at H
  by_cases c5 : x7_1 < (t272.length : Int)
  rotate_left
  ·rw [if_neg c5] at H
   have c5b0 := decide_eq_false c5
   clear c5
   obtain rfl := Option.some.inj H
   obtain ⟨Ao11, co11, eo11⟩ := Kd.R_slice HO_6.out
   subst eo11
   go_wp2
   go_ret
   exact ⟨dq11, dq9⟩
  rw [if_pos c5] at H
  have c5b0 := decide_eq_true c5
  clear c5
  by_cases c6 : 0 ≤ x7_1
  rotate_left
  ·rw [if_neg c6] at H
   exact absurd H dq17
  rw [if_pos c6] at H
  have c6b0 := decide_eq_true c6
  clear c6
  by_cases c7 : 0 ≤ (rd t272 x7_1)
  rotate_left
  ·rw [if_neg c7] at H
   exact absurd H dq17
  rw [if_pos c7] at H
  have c7b0 := decide_eq_true c7
  clear c7
  by_cases c8 : (rd t272 x7_1) < (l0.length : Int)
  rotate_left
  ·rw [if_neg c8] at H
   exact absurd H dq17
  rw [if_pos c8] at H
  have c8b0 := decide_eq_true c8
  clear c8
  by_cases c9 : x5_1.size + ((rd_T65 l0 (rd t272 x7_1)).f2).size ≤ 9223372036854775807
  rotate_left
  ·rw [if_neg c9] at H
   exact absurd H dq17
  rw [if_pos c9] at H
  have c9b0 := eq_true c9
  have c9b1 := decide_eq_true c9
  try have c9b2 : (9223372036854775807 < x5_1.size + ((rd_T65 l0 (rd t272 x7_1)).f2).size) = False := eq_false (Nat.not_lt.2 c9)
  have H' := Aside0.mk H
  clear H
  obtain ⟨Ao10, co10, eo10⟩ := Kd.R_slice HO_6.out
  subst eo10
  have p275 : 0 ≤ (x7_1 : Int) := of_decide_eq_true dq13
  have q275 : x7_1 < (t272.length : Int) := of_decide_eq_true dq13
  obtain ⟨ad275, e275, hx275_0⟩ := Kd.at_int (Kd.R_reads' HO_6.out).2.2 x7_1 p275 q275
  cases e275
  replace p275 := eq_true p275
  replace q275 := eq_true q275
  have p276 : 0 ≤ ((rd t272 x7_1) : Int) := of_decide_eq_true dq13
  have q276 : (rd t272 x7_1) < (l0.length : Int) := of_decide_eq_true dq13
  obtain ⟨ad276, A276_3, c276_3, e276, hx276_0, hx276_1, hx276_2, hx276_3, hl276_3, hi276_3⟩ := at_T65 HR0.out (rd t272 x7_1) p276 q276
  cases e276
  replace hx276_0 := (HB.out.cell (World.block_lt_of_cell? w _ hx276_0)).trans hx276_0
  replace hx276_1 := (HB.out.cell (World.block_lt_of_cell? w _ hx276_1)).trans hx276_1
  replace hx276_2 := (HB.out.cell (World.block_lt_of_cell? w _ hx276_2)).trans hx276_2
  replace hx276_3 := (HB.out.cell (World.block_lt_of_cell? w _ hx276_3)).trans hx276_3
  have HR276_3 := Aside0.mk hi276_3
  have HC276_3 := Aside0.mk hl276_3
  clear hi276_3 hl276_3
  replace p276 := eq_true p276
  replace q276 := eq_true q276
  go_wp2
  go_roundg k1
  case measure => have := HK1.out; omega
  case rel => exact ⟨(x5_1 ++ ((rd_T65 l0 (rd t272 x7_1)).f2)), (wrap64 (x7_1 + 1)), dq12, dq12, H', ⟨dq16⟩, ⟨dq31⟩, ⟨dq9⟩⟩

/-! ### spec_l7Blank: function 133 -/
def spec_l7Blank.f (a0 : Int) : Option (Bool) := if a0 = 32 then (some true) else (if a0 = 9 then (some true) else (if a0 = 10 then (some true) else (some (a0 == 13))))
set_option maxHeartbeats 8000000 in
set_option maxRecDepth 100000 in
theorem spec_l7Blank.calls (a0 : Int) (r : Bool) (w : World) (h : spec_l7Blank.f a0 = some r) :
  Calls Tryz.prog 133 #[.int .u8 a0] w fun e w' => e = .returned (.bool r) ∧ Drawn0 w w' := by
 have H : (if a0 = 32 then (some true) else (if a0 = 9 then (some true) else (if a0 = 10 then (some true) else (some (a0 == 13))))) = some r := h
 clear h
 by_cases c2 : a0 = 32
 ·rw [if_pos c2] at H
  have c2b0 := beq_iff_eq.mpr c2
  have c2b1 := bne_eq_false_iff_eq.mpr c2
  clear c2
  obtain rfl := Option.some.inj H
  go_enter Tryz.func133, Tryz.ntmps133
  go_wp2
  go_ret
  exact ⟨dq12, dq19⟩
 rw [if_neg c2] at H
 have c2b0 := beq_eq_false_iff_ne.mpr c2
 have c2b1 := bne_iff_ne.mpr c2
 by_cases c3 : a0 = 9
 ·rw [if_pos c3] at H
  have c3b0 := beq_iff_eq.mpr c3
  have c3b1 := bne_eq_false_iff_eq.mpr c3
  clear c3
  obtain rfl := Option.some.inj H
  go_enter Tryz.func133, Tryz.ntmps133
  go_wp2
  go_ret
  exact ⟨dq12, dq19⟩
 rw [if_neg c3] at H
 have c3b0 := beq_eq_false_iff_ne.mpr c3
 have c3b1 := bne_iff_ne.mpr c3
 by_cases c4 : a0 = 10
 rotate_left
 ·rw [if_neg c4] at H
  have c4b0 := beq_eq_false_iff_ne.mpr c4
  have c4b1 := bne_iff_ne.mpr c4
  obtain rfl := Option.some.inj H
  go_enter Tryz.func133, Tryz.ntmps133
  go_wp2
  go_ret
  exact ⟨dq12, dq19⟩
 rw [if_pos c4] at H
 have c4b0 := beq_iff_eq.mpr c4
 have c4b1 := bne_eq_false_iff_eq.mpr c4
 clear c4
 obtain rfl := Option.some.inj H
 go_enter Tryz.func133, Tryz.ntmps133
 go_wp2
 go_ret
 exact ⟨dq12, dq19⟩

/-! ### spec_l7Words: function 135 -/
mutual
def spec_l7Words.l0 : Nat → ByteArray → List ByteArray → ByteArray → Int → Option (List ByteArray)
 | 0, _, _, _, _ => none
 | k + 1, x0, x3, x4, x5 => if x5 ≤ (x0.size : Int) then (if x5 < (x0.size : Int) then (if 0 ≤ x5 then ((spec_l7Blank.f (bt x0 x5)).bind fun t266 => (spec_l7Words.j1 k x0 x3 x4 x5 (!t266))) else (none)) else (spec_l7Words.j1 k x0 x3 x4 x5 false)) else (some x3)
def spec_l7Words.j1 : Nat → ByteArray → List ByteArray → ByteArray → Int → Bool → Option (List ByteArray)
 | 0, _, _, _, _, _ => none
 | k + 1, x0, x3, x4, x5, x23 => if x23 = true then (if 0 ≤ x5 then (if x5 ≤ (wrap64 (x5 + 1)) then (if (wrap64 (x5 + 1)) ≤ (x0.size : Int) then (if x4.size + (x0.extract (x5 : Int).toNat ((wrap64 (x5 + 1)) : Int).toNat).size ≤ 9223372036854775807 then (spec_l7Words.l0 k x0 x3 (x4 ++ (x0.extract (x5 : Int).toNat ((wrap64 (x5 + 1)) : Int).toNat)) (wrap64 (x5 + 1))) else (none)) else (none)) else (none)) else (none)) else (if x4.toList = ([] : List UInt8) then (spec_l7Words.l0 k x0 x3 (⟨#[]⟩ : ByteArray) (wrap64 (x5 + 1))) else (if x3.length < 8796093022208 then (spec_l7Words.l0 k x0 (x3 ++ [x4]) (⟨#[]⟩ : ByteArray) (wrap64 (x5 + 1))) else (none)))
end
def spec_l7Words.f (k : Nat) (a0 : ByteArray) : Option (List ByteArray) := spec_l7Words.l0 k a0 (([] : List ByteArray)) (⟨#[]⟩ : ByteArray) 0
set_option maxHeartbeats 8000000 in
set_option maxRecDepth 100000 in
theorem spec_l7Words.calls (k : Nat) (a0 : ByteArray) (r : List ByteArray) (w : World) (h : spec_l7Words.f k a0 = some r) :
  Calls Tryz.prog 135 #[.string a0] w fun e w' => ∃ v0_ : Value, e = .returned (v0_) ∧ Kd.R Kd.string 9 w' w.heap.size (fun _ => True) v0_ r ∧ Below w.heap.size w w' := by
 have HB := Aside0.mk (Below.refl w.heap.size w)
 have H : (spec_l7Words.l0 k a0 (([] : List ByteArray)) (⟨#[]⟩ : ByteArray) 0) = some r := h
 clear h
 obtain ⟨y263, hy263⟩ : ∃ y_ : List ByteArray, y_ = (([] : List ByteArray)) := ⟨_, rfl⟩
 replace H : (spec_l7Words.l0 k a0 y263 (⟨#[]⟩ : ByteArray) 0) = some r := by first | (rw [hy263]; with_reducible exact H) | (have H2_ := (Option.bind_some _ _).symm.trans H; rw [hy263]; with_reducible exact H2_) | (have H2_ := (Option.bind_some _ _).symm.trans H; with_reducible exact H2_) | with_reducible exact H | (rw [hy263]; exact H) | exact H
 have Ny263 := Aside0.mk hy263
 clear hy263
 have H' := Aside0.mk H
 clear H
 go_enter Tryz.func135, Tryz.ntmps135
 go_wp2_with (first | ((with_reducible refine gate_dst (N := 6) rfl ?_); refine Kd.R_lit Kd.string _ 9 ?hg (N := 6) ?hd (xs := ([] : List ByteArray)) (inner := []) (ok := fun _ => True) (okp := fun _ => True) ?hr ?hp (fun _ hk => hk) trivial (Below.refl _ _) (Nat.le_refl _) dq17 ?_; (case hd => rfl); (case hg => rfl); (case hr => exact dq0); (case hp => exact (Reps.none _ _)); intro v264 w2 ho3 hb hg_ hnew_; clear hg_ hnew_; (first | rw [← Ny263.out] at ho3 | (simp only [Int.reduceToNat] at ho3; rw [← Ny263.out] at ho3)); have n0_ := Aside0.mk (Kd.R_lower ho3 (below_size dq9)); have n1_ := Aside0.mk (below_step dq9 hb); clear HB; have HO265 := n0_; have HB := n1_; clear n0_ n1_; clear hb ho3))
 go_loopg [3, 4, 5] k (fun kq v3 v4 v5 w' => ∃ (x3_1 : List ByteArray) (x4_1 : ByteArray) (x5_1 : Int), v4 = .string x4_1 ∧ v5 = .int .i64 x5_1 ∧ Aside0 (spec_l7Words.l0 kq a0 x3_1 x4_1 x5_1 = some r) ∧ Aside0 (kq ≤ k) ∧ Aside0 (Kd.R Kd.string 9 w' w.heap.size (fun _ => True) v3 x3_1) ∧ Aside0 (Below w.heap.size w w'))
 case atStart => exact ⟨(y263), ((⟨#[]⟩ : ByteArray)), (0), dq12, dq12, H', ⟨Nat.le_refl _⟩, ⟨by (with_reducible repeat (first | apply Kd.R_alloc | apply Kd.R_drewN | apply Kd.R_drew)); exact HO265.out⟩, ⟨dq9⟩⟩
 clear H'
 try clear c1
 try clear p2
 obtain ⟨x3_1, x4_1, x5_1, rfl, rfl, HA, HK1, HO_3, HB⟩ := hrel
 cases gk with
 | zero => exact absurd HA.out (by simp [spec_l7Words.l0])
 | succ k1 =>
  have H := HA.out
  clear HA
  simp only [spec_l7Words.l0] at H
  by_cases c4 : x5_1 ≤ (a0.size : Int)
  rotate_left
  ·rw [if_neg c4] at H
   have c4b0 := decide_eq_false c4
   clear c4
   obtain rfl := Option.some.inj H
   go_wp2
   go_ret
   exact ⟨_, dq11, dq25, dq9⟩
  rw [if_pos c4] at H
  have c4b0 := decide_eq_true c4
  clear c4
  have HC5 := Aside0.mk H
  clear H
  go_upto_region 6 with (fail)
  go_cut [23] (fun v23 wc => ∃ (kq : Nat) (x23_4 : Bool), v23 = .bool x23_4 ∧ Aside0 (spec_l7Words.j1 kq a0 x3_1 x4_1 x5_1 x23_4 = some r) ∧ Aside0 (kq ≤ k1) ∧ Aside0 (Kd.R Kd.string 9 wc w.heap.size (fun _ => True) u3 x3_1) ∧ Aside0 (Below w.heap.size w wc))
  case first =>
   have H := HC5.out
   clear HC5
   by_cases c6 : x5_1 < (a0.size : Int)
   rotate_left
   ·rw [if_neg c6] at H
    have c6b0 := decide_eq_false c6
    clear c6
    (first | rw [c6b0] | (simp only [i64_w, i32_w]; rw [c6b0]) | skip)
    have H' := Aside0.mk H
    clear H
    go_wp2
    go_meet
    case rel => exact ⟨_, (false), dq12, H', ⟨dq26⟩, ⟨dq25⟩, ⟨dq9⟩⟩
   rw [if_pos c6] at H
   have c6b0 := decide_eq_true c6
   clear c6
   (first | rw [c6b0] | (simp only [i64_w, i32_w]; rw [c6b0]) | skip)
   by_cases c7 : 0 ≤ x5_1
   rotate_left
   ·rw [if_neg c7] at H
    exact absurd H dq17
   rw [if_pos c7] at H
   have c7b0 := decide_eq_true c7
   clear c7
   replace H := Option.bind_eq_some_iff.mp H
   obtain ⟨t266, A90, H⟩ := H
   replace H : (spec_l7Words.j1 k1 a0 x3_1 x4_1 x5_1 (!t266)) = some r := H
   have A9 := Aside0.mk A90
   clear A90
   have H' := Aside0.mk H
   clear H
   have p8 : 0 ≤ (x5_1 : Int) := of_decide_eq_true dq13
   have q8 : x5_1 < (a0.size : Int) := of_decide_eq_true dq13
   have hx8 := bt_at a0 x5_1
   replace p8 := eq_true p8
   replace q8 := eq_true q8
   go_wp2_with (first | (go_at_call 133; (with_reducible refine (spec_l7Blank.calls (bt a0 x5_1) t266 _ A9.out).mono ?_); rintro e w' ⟨rfl, ⟨nd, rfl⟩⟩))
   go_meet
   case rel => exact ⟨_, (!t266), dq12, H', ⟨dq26⟩, ⟨dq25⟩, ⟨dq9⟩⟩
  clear HC5
  try clear c1
  try clear p2
  try clear c4
  try clear c4b0
  try clear c6
  try clear c6b0
  try clear c7
  try clear c7b0
  try clear p8
  try clear q8
  try clear hx8
  try clear p2
  try clear p8
  try clear q8
  obtain ⟨kq, x23_4, rfl, HA, HJ4, HO_3, HB⟩ := hcut
  cases kq with
  | zero => exact absurd HA.out (by simp [spec_l7Words.j1])
  | succ kj4 =>
   have H := HA.out
   clear HA
   simp only [spec_l7Words.j1] at H
   by_cases c10 : x23_4 = true
   ·subst c10
    have H1 : (if 0 ≤ x5_1 then (if x5_1 ≤ (wrap64 (x5_1 + 1)) then (if (wrap64 (x5_1 + 1)) ≤ (a0.size : Int) then (if x4_1.size + (a0.extract (x5_1 : Int).toNat ((wrap64 (x5_1 + 1)) : Int).toNat).size ≤ 9223372036854775807 then (spec_l7Words.l0 kj4 a0 x3_1 (x4_1 ++ (a0.extract (x5_1 : Int).toNat ((wrap64 (x5_1 + 1)) : Int).toNat)) (wrap64 (x5_1 + 1))) else (none)) else (none)) else (none)) else (none)) = some r := by rw [if_pos rfl] at H; exact H
    clear H
    have H := H1
    clear H1
    by_cases c11 : 0 ≤ x5_1
    rotate_left
    ·rw [if_neg c11] at H
     exact absurd H dq17
    rw [if_pos c11] at H
    have c11b0 := eq_true c11
    have c11b1 := decide_eq_true c11
    clear c11
    by_cases c12 : x5_1 ≤ (wrap64 (x5_1 + 1))
    rotate_left
    ·rw [if_neg c12] at H
     exact absurd H dq17
    rw [if_pos c12] at H
    have c12b0 := eq_true c12
    have c12b1 := decide_eq_true c12
    by_cases c13 : (wrap64 (x5_1 + 1)) ≤ (a0.size : Int)
    rotate_left
    ·rw [if_neg c13] at H
     exact absurd H dq17
    rw [if_pos c13] at H
    have c13b0 := eq_true c13
    have c13b1 := decide_eq_true c13
    by_cases c14 : x4_1.size + (a0.extract (x5_1 : Int).toNat ((wrap64 (x5_1 + 1)) : Int).toNat).size ≤ 9223372036854775807
    rotate_left
    ·rw [if_neg c14] at H
     exact absurd H dq17
    rw [if_pos c14] at H
    have c14b0 := eq_true c14
    have c14b1 := decide_eq_true c14
    try have c14b2 : (9223372036854775807 < x4_1.size + (a0.extract (x5_1 : Int).toNat ((wrap64 (x5_1 + 1)) : Int).toNat).size) = False := eq_false (Nat.not_lt.2 c14)
    have H' := Aside0.mk H
    clear H
    go_wp2
    go_roundg kj4
    case measure => have := HK1.out; have := HJ4.out; omega
    case rel => exact ⟨(x3_1), (x4_1 ++ (a0.extract (x5_1 : Int).toNat ((wrap64 (x5_1 + 1)) : Int).toNat)), (wrap64 (x5_1 + 1)), dq12, dq12, H', ⟨by have := HK1.out; have := HJ4.out; omega⟩, ⟨dq25⟩, ⟨dq9⟩⟩
   replace c10 := Bool.eq_false_iff.mpr c10
   subst c10
   have H1 : (if x4_1.toList = ([] : List UInt8) then (spec_l7Words.l0 kj4 a0 x3_1 (⟨#[]⟩ : ByteArray) (wrap64 (x5_1 + 1))) else (if x3_1.length < 8796093022208 then (spec_l7Words.l0 kj4 a0 (x3_1 ++ [x4_1]) (⟨#[]⟩ : ByteArray) (wrap64 (x5_1 + 1))) else (none))) = some r := by rw [if_neg (show ¬ (false = true) by decide)] at H; exact H
   clear H
   have H := H1
   clear H1
   by_cases c15 : x4_1.toList = ([] : List UInt8)
   ·rw [if_pos c15] at H
    have c15b0 := beq_iff_eq.mpr c15
    have c15b1 := bne_eq_false_iff_eq.mpr c15
    clear c15
    have H' := Aside0.mk H
    clear H
    go_wp2
    go_roundg kj4
    case measure => have := HK1.out; have := HJ4.out; omega
    case rel => exact ⟨(x3_1), ((⟨#[]⟩ : ByteArray)), (wrap64 (x5_1 + 1)), dq12, dq12, H', ⟨by have := HK1.out; have := HJ4.out; omega⟩, ⟨dq25⟩, ⟨dq9⟩⟩
   rw [if_neg c15] at H
   have c15b0 := beq_eq_false_iff_ne.mpr c15
   have c15b1 := bne_iff_ne.mpr c15
   by_cases c16 : x3_1.length < 8796093022208
   rotate_left
   ·rw [if_neg c16] at H
    exact absurd H dq17
   rw [if_pos c16] at H
   have LMc16 := Aside0.mk c16
   clear c16
   obtain ⟨y267, hy267⟩ : ∃ y_ : List ByteArray, y_ = (x3_1 ++ [x4_1]) := ⟨_, rfl⟩
   replace H : (spec_l7Words.l0 kj4 a0 y267 (⟨#[]⟩ : ByteArray) (wrap64 (x5_1 + 1))) = some r := by first | (rw [hy267]; with_reducible exact H) | (have H2_ := (Option.bind_some _ _).symm.trans H; rw [hy267]; with_reducible exact H2_) | (have H2_ := (Option.bind_some _ _).symm.trans H; with_reducible exact H2_) | with_reducible exact H | (rw [hy267]; exact H) | exact H
   have Ny267 := Aside0.mk hy267
   clear hy267
   have H' := Aside0.mk H
   clear H
   go_wp2_with (first | ((with_reducible refine gate_builtin (b := .append) (xs := #[.tmp 33, .tmp 35]) rfl ?_); at_builtin; refine Kd.R_append Kd.string (w0 := w) w.heap.size rfl (.tmp 33) (.tmp 35) 30 9 (.string ⟨#[]⟩) 16 rfl Tryz.underlying30 info9 rfl dq24 dq20 u3 x3_1 x4_1 [.string x4_1] (fun _ => True) (fun _ => False) rfl rfl ?aP (fun _ hk => hk.elim) ?aF ?aO ?aB ?aS ?aL ?_; (case aP => exact rfl); (case aB => exact dq9); (case aF => exact (fun _ _ => trivial)); (case aO => exact dq25); (case aS => exact (below_size dq9)); (case aL => have := LMc16.out; omega); intro v268 w17 ho hb hg hat; rw [← Ny267.out] at ho; have n0_ := Aside0.mk (hb); have n1_ := Aside0.mk (ho); clear HB; clear HO_3; have HB := n0_; have HO269 := n1_; clear n0_ n1_; clear ho hb hg hat))
   go_roundg kj4
   case measure => have := HK1.out; have := HJ4.out; omega
   case rel => exact ⟨(y267), ((⟨#[]⟩ : ByteArray)), (wrap64 (x5_1 + 1)), dq12, dq12, H', ⟨by have := HK1.out; have := HJ4.out; omega⟩, ⟨by (with_reducible repeat (first | apply Kd.R_alloc | apply Kd.R_drewN | apply Kd.R_drew)); exact HO269.out⟩, ⟨dq9⟩⟩

/-! ### spec_l7Join: function 134 -/
def spec_l7Join.l0 : Nat → List ByteArray → ByteArray → Int → Option (ByteArray)
 | 0, _, _, _ => none
 | k + 1, x0, x3, x4 => if x4 < (x0.length : Int) then (if x4 > 0 then (if x3.size + 1 ≤ 9223372036854775807 then (if 0 ≤ x4 then (if (x3 ++ (⟨#[32]⟩ : ByteArray)).size + (rdOf ByteArray.empty x0 x4).size ≤ 9223372036854775807 then (spec_l7Join.l0 k x0 ((x3 ++ (⟨#[32]⟩ : ByteArray)) ++ (rdOf ByteArray.empty x0 x4)) (wrap64 (x4 + 1))) else (none)) else (none)) else (none)) else (if 0 ≤ x4 then (if x3.size + (rdOf ByteArray.empty x0 x4).size ≤ 9223372036854775807 then (spec_l7Join.l0 k x0 (x3 ++ (rdOf ByteArray.empty x0 x4)) (wrap64 (x4 + 1))) else (none)) else (none))) else (some x3)
def spec_l7Join.f (k : Nat) (l0 : List ByteArray) : Option (ByteArray) := spec_l7Join.l0 k l0 (⟨#[]⟩ : ByteArray) 0
set_option maxHeartbeats 8000000 in
set_option maxRecDepth 100000 in
theorem spec_l7Join.calls (k : Nat) (A0 : Option Addr) (c0 : Nat) (l0 : List ByteArray) (r : ByteArray) (w : World) (hr0 : Kd.C Kd.string w A0 l0.length l0) (hc0 : l0.length ≤ c0) (h : spec_l7Join.f k l0 = some r) :
  Calls Tryz.prog 134 #[.slice A0 l0.length c0] w fun e w' => e = .returned (.string r) ∧ Drawn0 w w' := by
 have HR0 := Aside0.mk hr0
 have HC0 := Aside0.mk hc0
 clear hr0 hc0
 have H : (spec_l7Join.l0 k l0 (⟨#[]⟩ : ByteArray) 0) = some r := h
 clear h
 have H' := Aside0.mk H
 clear H
 go_enter Tryz.func134, Tryz.ntmps134
 go_wp2
 go_loopg [3, 4] k (fun kq v3 v4 w' => ∃ (x3_1 : ByteArray) (x4_1 : Int), v3 = .string x3_1 ∧ v4 = .int .i64 x4_1 ∧ Aside0 (spec_l7Join.l0 kq l0 x3_1 x4_1 = some r) ∧ Aside0 (kq ≤ k) ∧ Drawn0 w w')
 case atStart => exact ⟨((⟨#[]⟩ : ByteArray)), (0), dq12, dq12, H', ⟨Nat.le_refl _⟩, dq19⟩
 clear H'
 try clear c1
 obtain ⟨x3_1, x4_1, rfl, rfl, HA, HK1, ⟨m1, rfl⟩⟩ := hrel
 cases gk with
 | zero => exact absurd HA.out (by simp [spec_l7Join.l0])
 | succ k1 =>
  have H := HA.out
  clear HA
  simp only [spec_l7Join.l0] at H
  by_cases c2 : x4_1 < (l0.length : Int)
  rotate_left
  ·rw [if_neg c2] at H
   have c2b0 := decide_eq_false c2
   clear c2
   obtain rfl := Option.some.inj H
   go_wp2
   go_ret
   exact ⟨dq12, dq19⟩
  rw [if_pos c2] at H
  have c2b0 := decide_eq_true c2
  clear c2
  by_cases c3 : x4_1 > 0
  rotate_left
  ·rw [if_neg c3] at H
   have c3b0 : decide (0 < x4_1) = false := decide_eq_false c3
   clear c3
   by_cases c7 : 0 ≤ x4_1
   rotate_left
   ·rw [if_neg c7] at H
    exact absurd H dq17
   rw [if_pos c7] at H
   have c7b0 := decide_eq_true c7
   clear c7
   by_cases c8 : x3_1.size + (rdOf ByteArray.empty l0 x4_1).size ≤ 9223372036854775807
   rotate_left
   ·rw [if_neg c8] at H
    exact absurd H dq17
   rw [if_pos c8] at H
   have c8b0 := eq_true c8
   have c8b1 := decide_eq_true c8
   try have c8b2 : (9223372036854775807 < x3_1.size + (rdOf ByteArray.empty l0 x4_1).size) = False := eq_false (Nat.not_lt.2 c8)
   have H' := Aside0.mk H
   clear H
   have p271 : 0 ≤ (x4_1 : Int) := of_decide_eq_true dq13
   have q271 : x4_1 < (l0.length : Int) := of_decide_eq_true dq13
   obtain ⟨ad271, e271, hx271_0⟩ := Kd.at_string HR0.out x4_1 p271 q271
   cases e271
   replace p271 := eq_true p271
   replace q271 := eq_true q271
   go_wp2
   go_roundg k1
   case measure => have := HK1.out; omega
   case rel => exact ⟨(x3_1 ++ (rdOf ByteArray.empty l0 x4_1)), (wrap64 (x4_1 + 1)), dq12, dq12, H', ⟨dq16⟩, dq19⟩
  rw [if_pos c3] at H
  have c3b0 : decide (0 < x4_1) = true := decide_eq_true c3
  clear c3
  by_cases c4 : x3_1.size + 1 ≤ 9223372036854775807
  rotate_left
  ·rw [if_neg c4] at H
   exact absurd H dq17
  rw [if_pos c4] at H
  have c4b0 := eq_true c4
  have c4b1 := decide_eq_true c4
  try have c4b2 : (9223372036854775807 < x3_1.size + 1) = False := eq_false (Nat.not_lt.2 c4)
  by_cases c5 : 0 ≤ x4_1
  rotate_left
  ·rw [if_neg c5] at H
   exact absurd H dq17
  rw [if_pos c5] at H
  have c5b0 := decide_eq_true c5
  clear c5
  by_cases c6 : (x3_1 ++ (⟨#[32]⟩ : ByteArray)).size + (rdOf ByteArray.empty l0 x4_1).size ≤ 9223372036854775807
  rotate_left
  ·rw [if_neg c6] at H
   exact absurd H dq17
  rw [if_pos c6] at H
  have c6b0 := eq_true c6
  have c6b1 := decide_eq_true c6
  try have c6b2 : (9223372036854775807 < (x3_1 ++ (⟨#[32]⟩ : ByteArray)).size + (rdOf ByteArray.empty l0 x4_1).size) = False := eq_false (Nat.not_lt.2 c6)
  try have c6b9 : (9223372036854775807 < ((x3_1.size + 1) + (rdOf ByteArray.empty l0 x4_1).size)) = False := eq_false (Nat.not_lt.2 (by have h_ := c6; simp only [ByteArray.size_append] at h_; exact h_))
  have H' := Aside0.mk H
  clear H
  have p270 : 0 ≤ (x4_1 : Int) := of_decide_eq_true dq13
  have q270 : x4_1 < (l0.length : Int) := of_decide_eq_true dq13
  obtain ⟨ad270, e270, hx270_0⟩ := Kd.at_string HR0.out x4_1 p270 q270
  cases e270
  replace p270 := eq_true p270
  replace q270 := eq_true q270
  go_wp2
  go_roundg k1
  case measure => have := HK1.out; omega
  case rel => exact ⟨((x3_1 ++ (⟨#[32]⟩ : ByteArray)) ++ (rdOf ByteArray.empty l0 x4_1)), (wrap64 (x4_1 + 1)), dq12, dq12, H', ⟨dq16⟩, dq19⟩

end Go.Proofs.YtpmjpbaeecnpiaaGreatDoor.L

namespace Go.Proofs.YtpmjpbaeecnpiaaGreatDoor.L
open Go.RowKit Go.Proofs.YtpmjpbaeecnpiaaGreatDoorW.PrintWords Go.Proofs.YtpmjpbaeecnpiaaGreatDoorW.PrintLast Go.Proofs.YtpmjpbaeecnpiaaGreatDoorW.PrintMore
set_option linter.unusedVariables false
set_option linter.unusedSimpArgs false

def spec_White.f (k : Nat) (a0 : ByteArray) (a1 : Int) : Option (ByteArray) := if a1 = 2 then (spec_l7Words.f k a0).bind fun t => (spec_l7Join.f k t) else none
set_option maxHeartbeats 2000000 in
theorem spec_White.calls (k : Nat) (a0 : ByteArray) (a1 : Int) (r : ByteArray) (w : World) (h : spec_White.f k a0 a1 = some r) :
    Calls Tryz.prog 92 #[.string a0, .int .i64 a1] w fun e w' => e = .returned (.string r) ∧ Below w.heap.size w w' := by
  unfold spec_White.f at h
  by_cases c : a1 = 2
  · rw [if_pos c] at h
    subst c
    obtain ⟨t, h1, h2⟩ := Option.bind_eq_some_iff.1 h
    have H1 := Aside0.mk h1
    have H2 := Aside0.mk h2
    clear h h1 h2
    go_enter Tryz.func92, Tryz.ntmps92
    go_wp2_with fail
    refine (spec_l7Words.calls k a0 t _ H1.out).mono ?_
    rintro e w1 ⟨v0, rfl, ho, hb⟩
    obtain ⟨A, ca, rfl⟩ := Kd.R_slice ho
    have HO := Aside0.mk ho
    have HB := Aside0.mk hb
    clear ho hb
    go_wp2_with fail
    refine (spec_l7Join.calls k _ _ t r _ ?s1 ?s2 H2.out).mono ?_
    case s1 => repeat (first | exact (Kd.R_reads' HO.out).2.2 | (with_reducible refine Kd.C_alloc ?_ _) | (with_reducible refine Kd.C_drewN ?_ _) | (with_reducible refine Kd.C_drew ?_))
    case s2 => exact (Kd.R_reads' HO.out).2.1
    rintro e w2 ⟨rfl, ⟨nd, rfl⟩⟩
    go_wp2
    go_ret
    exact ⟨rfl, by repeat (first | (with_reducible first | exact HB.out | apply below_alloc | apply pw_below_drewN | apply below_drew1) | exact HB.out)⟩
  · rw [if_neg c] at h
    cases h
end Go.Proofs.YtpmjpbaeecnpiaaGreatDoor.L

namespace Go.Proofs.YtpmjpbaeecnpiaaGreatDoor.L
open Go.RowKit Go.Proofs.YtpmjpbaeecnpiaaGreatDoorW.PrintWords Go.Proofs.YtpmjpbaeecnpiaaGreatDoorW.PrintLast Go.Proofs.YtpmjpbaeecnpiaaGreatDoorW.PrintMore
attribute [local go_sem] max2_int min2_int max_two min_two max_three min_three max_four min_four
set_option linter.unusedVariables false
set_option linter.unusedSimpArgs false

theorem bne_nilE30 (l : List UInt8) : (l != ([] : List UInt8)) = !l.isEmpty := by cases l <;> rfl
/-! ### spec_l11Value: function 48 -/
mutual
def spec_l11Value.j0 : Nat → List (S65) → ByteArray → List Int → Option (ByteArray × Int)
 | 0, _, _, _ => none
 | k + 1, x0, x9, x11 => spec_l11Value.l0 k x0 x9 x11 (⟨#[]⟩ : ByteArray) 0 0
def spec_l11Value.l0 : Nat → List (S65) → ByteArray → List Int → ByteArray → Int → Int → Option (ByteArray × Int)
 | 0, _, _, _, _, _, _ => none
 | k + 1, x0, x9, x11, x12, x13, x14 => if x14 < (x11.length : Int) then (if x9.toList = ([] : List UInt8) then (if 0 ≤ x14 then ((spec_l2Text.f k x0 (rd x11 x14)).bind fun t287 => ((spec_White.f k t287 2).bind fun t288 => (spec_l11Value.l0 k x0 x9 x11 t288 (wrap64 (x13 + 1)) (wrap64 (x14 + 1))))) else (none)) else (spec_l11Value.l1 k x0 x9 x11 x12 x13 x14 0)) else (if x13 = 1 then (some (x12, 1)) else (some ((⟨#[]⟩ : ByteArray), x13)))
def spec_l11Value.l1 : Nat → List (S65) → ByteArray → List Int → ByteArray → Int → Int → Int → Option (ByteArray × Int)
 | 0, _, _, _, _, _, _, _ => none
 | k + 1, x0, x9, x11, x12, x13, x14, x15 => if 0 ≤ x14 then (if x14 < (x11.length : Int) then (if 0 ≤ (rd x11 x14) then (if (rd x11 x14) < (x0.length : Int) then (if x15 < (((rd_T65 x0 (rd x11 x14)).f3).length : Int) then (if 0 ≤ x15 then (if ((rd_T67 ((rd_T65 x0 (rd x11 x14)).f3) x15).f0).toList = x9.toList then ((spec_White.f k ((rd_T67 ((rd_T65 x0 (rd x11 x14)).f3) x15).f1) 2).bind fun t297 => (spec_l11Value.l1 k x0 x9 x11 t297 (wrap64 (x13 + 1)) x14 (wrap64 (x15 + 1)))) else (spec_l11Value.l1 k x0 x9 x11 x12 x13 x14 (wrap64 (x15 + 1)))) else (none)) else (spec_l11Value.l0 k x0 x9 x11 x12 x13 (wrap64 (x14 + 1)))) else (none)) else (none)) else (none)) else (none)
end
def spec_l11Value.f (k : Nat) (l0 : List (S65)) (a1 : Int) (a2 : ByteArray) : Option (ByteArray × Int) := (spec_l11Field.f k a2).bind fun bt277 => (if bt277.1.toList = ([] : List UInt8) then (spec_l11Value.j0 k l0 bt277.2.1 (([a1] : List Int))) else ((spec_l11Select.f k l0 a1 bt277.1).bind fun t283 => (spec_l11Value.j0 k l0 bt277.2.1 t283)))
set_option maxHeartbeats 8000000 in
set_option maxRecDepth 100000 in
theorem spec_l11Value.calls (k : Nat) (A0 : Option Addr) (c0 : Nat) (l0 : List (S65)) (a1 : Int) (a2 : ByteArray) (r1 : ByteArray) (r2 : Int) (w : World) (hr0 : Kd.C k65 w A0 l0.length l0) (hc0 : l0.length ≤ c0) (h : spec_l11Value.f k l0 a1 a2 = some (r1, r2)) :
  Calls Tryz.prog 48 #[.slice A0 l0.length c0, .int .i64 a1, .string a2] w fun e w' => e = .returned (.tuple #[.string r1, .int .i64 r2]) ∧ Below w.heap.size w w' := by
 have HR0 := Aside0.mk hr0
 have HC0 := Aside0.mk hc0
 clear hr0 hc0
 have HB := Aside0.mk (Below.refl w.heap.size w)
 have H : ((spec_l11Field.f k a2).bind fun bt277 => (if bt277.1.toList = ([] : List UInt8) then (spec_l11Value.j0 k l0 bt277.2.1 (([a1] : List Int))) else ((spec_l11Select.f k l0 a1 bt277.1).bind fun t283 => (spec_l11Value.j0 k l0 bt277.2.1 t283)))) = some (r1, r2) := h
 clear h
 replace H := Option.bind_eq_some_iff.mp H
 obtain ⟨⟨t277, t278, t279⟩, A40, H⟩ := H
 replace H : (if t277.toList = ([] : List UInt8) then (spec_l11Value.j0 k l0 t278 (([a1] : List Int))) else ((spec_l11Select.f k l0 a1 t277).bind fun t283 => (spec_l11Value.j0 k l0 t278 t283))) = some (r1, r2) := H
 have A4 := Aside0.mk A40
 clear A40
 obtain ⟨y280, hy280⟩ : ∃ y_ : List Int, y_ = (([a1] : List Int)) := ⟨_, rfl⟩
 replace H : (if t277.toList = ([] : List UInt8) then (spec_l11Value.j0 k l0 t278 y280) else ((spec_l11Select.f k l0 a1 t277).bind fun t283 => (spec_l11Value.j0 k l0 t278 t283))) = some (r1, r2) := by first | (rw [hy280]; with_reducible exact H) | (have H2_ := (Option.bind_some _ _).symm.trans H; rw [hy280]; with_reducible exact H2_) | (have H2_ := (Option.bind_some _ _).symm.trans H; with_reducible exact H2_) | with_reducible exact H | (rw [hy280]; exact H) | exact H
 have Ny280 := Aside0.mk hy280
 clear hy280
 have HC5 := Aside0.mk H
 clear H
 go_enter Tryz.func48, Tryz.ntmps48
 go_upto_if 25 with (first | ((with_reducible refine gate_callee (f := 46) rfl ?_); refine goesL_ (some 18) rfl rfl Tryz.func46 dq15 rfl #[.string a2] rfl dq14 ?_; (with_reducible refine (spec_l11Field.calls k a2 t277 t278 t279 _ A4.out).mono ?_); rintro e w6 ⟨rfl, hb⟩; refine ⟨_, rfl, ?_⟩; have n0_ := Aside0.mk (below_step dq9 hb); clear HB; have HB := n0_; clear n0_; (try clear hb); (try clear hb2); (try clear hk); (try clear hi)) | ((with_reducible refine gate_dst (N := 23) rfl ?_); refine Kd.R_lit (Kd.int .i64) _ 2 ?hg (N := 23) ?hd (xs := ([a1] : List Int)) (inner := [.int .i64 a1]) (ok := fun _ => True) (okp := fun _ => True) ?hr ?hp (fun _ hk => hk) trivial (Below.refl _ _) (Nat.le_refl _) dq17 ?_; (case hd => rfl); (case hg => rfl); (case hr => exact dq0); (case hp => exact (Reps.one (show Kd.M (Kd.int .i64) _ _ _ a1 [.int .i64 a1] from rfl) (Reps.none _ _))); intro v281 w7 ho8 hb hg_ hnew_; clear hg_ hnew_; (first | rw [← Ny280.out] at ho8 | (simp only [Int.reduceToNat] at ho8; rw [← Ny280.out] at ho8)); have n0_ := Aside0.mk (Kd.R_lower ho8 (below_size dq9)); have n1_ := Aside0.mk (below_step dq9 hb); clear HB; have HO282 := n0_; have HB := n1_; clear n0_ n1_; clear hb ho8))
 (try simp only [Act.put, List.setIfInBounds_toArray, List.set_cons_zero, List.set_cons_succ])
 go_cut [11] (fun v11 wc => ∃ (kq : Nat) (x11_4 : List Int), Aside0 (spec_l11Value.j0 kq l0 t278 x11_4 = some (r1, r2)) ∧ Aside0 (kq ≤ k) ∧ Aside0 (Kd.R (Kd.int .i64) 2 wc w.heap.size (fun _ => True) v11 x11_4) ∧ Aside0 (Below w.heap.size w wc))
 case first =>
  have H := HC5.out
  clear HC5
  by_cases c9 : t277.toList = ([] : List UInt8)
  ·rw [if_pos c9] at H
   have c9b0 := beq_iff_eq.mpr c9
   have c9b1 := bne_eq_false_iff_eq.mpr c9
   have c9b3 : (!t277.toList.isEmpty) = false := (bne_nilE30 t277.toList).symm.trans c9b1
   clear c9
   (first | rw [c9b0] | rw [c9b3] | (simp only [i64_w, i32_w]; rw [c9b0]) | skip)
   have H' := Aside0.mk H
   clear H
   go_wp2
   go_meet
   case rel => exact ⟨_, (y280), H', ⟨dq21⟩, ⟨dq49⟩, ⟨dq9⟩⟩
  rw [if_neg c9] at H
  have c9b0 := beq_eq_false_iff_ne.mpr c9
  have c9b1 := bne_iff_ne.mpr c9
  have c9b3 : (!t277.toList.isEmpty) = true := (bne_nilE30 t277.toList).symm.trans c9b1
  (first | rw [c9b0] | rw [c9b3] | (simp only [i64_w, i32_w]; rw [c9b0]) | skip)
  replace H := Option.bind_eq_some_iff.mp H
  obtain ⟨t283, A100, H⟩ := H
  replace H : (spec_l11Value.j0 k l0 t278 t283) = some (r1, r2) := H
  have A10 := Aside0.mk A100
  clear A100
  have H' := Aside0.mk H
  clear H
  go_wp2_with (first | ((with_reducible refine gate_callee (f := 91) rfl ?_); refine goesL_ (some 29) rfl rfl Tryz.func91 dq15 rfl #[.slice A0 l0.length c0, .int .i64 a1, .string t277] rfl dq14 ?_; (with_reducible refine (spec_l11Select.calls k (fun k_ => k_ < w.heap.size) _ _ l0 a1 t277 t283 _ ?side1 A10.out).mono ?_); (case side1 => exact Kd.V_mk HC0.out (Kd.F_below (Kd.C_F k65_heap HR0.out) dq9)); rintro e w11 ⟨v284, rfl, ho0, hb⟩; refine ⟨_, rfl, ?_⟩; have n0_ := Aside0.mk (Kd.R_elder' dq49 (Kd.R_base ho0) hb); have n1_ := Aside0.mk (Kd.R_lower (Kd.R_new' (Kd.R_mono (ok' := fun k_ => True) ho0 (fun _ hk_ => trivial)) (Kd.R_lt dq49)) (below_size dq9)); have n2_ := Aside0.mk (below_step dq9 hb); clear HO282; clear HB; have HO282 := n0_; have HO285 := n1_; have HB := n2_; clear n0_ n1_ n2_; (try clear hb); (try clear hb2); (try clear hk); (try clear hi); (try clear ho0)))
  go_meet
  case rel => exact ⟨_, (t283), H', ⟨dq21⟩, ⟨by (with_reducible repeat (first | apply Kd.R_alloc | apply Kd.R_drewN | apply Kd.R_drew)); exact Kd.R_mono HO285.out (fun _ hk => trivial)⟩, ⟨dq9⟩⟩
 clear HC5
 obtain ⟨kq, x11_4, HA, HJ4, HO_11, HB⟩ := hcut
 cases kq with
 | zero => exact absurd HA.out (by simp [spec_l11Value.j0])
 | succ kj4 =>
  have H := HA.out
  clear HA
  simp only [spec_l11Value.j0] at H
  have H' := Aside0.mk H
  clear H
  go_wp2
  go_loopg [12, 13, 14] kj4 (fun kq v12 v13 v14 w' => ∃ (x12_2 : ByteArray) (x13_2 : Int) (x14_2 : Int), v12 = .string x12_2 ∧ v13 = .int .i64 x13_2 ∧ v14 = .int .i64 x14_2 ∧ Aside0 (spec_l11Value.l0 kq l0 t278 x11_4 x12_2 x13_2 x14_2 = some (r1, r2)) ∧ Aside0 (kq ≤ kj4) ∧ Aside0 (Kd.R (Kd.int .i64) 2 w' w.heap.size (fun _ => True) u11 x11_4) ∧ Aside0 (Below w.heap.size w w'))
  case atStart => exact ⟨((⟨#[]⟩ : ByteArray)), (0), (0), dq12, dq12, dq12, H', ⟨Nat.le_refl _⟩, ⟨dq50⟩, ⟨dq9⟩⟩
  clear H'
  obtain ⟨x12_2, x13_2, x14_2, rfl, rfl, rfl, HA, HK2, HO_11, HB⟩ := hrel
  cases gk with
  | zero => exact absurd HA.out (by simp [spec_l11Value.l0])
  | succ k2 =>
   have H := HA.out
   clear HA
   simp only [spec_l11Value.l0] at H
   by_cases c12 : x14_2 < (x11_4.length : Int)
   rotate_left
   ·rw [if_neg c12] at H
    have c12b0 := decide_eq_false c12
    clear c12
    by_cases c30 : x13_2 = 1
    rotate_left
    ·rw [if_neg c30] at H
     have c30b0 := beq_eq_false_iff_ne.mpr c30
     have c30b1 := bne_iff_ne.mpr c30
     simp only [Option.some.injEq, Prod.mk.injEq] at H
     obtain ⟨rfl, rfl⟩ := H
     obtain ⟨Ao32, co32, eo32⟩ := Kd.R_slice HO_11.out
     subst eo32
     go_wp2
     go_ret2
     exact ⟨dq11, dq9⟩
    rw [if_pos c30] at H
    have c30b0 := beq_iff_eq.mpr c30
    have c30b1 := bne_eq_false_iff_eq.mpr c30
    clear c30
    simp only [Option.some.injEq, Prod.mk.injEq] at H
    obtain ⟨rfl, rfl⟩ := H
    obtain ⟨Ao31, co31, eo31⟩ := Kd.R_slice HO_11.out
    subst eo31
    go_wp2
    go_ret2
    exact ⟨dq11, dq9⟩
   rw [if_pos c12] at H
   have c12b0 := decide_eq_true c12
   clear c12
   by_cases c13 : t278.toList = ([] : List UInt8)
   ·rw [if_pos c13] at H
    have c13b0 := beq_iff_eq.mpr c13
    have c13b1 := bne_eq_false_iff_eq.mpr c13
    have c13b3 : (!t278.toList.isEmpty) = false := (bne_nilE30 t278.toList).symm.trans c13b1
    clear c13
    by_cases c14 : 0 ≤ x14_2
    rotate_left
    ·rw [if_neg c14] at H
     exact absurd H dq17
    rw [if_pos c14] at H
    have c14b0 := decide_eq_true c14
    clear c14
    replace H := Option.bind_eq_some_iff.mp H
    obtain ⟨t287, A150, H⟩ := H
    replace H : ((spec_White.f k2 t287 2).bind fun t288 => (spec_l11Value.l0 k2 l0 t278 x11_4 t288 (wrap64 (x13_2 + 1)) (wrap64 (x14_2 + 1)))) = some (r1, r2) := H
    have A15 := Aside0.mk A150
    clear A150
    replace H := Option.bind_eq_some_iff.mp H
    obtain ⟨t288, A160, H⟩ := H
    replace H : (spec_l11Value.l0 k2 l0 t278 x11_4 t288 (wrap64 (x13_2 + 1)) (wrap64 (x14_2 + 1))) = some (r1, r2) := H
    have A16 := Aside0.mk A160
    clear A160
    have H' := Aside0.mk H
    clear H
    obtain ⟨Ao17, co17, eo17⟩ := Kd.R_slice HO_11.out
    subst eo17
    have p286 : 0 ≤ (x14_2 : Int) := of_decide_eq_true dq13
    have q286 : x14_2 < (x11_4.length : Int) := of_decide_eq_true dq13
    obtain ⟨ad286, e286, hx286_0⟩ := Kd.at_int (Kd.R_reads' HO_11.out).2.2 x14_2 p286 q286
    cases e286
    replace p286 := eq_true p286
    replace q286 := eq_true q286
    go_wp2_with (first | ((with_reducible refine gate_callee (f := 93) rfl ?_); refine goesL_ (some 43) rfl rfl Tryz.func93 dq15 rfl #[.slice A0 l0.length c0, .int .i64 (rd x11_4 x14_2)] rfl dq14 ?_; (with_reducible refine (spec_l2Text.calls k2 _ _ l0 (rd x11_4 x14_2) t287 _ ?side1 ?side2 A15.out).mono ?_); (case side1 => exact dq2); (case side2 => exact HC0.out); rintro e w18 ⟨rfl, hb⟩; refine ⟨_, rfl, ?_⟩; have n0_ := Aside0.mk (Kd.R_below dq50 hb); have n1_ := Aside0.mk (below_step dq9 hb); clear HO_11; clear HB; have HO_11 := n0_; have HB := n1_; clear n0_ n1_; (try clear hb); (try clear hb2); (try clear hk); (try clear hi)) | ((with_reducible refine gate_callee (f := 92) rfl ?_); refine goesL_ (some 44) rfl rfl Tryz.func92 dq15 rfl #[.string t287, .int .i64 2] rfl dq14 ?_; (with_reducible refine (spec_White.calls k2 t287 2 t288 _ A16.out).mono ?_); rintro e w19 ⟨rfl, hb⟩; refine ⟨_, rfl, ?_⟩; have n0_ := Aside0.mk (Kd.R_below dq50 hb); have n1_ := Aside0.mk (below_step dq9 hb); clear HO_11; clear HB; have HO_11 := n0_; have HB := n1_; clear n0_ n1_; (try clear hb); (try clear hb2); (try clear hk); (try clear hi)))
    go_roundg k2
    case measure => have := HJ4.out; have := HK2.out; omega
    case rel => exact ⟨(t288), (wrap64 (x13_2 + 1)), (wrap64 (x14_2 + 1)), dq12, dq12, dq12, H', ⟨by have := HJ4.out; have := HK2.out; omega⟩, ⟨dq50⟩, ⟨dq9⟩⟩
   rw [if_neg c13] at H
   have c13b0 := beq_eq_false_iff_ne.mpr c13
   have c13b1 := bne_iff_ne.mpr c13
   have c13b3 : (!t278.toList.isEmpty) = true := (bne_nilE30 t278.toList).symm.trans c13b1
   have H' := Aside0.mk H
   clear H
   obtain ⟨Ao20, co20, eo20⟩ := Kd.R_slice HO_11.out
   subst eo20
   go_wp2
   go_loopg [12, 13, 15] k2 (fun kq v12 v13 v15 w' => ∃ (x12_3 : ByteArray) (x13_3 : Int) (x15_3 : Int), v12 = .string x12_3 ∧ v13 = .int .i64 x13_3 ∧ v15 = .int .i64 x15_3 ∧ Aside0 (spec_l11Value.l1 kq l0 t278 x11_4 x12_3 x13_3 x14_2 x15_3 = some (r1, r2)) ∧ Aside0 (kq ≤ k2) ∧ Aside0 (Kd.R (Kd.int .i64) 2 w' w.heap.size (fun _ => True) (.slice Ao20 x11_4.length co20) x11_4) ∧ Aside0 (Below w.heap.size w w'))
   case atStart => exact ⟨(x12_2), (x13_2), (0), dq12, dq12, dq12, H', ⟨Nat.le_refl _⟩, ⟨dq50⟩, ⟨dq9⟩⟩
   clear H'
   try clear c12b0
   try clear c13
   try clear c13b0
   try clear c13b1
   obtain ⟨x12_3, x13_3, x15_3, rfl, rfl, rfl, HA, HK3, HO_11, HB⟩ := hrel
   cases gk with
   | zero => exact absurd HA.out (by simp [spec_l11Value.l1])
   | succ k3 =>
    have H := HA.out
    clear HA
    simp only [spec_l11Value.l1] at H
    by_cases c21 : 0 ≤ x14_2
    rotate_left
    ·rw [if_neg c21] at H
     exact absurd H dq17
    rw [if_pos c21] at H
    have c21b0 := decide_eq_true c21
    clear c21
    by_cases c22 : x14_2 < (x11_4.length : Int)
    rotate_left
    ·rw [if_neg c22] at H
     exact absurd H dq17
    rw [if_pos c22] at H
    have c22b0 := decide_eq_true c22
    clear c22
    by_cases c23 : 0 ≤ (rd x11_4 x14_2)
    rotate_left
    ·rw [if_neg c23] at H
     exact absurd H dq17
    rw [if_pos c23] at H
    have c23b0 := decide_eq_true c23
    clear c23
    by_cases c24 : (rd x11_4 x14_2) < (l0.length : Int)
    rotate_left
    ·rw [if_neg c24] at H
     exact absurd H dq17
    rw [if_pos c24] at H
    have c24b0 := decide_eq_true c24
    clear c24
    by_cases c25 : x15_3 < (((rd_T65 l0 (rd x11_4 x14_2)).f3).length : Int)
    rotate_left
    ·rw [if_neg c25] at H
     have c25b0 := decide_eq_false c25
     clear c25
     have H' := Aside0.mk H
     clear H
     have p289 : 0 ≤ (x14_2 : Int) := of_decide_eq_true dq13
     have q289 : x14_2 < (x11_4.length : Int) := of_decide_eq_true dq13
     obtain ⟨ad289, e289, hx289_0⟩ := Kd.at_int (Kd.R_reads' HO_11.out).2.2 x14_2 p289 q289
     cases e289
     replace p289 := eq_true p289
     replace q289 := eq_true q289
     have p290 : 0 ≤ ((rd x11_4 x14_2) : Int) := of_decide_eq_true dq13
     have q290 : (rd x11_4 x14_2) < (l0.length : Int) := of_decide_eq_true dq13
     obtain ⟨ad290, A290_3, c290_3, e290, hx290_0, hx290_1, hx290_2, hx290_3, hl290_3, hi290_3⟩ := at_T65 HR0.out (rd x11_4 x14_2) p290 q290
     cases e290
     replace hx290_0 := (HB.out.cell (World.block_lt_of_cell? w _ hx290_0)).trans hx290_0
     replace hx290_1 := (HB.out.cell (World.block_lt_of_cell? w _ hx290_1)).trans hx290_1
     replace hx290_2 := (HB.out.cell (World.block_lt_of_cell? w _ hx290_2)).trans hx290_2
     replace hx290_3 := (HB.out.cell (World.block_lt_of_cell? w _ hx290_3)).trans hx290_3
     have HR290_3 := Aside0.mk hi290_3
     have HC290_3 := Aside0.mk hl290_3
     clear hi290_3 hl290_3
     replace p290 := eq_true p290
     replace q290 := eq_true q290
     go_wp2
     go_roundg k3
     case measure => have := HJ4.out; have := HK2.out; have := HK3.out; omega
     case rel => exact ⟨(x12_3), (x13_3), (wrap64 (x14_2 + 1)), dq12, dq12, dq12, H', ⟨dq48⟩, ⟨dq50⟩, ⟨dq9⟩⟩
    rw [if_pos c25] at H
    have c25b0 := decide_eq_true c25
    clear c25
    by_cases c26 : 0 ≤ x15_3
    rotate_left
    ·rw [if_neg c26] at H
     exact absurd H dq17
    rw [if_pos c26] at H
    have c26b0 := decide_eq_true c26
    clear c26
    by_cases c27 : ((rd_T67 ((rd_T65 l0 (rd x11_4 x14_2)).f3) x15_3).f0).toList = t278.toList
    rotate_left
    ·rw [if_neg c27] at H
     have c27b0 := beq_eq_false_iff_ne.mpr c27
     have c27b1 := bne_iff_ne.mpr c27
     have H' := Aside0.mk H
     clear H
     have p289 : 0 ≤ (x14_2 : Int) := of_decide_eq_true dq13
     have q289 : x14_2 < (x11_4.length : Int) := of_decide_eq_true dq13
     obtain ⟨ad289, e289, hx289_0⟩ := Kd.at_int (Kd.R_reads' HO_11.out).2.2 x14_2 p289 q289
     cases e289
     replace p289 := eq_true p289
     replace q289 := eq_true q289
     have p290 : 0 ≤ ((rd x11_4 x14_2) : Int) := of_decide_eq_true dq13
     have q290 : (rd x11_4 x14_2) < (l0.length : Int) := of_decide_eq_true dq13
     obtain ⟨ad290, A290_3, c290_3, e290, hx290_0, hx290_1, hx290_2, hx290_3, hl290_3, hi290_3⟩ := at_T65 HR0.out (rd x11_4 x14_2) p290 q290
     cases e290
     replace hx290_0 := (HB.out.cell (World.block_lt_of_cell? w _ hx290_0)).trans hx290_0
     replace hx290_1 := (HB.out.cell (World.block_lt_of_cell? w _ hx290_1)).trans hx290_1
     replace hx290_2 := (HB.out.cell (World.block_lt_of_cell? w _ hx290_2)).trans hx290_2
     replace hx290_3 := (HB.out.cell (World.block_lt_of_cell? w _ hx290_3)).trans hx290_3
     have HR290_3 := Aside0.mk hi290_3
     have HC290_3 := Aside0.mk hl290_3
     clear hi290_3 hl290_3
     replace p290 := eq_true p290
     replace q290 := eq_true q290
     have p291 : 0 ≤ (x14_2 : Int) := of_decide_eq_true dq13
     have q291 : x14_2 < (x11_4.length : Int) := of_decide_eq_true dq13
     obtain ⟨ad291, e291, hx291_0⟩ := Kd.at_int (Kd.R_reads' HO_11.out).2.2 x14_2 p291 q291
     obtain rfl : ad289 = ad291 := (by injection e291)
     replace p291 := eq_true p291
     replace q291 := eq_true q291
     have p292 : 0 ≤ ((rd x11_4 x14_2) : Int) := of_decide_eq_true dq13
     have q292 : (rd x11_4 x14_2) < (l0.length : Int) := of_decide_eq_true dq13
     obtain ⟨ad292, A292_3, c292_3, e292, hx292_0, hx292_1, hx292_2, hx292_3, hl292_3, hi292_3⟩ := at_T65 HR0.out (rd x11_4 x14_2) p292 q292
     obtain rfl : ad290 = ad292 := (by injection e292)
     replace hx292_0 := (HB.out.cell (World.block_lt_of_cell? w _ hx292_0)).trans hx292_0
     replace hx292_1 := (HB.out.cell (World.block_lt_of_cell? w _ hx292_1)).trans hx292_1
     replace hx292_2 := (HB.out.cell (World.block_lt_of_cell? w _ hx292_2)).trans hx292_2
     replace hx292_3 := (HB.out.cell (World.block_lt_of_cell? w _ hx292_3)).trans hx292_3
     have HR292_3 := Aside0.mk hi292_3
     have HC292_3 := Aside0.mk hl292_3
     clear hi292_3 hl292_3
     replace p292 := eq_true p292
     replace q292 := eq_true q292
     have ea_ := Option.some.inj (hx290_3.symm.trans hx292_3)
     injection ea_ with ea_ en_ ec_
     subst ea_
     subst ec_
     clear en_
     have p293 : 0 ≤ (x15_3 : Int) := of_decide_eq_true dq13
     have q293 : x15_3 < (((rd_T65 l0 (rd x11_4 x14_2)).f3).length : Int) := of_decide_eq_true dq13
     obtain ⟨ad293, e293, hx293_0, hx293_1⟩ := at_T67 HR292_3.out x15_3 p293 q293
     cases e293
     replace hx293_0 := (HB.out.cell (World.block_lt_of_cell? w _ hx293_0)).trans hx293_0
     replace hx293_1 := (HB.out.cell (World.block_lt_of_cell? w _ hx293_1)).trans hx293_1
     replace p293 := eq_true p293
     replace q293 := eq_true q293
     go_wp2
     go_roundg k3
     case measure => have := HJ4.out; have := HK2.out; have := HK3.out; omega
     case rel => exact ⟨(x12_3), (x13_3), (wrap64 (x15_3 + 1)), dq12, dq12, dq12, H', ⟨dq48⟩, ⟨dq50⟩, ⟨dq9⟩⟩
    rw [if_pos c27] at H
    have c27b0 := beq_iff_eq.mpr c27
    have c27b1 := bne_eq_false_iff_eq.mpr c27
    clear c27
    replace H := Option.bind_eq_some_iff.mp H
    obtain ⟨t297, A280, H⟩ := H
    replace H : (spec_l11Value.l1 k3 l0 t278 x11_4 t297 (wrap64 (x13_3 + 1)) x14_2 (wrap64 (x15_3 + 1))) = some (r1, r2) := H
    have A28 := Aside0.mk A280
    clear A280
    have H' := Aside0.mk H
    clear H
    have p289 : 0 ≤ (x14_2 : Int) := of_decide_eq_true dq13
    have q289 : x14_2 < (x11_4.length : Int) := of_decide_eq_true dq13
    obtain ⟨ad289, e289, hx289_0⟩ := Kd.at_int (Kd.R_reads' HO_11.out).2.2 x14_2 p289 q289
    cases e289
    replace p289 := eq_true p289
    replace q289 := eq_true q289
    have p290 : 0 ≤ ((rd x11_4 x14_2) : Int) := of_decide_eq_true dq13
    have q290 : (rd x11_4 x14_2) < (l0.length : Int) := of_decide_eq_true dq13
    obtain ⟨ad290, A290_3, c290_3, e290, hx290_0, hx290_1, hx290_2, hx290_3, hl290_3, hi290_3⟩ := at_T65 HR0.out (rd x11_4 x14_2) p290 q290
    cases e290
    replace hx290_0 := (HB.out.cell (World.block_lt_of_cell? w _ hx290_0)).trans hx290_0
    replace hx290_1 := (HB.out.cell (World.block_lt_of_cell? w _ hx290_1)).trans hx290_1
    replace hx290_2 := (HB.out.cell (World.block_lt_of_cell? w _ hx290_2)).trans hx290_2
    replace hx290_3 := (HB.out.cell (World.block_lt_of_cell? w _ hx290_3)).trans hx290_3
    have HR290_3 := Aside0.mk hi290_3
    have HC290_3 := Aside0.mk hl290_3
    clear hi290_3 hl290_3
    replace p290 := eq_true p290
    replace q290 := eq_true q290
    have p291 : 0 ≤ (x14_2 : Int) := of_decide_eq_true dq13
    have q291 : x14_2 < (x11_4.length : Int) := of_decide_eq_true dq13
    obtain ⟨ad291, e291, hx291_0⟩ := Kd.at_int (Kd.R_reads' HO_11.out).2.2 x14_2 p291 q291
    obtain rfl : ad289 = ad291 := (by injection e291)
    replace p291 := eq_true p291
    replace q291 := eq_true q291
    have p292 : 0 ≤ ((rd x11_4 x14_2) : Int) := of_decide_eq_true dq13
    have q292 : (rd x11_4 x14_2) < (l0.length : Int) := of_decide_eq_true dq13
    obtain ⟨ad292, A292_3, c292_3, e292, hx292_0, hx292_1, hx292_2, hx292_3, hl292_3, hi292_3⟩ := at_T65 HR0.out (rd x11_4 x14_2) p292 q292
    obtain rfl : ad290 = ad292 := (by injection e292)
    replace hx292_0 := (HB.out.cell (World.block_lt_of_cell? w _ hx292_0)).trans hx292_0
    replace hx292_1 := (HB.out.cell (World.block_lt_of_cell? w _ hx292_1)).trans hx292_1
    replace hx292_2 := (HB.out.cell (World.block_lt_of_cell? w _ hx292_2)).trans hx292_2
    replace hx292_3 := (HB.out.cell (World.block_lt_of_cell? w _ hx292_3)).trans hx292_3
    have HR292_3 := Aside0.mk hi292_3
    have HC292_3 := Aside0.mk hl292_3
    clear hi292_3 hl292_3
    replace p292 := eq_true p292
    replace q292 := eq_true q292
    have ea_ := Option.some.inj (hx290_3.symm.trans hx292_3)
    injection ea_ with ea_ en_ ec_
    subst ea_
    subst ec_
    clear en_
    have p293 : 0 ≤ (x15_3 : Int) := of_decide_eq_true dq13
    have q293 : x15_3 < (((rd_T65 l0 (rd x11_4 x14_2)).f3).length : Int) := of_decide_eq_true dq13
    obtain ⟨ad293, e293, hx293_0, hx293_1⟩ := at_T67 HR292_3.out x15_3 p293 q293
    cases e293
    replace hx293_0 := (HB.out.cell (World.block_lt_of_cell? w _ hx293_0)).trans hx293_0
    replace hx293_1 := (HB.out.cell (World.block_lt_of_cell? w _ hx293_1)).trans hx293_1
    replace p293 := eq_true p293
    replace q293 := eq_true q293
    have p294 : 0 ≤ (x14_2 : Int) := of_decide_eq_true dq13
    have q294 : x14_2 < (x11_4.length : Int) := of_decide_eq_true dq13
    obtain ⟨ad294, e294, hx294_0⟩ := Kd.at_int (Kd.R_reads' HO_11.out).2.2 x14_2 p294 q294
    obtain rfl : ad289 = ad294 := (by injection e294)
    replace p294 := eq_true p294
    replace q294 := eq_true q294
    have p295 : 0 ≤ ((rd x11_4 x14_2) : Int) := of_decide_eq_true dq13
    have q295 : (rd x11_4 x14_2) < (l0.length : Int) := of_decide_eq_true dq13
    obtain ⟨ad295, A295_3, c295_3, e295, hx295_0, hx295_1, hx295_2, hx295_3, hl295_3, hi295_3⟩ := at_T65 HR0.out (rd x11_4 x14_2) p295 q295
    obtain rfl : ad290 = ad295 := (by injection e295)
    replace hx295_0 := (HB.out.cell (World.block_lt_of_cell? w _ hx295_0)).trans hx295_0
    replace hx295_1 := (HB.out.cell (World.block_lt_of_cell? w _ hx295_1)).trans hx295_1
    replace hx295_2 := (HB.out.cell (World.block_lt_of_cell? w _ hx295_2)).trans hx295_2
    replace hx295_3 := (HB.out.cell (World.block_lt_of_cell? w _ hx295_3)).trans hx295_3
    have HR295_3 := Aside0.mk hi295_3
    have HC295_3 := Aside0.mk hl295_3
    clear hi295_3 hl295_3
    replace p295 := eq_true p295
    replace q295 := eq_true q295
    have ea_ := Option.some.inj (hx290_3.symm.trans hx295_3)
    injection ea_ with ea_ en_ ec_
    subst ea_
    subst ec_
    clear en_
    have p296 : 0 ≤ (x15_3 : Int) := of_decide_eq_true dq13
    have q296 : x15_3 < (((rd_T65 l0 (rd x11_4 x14_2)).f3).length : Int) := of_decide_eq_true dq13
    obtain ⟨ad296, e296, hx296_0, hx296_1⟩ := at_T67 HR295_3.out x15_3 p296 q296
    cases e296
    replace hx296_0 := (HB.out.cell (World.block_lt_of_cell? w _ hx296_0)).trans hx296_0
    replace hx296_1 := (HB.out.cell (World.block_lt_of_cell? w _ hx296_1)).trans hx296_1
    replace p296 := eq_true p296
    replace q296 := eq_true q296
    go_wp2_with (first | ((with_reducible refine gate_callee (f := 92) rfl ?_); refine goesL_ (some 86) rfl rfl Tryz.func92 dq15 rfl #[.string ((rd_T67 ((rd_T65 l0 (rd x11_4 x14_2)).f3) x15_3).f1), .int .i64 2] rfl dq14 ?_; (with_reducible refine (spec_White.calls k3 ((rd_T67 ((rd_T65 l0 (rd x11_4 x14_2)).f3) x15_3).f1) 2 t297 _ A28.out).mono ?_); rintro e w29 ⟨rfl, hb⟩; refine ⟨_, rfl, ?_⟩; have n0_ := Aside0.mk (Kd.R_below dq50 hb); have n1_ := Aside0.mk (below_step dq9 hb); clear HO_11; clear HB; have HO_11 := n0_; have HB := n1_; clear n0_ n1_; (try clear hb); (try clear hb2); (try clear hk); (try clear hi)))
    go_roundg k3
    case measure => have := HJ4.out; have := HK2.out; have := HK3.out; omega
    case rel => exact ⟨(t297), (wrap64 (x13_3 + 1)), (wrap64 (x15_3 + 1)), dq12, dq12, dq12, H', ⟨dq48⟩, ⟨dq50⟩, ⟨dq9⟩⟩

end Go.Proofs.YtpmjpbaeecnpiaaGreatDoor.L
