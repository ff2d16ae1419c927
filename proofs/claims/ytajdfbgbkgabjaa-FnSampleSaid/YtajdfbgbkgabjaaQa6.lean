/- Words and contracts for the row RowFnSample; printed, and merged. -/
import Derived.Test.YtajdfbgbkgabjaaQa5
set_option linter.unusedVariables false
set_option linter.unusedSimpArgs false
set_option maxHeartbeats 16000000
set_option maxRecDepth 100000
namespace Go.Proofs.Ytajdfbgbkgabjaa.L
open Go.RowKit YtajdfbgbkgabjaaW.PrintWords YtajdfbgbkgabjaaW.PrintLast YtajdfbgbkgabjaaW.PrintMore
attribute [local go_sem] max2_int min2_int max_two min_two max_three min_three max_four min_four

/-! ### spec_l8Sorted: function 96 -/
mutual
def spec_l8Sorted.l0 : Nat → List Int → List Int → Int → Option (List Int)
 | 0, _, _, _ => none
 | k + 1, x0, x3, x4 => if x4 < (x0.length : Int) then (spec_l8Sorted.l1 k x0 x3 x4 0) else (some x3)
def spec_l8Sorted.l1 : Nat → List Int → List Int → Int → Int → Option (List Int)
 | 0, _, _, _, _ => none
 | k + 1, x0, x3, x4, x5 => if x5 < (x3.length : Int) then (if 0 ≤ x5 then (if 0 ≤ x4 then (if x4 < (x0.length : Int) then (if (rd x3 x5) < (rd x0 x4) then (spec_l8Sorted.l1 k x0 x3 x4 (wrap64 (x5 + 1))) else (if (rd x3 x5) = (rd x0 x4) then (spec_l8Sorted.l0 k x0 x3 (wrap64 (x4 + 1))) else ((some (([] : List Int) : List Int)).bind fun y245 => (if x5 ≤ (x3.length : Int) then ((some (x3.take (x5 : Int).toNat : List Int)).bind fun y248 => (if y245.length + y248.length < 17592186044416 then ((some (y245 ++ y248 : List Int)).bind fun y252 => (if y252.length < 17592186044416 then ((some (y252 ++ [rd x0 x4] : List Int)).bind fun y256 => ((some (x3.drop (x5 : Int).toNat : List Int)).bind fun y259 => (if y256.length + y259.length < 17592186044416 then (spec_l8Sorted.l0 k x0 (y256 ++ y259) (wrap64 (x4 + 1))) else (none)))) else (none))) else (none))) else (none))))) else (none)) else (none)) else (none)) else ((some (([] : List Int) : List Int)).bind fun y266 => (if 0 ≤ x5 then (if x5 ≤ (x3.length : Int) then ((some (x3.take (x5 : Int).toNat : List Int)).bind fun y269 => (if y266.length + y269.length < 17592186044416 then ((some (y266 ++ y269 : List Int)).bind fun y273 => (if 0 ≤ x4 then (if x4 < (x0.length : Int) then (if y273.length < 17592186044416 then ((some (y273 ++ [rd x0 x4] : List Int)).bind fun y277 => ((some (x3.drop (x5 : Int).toNat : List Int)).bind fun y280 => (if y277.length + y280.length < 17592186044416 then (spec_l8Sorted.l0 k x0 (y277 ++ y280) (wrap64 (x4 + 1))) else (none)))) else (none)) else (none)) else (none))) else (none))) else (none)) else (none)))
end
def spec_l8Sorted.f (k : Nat) (l0 : List Int) : Option (List Int) := spec_l8Sorted.l0 k l0 (([] : List Int)) 0
theorem spec_l8Sorted.calls (k : Nat) (A0 : Option Addr) (c0 : Nat) (l0 : List Int) (r : List Int) (w : World) (hr0 : Kd.C (Kd.int .i64) w A0 l0.length l0) (hc0 : l0.length ≤ c0) (h : spec_l8Sorted.f k l0 = some r) :
  Calls Try.prog 96 #[.slice A0 l0.length c0] w fun e w' => ∃ v0_ : Value, e = .returned (v0_) ∧ Kd.R (Kd.int .i64) 2 w' w.heap.size (fun _ => True) v0_ r ∧ Below w.heap.size w w' := by
 have HR0 := Zq.i hr0
 have HC0 := Zq.i hc0
 clear hr0 hc0
 have HB := Zq.i (Below.refl w.heap.size w)
 have H := h
 unfold spec_l8Sorted.f at H
 clear h
 obtain ⟨y238, hy238⟩ : ∃ y_ : List Int, y_ = (([] : List Int)) := ⟨_, rfl⟩
 replace H : (spec_l8Sorted.l0 k l0 y238 0) = some r := by first | (rw [hy238]; with_reducible exact H) | (have H2_ := oS H; rw [hy238]; with_reducible exact H2_) | (have H2_ := oS H; with_reducible exact H2_) | with_reducible exact H | (rw [hy238]; exact H) | exact H
 have Ny238 := Zq.i hy238
 clear hy238
 have H' := Zq.i H
 clear H
 go_enter Try.func96, Try.ntmps96
 go_wp2_with (first | ((with_reducible refine gate_dst (N := 7) rfl ?_); refine Kd.R_lit (Kd.int .i64) _ 2 ?hg (N := 7) ?hd (xs := ([] : List Int)) (inner := []) (ok := fun _ => True) (okp := fun _ => True) ?hr ?hp (fun _ hk => hk) trivial (Below.refl _ _) (Nat.le_refl _) dq15 ?_; (case hd => rfl); (case hg => rfl); (case hr => exact dq0); (case hp => exact (Reps.none _ _)); intro v239 w2 ho3 hb hg_ hnew_; clear hg_ hnew_; (first | rw [← Ny238.out] at ho3 | (simp only [Int.reduceToNat] at ho3; rw [← Ny238.out] at ho3)); have HO240 := Zq.i (Kd.R_lower ho3 (below_size dq17)); replace HB := Zq.i (below_step dq17 hb); clear hb ho3))
 go_loopg [3, 4] k (fun kq v3 v4 w' => ∃ (x3_1 : List Int) (x4_1 : Int), v4 = .int .i64 x4_1 ∧ Zq (spec_l8Sorted.l0 kq l0 x3_1 x4_1 = some r) ∧ Zq (kq ≤ k) ∧ Zq (Kd.R (Kd.int .i64) 2 w' w.heap.size (fun _ => True) v3 x3_1) ∧ Zq (Below w.heap.size w w'))
 case atStart => exact ⟨(y238), (0), dq14, H', ⟨Nat.le_refl _⟩, ⟨by (with_reducible repeat (first | apply Kd.R_alloc | apply Kd.R_drewN | apply Kd.R_drew)); exact HO240.out⟩, ⟨dq17⟩⟩
 clear H'
 obtain ⟨x3_1, x4_1, rfl, HA, HK1, HO_3, HB⟩ := hrel
 cases gk with
 | zero => exact absurd HA.out (by simp [spec_l8Sorted.l0])
 | succ k1 =>
  have H := HA.out
  clear HA
  simp only [spec_l8Sorted.l0] at H
  by_cases c4 : x4_1 < (l0.length : Int)
  rotate_left
  ·rw [if_neg c4] at H
   have c4b0 := dF c4
   clear c4
   obtain rfl := oI H
   go_wp2
   go_ret
   exact ⟨_, dq21, dq59, dq17⟩
  rw [if_pos c4] at H
  have c4b0 := dT c4
  clear c4
  have H' := Zq.i H
  clear H
  go_wp2
  go_loopg [5] k1 (fun kq v5 w' => ∃ (x5_2 : Int), v5 = .int .i64 x5_2 ∧ Zq (spec_l8Sorted.l1 kq l0 x3_1 x4_1 x5_2 = some r) ∧ Zq (kq ≤ k1) ∧ Zq (Kd.R (Kd.int .i64) 2 w' w.heap.size (fun _ => True) u3 x3_1) ∧ Zq (Below w.heap.size w w'))
  case atStart => exact ⟨(0), dq14, H', ⟨Nat.le_refl _⟩, ⟨dq59⟩, ⟨dq17⟩⟩
  clear H'
  try clear c4b0
  obtain ⟨x5_2, rfl, HA, HK2, HO_3, HB⟩ := hrel
  cases gk with
  | zero => exact absurd HA.out (by simp [spec_l8Sorted.l1])
  | succ k2 =>
   have H := HA.out
   clear HA
   simp only [spec_l8Sorted.l1] at H
   by_cases c5 : x5_2 < (x3_1.length : Int)
   rotate_left
   ·rw [if_neg c5] at H
    have c5b0 := dF c5
    clear c5
    obtain ⟨y266, hy266⟩ : ∃ y_ : List Int, y_ = (([] : List Int)) := ⟨_, rfl⟩
    replace H : (if 0 ≤ x5_2 then (if x5_2 ≤ (x3_1.length : Int) then ((some (x3_1.take (x5_2 : Int).toNat : List Int)).bind fun y269 => (if y266.length + y269.length < 17592186044416 then ((some (y266 ++ y269 : List Int)).bind fun y273 => (if 0 ≤ x4_1 then (if x4_1 < (l0.length : Int) then (if y273.length < 17592186044416 then ((some (y273 ++ [rd l0 x4_1] : List Int)).bind fun y277 => ((some (x3_1.drop (x5_2 : Int).toNat : List Int)).bind fun y280 => (if y277.length + y280.length < 17592186044416 then (spec_l8Sorted.l0 k2 l0 (y277 ++ y280) (wrap64 (x4_1 + 1))) else (none)))) else (none)) else (none)) else (none))) else (none))) else (none)) else (none)) = some r := by first | (rw [hy266]; with_reducible exact H) | (have H2_ := oS H; rw [hy266]; with_reducible exact H2_) | (have H2_ := oS H; with_reducible exact H2_) | with_reducible exact H | (rw [hy266]; exact H) | exact H
    have Ny266 := Zq.i hy266
    clear hy266
    by_cases c28 : 0 ≤ x5_2
    rotate_left
    ·rw [if_neg c28] at H
     exact absurd H dq15
    rw [if_pos c28] at H
    have c28b0 := eq_true c28
    have c28b1 := dT c28
    clear c28
    by_cases c29 : x5_2 ≤ (x3_1.length : Int)
    rotate_left
    ·rw [if_neg c29] at H
     exact absurd H dq15
    rw [if_pos c29] at H
    have c29b0 := eq_true c29
    have c29b1 := dT c29
    clear c29
    obtain ⟨y269, hy269⟩ : ∃ y_ : List Int, y_ = (x3_1.take (x5_2 : Int).toNat) := ⟨_, rfl⟩
    replace H : (if y266.length + y269.length < 17592186044416 then ((some (y266 ++ y269 : List Int)).bind fun y273 => (if 0 ≤ x4_1 then (if x4_1 < (l0.length : Int) then (if y273.length < 17592186044416 then ((some (y273 ++ [rd l0 x4_1] : List Int)).bind fun y277 => ((some (x3_1.drop (x5_2 : Int).toNat : List Int)).bind fun y280 => (if y277.length + y280.length < 17592186044416 then (spec_l8Sorted.l0 k2 l0 (y277 ++ y280) (wrap64 (x4_1 + 1))) else (none)))) else (none)) else (none)) else (none))) else (none)) = some r := by first | (rw [hy269]; with_reducible exact H) | (have H2_ := oS H; rw [hy269]; with_reducible exact H2_) | (have H2_ := oS H; with_reducible exact H2_) | with_reducible exact H | (rw [hy269]; exact H) | exact H
    have Ny269 := Zq.i hy269
    clear hy269
    by_cases c30 : y266.length + y269.length < 17592186044416
    rotate_left
    ·rw [if_neg c30] at H
     exact absurd H dq15
    rw [if_pos c30] at H
    have LMc30 := Zq.i c30
    clear c30
    obtain ⟨y273, hy273⟩ : ∃ y_ : List Int, y_ = (y266 ++ y269) := ⟨_, rfl⟩
    replace H : (if 0 ≤ x4_1 then (if x4_1 < (l0.length : Int) then (if y273.length < 17592186044416 then ((some (y273 ++ [rd l0 x4_1] : List Int)).bind fun y277 => ((some (x3_1.drop (x5_2 : Int).toNat : List Int)).bind fun y280 => (if y277.length + y280.length < 17592186044416 then (spec_l8Sorted.l0 k2 l0 (y277 ++ y280) (wrap64 (x4_1 + 1))) else (none)))) else (none)) else (none)) else (none)) = some r := by first | (rw [hy273]; with_reducible exact H) | (have H2_ := oS H; rw [hy273]; with_reducible exact H2_) | (have H2_ := oS H; with_reducible exact H2_) | with_reducible exact H | (rw [hy273]; exact H) | exact H
    have Ny273 := Zq.i hy273
    clear hy273
    by_cases c31 : 0 ≤ x4_1
    rotate_left
    ·rw [if_neg c31] at H
     exact absurd H dq15
    rw [if_pos c31] at H
    have c31b0 := dT c31
    clear c31
    by_cases c32 : x4_1 < (l0.length : Int)
    rotate_left
    ·rw [if_neg c32] at H
     exact absurd H dq15
    rw [if_pos c32] at H
    have c32b0 := dT c32
    clear c32
    by_cases c33 : y273.length < 17592186044416
    rotate_left
    ·rw [if_neg c33] at H
     exact absurd H dq15
    rw [if_pos c33] at H
    have LMc33 := Zq.i c33
    clear c33
    obtain ⟨y277, hy277⟩ : ∃ y_ : List Int, y_ = (y273 ++ [rd l0 x4_1]) := ⟨_, rfl⟩
    replace H : ((some (x3_1.drop (x5_2 : Int).toNat : List Int)).bind fun y280 => (if y277.length + y280.length < 17592186044416 then (spec_l8Sorted.l0 k2 l0 (y277 ++ y280) (wrap64 (x4_1 + 1))) else (none))) = some r := by first | (rw [hy277]; with_reducible exact H) | (have H2_ := oS H; rw [hy277]; with_reducible exact H2_) | (have H2_ := oS H; with_reducible exact H2_) | with_reducible exact H | (rw [hy277]; exact H) | exact H
    have Ny277 := Zq.i hy277
    clear hy277
    have c34b0 := eq_true (oT dq22 : 0 ≤ x5_2)
    have c35b0 := eq_true (oT dq22 : x5_2 ≤ (x3_1.length : Int))
    obtain ⟨y280, hy280⟩ : ∃ y_ : List Int, y_ = (x3_1.drop (x5_2 : Int).toNat) := ⟨_, rfl⟩
    replace H : (if y277.length + y280.length < 17592186044416 then (spec_l8Sorted.l0 k2 l0 (y277 ++ y280) (wrap64 (x4_1 + 1))) else (none)) = some r := by first | (rw [hy280]; with_reducible exact H) | (have H2_ := oS H; rw [hy280]; with_reducible exact H2_) | (have H2_ := oS H; with_reducible exact H2_) | with_reducible exact H | (rw [hy280]; exact H) | exact H
    have Ny280 := Zq.i hy280
    clear hy280
    by_cases c36 : y277.length + y280.length < 17592186044416
    rotate_left
    ·rw [if_neg c36] at H
     exact absurd H dq15
    rw [if_pos c36] at H
    have LMc36 := Zq.i c36
    clear c36
    obtain ⟨y284, hy284⟩ : ∃ y_ : List Int, y_ = (y277 ++ y280) := ⟨_, rfl⟩
    replace H : (spec_l8Sorted.l0 k2 l0 y284 (wrap64 (x4_1 + 1))) = some r := by first | (rw [hy284]; with_reducible exact H) | (have H2_ := oS H; rw [hy284]; with_reducible exact H2_) | (have H2_ := oS H; with_reducible exact H2_) | with_reducible exact H | (rw [hy284]; exact H) | exact H
    have Ny284 := Zq.i hy284
    clear hy284
    have H' := Zq.i H
    clear H
    obtain ⟨Ao37, co37, eo37⟩ := Kd.R_slice HO_3.out
    subst eo37
    go_wp2_with (fail)
    repeat (go_quiet (fail); try go_wp2_with (first | ((with_reducible refine gate_dst (N := 46) rfl ?_); refine Kd.R_lit (Kd.int .i64) _ 2 ?hg (N := 46) ?hd (xs := ([] : List Int)) (inner := []) (ok := fun _ => True) (okp := fun _ => True) ?hr ?hp (fun _ hk => hk) trivial (Below.refl _ _) (Nat.le_refl _) dq15 ?_; (case hd => rfl); (case hg => rfl); (case hr => exact dq0); (case hp => exact (Reps.none _ _)); intro v267 w38 ho39 hb hg_ hnew_; clear hg_ hnew_; (first | rw [← Ny266.out] at ho39 | (simp only [Int.reduceToNat] at ho39; rw [← Ny266.out] at ho39)); have HO268 := Zq.i (Kd.R_lower (Kd.R_new' ho39 (Kd.R_lt dq59)) (below_size dq17)); replace HO_3 := Zq.i (Kd.R_elder' dq59 (Kd.R_base ho39) hb); replace HB := Zq.i (below_step dq17 hb); clear hb ho39; have q40 : (x5_2 : Int) ≤ ((x3_1.length : Int) : Int) := oT dq22; obtain ⟨i040, hi040, _, hsz40, _⟩ := info_parts info2; have hroom40 : x3_1.length ≤ co37 := (Kd.R_reads' HO_3.out).2.1; have hC40 : Kd.C (Kd.int .i64) _ Ao37 x3_1.length x3_1 := (Kd.R_reads' HO_3.out).2.2; have hcut40 := cut_to (P := Try.prog) 33 2 .i64 Try.underlying33 hi040 Ao37 x3_1.length co37 x5_2 (oT dq22) q40 hroom40; have hr40 := Kd.C_take (m := (x5_2 : Int).toNat) hC40 dq28; have hy40 : y269.length = (x5_2 : Int).toNat := (by rw [Ny269.out, List.length_take]; omega); rw [← Ny269.out] at hr40; rw [← hy40] at hcut40; have HR272 := Zq.i hr40; have HC272 := Zq.i (show y269.length ≤ co37 from by omega); clear hr40 hC40 hroom40 hi040 hsz40; have KY40 := Zq.i hy40; clear hy40; have KL40 := Zq.i (show (x5_2 : Int).toNat ≤ x3_1.length from by omega); replace q40 := eq_true q40) | ((with_reducible refine gate_builtin (b := .append) (xs := #[.tmp 46, .tmp 49]) rfl ?_); at_builtin; refine Kd.R_append_rows (Kd.int .i64) (w0 := w) w.heap.size rfl (.tmp 46) (.tmp 49) 33 2 (.int .i64 0) 8 rfl Try.underlying33 info2 rfl dq25 dq28 v267 y266 y269 _ _ _ (fun k_ => some k_ ≠ (.slice Ao37 x3_1.length co37 : Value).ownBlock) (fun _ => False) rfl rfl ?aO ?aR (fun _ _ h => h) (fun _ h => h.elim) ?aF ?aB ?aS ?aL ?_; (case aR => repeat (first | exact (by repeat (first | (with_reducible exact HR272.out) | (with_reducible refine Kd.C_alloc ?_ _) | (with_reducible refine Kd.C_drewN ?_ _) | (with_reducible refine Kd.C_drew ?_) | exact HR272.out)) | (with_reducible refine Kd.C_alloc ?_ _) | (with_reducible refine Kd.C_drewN ?_ _) | (with_reducible refine Kd.C_drew ?_))); (case aB => exact dq17); (case aF => exact (fun k_ hk => Kd.fresh' (Kd.R_lt dq59) k_ hk)); (case aO => exact (by (with_reducible repeat (first | apply Kd.R_alloc | apply Kd.R_drewN | apply Kd.R_drew)); exact Kd.R_mono HO268.out (fun _ hk => hk.2))); (case aS => exact (below_size dq17)); (case aL => have := LMc30.out; omega); intro v274 w41 ho hb hg hat; rw [← Ny273.out] at ho; replace HB := Zq.i (hb); replace HR272 := Zq.i ((show Kd.C (Kd.int .i64) w41 Ao37 y269.length y269 from by rw [Ny269.out]; exact Kd.C_take (m := (x5_2 : Int).toNat) ((Kd.R_reads' (Kd.R_after (ok := (fun _ => True)) dq59 hg hat)).2.2) KL40.out)); replace HO_3 := Zq.i (Kd.R_after (ok := (fun _ => True)) dq59 hg hat); have HO275 := Zq.i (ho); clear HO268; clear ho hb hg hat; have p276 : 0 ≤ (x4_1 : Int) := oT dq22; have q276 : x4_1 < (l0.length : Int) := oT dq22; obtain ⟨ad276, e276, hx276_0⟩ := Kd.at_int HR0.out x4_1 p276 q276; cases e276; replace hx276_0 := (HB.out.cell (bC w _ hx276_0)).trans hx276_0; replace p276 := eq_true p276; replace q276 := eq_true q276) | ((with_reducible refine gate_builtin (b := .append) (xs := #[.tmp 51, .tmp 56]) rfl ?_); at_builtin; refine Kd.R_append (Kd.int .i64) (w0 := w) w.heap.size rfl (.tmp 51) (.tmp 56) 33 2 (.int .i64 0) 8 rfl Try.underlying33 info2 rfl dq25 dq28 v274 y273 (rd l0 x4_1) [.int .i64 (rd l0 x4_1)] (fun k_ => some k_ ≠ (.slice Ao37 x3_1.length co37 : Value).ownBlock) (fun _ => False) rfl rfl ?aP (fun _ hk => hk.elim) ?aF ?aO ?aB ?aS ?aL ?_; (case aP => exact rfl); (case aB => exact dq17); (case aF => exact (fun k_ hk => Kd.fresh' (Kd.R_lt dq59) k_ hk)); (case aO => exact (by (with_reducible repeat (first | apply Kd.R_alloc | apply Kd.R_drewN | apply Kd.R_drew)); exact HO275.out)); (case aS => exact (below_size dq17)); (case aL => have := LMc33.out; omega); intro v278 w42 ho hb hg hat; rw [← Ny277.out] at ho; replace HB := Zq.i (hb); replace HR272 := Zq.i ((show Kd.C (Kd.int .i64) w42 Ao37 y269.length y269 from by rw [Ny269.out]; exact Kd.C_take (m := (x5_2 : Int).toNat) ((Kd.R_reads' (Kd.R_after (ok := (fun _ => True)) dq59 hg hat)).2.2) KL40.out)); replace HO_3 := Zq.i (Kd.R_after (ok := (fun _ => True)) dq59 hg hat); have HO279 := Zq.i (ho); clear HO275; clear ho hb hg hat; have q43 : (x5_2 : Int) ≤ ((x3_1.length : Int) : Int) := oT dq22; obtain ⟨i043, hi043, _, hsz43, _⟩ := info_parts info2; have hroom43 : x3_1.length ≤ co37 := (Kd.R_reads' HO_3.out).2.1; have hC43 : Kd.C (Kd.int .i64) _ Ao37 x3_1.length x3_1 := (Kd.R_reads' HO_3.out).2.2; have q043 : (0 : Int) ≤ (x5_2 : Int) := oT dq22; have hcut43 := cut_from (P := Try.prog) 33 2 .i64 Try.underlying33 hi043 1 hsz43 Ao37 x3_1.length co37 x5_2 q043 q43; have hr43 := Kd.C_drop (m := (x5_2 : Int).toNat) (c := co37) hC43 dq28 hroom43; obtain ⟨A43, hA43⟩ : ∃ A1, A1 = (if co37 = (x5_2 : Int).toNat then Ao37 else (Ao37 : Option Addr).map (·.add ((x5_2 : Int).toNat * 1))) := ⟨_, rfl⟩; obtain ⟨c43, hc43⟩ : ∃ c1, c1 = co37 - (x5_2 : Int).toNat := ⟨_, rfl⟩; have hy43 : y280.length = x3_1.length - (x5_2 : Int).toNat := (by rw [Ny280.out, List.length_drop] <;> omega); rw [show (x3_1).drop (x5_2 : Int).toNat = y280 from Ny280.out.symm] at hr43; replace hr43 : Kd.C (Kd.int .i64) _ A43 y280.length y280 := (by rw [hA43]; exact hr43); rw [← hy43, ← hA43, ← hc43] at hcut43; have HR283 := Zq.i hr43; have HC283 := Zq.i (show y280.length ≤ c43 from by rw [hy43, hc43]; exact Nat.sub_le_sub_right hroom43 _); clear hr43 hC43 hroom43 hi043 hsz43 hc43; have KY43 := Zq.i hy43; have KA43 := Zq.i hA43; clear hy43 hA43; have KL43 := Zq.i (show (x5_2 : Int).toNat ≤ x3_1.length from by omega); replace q43 := eq_true q43) | ((with_reducible refine gate_builtin (b := .append) (xs := #[.tmp 58, .tmp 61]) rfl ?_); at_builtin; refine Kd.R_append_rows (Kd.int .i64) (w0 := w) w.heap.size rfl (.tmp 58) (.tmp 61) 33 2 (.int .i64 0) 8 rfl Try.underlying33 info2 rfl dq25 dq28 v278 y277 y280 _ _ _ (fun k_ => some k_ ≠ (.slice Ao37 x3_1.length co37 : Value).ownBlock) (fun _ => False) rfl rfl ?aO ?aR (fun _ _ h => h) (fun _ h => h.elim) ?aF ?aB ?aS ?aL ?_; (case aR => repeat (first | exact (by repeat (first | (with_reducible exact HR283.out) | (with_reducible refine Kd.C_alloc ?_ _) | (with_reducible refine Kd.C_drewN ?_ _) | (with_reducible refine Kd.C_drew ?_) | exact HR283.out)) | (with_reducible refine Kd.C_alloc ?_ _) | (with_reducible refine Kd.C_drewN ?_ _) | (with_reducible refine Kd.C_drew ?_))); (case aB => exact dq17); (case aF => exact (fun k_ hk => Kd.fresh' (Kd.R_lt dq59) k_ hk)); (case aO => exact (by (with_reducible repeat (first | apply Kd.R_alloc | apply Kd.R_drewN | apply Kd.R_drew)); exact HO279.out)); (case aS => exact (below_size dq17)); (case aL => have := LMc36.out; omega); intro v285 w44 ho hb hg hat; rw [← Ny284.out] at ho; replace HB := Zq.i (hb); replace HR272 := Zq.i ((show Kd.C (Kd.int .i64) w44 Ao37 y269.length y269 from by rw [Ny269.out]; exact Kd.C_take (m := (x5_2 : Int).toNat) ((Kd.R_reads' (Kd.R_after (ok := (fun _ => True)) dq59 hg hat)).2.2) KL40.out)); replace HR283 := Zq.i ((show Kd.C (Kd.int .i64) w44 A43 y280.length y280 from by rw [Ny280.out, KA43.out]; exact Kd.C_drop (m := (x5_2 : Int).toNat) (c := co37) ((Kd.R_reads' (Kd.R_after (ok := (fun _ => True)) dq59 hg hat)).2.2) KL43.out ((Kd.R_reads' (Kd.R_after (ok := (fun _ => True)) dq59 hg hat)).2.1))); replace HO_3 := Zq.i (Kd.R_after (ok := (fun _ => True)) dq59 hg hat); have HO286 := Zq.i (ho); clear HO279; clear ho hb hg hat)))
    go_roundg k2
    case measure => have := HK1.out; have := HK2.out; omega
    case rel => exact ⟨(y284), (wrap64 (x4_1 + 1)), dq14, H', ⟨by have := HK1.out; have := HK2.out; omega⟩, ⟨by (with_reducible repeat (first | apply Kd.R_alloc | apply Kd.R_drewN | apply Kd.R_drew)); exact Kd.R_mono HO286.out (fun _ hk => trivial)⟩, ⟨dq17⟩⟩
   rw [if_pos c5] at H
   have c5b0 := dT c5
   clear c5
   by_cases c6 : 0 ≤ x5_2
   rotate_left
   ·rw [if_neg c6] at H
    exact absurd H dq15
   rw [if_pos c6] at H
   have c6b0 := dT c6
   clear c6
   by_cases c7 : 0 ≤ x4_1
   rotate_left
   ·rw [if_neg c7] at H
    exact absurd H dq15
   rw [if_pos c7] at H
   have c7b0 := dT c7
   clear c7
   by_cases c8 : x4_1 < (l0.length : Int)
   rotate_left
   ·rw [if_neg c8] at H
    exact absurd H dq15
   rw [if_pos c8] at H
   have c8b0 := dT c8
   clear c8
   by_cases c9 : (rd x3_1 x5_2) < (rd l0 x4_1)
   ·rw [if_pos c9] at H
    have c9b0 := dT c9
    clear c9
    have H' := Zq.i H
    clear H
    obtain ⟨Ao10, co10, eo10⟩ := Kd.R_slice HO_3.out
    subst eo10
    have p241 : 0 ≤ (x5_2 : Int) := oT dq22
    have q241 : x5_2 < (x3_1.length : Int) := oT dq22
    obtain ⟨ad241, e241, hx241_0⟩ := Kd.at_int (Kd.R_reads' HO_3.out).2.2 x5_2 p241 q241
    cases e241
    replace p241 := eq_true p241
    replace q241 := eq_true q241
    have p242 : 0 ≤ (x4_1 : Int) := oT dq22
    have q242 : x4_1 < (l0.length : Int) := oT dq22
    obtain ⟨ad242, e242, hx242_0⟩ := Kd.at_int HR0.out x4_1 p242 q242
    cases e242
    replace hx242_0 := (HB.out.cell (bC w _ hx242_0)).trans hx242_0
    replace p242 := eq_true p242
    replace q242 := eq_true q242
    go_wp2
    repeat (go_quiet (fail); try go_wp2)
    go_roundg k2
    case measure => have := HK1.out; have := HK2.out; omega
    case rel => exact ⟨(wrap64 (x5_2 + 1)), dq14, H', ⟨by have := HK1.out; have := HK2.out; omega⟩, ⟨dq59⟩, ⟨dq17⟩⟩
   rw [if_neg c9] at H
   have c9b0 := dF c9
   clear c9
   by_cases c11 : (rd x3_1 x5_2) = (rd l0 x4_1)
   ·rw [if_pos c11] at H
    have c11b0 := bE c11
    have c11b1 := bQ c11
    clear c11
    have H' := Zq.i H
    clear H
    obtain ⟨Ao12, co12, eo12⟩ := Kd.R_slice HO_3.out
    subst eo12
    have p241 : 0 ≤ (x5_2 : Int) := oT dq22
    have q241 : x5_2 < (x3_1.length : Int) := oT dq22
    obtain ⟨ad241, e241, hx241_0⟩ := Kd.at_int (Kd.R_reads' HO_3.out).2.2 x5_2 p241 q241
    cases e241
    replace p241 := eq_true p241
    replace q241 := eq_true q241
    have p242 : 0 ≤ (x4_1 : Int) := oT dq22
    have q242 : x4_1 < (l0.length : Int) := oT dq22
    obtain ⟨ad242, e242, hx242_0⟩ := Kd.at_int HR0.out x4_1 p242 q242
    cases e242
    replace hx242_0 := (HB.out.cell (bC w _ hx242_0)).trans hx242_0
    replace p242 := eq_true p242
    replace q242 := eq_true q242
    have p243 : 0 ≤ (x5_2 : Int) := oT dq22
    have q243 : x5_2 < (x3_1.length : Int) := oT dq22
    obtain ⟨ad243, e243, hx243_0⟩ := Kd.at_int (Kd.R_reads' HO_3.out).2.2 x5_2 p243 q243
    obtain rfl : ad241 = ad243 := (by injection e243)
    replace p243 := eq_true p243
    replace q243 := eq_true q243
    have p244 : 0 ≤ (x4_1 : Int) := oT dq22
    have q244 : x4_1 < (l0.length : Int) := oT dq22
    obtain ⟨ad244, e244, hx244_0⟩ := Kd.at_int HR0.out x4_1 p244 q244
    obtain rfl : ad242 = ad244 := (by injection e244)
    replace hx244_0 := (HB.out.cell (bC w _ hx244_0)).trans hx244_0
    replace p244 := eq_true p244
    replace q244 := eq_true q244
    go_wp2
    repeat (go_quiet (fail); try go_wp2)
    go_roundg k2
    case measure => have := HK1.out; have := HK2.out; omega
    case rel => exact ⟨(x3_1), (wrap64 (x4_1 + 1)), dq14, H', ⟨by have := HK1.out; have := HK2.out; omega⟩, ⟨dq59⟩, ⟨dq17⟩⟩
   rw [if_neg c11] at H
   have c11b0 := bN c11
   have c11b1 := bO c11
   obtain ⟨y245, hy245⟩ : ∃ y_ : List Int, y_ = (([] : List Int)) := ⟨_, rfl⟩
   replace H : (if x5_2 ≤ (x3_1.length : Int) then ((some (x3_1.take (x5_2 : Int).toNat : List Int)).bind fun y248 => (if y245.length + y248.length < 17592186044416 then ((some (y245 ++ y248 : List Int)).bind fun y252 => (if y252.length < 17592186044416 then ((some (y252 ++ [rd l0 x4_1] : List Int)).bind fun y256 => ((some (x3_1.drop (x5_2 : Int).toNat : List Int)).bind fun y259 => (if y256.length + y259.length < 17592186044416 then (spec_l8Sorted.l0 k2 l0 (y256 ++ y259) (wrap64 (x4_1 + 1))) else (none)))) else (none))) else (none))) else (none)) = some r := by first | (rw [hy245]; with_reducible exact H) | (have H2_ := oS H; rw [hy245]; with_reducible exact H2_) | (have H2_ := oS H; with_reducible exact H2_) | with_reducible exact H | (rw [hy245]; exact H) | exact H
   have Ny245 := Zq.i hy245
   clear hy245
   have c13b0 := eq_true (oT dq22 : 0 ≤ x5_2)
   by_cases c14 : x5_2 ≤ (x3_1.length : Int)
   rotate_left
   ·rw [if_neg c14] at H
    exact absurd H dq15
   rw [if_pos c14] at H
   have c14b0 := eq_true c14
   have c14b1 := dT c14
   clear c14
   obtain ⟨y248, hy248⟩ : ∃ y_ : List Int, y_ = (x3_1.take (x5_2 : Int).toNat) := ⟨_, rfl⟩
   replace H : (if y245.length + y248.length < 17592186044416 then ((some (y245 ++ y248 : List Int)).bind fun y252 => (if y252.length < 17592186044416 then ((some (y252 ++ [rd l0 x4_1] : List Int)).bind fun y256 => ((some (x3_1.drop (x5_2 : Int).toNat : List Int)).bind fun y259 => (if y256.length + y259.length < 17592186044416 then (spec_l8Sorted.l0 k2 l0 (y256 ++ y259) (wrap64 (x4_1 + 1))) else (none)))) else (none))) else (none)) = some r := by first | (rw [hy248]; with_reducible exact H) | (have H2_ := oS H; rw [hy248]; with_reducible exact H2_) | (have H2_ := oS H; with_reducible exact H2_) | with_reducible exact H | (rw [hy248]; exact H) | exact H
   have Ny248 := Zq.i hy248
   clear hy248
   by_cases c15 : y245.length + y248.length < 17592186044416
   rotate_left
   ·rw [if_neg c15] at H
    exact absurd H dq15
   rw [if_pos c15] at H
   have LMc15 := Zq.i c15
   clear c15
   obtain ⟨y252, hy252⟩ : ∃ y_ : List Int, y_ = (y245 ++ y248) := ⟨_, rfl⟩
   replace H : (if y252.length < 17592186044416 then ((some (y252 ++ [rd l0 x4_1] : List Int)).bind fun y256 => ((some (x3_1.drop (x5_2 : Int).toNat : List Int)).bind fun y259 => (if y256.length + y259.length < 17592186044416 then (spec_l8Sorted.l0 k2 l0 (y256 ++ y259) (wrap64 (x4_1 + 1))) else (none)))) else (none)) = some r := by first | (rw [hy252]; with_reducible exact H) | (have H2_ := oS H; rw [hy252]; with_reducible exact H2_) | (have H2_ := oS H; with_reducible exact H2_) | with_reducible exact H | (rw [hy252]; exact H) | exact H
   have Ny252 := Zq.i hy252
   clear hy252
   by_cases c16 : y252.length < 17592186044416
   rotate_left
   ·rw [if_neg c16] at H
    exact absurd H dq15
   rw [if_pos c16] at H
   have LMc16 := Zq.i c16
   clear c16
   obtain ⟨y256, hy256⟩ : ∃ y_ : List Int, y_ = (y252 ++ [rd l0 x4_1]) := ⟨_, rfl⟩
   replace H : ((some (x3_1.drop (x5_2 : Int).toNat : List Int)).bind fun y259 => (if y256.length + y259.length < 17592186044416 then (spec_l8Sorted.l0 k2 l0 (y256 ++ y259) (wrap64 (x4_1 + 1))) else (none))) = some r := by first | (rw [hy256]; with_reducible exact H) | (have H2_ := oS H; rw [hy256]; with_reducible exact H2_) | (have H2_ := oS H; with_reducible exact H2_) | with_reducible exact H | (rw [hy256]; exact H) | exact H
   have Ny256 := Zq.i hy256
   clear hy256
   have c17b0 := eq_true (oT dq22 : 0 ≤ x5_2)
   have c18b0 := eq_true (oT dq22 : x5_2 ≤ (x3_1.length : Int))
   obtain ⟨y259, hy259⟩ : ∃ y_ : List Int, y_ = (x3_1.drop (x5_2 : Int).toNat) := ⟨_, rfl⟩
   replace H : (if y256.length + y259.length < 17592186044416 then (spec_l8Sorted.l0 k2 l0 (y256 ++ y259) (wrap64 (x4_1 + 1))) else (none)) = some r := by first | (rw [hy259]; with_reducible exact H) | (have H2_ := oS H; rw [hy259]; with_reducible exact H2_) | (have H2_ := oS H; with_reducible exact H2_) | with_reducible exact H | (rw [hy259]; exact H) | exact H
   have Ny259 := Zq.i hy259
   clear hy259
   by_cases c19 : y256.length + y259.length < 17592186044416
   rotate_left
   ·rw [if_neg c19] at H
    exact absurd H dq15
   rw [if_pos c19] at H
   have LMc19 := Zq.i c19
   clear c19
   obtain ⟨y263, hy263⟩ : ∃ y_ : List Int, y_ = (y256 ++ y259) := ⟨_, rfl⟩
   replace H : (spec_l8Sorted.l0 k2 l0 y263 (wrap64 (x4_1 + 1))) = some r := by first | (rw [hy263]; with_reducible exact H) | (have H2_ := oS H; rw [hy263]; with_reducible exact H2_) | (have H2_ := oS H; with_reducible exact H2_) | with_reducible exact H | (rw [hy263]; exact H) | exact H
   have Ny263 := Zq.i hy263
   clear hy263
   have H' := Zq.i H
   clear H
   obtain ⟨Ao20, co20, eo20⟩ := Kd.R_slice HO_3.out
   subst eo20
   have p241 : 0 ≤ (x5_2 : Int) := oT dq22
   have q241 : x5_2 < (x3_1.length : Int) := oT dq22
   obtain ⟨ad241, e241, hx241_0⟩ := Kd.at_int (Kd.R_reads' HO_3.out).2.2 x5_2 p241 q241
   cases e241
   replace p241 := eq_true p241
   replace q241 := eq_true q241
   have p242 : 0 ≤ (x4_1 : Int) := oT dq22
   have q242 : x4_1 < (l0.length : Int) := oT dq22
   obtain ⟨ad242, e242, hx242_0⟩ := Kd.at_int HR0.out x4_1 p242 q242
   cases e242
   replace hx242_0 := (HB.out.cell (bC w _ hx242_0)).trans hx242_0
   replace p242 := eq_true p242
   replace q242 := eq_true q242
   have p243 : 0 ≤ (x5_2 : Int) := oT dq22
   have q243 : x5_2 < (x3_1.length : Int) := oT dq22
   obtain ⟨ad243, e243, hx243_0⟩ := Kd.at_int (Kd.R_reads' HO_3.out).2.2 x5_2 p243 q243
   obtain rfl : ad241 = ad243 := (by injection e243)
   replace p243 := eq_true p243
   replace q243 := eq_true q243
   have p244 : 0 ≤ (x4_1 : Int) := oT dq22
   have q244 : x4_1 < (l0.length : Int) := oT dq22
   obtain ⟨ad244, e244, hx244_0⟩ := Kd.at_int HR0.out x4_1 p244 q244
   obtain rfl : ad242 = ad244 := (by injection e244)
   replace hx244_0 := (HB.out.cell (bC w _ hx244_0)).trans hx244_0
   replace p244 := eq_true p244
   replace q244 := eq_true q244
   go_wp2_with (fail)
   repeat (go_quiet (fail); try go_wp2_with (first | ((with_reducible refine gate_dst (N := 46) rfl ?_); refine Kd.R_lit (Kd.int .i64) _ 2 ?hg (N := 46) ?hd (xs := ([] : List Int)) (inner := []) (ok := fun _ => True) (okp := fun _ => True) ?hr ?hp (fun _ hk => hk) trivial (Below.refl _ _) (Nat.le_refl _) dq15 ?_; (case hd => rfl); (case hg => rfl); (case hr => exact dq0); (case hp => exact (Reps.none _ _)); intro v246 w21 ho22 hb hg_ hnew_; clear hg_ hnew_; (first | rw [← Ny245.out] at ho22 | (simp only [Int.reduceToNat] at ho22; rw [← Ny245.out] at ho22)); have HO247 := Zq.i (Kd.R_lower (Kd.R_new' ho22 (Kd.R_lt dq59)) (below_size dq17)); replace HO_3 := Zq.i (Kd.R_elder' dq59 (Kd.R_base ho22) hb); replace HB := Zq.i (below_step dq17 hb); clear hb ho22; have q23 : (x5_2 : Int) ≤ ((x3_1.length : Int) : Int) := oT dq22; obtain ⟨i023, hi023, _, hsz23, _⟩ := info_parts info2; have hroom23 : x3_1.length ≤ co20 := (Kd.R_reads' HO_3.out).2.1; have hC23 : Kd.C (Kd.int .i64) _ (some ad241) x3_1.length x3_1 := (Kd.R_reads' HO_3.out).2.2; have hcut23 := cut_to (P := Try.prog) 33 2 .i64 Try.underlying33 hi023 (some ad241) x3_1.length co20 x5_2 (oT dq22) q23 hroom23; have hr23 := Kd.C_take (m := (x5_2 : Int).toNat) hC23 dq28; have hy23 : y248.length = (x5_2 : Int).toNat := (by rw [Ny248.out, List.length_take]; omega); rw [← Ny248.out] at hr23; rw [← hy23] at hcut23; have HR251 := Zq.i hr23; have HC251 := Zq.i (show y248.length ≤ co20 from by omega); clear hr23 hC23 hroom23 hi023 hsz23; have KY23 := Zq.i hy23; clear hy23; have KL23 := Zq.i (show (x5_2 : Int).toNat ≤ x3_1.length from by omega); replace q23 := eq_true q23) | ((with_reducible refine gate_builtin (b := .append) (xs := #[.tmp 46, .tmp 49]) rfl ?_); at_builtin; refine Kd.R_append_rows (Kd.int .i64) (w0 := w) w.heap.size rfl (.tmp 46) (.tmp 49) 33 2 (.int .i64 0) 8 rfl Try.underlying33 info2 rfl dq25 dq28 v246 y245 y248 _ _ _ (fun k_ => some k_ ≠ (.slice (some ad241) x3_1.length co20 : Value).ownBlock) (fun _ => False) rfl rfl ?aO ?aR (fun _ _ h => h) (fun _ h => h.elim) ?aF ?aB ?aS ?aL ?_; (case aR => repeat (first | exact (by repeat (first | (with_reducible exact HR251.out) | (with_reducible refine Kd.C_alloc ?_ _) | (with_reducible refine Kd.C_drewN ?_ _) | (with_reducible refine Kd.C_drew ?_) | exact HR251.out)) | (with_reducible refine Kd.C_alloc ?_ _) | (with_reducible refine Kd.C_drewN ?_ _) | (with_reducible refine Kd.C_drew ?_))); (case aB => exact dq17); (case aF => exact (fun k_ hk => Kd.fresh' (Kd.R_lt dq59) k_ hk)); (case aO => exact (by (with_reducible repeat (first | apply Kd.R_alloc | apply Kd.R_drewN | apply Kd.R_drew)); exact Kd.R_mono HO247.out (fun _ hk => hk.2))); (case aS => exact (below_size dq17)); (case aL => have := LMc15.out; omega); intro v253 w24 ho hb hg hat; rw [← Ny252.out] at ho; replace HB := Zq.i (hb); replace HR251 := Zq.i ((show Kd.C (Kd.int .i64) w24 (some ad241) y248.length y248 from by rw [Ny248.out]; exact Kd.C_take (m := (x5_2 : Int).toNat) ((Kd.R_reads' (Kd.R_after (ok := (fun _ => True)) dq59 hg hat)).2.2) KL23.out)); replace HO_3 := Zq.i (Kd.R_after (ok := (fun _ => True)) dq59 hg hat); have HO254 := Zq.i (ho); clear HO247; clear ho hb hg hat; have p255 : 0 ≤ (x4_1 : Int) := oT dq22; have q255 : x4_1 < (l0.length : Int) := oT dq22; obtain ⟨ad255, e255, hx255_0⟩ := Kd.at_int HR0.out x4_1 p255 q255; obtain rfl : ad242 = ad255 := (by injection e255); replace hx255_0 := (HB.out.cell (bC w _ hx255_0)).trans hx255_0; replace p255 := eq_true p255; replace q255 := eq_true q255) | ((with_reducible refine gate_builtin (b := .append) (xs := #[.tmp 51, .tmp 56]) rfl ?_); at_builtin; refine Kd.R_append (Kd.int .i64) (w0 := w) w.heap.size rfl (.tmp 51) (.tmp 56) 33 2 (.int .i64 0) 8 rfl Try.underlying33 info2 rfl dq25 dq28 v253 y252 (rd l0 x4_1) [.int .i64 (rd l0 x4_1)] (fun k_ => some k_ ≠ (.slice (some ad241) x3_1.length co20 : Value).ownBlock) (fun _ => False) rfl rfl ?aP (fun _ hk => hk.elim) ?aF ?aO ?aB ?aS ?aL ?_; (case aP => exact rfl); (case aB => exact dq17); (case aF => exact (fun k_ hk => Kd.fresh' (Kd.R_lt dq59) k_ hk)); (case aO => exact (by (with_reducible repeat (first | apply Kd.R_alloc | apply Kd.R_drewN | apply Kd.R_drew)); exact HO254.out)); (case aS => exact (below_size dq17)); (case aL => have := LMc16.out; omega); intro v257 w25 ho hb hg hat; rw [← Ny256.out] at ho; replace HB := Zq.i (hb); replace HR251 := Zq.i ((show Kd.C (Kd.int .i64) w25 (some ad241) y248.length y248 from by rw [Ny248.out]; exact Kd.C_take (m := (x5_2 : Int).toNat) ((Kd.R_reads' (Kd.R_after (ok := (fun _ => True)) dq59 hg hat)).2.2) KL23.out)); replace HO_3 := Zq.i (Kd.R_after (ok := (fun _ => True)) dq59 hg hat); have HO258 := Zq.i (ho); clear HO254; clear ho hb hg hat; have q26 : (x5_2 : Int) ≤ ((x3_1.length : Int) : Int) := oT dq22; obtain ⟨i026, hi026, _, hsz26, _⟩ := info_parts info2; have hroom26 : x3_1.length ≤ co20 := (Kd.R_reads' HO_3.out).2.1; have hC26 : Kd.C (Kd.int .i64) _ (some ad241) x3_1.length x3_1 := (Kd.R_reads' HO_3.out).2.2; have q026 : (0 : Int) ≤ (x5_2 : Int) := oT dq22; have hcut26 := cut_from (P := Try.prog) 33 2 .i64 Try.underlying33 hi026 1 hsz26 (some ad241) x3_1.length co20 x5_2 q026 q26; have hr26 := Kd.C_drop (m := (x5_2 : Int).toNat) (c := co20) hC26 dq28 hroom26; obtain ⟨A26, hA26⟩ : ∃ A1, A1 = (if co20 = (x5_2 : Int).toNat then (some ad241) else ((some ad241) : Option Addr).map (·.add ((x5_2 : Int).toNat * 1))) := ⟨_, rfl⟩; obtain ⟨c26, hc26⟩ : ∃ c1, c1 = co20 - (x5_2 : Int).toNat := ⟨_, rfl⟩; have hy26 : y259.length = x3_1.length - (x5_2 : Int).toNat := (by rw [Ny259.out, List.length_drop] <;> omega); rw [show (x3_1).drop (x5_2 : Int).toNat = y259 from Ny259.out.symm] at hr26; replace hr26 : Kd.C (Kd.int .i64) _ A26 y259.length y259 := (by rw [hA26]; exact hr26); rw [← hy26, ← hA26, ← hc26] at hcut26; have HR262 := Zq.i hr26; have HC262 := Zq.i (show y259.length ≤ c26 from by rw [hy26, hc26]; exact Nat.sub_le_sub_right hroom26 _); clear hr26 hC26 hroom26 hi026 hsz26 hc26; have KY26 := Zq.i hy26; have KA26 := Zq.i hA26; clear hy26 hA26; have KL26 := Zq.i (show (x5_2 : Int).toNat ≤ x3_1.length from by omega); replace q26 := eq_true q26) | ((with_reducible refine gate_builtin (b := .append) (xs := #[.tmp 58, .tmp 61]) rfl ?_); at_builtin; refine Kd.R_append_rows (Kd.int .i64) (w0 := w) w.heap.size rfl (.tmp 58) (.tmp 61) 33 2 (.int .i64 0) 8 rfl Try.underlying33 info2 rfl dq25 dq28 v257 y256 y259 _ _ _ (fun k_ => some k_ ≠ (.slice (some ad241) x3_1.length co20 : Value).ownBlock) (fun _ => False) rfl rfl ?aO ?aR (fun _ _ h => h) (fun _ h => h.elim) ?aF ?aB ?aS ?aL ?_; (case aR => repeat (first | exact (by repeat (first | (with_reducible exact HR262.out) | (with_reducible refine Kd.C_alloc ?_ _) | (with_reducible refine Kd.C_drewN ?_ _) | (with_reducible refine Kd.C_drew ?_) | exact HR262.out)) | (with_reducible refine Kd.C_alloc ?_ _) | (with_reducible refine Kd.C_drewN ?_ _) | (with_reducible refine Kd.C_drew ?_))); (case aB => exact dq17); (case aF => exact (fun k_ hk => Kd.fresh' (Kd.R_lt dq59) k_ hk)); (case aO => exact (by (with_reducible repeat (first | apply Kd.R_alloc | apply Kd.R_drewN | apply Kd.R_drew)); exact HO258.out)); (case aS => exact (below_size dq17)); (case aL => have := LMc19.out; omega); intro v264 w27 ho hb hg hat; rw [← Ny263.out] at ho; replace HB := Zq.i (hb); replace HR251 := Zq.i ((show Kd.C (Kd.int .i64) w27 (some ad241) y248.length y248 from by rw [Ny248.out]; exact Kd.C_take (m := (x5_2 : Int).toNat) ((Kd.R_reads' (Kd.R_after (ok := (fun _ => True)) dq59 hg hat)).2.2) KL23.out)); replace HR262 := Zq.i ((show Kd.C (Kd.int .i64) w27 A26 y259.length y259 from by rw [Ny259.out, KA26.out]; exact Kd.C_drop (m := (x5_2 : Int).toNat) (c := co20) ((Kd.R_reads' (Kd.R_after (ok := (fun _ => True)) dq59 hg hat)).2.2) KL26.out ((Kd.R_reads' (Kd.R_after (ok := (fun _ => True)) dq59 hg hat)).2.1))); replace HO_3 := Zq.i (Kd.R_after (ok := (fun _ => True)) dq59 hg hat); have HO265 := Zq.i (ho); clear HO258; clear ho hb hg hat)))
   go_roundg k2
   case measure => have := HK1.out; have := HK2.out; omega
   case rel => exact ⟨(y263), (wrap64 (x4_1 + 1)), dq14, H', ⟨by have := HK1.out; have := HK2.out; omega⟩, ⟨by (with_reducible repeat (first | apply Kd.R_alloc | apply Kd.R_drewN | apply Kd.R_drew)); exact Kd.R_mono HO265.out (fun _ hk => trivial)⟩, ⟨dq17⟩⟩

/-! ### spec_l8Null: function 98 -/
mutual
def spec_l8Null.j0 : Nat → List (S42) → Bool → Int → ByteArray → List Int → Int → Option (Bool)
 | 0, _, _, _, _, _, _ => none
 | k + 1, x0, x19, x289000, x289001, x289002, x289003 => if x19 = true then (some true) else (if x289000 = 2 then (spec_l8Null.l0 k x0 0 x289000 x289001 x289002 x289003) else (if x289000 = 3 then (spec_l8Null.l1 k x0 0 x289000 x289001 x289002 x289003) else (some false)))
def spec_l8Null.l0 : Nat → List (S42) → Int → Int → ByteArray → List Int → Int → Option (Bool)
 | 0, _, _, _, _, _, _ => none
 | k + 1, x0, x6, x289000, x289001, x289002, x289003 => if x6 < (x289002.length : Int) then (if 0 ≤ x6 then ((spec_l8Null.f k x0 (rd x289002 x6)).bind fun t290 => (if t290 = true then (spec_l8Null.l0 k x0 (wrap64 (x6 + 1)) x289000 x289001 x289002 x289003) else (some false))) else (none)) else (some true)
def spec_l8Null.l1 : Nat → List (S42) → Int → Int → ByteArray → List Int → Int → Option (Bool)
 | 0, _, _, _, _, _, _ => none
 | k + 1, x0, x7, x289000, x289001, x289002, x289003 => if x7 < (x289002.length : Int) then (if 0 ≤ x7 then ((spec_l8Null.f k x0 (rd x289002 x7)).bind fun t292 => (if t292 = true then (some true) else (spec_l8Null.l1 k x0 (wrap64 (x7 + 1)) x289000 x289001 x289002 x289003))) else (none)) else (some false)
def spec_l8Null.f : Nat → List (S42) → Int → Option (Bool)
 | 0, _, _ => none
 | k + 1, l0, a1 => if 0 ≤ a1 then (if a1 < (l0.length : Int) then (if ((rd_T42 l0 a1).f3) = 1 then (spec_l8Null.j0 k l0 true ((rd_T42 l0 a1).f0) ((rd_T42 l0 a1).f1) ((rd_T42 l0 a1).f2) ((rd_T42 l0 a1).f3)) else (spec_l8Null.j0 k l0 (((rd_T42 l0 a1).f3) == 2) ((rd_T42 l0 a1).f0) ((rd_T42 l0 a1).f1) ((rd_T42 l0 a1).f2) ((rd_T42 l0 a1).f3))) else (none)) else (none)
end
theorem spec_l8Null.calls (k : Nat) : ∀ (A0 : Option Addr) (c0 : Nat) (l0 : List (S42)) (a1 : Int) (r : Bool) (w : World) (hr0 : Kd.C k42 w A0 l0.length l0) (hc0 : l0.length ≤ c0) (h : spec_l8Null.f k l0 a1 = some r),
  Calls Try.prog 98 #[.slice A0 l0.length c0, .int .i64 a1] w fun e w' => e = .returned (.bool r) ∧ Below w.heap.size w w' := by
 induction k using Nat.strongRecOn with
 | _ k ih =>
 intro A0 c0 l0 a1 r w hr0 hc0 h
 cases k with
 | zero => exact absurd h (by simp [spec_l8Null.f])
 | succ k =>
 simp only [spec_l8Null.f] at h
 have hu42 := Try.underlying42
 have HR0 := Zq.i hr0
 have HC0 := Zq.i hc0
 clear hr0 hc0
 have HB := Zq.i (Below.refl w.heap.size w)
 have H : (if 0 ≤ a1 then (if a1 < (l0.length : Int) then (if ((rd_T42 l0 a1).f3) = 1 then (spec_l8Null.j0 k l0 true ((rd_T42 l0 a1).f0) ((rd_T42 l0 a1).f1) ((rd_T42 l0 a1).f2) ((rd_T42 l0 a1).f3)) else (spec_l8Null.j0 k l0 (((rd_T42 l0 a1).f3) == 2) ((rd_T42 l0 a1).f0) ((rd_T42 l0 a1).f1) ((rd_T42 l0 a1).f2) ((rd_T42 l0 a1).f3))) else (none)) else (none)) = some r := h
 clear h
 by_cases c3 : 0 ≤ a1
 rotate_left
 ·rw [if_neg c3] at H
  exact absurd H dq15
 rw [if_pos c3] at H
 have c3b0 := dT c3
 clear c3
 by_cases c4 : a1 < (l0.length : Int)
 rotate_left
 ·rw [if_neg c4] at H
  exact absurd H dq15
 rw [if_pos c4] at H
 have c4b0 := dT c4
 clear c4
 have HC5 := Zq.i H
 clear H
 have p287 : 0 ≤ (a1 : Int) := oT dq22
 have q287 : a1 < (l0.length : Int) := oT dq22
 obtain ⟨ad287, A287_2, c287_2, e287, hx287_0, hx287_1, hx287_2, hx287_3, hl287_2, hi287_2⟩ := at_T42 HR0.out a1 p287 q287
 cases e287
 have HR287_2 := Zq.i hi287_2
 have HC287_2 := Zq.i hl287_2
 clear hi287_2 hl287_2
 replace p287 := eq_true p287
 replace q287 := eq_true q287
 go_enter Try.func98, Try.ntmps98
 go_upto_region 2 with (first | ((with_reducible refine gate_dst (N := 5) rfl ?_); refine box_event ?hg (N := 5) ?hd (cs := #[.int .i64 0, .string (⟨#[]⟩ : ByteArray), .slice none 0 0, .int .i64 0]) (t := 42) ?hr ?_; (case hd => rfl); (case hg => rfl); (case hr => exact dq0); intro gb288 hg w6 hbox hb; have BK288 := Zq.i (hbox); have GW288 := Zq.i ((dq30 : w.heap.size ≤ gb288)); have GE288 := Zq.i ((dq30 : w.heap.size ≤ gb288)); replace HB := Zq.i (below_step dq17 hb); clear hb hbox hg; obtain ⟨⟨hcz7_0, hcz7_1, hcz7_2, hcz7_3⟩, hfz7_0, hfz7_1, hfz7_2, hfz7_3⟩ := blkC4 BK288.out))
 (try simp only [Act.put, List.setIfInBounds_toArray, List.set_cons_zero, List.set_cons_succ])
 go_cut [19] (fun v19 wc => ∃ (kq : Nat) (x19_4 : Bool), v19 = .bool x19_4 ∧ Zq (spec_l8Null.j0 kq l0 x19_4 ((rd_T42 l0 a1).f0) ((rd_T42 l0 a1).f1) ((rd_T42 l0 a1).f2) ((rd_T42 l0 a1).f3) = some r) ∧ Zq (kq ≤ k) ∧ Zq (wc.heap[gb288]? = some (.cells #[.int .i64 ((rd_T42 l0 a1).f0), .string ((rd_T42 l0 a1).f1), (.slice A287_2 ((rd_T42 l0 a1).f2).length c287_2), .int .i64 ((rd_T42 l0 a1).f3)] 42 (0, 0))) ∧ Zq (Below w.heap.size w wc))
 case first =>
  have H := HC5.out
  clear HC5
  by_cases c8 : ((rd_T42 l0 a1).f3) = 1
  ·rw [if_pos c8] at H
   have c8b0 := bE c8
   have c8b1 := bQ c8
   clear c8
   (first | rw [c8b0] | (simp only [i64_w, i32_w]; rw [c8b0]) | skip)
   have H' := Zq.i H
   clear H
   obtain ⟨⟨hcz9_0, hcz9_1, hcz9_2, hcz9_3⟩, hfz9_0, hfz9_1, hfz9_2, hfz9_3⟩ := blkC4 BK288.out
   go_wp2
   go_meet
   case rel => exact ⟨_, (true), dq14, H', ⟨dq26⟩, ⟨dq61⟩, ⟨dq60⟩⟩
  rw [if_neg c8] at H
  have c8b0 := bN c8
  have c8b1 := bO c8
  (first | rw [c8b0] | (simp only [i64_w, i32_w]; rw [c8b0]) | skip)
  have H' := Zq.i H
  clear H
  obtain ⟨⟨hcz10_0, hcz10_1, hcz10_2, hcz10_3⟩, hfz10_0, hfz10_1, hfz10_2, hfz10_3⟩ := blkC4 BK288.out
  go_wp2
  go_meet
  case rel => exact ⟨_, ((((rd_T42 l0 a1).f3) == 2)), dq14, H', ⟨dq26⟩, ⟨dq61⟩, ⟨dq60⟩⟩
 clear HC5
 try clear c3b0
 try clear c4b0
 try clear hcz7_0
 try clear hcz7_1
 try clear hcz7_2
 try clear hcz7_3
 try clear hfz7_0
 try clear hfz7_1
 try clear hfz7_2
 try clear hfz7_3
 try clear hx287_0
 try clear hx287_1
 try clear hx287_2
 try clear hx287_3
 try clear p287
 try clear q287
 obtain ⟨kq, x19_4, rfl, HA, HJ4, BK288, HB⟩ := hcut
 cases kq with
 | zero => exact absurd HA.out (by simp [spec_l8Null.j0])
 | succ kj4 =>
  have H := HA.out
  clear HA
  simp only [spec_l8Null.j0] at H
  by_cases c11 : x19_4 = true
  ·subst c11
   rw [if_pos rfl] at H
   obtain rfl := oI H
   go_wp2
   go_ret
   exact ⟨dq21, dq60⟩
  replace c11 := Bool.eq_false_iff.mpr c11
  subst c11
  rw [iN] at H
  by_cases c12 : ((rd_T42 l0 a1).f0) = 2
  ·rw [if_pos c12] at H
   have c12b0 := bE c12
   have c12b1 := bQ c12
   clear c12
   have H' := Zq.i H
   clear H
   obtain ⟨⟨hcz13_0, hcz13_1, hcz13_2, hcz13_3⟩, hfz13_0, hfz13_1, hfz13_2, hfz13_3⟩ := blkC4 BK288.out
   go_wp2
   go_loopg [6] kj4 (fun kq v6 w' => ∃ (x6_2 : Int), v6 = .int .i64 x6_2 ∧ Zq (spec_l8Null.l0 kq l0 x6_2 ((rd_T42 l0 a1).f0) ((rd_T42 l0 a1).f1) ((rd_T42 l0 a1).f2) ((rd_T42 l0 a1).f3) = some r) ∧ Zq (kq ≤ kj4) ∧ Zq (w'.heap[gb288]? = some (.cells #[.int .i64 ((rd_T42 l0 a1).f0), .string ((rd_T42 l0 a1).f1), (.slice A287_2 ((rd_T42 l0 a1).f2).length c287_2), .int .i64 ((rd_T42 l0 a1).f3)] 42 (0, 0))) ∧ Zq (Below w.heap.size w w'))
   case atStart => exact ⟨(0), dq14, H', ⟨Nat.le_refl _⟩, ⟨dq62⟩, ⟨dq60⟩⟩
   clear H'
   try clear c12b0
   try clear c12b1
   try clear hcz13_0
   try clear hcz13_1
   try clear hcz13_2
   try clear hcz13_3
   try clear hfz13_0
   try clear hfz13_1
   try clear hfz13_2
   try clear hfz13_3
   obtain ⟨x6_2, rfl, HA, HK2, BK288, HB⟩ := hrel
   cases gk with
   | zero => exact absurd HA.out (by simp [spec_l8Null.l0])
   | succ k2 =>
    have H := HA.out
    clear HA
    simp only [spec_l8Null.l0] at H
    by_cases c14 : x6_2 < (((rd_T42 l0 a1).f2).length : Int)
    rotate_left
    ·rw [if_neg c14] at H
     have c14b0 := dF c14
     clear c14
     obtain rfl := oI H
     obtain ⟨⟨hcz22_0, hcz22_1, hcz22_2, hcz22_3⟩, hfz22_0, hfz22_1, hfz22_2, hfz22_3⟩ := blkC4 BK288.out
     go_wp2
     go_ret
     exact ⟨dq21, dq60⟩
    rw [if_pos c14] at H
    have c14b0 := dT c14
    clear c14
    by_cases c15 : 0 ≤ x6_2
    rotate_left
    ·rw [if_neg c15] at H
     exact absurd H dq15
    rw [if_pos c15] at H
    have c15b0 := dT c15
    clear c15
    replace H := bM H
    obtain ⟨t290, A160, H⟩ := H
    try dsimp only at H
    have A16 := Zq.i A160
    clear A160
    by_cases c17 : t290 = true
    rotate_left
    ·replace c17 := Bool.eq_false_iff.mpr c17
     subst c17
     rw [iN] at H
     obtain rfl := oI H
     obtain ⟨⟨hcz20_0, hcz20_1, hcz20_2, hcz20_3⟩, hfz20_0, hfz20_1, hfz20_2, hfz20_3⟩ := blkC4 BK288.out
     have p289 : 0 ≤ (x6_2 : Int) := oT dq22
     have q289 : x6_2 < (((rd_T42 l0 a1).f2).length : Int) := oT dq22
     obtain ⟨ad289, e289, hx289_0⟩ := Kd.at_int HR287_2.out x6_2 p289 q289
     cases e289
     replace hx289_0 := (HB.out.cell (bC w _ hx289_0)).trans hx289_0
     replace p289 := eq_true p289
     replace q289 := eq_true q289
     go_wp2_with (first | ((with_reducible refine gate_callee (f := 98) rfl ?_); refine goesL_ (some 37) rfl rfl Try.func98 dq24 rfl #[.slice (some ad287) l0.length c0, .int .i64 (rd ((rd_T42 l0 a1).f2) x6_2)] rfl dq23 ?_; (with_reducible refine (ih k2 dq63 _ _ l0 (rd ((rd_T42 l0 a1).f2) x6_2) false _ ?side1 ?side2 A16.out).mono ?_); (case side1 => exact dq5); (case side2 => exact dq4); rintro e w21 ⟨rfl, hb⟩; refine ⟨_, rfl, ?_⟩; replace BK288 := Zq.i (blk_below (g := gb288) (o := .cells #[.int .i64 ((rd_T42 l0 a1).f0), .string ((rd_T42 l0 a1).f1), .slice (some ad289) ((rd_T42 l0 a1).f2).length c287_2, .int .i64 ((rd_T42 l0 a1).f3)] 42 (0, 0)) dq62 hb); replace HB := Zq.i (below_step dq60 hb); (try clear hb)))
     go_ret
     exact ⟨dq21, dq60⟩
    subst c17
    rw [if_pos rfl] at H
    have H' := Zq.i H
    clear H
    obtain ⟨⟨hcz18_0, hcz18_1, hcz18_2, hcz18_3⟩, hfz18_0, hfz18_1, hfz18_2, hfz18_3⟩ := blkC4 BK288.out
    have p289 : 0 ≤ (x6_2 : Int) := oT dq22
    have q289 : x6_2 < (((rd_T42 l0 a1).f2).length : Int) := oT dq22
    obtain ⟨ad289, e289, hx289_0⟩ := Kd.at_int HR287_2.out x6_2 p289 q289
    cases e289
    replace hx289_0 := (HB.out.cell (bC w _ hx289_0)).trans hx289_0
    replace p289 := eq_true p289
    replace q289 := eq_true q289
    go_wp2_with (first | ((with_reducible refine gate_callee (f := 98) rfl ?_); refine goesL_ (some 37) rfl rfl Try.func98 dq24 rfl #[.slice (some ad287) l0.length c0, .int .i64 (rd ((rd_T42 l0 a1).f2) x6_2)] rfl dq23 ?_; (with_reducible refine (ih k2 dq63 _ _ l0 (rd ((rd_T42 l0 a1).f2) x6_2) true _ ?side1 ?side2 A16.out).mono ?_); (case side1 => exact dq5); (case side2 => exact dq4); rintro e w19 ⟨rfl, hb⟩; refine ⟨_, rfl, ?_⟩; replace BK288 := Zq.i (blk_below (g := gb288) (o := .cells #[.int .i64 ((rd_T42 l0 a1).f0), .string ((rd_T42 l0 a1).f1), .slice (some ad289) ((rd_T42 l0 a1).f2).length c287_2, .int .i64 ((rd_T42 l0 a1).f3)] 42 (0, 0)) dq62 hb); replace HB := Zq.i (below_step dq60 hb); (try clear hb)))
    go_roundg k2
    case measure => have := HJ4.out; have := HK2.out; omega
    case rel => exact ⟨(wrap64 (x6_2 + 1)), dq14, H', ⟨dq63⟩, ⟨dq62⟩, ⟨dq60⟩⟩
  rw [if_neg c12] at H
  have c12b0 := bN c12
  have c12b1 := bO c12
  by_cases c23 : ((rd_T42 l0 a1).f0) = 3
  rotate_left
  ·rw [if_neg c23] at H
   have c23b0 := bN c23
   have c23b1 := bO c23
   obtain rfl := oI H
   obtain ⟨⟨hcz34_0, hcz34_1, hcz34_2, hcz34_3⟩, hfz34_0, hfz34_1, hfz34_2, hfz34_3⟩ := blkC4 BK288.out
   go_wp2
   go_ret
   exact ⟨dq21, dq60⟩
  rw [if_pos c23] at H
  have c23b0 := bE c23
  have c23b1 := bQ c23
  clear c23
  have H' := Zq.i H
  clear H
  obtain ⟨⟨hcz24_0, hcz24_1, hcz24_2, hcz24_3⟩, hfz24_0, hfz24_1, hfz24_2, hfz24_3⟩ := blkC4 BK288.out
  go_wp2
  go_loopg [7] kj4 (fun kq v7 w' => ∃ (x7_2 : Int), v7 = .int .i64 x7_2 ∧ Zq (spec_l8Null.l1 kq l0 x7_2 ((rd_T42 l0 a1).f0) ((rd_T42 l0 a1).f1) ((rd_T42 l0 a1).f2) ((rd_T42 l0 a1).f3) = some r) ∧ Zq (kq ≤ kj4) ∧ Zq (w'.heap[gb288]? = some (.cells #[.int .i64 ((rd_T42 l0 a1).f0), .string ((rd_T42 l0 a1).f1), (.slice A287_2 ((rd_T42 l0 a1).f2).length c287_2), .int .i64 ((rd_T42 l0 a1).f3)] 42 (0, 0))) ∧ Zq (Below w.heap.size w w'))
  case atStart => exact ⟨(0), dq14, H', ⟨Nat.le_refl _⟩, ⟨dq62⟩, ⟨dq60⟩⟩
  clear H'
  try clear c12
  try clear c12b0
  try clear c12b1
  try clear c23b0
  try clear c23b1
  try clear hcz24_0
  try clear hcz24_1
  try clear hcz24_2
  try clear hcz24_3
  try clear hfz24_0
  try clear hfz24_1
  try clear hfz24_2
  try clear hfz24_3
  obtain ⟨x7_2, rfl, HA, HK2, BK288, HB⟩ := hrel
  cases gk with
  | zero => exact absurd HA.out (by simp [spec_l8Null.l1])
  | succ k2 =>
   have H := HA.out
   clear HA
   simp only [spec_l8Null.l1] at H
   by_cases c25 : x7_2 < (((rd_T42 l0 a1).f2).length : Int)
   rotate_left
   ·rw [if_neg c25] at H
    have c25b0 := dF c25
    clear c25
    obtain rfl := oI H
    obtain ⟨⟨hcz33_0, hcz33_1, hcz33_2, hcz33_3⟩, hfz33_0, hfz33_1, hfz33_2, hfz33_3⟩ := blkC4 BK288.out
    go_wp2
    go_ret
    exact ⟨dq21, dq60⟩
   rw [if_pos c25] at H
   have c25b0 := dT c25
   clear c25
   by_cases c26 : 0 ≤ x7_2
   rotate_left
   ·rw [if_neg c26] at H
    exact absurd H dq15
   rw [if_pos c26] at H
   have c26b0 := dT c26
   clear c26
   replace H := bM H
   obtain ⟨t292, A270, H⟩ := H
   try dsimp only at H
   have A27 := Zq.i A270
   clear A270
   by_cases c28 : t292 = true
   ·subst c28
    rw [if_pos rfl] at H
    obtain rfl := oI H
    obtain ⟨⟨hcz29_0, hcz29_1, hcz29_2, hcz29_3⟩, hfz29_0, hfz29_1, hfz29_2, hfz29_3⟩ := blkC4 BK288.out
    have p291 : 0 ≤ (x7_2 : Int) := oT dq22
    have q291 : x7_2 < (((rd_T42 l0 a1).f2).length : Int) := oT dq22
    obtain ⟨ad291, e291, hx291_0⟩ := Kd.at_int HR287_2.out x7_2 p291 q291
    cases e291
    replace hx291_0 := (HB.out.cell (bC w _ hx291_0)).trans hx291_0
    replace p291 := eq_true p291
    replace q291 := eq_true q291
    go_wp2_with (first | ((with_reducible refine gate_callee (f := 98) rfl ?_); refine goesL_ (some 54) rfl rfl Try.func98 dq24 rfl #[.slice (some ad287) l0.length c0, .int .i64 (rd ((rd_T42 l0 a1).f2) x7_2)] rfl dq23 ?_; (with_reducible refine (ih k2 dq63 _ _ l0 (rd ((rd_T42 l0 a1).f2) x7_2) true _ ?side1 ?side2 A27.out).mono ?_); (case side1 => exact dq5); (case side2 => exact dq4); rintro e w30 ⟨rfl, hb⟩; refine ⟨_, rfl, ?_⟩; replace BK288 := Zq.i (blk_below (g := gb288) (o := .cells #[.int .i64 ((rd_T42 l0 a1).f0), .string ((rd_T42 l0 a1).f1), .slice (some ad291) ((rd_T42 l0 a1).f2).length c287_2, .int .i64 ((rd_T42 l0 a1).f3)] 42 (0, 0)) dq62 hb); replace HB := Zq.i (below_step dq60 hb); (try clear hb)))
    go_ret
    exact ⟨dq21, dq60⟩
   replace c28 := Bool.eq_false_iff.mpr c28
   subst c28
   rw [iN] at H
   have H' := Zq.i H
   clear H
   obtain ⟨⟨hcz31_0, hcz31_1, hcz31_2, hcz31_3⟩, hfz31_0, hfz31_1, hfz31_2, hfz31_3⟩ := blkC4 BK288.out
   have p291 : 0 ≤ (x7_2 : Int) := oT dq22
   have q291 : x7_2 < (((rd_T42 l0 a1).f2).length : Int) := oT dq22
   obtain ⟨ad291, e291, hx291_0⟩ := Kd.at_int HR287_2.out x7_2 p291 q291
   cases e291
   replace hx291_0 := (HB.out.cell (bC w _ hx291_0)).trans hx291_0
   replace p291 := eq_true p291
   replace q291 := eq_true q291
   go_wp2_with (first | ((with_reducible refine gate_callee (f := 98) rfl ?_); refine goesL_ (some 54) rfl rfl Try.func98 dq24 rfl #[.slice (some ad287) l0.length c0, .int .i64 (rd ((rd_T42 l0 a1).f2) x7_2)] rfl dq23 ?_; (with_reducible refine (ih k2 dq63 _ _ l0 (rd ((rd_T42 l0 a1).f2) x7_2) false _ ?side1 ?side2 A27.out).mono ?_); (case side1 => exact dq5); (case side2 => exact dq4); rintro e w32 ⟨rfl, hb⟩; refine ⟨_, rfl, ?_⟩; replace BK288 := Zq.i (blk_below (g := gb288) (o := .cells #[.int .i64 ((rd_T42 l0 a1).f0), .string ((rd_T42 l0 a1).f1), .slice (some ad291) ((rd_T42 l0 a1).f2).length c287_2, .int .i64 ((rd_T42 l0 a1).f3)] 42 (0, 0)) dq62 hb); replace HB := Zq.i (below_step dq60 hb); (try clear hb)))
   go_roundg k2
   case measure => have := HJ4.out; have := HK2.out; omega
   case rel => exact ⟨(wrap64 (x7_2 + 1)), dq14, H', ⟨dq63⟩, ⟨dq62⟩, ⟨dq60⟩⟩

/-! ### spec_l8Edge: function 97 -/
mutual
def spec_l8Edge.j0 : Nat → List (S42) → Int → Bool → Bool → Int → ByteArray → List Int → Int → Option (List Int)
 | 0, _, _, _, _, _, _, _, _ => none
 | k + 1, x0, x1, x2, x23, x295000, x295001, x295002, x295003 => if x23 = true then (some (([x1] : List Int))) else (spec_l8Edge.l0 k x0 x2 (([] : List Int)) 0 x295000 x295001 x295002 x295003)
def spec_l8Edge.l0 : Nat → List (S42) → Bool → List Int → Int → Int → ByteArray → List Int → Int → Option (List Int)
 | 0, _, _, _, _, _, _, _, _ => none
 | k + 1, x0, x2, x8, x9, x295000, x295001, x295002, x295003 => if x9 < (x295002.length : Int) then (if x2 = true then (spec_l8Edge.j2 k x0 x2 x8 x9 (wrap64 ((wrap64 ((x295002.length : Int) - 1)) - x9)) x295000 x295001 x295002 x295003) else (spec_l8Edge.j2 k x0 x2 x8 x9 x9 x295000 x295001 x295002 x295003)) else (some x8)
def spec_l8Edge.j2 : Nat → List (S42) → Bool → List Int → Int → Int → Int → ByteArray → List Int → Int → Option (List Int)
 | 0, _, _, _, _, _, _, _, _, _ => none
 | k + 1, x0, x2, x8, x9, x10, x295000, x295001, x295002, x295003 => if 0 ≤ x10 then (if x10 < (x295002.length : Int) then ((spec_l8Edge.f k x0 (rd x295002 x10) x2).bind fun t302 => (if x8.length + t302.length < 17592186044416 then ((some (x8 ++ t302 : List Int)).bind fun y305 => (if x295000 = 2 then ((spec_l8Null.f k x0 (rd x295002 x10)).bind fun t309 => (if t309 = true then (spec_l8Edge.l0 k x0 x2 y305 (wrap64 (x9 + 1)) x295000 x295001 x295002 x295003) else (some y305))) else (spec_l8Edge.l0 k x0 x2 y305 (wrap64 (x9 + 1)) x295000 x295001 x295002 x295003))) else (none))) else (none)) else (none)
def spec_l8Edge.f : Nat → List (S42) → Int → Bool → Option (List Int)
 | 0, _, _, _ => none
 | k + 1, l0, a1, a2 => if 0 ≤ a1 then (if a1 < (l0.length : Int) then (if (((rd_T42 l0 a1).f2).length : Int) = 0 then (spec_l8Edge.j0 k l0 a1 a2 (((rd_T42 l0 a1).f0) != 2) ((rd_T42 l0 a1).f0) ((rd_T42 l0 a1).f1) ((rd_T42 l0 a1).f2) ((rd_T42 l0 a1).f3)) else (spec_l8Edge.j0 k l0 a1 a2 false ((rd_T42 l0 a1).f0) ((rd_T42 l0 a1).f1) ((rd_T42 l0 a1).f2) ((rd_T42 l0 a1).f3))) else (none)) else (none)
end
theorem spec_l8Edge.calls (k : Nat) : ∀ (A0 : Option Addr) (c0 : Nat) (l0 : List (S42)) (a1 : Int) (a2 : Bool) (r : List Int) (w : World) (hr0 : Kd.C k42 w A0 l0.length l0) (hc0 : l0.length ≤ c0) (h : spec_l8Edge.f k l0 a1 a2 = some r),
  Calls Try.prog 97 #[.slice A0 l0.length c0, .int .i64 a1, .bool a2] w fun e w' => ∃ v0_ : Value, e = .returned (v0_) ∧ Kd.R (Kd.int .i64) 2 w' w.heap.size (fun _ => True) v0_ r ∧ Below w.heap.size w w' := by
 induction k using Nat.strongRecOn with
 | _ k ih =>
 intro A0 c0 l0 a1 a2 r w hr0 hc0 h
 cases k with
 | zero => exact absurd h (by simp [spec_l8Edge.f])
 | succ k =>
 simp only [spec_l8Edge.f] at h
 have hu42 := Try.underlying42
 have HR0 := Zq.i hr0
 have HC0 := Zq.i hc0
 clear hr0 hc0
 have HB := Zq.i (Below.refl w.heap.size w)
 have H : (if 0 ≤ a1 then (if a1 < (l0.length : Int) then (if (((rd_T42 l0 a1).f2).length : Int) = 0 then (spec_l8Edge.j0 k l0 a1 a2 (((rd_T42 l0 a1).f0) != 2) ((rd_T42 l0 a1).f0) ((rd_T42 l0 a1).f1) ((rd_T42 l0 a1).f2) ((rd_T42 l0 a1).f3)) else (spec_l8Edge.j0 k l0 a1 a2 false ((rd_T42 l0 a1).f0) ((rd_T42 l0 a1).f1) ((rd_T42 l0 a1).f2) ((rd_T42 l0 a1).f3))) else (none)) else (none)) = some r := h
 clear h
 by_cases c4 : 0 ≤ a1
 rotate_left
 ·rw [if_neg c4] at H
  exact absurd H dq15
 rw [if_pos c4] at H
 have c4b0 := dT c4
 clear c4
 by_cases c5 : a1 < (l0.length : Int)
 rotate_left
 ·rw [if_neg c5] at H
  exact absurd H dq15
 rw [if_pos c5] at H
 have c5b0 := dT c5
 clear c5
 have HC6 := Zq.i H
 clear H
 have p293 : 0 ≤ (a1 : Int) := oT dq22
 have q293 : a1 < (l0.length : Int) := oT dq22
 obtain ⟨ad293, A293_2, c293_2, e293, hx293_0, hx293_1, hx293_2, hx293_3, hl293_2, hi293_2⟩ := at_T42 HR0.out a1 p293 q293
 cases e293
 have HR293_2 := Zq.i hi293_2
 have HC293_2 := Zq.i hl293_2
 clear hi293_2 hl293_2
 replace p293 := eq_true p293
 replace q293 := eq_true q293
 go_enter Try.func97, Try.ntmps97
 go_upto_region 2 with (first | ((with_reducible refine gate_dst (N := 7) rfl ?_); refine box_event ?hg (N := 7) ?hd (cs := #[.int .i64 0, .string (⟨#[]⟩ : ByteArray), .slice none 0 0, .int .i64 0]) (t := 42) ?hr ?_; (case hd => rfl); (case hg => rfl); (case hr => exact dq0); intro gb294 hg w7 hbox hb; have BK294 := Zq.i (hbox); have GW294 := Zq.i ((dq30 : w.heap.size ≤ gb294)); have GE294 := Zq.i ((dq30 : w.heap.size ≤ gb294)); replace HB := Zq.i (below_step dq17 hb); clear hb hbox hg; obtain ⟨⟨hcz8_0, hcz8_1, hcz8_2, hcz8_3⟩, hfz8_0, hfz8_1, hfz8_2, hfz8_3⟩ := blkC4 BK294.out))
 (try simp only [Act.put, List.setIfInBounds_toArray, List.set_cons_zero, List.set_cons_succ])
 go_cut [23] (fun v23 wc => ∃ (kq : Nat) (x23_5 : Bool), v23 = .bool x23_5 ∧ Zq (spec_l8Edge.j0 kq l0 a1 a2 x23_5 ((rd_T42 l0 a1).f0) ((rd_T42 l0 a1).f1) ((rd_T42 l0 a1).f2) ((rd_T42 l0 a1).f3) = some r) ∧ Zq (kq ≤ k) ∧ Zq (wc.heap[gb294]? = some (.cells #[.int .i64 ((rd_T42 l0 a1).f0), .string ((rd_T42 l0 a1).f1), (.slice A293_2 ((rd_T42 l0 a1).f2).length c293_2), .int .i64 ((rd_T42 l0 a1).f3)] 42 (0, 0))) ∧ Zq (Below w.heap.size w wc))
 case first =>
  have H := HC6.out
  clear HC6
  by_cases c9 : (((rd_T42 l0 a1).f2).length : Int) = 0
  ·rw [if_pos c9] at H
   have c9b0 := bE c9
   have c9b1 := bQ c9
   clear c9
   (first | rw [c9b0] | (simp only [i64_w, i32_w]; rw [c9b0]) | skip)
   have H' := Zq.i H
   clear H
   obtain ⟨⟨hcz10_0, hcz10_1, hcz10_2, hcz10_3⟩, hfz10_0, hfz10_1, hfz10_2, hfz10_3⟩ := blkC4 BK294.out
   go_wp2
   go_meet
   case rel => exact ⟨_, ((((rd_T42 l0 a1).f0) != 2)), dq14, H', ⟨dq26⟩, ⟨dq65⟩, ⟨dq64⟩⟩
  rw [if_neg c9] at H
  have c9b0 := bN c9
  have c9b1 := bO c9
  have c9b2 : ¬ (((rd_T42 l0 a1).f2) = []) := fun h_ => c9 (by rw [h_]; rfl)
  (first | rw [c9b0] | (simp only [i64_w, i32_w]; rw [c9b0]) | skip)
  have H' := Zq.i H
  clear H
  obtain ⟨⟨hcz11_0, hcz11_1, hcz11_2, hcz11_3⟩, hfz11_0, hfz11_1, hfz11_2, hfz11_3⟩ := blkC4 BK294.out
  go_wp2
  go_meet
  case rel => exact ⟨_, (false), dq14, H', ⟨dq26⟩, ⟨dq65⟩, ⟨dq64⟩⟩
 clear HC6
 try clear c4b0
 try clear c5b0
 try clear hcz8_0
 try clear hcz8_1
 try clear hcz8_2
 try clear hcz8_3
 try clear hfz8_0
 try clear hfz8_1
 try clear hfz8_2
 try clear hfz8_3
 try clear hx293_0
 try clear hx293_1
 try clear hx293_2
 try clear hx293_3
 try clear p293
 try clear q293
 obtain ⟨kq, x23_5, rfl, HA, HJ5, BK294, HB⟩ := hcut
 cases kq with
 | zero => exact absurd HA.out (by simp [spec_l8Edge.j0])
 | succ kj5 =>
  have H := HA.out
  clear HA
  simp only [spec_l8Edge.j0] at H
  by_cases c12 : x23_5 = true
  ·subst c12
   rw [if_pos rfl] at H
   obtain ⟨y295, hy295⟩ : ∃ y_ : List Int, y_ = (([a1] : List Int)) := ⟨_, rfl⟩
   replace H : (some y295) = some r := by first | (rw [hy295]; with_reducible exact H) | (have H2_ := oS H; rw [hy295]; with_reducible exact H2_) | (have H2_ := oS H; with_reducible exact H2_) | with_reducible exact H | (rw [hy295]; exact H) | exact H
   have Ny295 := Zq.i hy295
   clear hy295
   obtain rfl := oI H
   go_wp2_with (first | ((with_reducible refine gate_dst (N := 25) rfl ?_); refine Kd.R_lit (Kd.int .i64) _ 2 ?hg (N := 25) ?hd (xs := ([a1] : List Int)) (inner := [.int .i64 a1]) (ok := fun _ => True) (okp := fun _ => True) ?hr ?hp (fun _ hk => hk) trivial (Below.refl _ _) (Nat.le_refl _) dq15 ?_; (case hd => rfl); (case hg => rfl); (case hr => exact dq0); (case hp => exact (Reps.one (show Kd.M (Kd.int .i64) _ _ _ a1 [.int .i64 a1] from rfl) (Reps.none _ _))); intro v296 w13 ho14 hb hg_ hnew_; clear hg_ hnew_; (first | rw [← Ny295.out] at ho14 | (simp only [Int.reduceToNat] at ho14; rw [← Ny295.out] at ho14)); have HO297 := Zq.i (Kd.R_lower ho14 (below_size dq64)); replace BK294 := Zq.i (blk_below (g := gb294) (o := .cells #[.int .i64 ((rd_T42 l0 a1).f0), .string ((rd_T42 l0 a1).f1), .slice A293_2 ((rd_T42 l0 a1).f2).length c293_2, .int .i64 ((rd_T42 l0 a1).f3)] 42 (0, 0)) dq66 hb); replace HB := Zq.i (below_step dq64 hb); clear hb ho14))
   go_ret
   exact ⟨_, dq21, by (with_reducible repeat (first | apply Kd.R_alloc | apply Kd.R_drewN | apply Kd.R_drew)); exact HO297.out, dq64⟩
  replace c12 := Bool.eq_false_iff.mpr c12
  subst c12
  rw [iN] at H
  obtain ⟨y298, hy298⟩ : ∃ y_ : List Int, y_ = (([] : List Int)) := ⟨_, rfl⟩
  replace H : (spec_l8Edge.l0 kj5 l0 a2 y298 0 ((rd_T42 l0 a1).f0) ((rd_T42 l0 a1).f1) ((rd_T42 l0 a1).f2) ((rd_T42 l0 a1).f3)) = some r := by first | (rw [hy298]; with_reducible exact H) | (have H2_ := oS H; rw [hy298]; with_reducible exact H2_) | (have H2_ := oS H; with_reducible exact H2_) | with_reducible exact H | (rw [hy298]; exact H) | exact H
  have Ny298 := Zq.i hy298
  clear hy298
  have H' := Zq.i H
  clear H
  go_wp2_with (first | ((with_reducible refine gate_dst (N := 26) rfl ?_); refine Kd.R_lit (Kd.int .i64) _ 2 ?hg (N := 26) ?hd (xs := ([] : List Int)) (inner := []) (ok := fun _ => True) (okp := fun _ => True) ?hr ?hp (fun _ hk => hk) trivial (Below.refl _ _) (Nat.le_refl _) dq15 ?_; (case hd => rfl); (case hg => rfl); (case hr => exact dq0); (case hp => exact (Reps.none _ _)); intro v299 w15 ho16 hb hg_ hnew_; clear hg_ hnew_; (first | rw [← Ny298.out] at ho16 | (simp only [Int.reduceToNat] at ho16; rw [← Ny298.out] at ho16)); have HO300 := Zq.i (Kd.R_lower ho16 (below_size dq64)); replace BK294 := Zq.i (blk_below (g := gb294) (o := .cells #[.int .i64 ((rd_T42 l0 a1).f0), .string ((rd_T42 l0 a1).f1), .slice A293_2 ((rd_T42 l0 a1).f2).length c293_2, .int .i64 ((rd_T42 l0 a1).f3)] 42 (0, 0)) dq66 hb); replace HB := Zq.i (below_step dq64 hb); clear hb ho16))
  go_loopg [8, 9] kj5 (fun kq v8 v9 w' => ∃ (x8_2 : List Int) (x9_2 : Int), v9 = .int .i64 x9_2 ∧ Zq (spec_l8Edge.l0 kq l0 a2 x8_2 x9_2 ((rd_T42 l0 a1).f0) ((rd_T42 l0 a1).f1) ((rd_T42 l0 a1).f2) ((rd_T42 l0 a1).f3) = some r) ∧ Zq (kq ≤ kj5) ∧ Zq (Kd.R (Kd.int .i64) 2 w' w.heap.size (fun _ => True) v8 x8_2) ∧ Zq (w'.heap[gb294]? = some (.cells #[.int .i64 ((rd_T42 l0 a1).f0), .string ((rd_T42 l0 a1).f1), (.slice A293_2 ((rd_T42 l0 a1).f2).length c293_2), .int .i64 ((rd_T42 l0 a1).f3)] 42 (0, 0))) ∧ Zq (Below w.heap.size w w'))
  case atStart => exact ⟨(y298), (0), dq14, H', ⟨Nat.le_refl _⟩, ⟨by (with_reducible repeat (first | apply Kd.R_alloc | apply Kd.R_drewN | apply Kd.R_drew)); exact HO300.out⟩, ⟨dq66⟩, ⟨dq64⟩⟩
  clear H'
  obtain ⟨x8_2, x9_2, rfl, HA, HK2, HO_8, BK294, HB⟩ := hrel
  cases gk with
  | zero => exact absurd HA.out (by simp [spec_l8Edge.l0])
  | succ k2 =>
   have H := HA.out
   clear HA
   simp only [spec_l8Edge.l0] at H
   by_cases c17 : x9_2 < (((rd_T42 l0 a1).f2).length : Int)
   rotate_left
   ·rw [if_neg c17] at H
    have c17b0 := dF c17
    clear c17
    obtain rfl := oI H
    obtain ⟨⟨hcz46_0, hcz46_1, hcz46_2, hcz46_3⟩, hfz46_0, hfz46_1, hfz46_2, hfz46_3⟩ := blkC4 BK294.out
    go_wp2
    go_ret
    exact ⟨_, dq21, dq67, dq64⟩
   rw [if_pos c17] at H
   have c17b0 := dT c17
   clear c17
   have HC18 := Zq.i H
   clear H
   obtain ⟨⟨hcz19_0, hcz19_1, hcz19_2, hcz19_3⟩, hfz19_0, hfz19_1, hfz19_2, hfz19_3⟩ := blkC4 BK294.out
   go_upto_if 35 with (fail)
   go_cut [10] (fun v10 wc => ∃ (kq : Nat) (x10_17 : Int), v10 = .int .i64 x10_17 ∧ Zq (spec_l8Edge.j2 kq l0 a2 x8_2 x9_2 x10_17 ((rd_T42 l0 a1).f0) ((rd_T42 l0 a1).f1) ((rd_T42 l0 a1).f2) ((rd_T42 l0 a1).f3) = some r) ∧ Zq (kq ≤ k2) ∧ Zq (Kd.R (Kd.int .i64) 2 wc w.heap.size (fun _ => True) u8 x8_2) ∧ Zq (wc.heap[gb294]? = some (.cells #[.int .i64 ((rd_T42 l0 a1).f0), .string ((rd_T42 l0 a1).f1), (.slice A293_2 ((rd_T42 l0 a1).f2).length c293_2), .int .i64 ((rd_T42 l0 a1).f3)] 42 (0, 0))) ∧ Zq (Below w.heap.size w wc))
   case first =>
    have H := HC18.out
    clear HC18
    by_cases c20 : a2 = true
    rotate_left
    ·replace c20 := Bool.eq_false_iff.mpr c20
     subst c20
     rw [iN] at H
     have H' := Zq.i H
     clear H
     go_wp2
     go_meet
     case rel => exact ⟨_, (x9_2), dq14, H', ⟨by have := HJ5.out; have := HK2.out; first | omega | exact Nat.le_refl _⟩, ⟨dq67⟩, ⟨dq66⟩, ⟨dq64⟩⟩
    subst c20
    rw [if_pos rfl] at H
    have H' := Zq.i H
    clear H
    obtain ⟨⟨hcz21_0, hcz21_1, hcz21_2, hcz21_3⟩, hfz21_0, hfz21_1, hfz21_2, hfz21_3⟩ := blkC4 BK294.out
    go_wp2
    go_meet
    case rel => exact ⟨_, (wrap64 ((wrap64 ((((rd_T42 l0 a1).f2).length : Int) - 1)) - x9_2)), dq14, H', ⟨by have := HJ5.out; have := HK2.out; first | omega | exact Nat.le_refl _⟩, ⟨dq67⟩, ⟨dq66⟩, ⟨dq64⟩⟩
   clear HC18
   try clear c17b0
   try clear hcz19_0
   try clear hcz19_1
   try clear hcz19_2
   try clear hcz19_3
   try clear hfz19_0
   try clear hfz19_1
   try clear hfz19_2
   try clear hfz19_3
   obtain ⟨kq, x10_17, rfl, HA, HJ17, HO_8, BK294, HB⟩ := hcut
   cases kq with
   | zero => exact absurd HA.out (by simp [spec_l8Edge.j2])
   | succ kj17 =>
    have H := HA.out
    clear HA
    simp only [spec_l8Edge.j2] at H
    by_cases c22 : 0 ≤ x10_17
    rotate_left
    ·rw [if_neg c22] at H
     exact absurd H dq15
    rw [if_pos c22] at H
    have c22b0 := dT c22
    clear c22
    by_cases c23 : x10_17 < (((rd_T42 l0 a1).f2).length : Int)
    rotate_left
    ·rw [if_neg c23] at H
     exact absurd H dq15
    rw [if_pos c23] at H
    have c23b0 := dT c23
    clear c23
    replace H := bM H
    obtain ⟨t302, A240, H⟩ := H
    try dsimp only at H
    have A24 := Zq.i A240
    clear A240
    by_cases c25 : x8_2.length + t302.length < 17592186044416
    rotate_left
    ·rw [if_neg c25] at H
     exact absurd H dq15
    rw [if_pos c25] at H
    have LMc25 := Zq.i c25
    clear c25
    obtain ⟨y305, hy305⟩ : ∃ y_ : List Int, y_ = (x8_2 ++ t302) := ⟨_, rfl⟩
    replace H : (if ((rd_T42 l0 a1).f0) = 2 then ((spec_l8Null.f kj17 l0 (rd ((rd_T42 l0 a1).f2) x10_17)).bind fun t309 => (if t309 = true then (spec_l8Edge.l0 kj17 l0 a2 y305 (wrap64 (x9_2 + 1)) ((rd_T42 l0 a1).f0) ((rd_T42 l0 a1).f1) ((rd_T42 l0 a1).f2) ((rd_T42 l0 a1).f3)) else (some y305))) else (spec_l8Edge.l0 kj17 l0 a2 y305 (wrap64 (x9_2 + 1)) ((rd_T42 l0 a1).f0) ((rd_T42 l0 a1).f1) ((rd_T42 l0 a1).f2) ((rd_T42 l0 a1).f3))) = some r := by first | (rw [hy305]; with_reducible exact H) | (have H2_ := oS H; rw [hy305]; with_reducible exact H2_) | (have H2_ := oS H; with_reducible exact H2_) | with_reducible exact H | (rw [hy305]; exact H) | exact H
    have Ny305 := Zq.i hy305
    clear hy305
    by_cases c26 : ((rd_T42 l0 a1).f0) = 2
    rotate_left
    ·rw [if_neg c26] at H
     have c26b0 := bN c26
     have c26b1 := bO c26
     have H' := Zq.i H
     clear H
     obtain ⟨⟨hcz41_0, hcz41_1, hcz41_2, hcz41_3⟩, hfz41_0, hfz41_1, hfz41_2, hfz41_3⟩ := blkC4 BK294.out
     have p301 : 0 ≤ (x10_17 : Int) := oT dq22
     have q301 : x10_17 < (((rd_T42 l0 a1).f2).length : Int) := oT dq22
     obtain ⟨ad301, e301, hx301_0⟩ := Kd.at_int HR293_2.out x10_17 p301 q301
     cases e301
     replace hx301_0 := (HB.out.cell (bC w _ hx301_0)).trans hx301_0
     replace p301 := eq_true p301
     replace q301 := eq_true q301
     go_wp2_with (first | ((with_reducible refine gate_callee (f := 97) rfl ?_); refine goesL_ (some 50) rfl rfl Try.func97 dq24 rfl #[.slice (some ad293) l0.length c0, .int .i64 (rd ((rd_T42 l0 a1).f2) x10_17), .bool a2] rfl dq23 ?_; (with_reducible refine (ih kj17 dq70 _ _ l0 (rd ((rd_T42 l0 a1).f2) x10_17) a2 t302 _ ?side1 ?side2 A24.out).mono ?_); (case side1 => exact dq5); (case side2 => exact dq4); rintro e w42 ⟨v303, rfl, ho0, hb⟩; refine ⟨_, rfl, ?_⟩; have HO304 := Zq.i (Kd.R_lower (Kd.R_new' ho0 (Kd.R_lt dq67)) (below_size dq64)); replace HO_8 := Zq.i (Kd.R_elder' dq67 (Kd.R_base ho0) hb); replace BK294 := Zq.i (blk_below (g := gb294) (o := .cells #[.int .i64 ((rd_T42 l0 a1).f0), .string ((rd_T42 l0 a1).f1), .slice (some ad301) ((rd_T42 l0 a1).f2).length c293_2, .int .i64 ((rd_T42 l0 a1).f3)] 42 (0, 0)) dq66 hb); replace HB := Zq.i (below_step dq64 hb); (try clear hb ho0); obtain ⟨Ao44, co44, eo44⟩ := Kd.R_slice HO304.out; subst eo44) | ((with_reducible refine gate_builtin (b := .append) (xs := #[.tmp 42, .tmp 50]) rfl ?_); at_builtin; refine Kd.R_append_rows (Kd.int .i64) (w0 := w) w.heap.size rfl (.tmp 42) (.tmp 50) 33 2 (.int .i64 0) 8 rfl Try.underlying33 info2 rfl dq25 dq28 u8 x8_2 t302 _ _ _ (fun k_ => some k_ ≠ (.slice Ao44 t302.length co44 : Value).ownBlock) (fun _ => False) rfl rfl ?aO ?aR (fun _ _ h => h) (fun _ h => h.elim) ?aF ?aB ?aS ?aL ?_; (case aR => repeat (first | exact (Kd.R_reads' HO304.out).2.2 | (with_reducible refine Kd.C_alloc ?_ _) | (with_reducible refine Kd.C_drewN ?_ _) | (with_reducible refine Kd.C_drew ?_))); (case aB => exact dq64); (case aF => exact (fun k_ hk => Kd.fresh' (Kd.R_lt dq68) k_ hk)); (case aO => exact dq69); (case aS => exact (below_size dq64)); (case aL => have := LMc25.out; omega); intro v306 w43 ho hb hg hat; rw [← Ny305.out] at ho; replace BK294 := Zq.i (blk_grown (g := gb294) (o := .cells #[.int .i64 ((rd_T42 l0 a1).f0), .string ((rd_T42 l0 a1).f1), .slice (some ad301) ((rd_T42 l0 a1).f2).length c293_2, .int .i64 ((rd_T42 l0 a1).f3)] 42 (0, 0)) dq66 hg (Kd.R_ne HO_8.out BK294.out dq25)); replace HO304 := Zq.i (Kd.R_after (ok := (fun _ => True)) dq68 hg hat); replace HB := Zq.i (hb); have HO307 := Zq.i (ho); clear HO_8; clear ho hb hg hat; obtain ⟨⟨hcz45_0, hcz45_1, hcz45_2, hcz45_3⟩, hfz45_0, hfz45_1, hfz45_2, hfz45_3⟩ := blkC4 BK294.out))
     go_roundg kj17
     case measure => have := HJ5.out; have := HK2.out; have := HJ17.out; omega
     case rel => exact ⟨(y305), (wrap64 (x9_2 + 1)), dq14, H', ⟨dq70⟩, ⟨dq71⟩, ⟨dq66⟩, ⟨dq64⟩⟩
    rw [if_pos c26] at H
    have c26b0 := bE c26
    have c26b1 := bQ c26
    clear c26
    replace H := bM H
    obtain ⟨t309, A270, H⟩ := H
    try dsimp only at H
    have A27 := Zq.i A270
    clear A270
    by_cases c28 : t309 = true
    rotate_left
    ·replace c28 := Bool.eq_false_iff.mpr c28
     subst c28
     rw [iN] at H
     obtain rfl := oI H
     obtain ⟨⟨hcz35_0, hcz35_1, hcz35_2, hcz35_3⟩, hfz35_0, hfz35_1, hfz35_2, hfz35_3⟩ := blkC4 BK294.out
     have p301 : 0 ≤ (x10_17 : Int) := oT dq22
     have q301 : x10_17 < (((rd_T42 l0 a1).f2).length : Int) := oT dq22
     obtain ⟨ad301, e301, hx301_0⟩ := Kd.at_int HR293_2.out x10_17 p301 q301
     cases e301
     replace hx301_0 := (HB.out.cell (bC w _ hx301_0)).trans hx301_0
     replace p301 := eq_true p301
     replace q301 := eq_true q301
     go_wp2_with (first | ((with_reducible refine gate_callee (f := 97) rfl ?_); refine goesL_ (some 50) rfl rfl Try.func97 dq24 rfl #[.slice (some ad293) l0.length c0, .int .i64 (rd ((rd_T42 l0 a1).f2) x10_17), .bool a2] rfl dq23 ?_; (with_reducible refine (ih kj17 dq70 _ _ l0 (rd ((rd_T42 l0 a1).f2) x10_17) a2 t302 _ ?side1 ?side2 A24.out).mono ?_); (case side1 => exact dq5); (case side2 => exact dq4); rintro e w36 ⟨v303, rfl, ho0, hb⟩; refine ⟨_, rfl, ?_⟩; have HO304 := Zq.i (Kd.R_lower (Kd.R_new' ho0 (Kd.R_lt dq67)) (below_size dq64)); replace HO_8 := Zq.i (Kd.R_elder' dq67 (Kd.R_base ho0) hb); replace BK294 := Zq.i (blk_below (g := gb294) (o := .cells #[.int .i64 ((rd_T42 l0 a1).f0), .string ((rd_T42 l0 a1).f1), .slice (some ad301) ((rd_T42 l0 a1).f2).length c293_2, .int .i64 ((rd_T42 l0 a1).f3)] 42 (0, 0)) dq66 hb); replace HB := Zq.i (below_step dq64 hb); (try clear hb ho0); obtain ⟨Ao38, co38, eo38⟩ := Kd.R_slice HO304.out; subst eo38) | ((with_reducible refine gate_builtin (b := .append) (xs := #[.tmp 42, .tmp 50]) rfl ?_); at_builtin; refine Kd.R_append_rows (Kd.int .i64) (w0 := w) w.heap.size rfl (.tmp 42) (.tmp 50) 33 2 (.int .i64 0) 8 rfl Try.underlying33 info2 rfl dq25 dq28 u8 x8_2 t302 _ _ _ (fun k_ => some k_ ≠ (.slice Ao38 t302.length co38 : Value).ownBlock) (fun _ => False) rfl rfl ?aO ?aR (fun _ _ h => h) (fun _ h => h.elim) ?aF ?aB ?aS ?aL ?_; (case aR => repeat (first | exact (Kd.R_reads' HO304.out).2.2 | (with_reducible refine Kd.C_alloc ?_ _) | (with_reducible refine Kd.C_drewN ?_ _) | (with_reducible refine Kd.C_drew ?_))); (case aB => exact dq64); (case aF => exact (fun k_ hk => Kd.fresh' (Kd.R_lt dq68) k_ hk)); (case aO => exact dq69); (case aS => exact (below_size dq64)); (case aL => have := LMc25.out; omega); intro v306 w37 ho hb hg hat; rw [← Ny305.out] at ho; replace BK294 := Zq.i (blk_grown (g := gb294) (o := .cells #[.int .i64 ((rd_T42 l0 a1).f0), .string ((rd_T42 l0 a1).f1), .slice (some ad301) ((rd_T42 l0 a1).f2).length c293_2, .int .i64 ((rd_T42 l0 a1).f3)] 42 (0, 0)) dq66 hg (Kd.R_ne HO_8.out BK294.out dq25)); replace HO304 := Zq.i (Kd.R_after (ok := (fun _ => True)) dq68 hg hat); replace HB := Zq.i (hb); have HO307 := Zq.i (ho); clear HO_8; clear ho hb hg hat; obtain ⟨⟨hcz39_0, hcz39_1, hcz39_2, hcz39_3⟩, hfz39_0, hfz39_1, hfz39_2, hfz39_3⟩ := blkC4 BK294.out; have p308 : 0 ≤ (x10_17 : Int) := oT dq22; have q308 : x10_17 < (((rd_T42 l0 a1).f2).length : Int) := oT dq22; obtain ⟨ad308, e308, hx308_0⟩ := Kd.at_int HR293_2.out x10_17 p308 q308; obtain rfl : ad301 = ad308 := (by injection e308); replace hx308_0 := (HB.out.cell (bC w _ hx308_0)).trans hx308_0; replace p308 := eq_true p308; replace q308 := eq_true q308) | (go_at_call 98; (with_reducible refine (spec_l8Null.calls kj17 _ _ l0 (rd ((rd_T42 l0 a1).f2) x10_17) false _ ?side1 ?side2 A27.out).mono ?_); (case side1 => exact dq5); (case side2 => exact dq4); rintro e w40 ⟨rfl, hb⟩; replace HO304 := Zq.i (Kd.R_below dq68 hb); replace HO307 := Zq.i (Kd.R_below (by (with_reducible repeat (first | apply Kd.R_alloc | apply Kd.R_drewN | apply Kd.R_drew)); exact HO307.out) hb); replace BK294 := Zq.i (blk_below (g := gb294) (o := .cells #[.int .i64 ((rd_T42 l0 a1).f0), .string ((rd_T42 l0 a1).f1), .slice (some ad301) ((rd_T42 l0 a1).f2).length c293_2, .int .i64 ((rd_T42 l0 a1).f3)] 42 (0, 0)) dq66 hb); replace HB := Zq.i (below_step dq64 hb); (try clear hb)))
     go_ret
     exact ⟨_, dq21, dq71, dq64⟩
    subst c28
    rw [if_pos rfl] at H
    have H' := Zq.i H
    clear H
    obtain ⟨⟨hcz29_0, hcz29_1, hcz29_2, hcz29_3⟩, hfz29_0, hfz29_1, hfz29_2, hfz29_3⟩ := blkC4 BK294.out
    have p301 : 0 ≤ (x10_17 : Int) := oT dq22
    have q301 : x10_17 < (((rd_T42 l0 a1).f2).length : Int) := oT dq22
    obtain ⟨ad301, e301, hx301_0⟩ := Kd.at_int HR293_2.out x10_17 p301 q301
    cases e301
    replace hx301_0 := (HB.out.cell (bC w _ hx301_0)).trans hx301_0
    replace p301 := eq_true p301
    replace q301 := eq_true q301
    go_wp2_with (first | ((with_reducible refine gate_callee (f := 97) rfl ?_); refine goesL_ (some 50) rfl rfl Try.func97 dq24 rfl #[.slice (some ad293) l0.length c0, .int .i64 (rd ((rd_T42 l0 a1).f2) x10_17), .bool a2] rfl dq23 ?_; (with_reducible refine (ih kj17 dq70 _ _ l0 (rd ((rd_T42 l0 a1).f2) x10_17) a2 t302 _ ?side1 ?side2 A24.out).mono ?_); (case side1 => exact dq5); (case side2 => exact dq4); rintro e w30 ⟨v303, rfl, ho0, hb⟩; refine ⟨_, rfl, ?_⟩; have HO304 := Zq.i (Kd.R_lower (Kd.R_new' ho0 (Kd.R_lt dq67)) (below_size dq64)); replace HO_8 := Zq.i (Kd.R_elder' dq67 (Kd.R_base ho0) hb); replace BK294 := Zq.i (blk_below (g := gb294) (o := .cells #[.int .i64 ((rd_T42 l0 a1).f0), .string ((rd_T42 l0 a1).f1), .slice (some ad301) ((rd_T42 l0 a1).f2).length c293_2, .int .i64 ((rd_T42 l0 a1).f3)] 42 (0, 0)) dq66 hb); replace HB := Zq.i (below_step dq64 hb); (try clear hb ho0); obtain ⟨Ao32, co32, eo32⟩ := Kd.R_slice HO304.out; subst eo32) | ((with_reducible refine gate_builtin (b := .append) (xs := #[.tmp 42, .tmp 50]) rfl ?_); at_builtin; refine Kd.R_append_rows (Kd.int .i64) (w0 := w) w.heap.size rfl (.tmp 42) (.tmp 50) 33 2 (.int .i64 0) 8 rfl Try.underlying33 info2 rfl dq25 dq28 u8 x8_2 t302 _ _ _ (fun k_ => some k_ ≠ (.slice Ao32 t302.length co32 : Value).ownBlock) (fun _ => False) rfl rfl ?aO ?aR (fun _ _ h => h) (fun _ h => h.elim) ?aF ?aB ?aS ?aL ?_; (case aR => repeat (first | exact (Kd.R_reads' HO304.out).2.2 | (with_reducible refine Kd.C_alloc ?_ _) | (with_reducible refine Kd.C_drewN ?_ _) | (with_reducible refine Kd.C_drew ?_))); (case aB => exact dq64); (case aF => exact (fun k_ hk => Kd.fresh' (Kd.R_lt dq68) k_ hk)); (case aO => exact dq69); (case aS => exact (below_size dq64)); (case aL => have := LMc25.out; omega); intro v306 w31 ho hb hg hat; rw [← Ny305.out] at ho; replace BK294 := Zq.i (blk_grown (g := gb294) (o := .cells #[.int .i64 ((rd_T42 l0 a1).f0), .string ((rd_T42 l0 a1).f1), .slice (some ad301) ((rd_T42 l0 a1).f2).length c293_2, .int .i64 ((rd_T42 l0 a1).f3)] 42 (0, 0)) dq66 hg (Kd.R_ne HO_8.out BK294.out dq25)); replace HO304 := Zq.i (Kd.R_after (ok := (fun _ => True)) dq68 hg hat); replace HB := Zq.i (hb); have HO307 := Zq.i (ho); clear HO_8; clear ho hb hg hat; obtain ⟨⟨hcz33_0, hcz33_1, hcz33_2, hcz33_3⟩, hfz33_0, hfz33_1, hfz33_2, hfz33_3⟩ := blkC4 BK294.out; have p308 : 0 ≤ (x10_17 : Int) := oT dq22; have q308 : x10_17 < (((rd_T42 l0 a1).f2).length : Int) := oT dq22; obtain ⟨ad308, e308, hx308_0⟩ := Kd.at_int HR293_2.out x10_17 p308 q308; obtain rfl : ad301 = ad308 := (by injection e308); replace hx308_0 := (HB.out.cell (bC w _ hx308_0)).trans hx308_0; replace p308 := eq_true p308; replace q308 := eq_true q308) | (go_at_call 98; (with_reducible refine (spec_l8Null.calls kj17 _ _ l0 (rd ((rd_T42 l0 a1).f2) x10_17) true _ ?side1 ?side2 A27.out).mono ?_); (case side1 => exact dq5); (case side2 => exact dq4); rintro e w34 ⟨rfl, hb⟩; replace HO304 := Zq.i (Kd.R_below dq68 hb); replace HO307 := Zq.i (Kd.R_below (by (with_reducible repeat (first | apply Kd.R_alloc | apply Kd.R_drewN | apply Kd.R_drew)); exact HO307.out) hb); replace BK294 := Zq.i (blk_below (g := gb294) (o := .cells #[.int .i64 ((rd_T42 l0 a1).f0), .string ((rd_T42 l0 a1).f1), .slice (some ad301) ((rd_T42 l0 a1).f2).length c293_2, .int .i64 ((rd_T42 l0 a1).f3)] 42 (0, 0)) dq66 hb); replace HB := Zq.i (below_step dq64 hb); (try clear hb)))
    go_roundg kj17
    case measure => have := HJ5.out; have := HK2.out; have := HJ17.out; omega
    case rel => exact ⟨(y305), (wrap64 (x9_2 + 1)), dq14, H', ⟨dq70⟩, ⟨dq71⟩, ⟨dq66⟩, ⟨dq64⟩⟩

/-! ### spec_FirstOf: function 52 -/
def spec_FirstOf.f (k : Nat) (l0 : List (S42)) : Option (List Int) := (spec_ParticleOk.f k l0).bind fun t310 => (if t310 = true then ((spec_l8Edge.f k l0 (wrap64 ((l0.length : Int) - 1)) false).bind fun t311 => ((spec_l8Sorted.f k t311).bind fun t314 => (some t314))) else (some (([] : List Int))))
theorem spec_FirstOf.calls (k : Nat) (A0 : Option Addr) (c0 : Nat) (l0 : List (S42)) (r : List Int) (w : World) (hr0 : Kd.C k42 w A0 l0.length l0) (hc0 : l0.length ≤ c0) (h : spec_FirstOf.f k l0 = some r) :
  Calls Try.prog 52 #[.slice A0 l0.length c0] w fun e w' => ∃ v0_ : Value, e = .returned (v0_) ∧ Kd.R (Kd.int .i64) 2 w' w.heap.size (fun _ => True) v0_ r ∧ Below w.heap.size w w' := by
 have HR0 := Zq.i hr0
 have HC0 := Zq.i hc0
 clear hr0 hc0
 have HB := Zq.i (Below.refl w.heap.size w)
 have H := h
 unfold spec_FirstOf.f at H
 clear h
 replace H := bM H
 obtain ⟨t310, A20, H⟩ := H
 try dsimp only at H
 have A2 := Zq.i A20
 clear A20
 by_cases c3 : t310 = true
 rotate_left
 ·replace c3 := Bool.eq_false_iff.mpr c3
  subst c3
  rw [iN] at H
  obtain ⟨y317, hy317⟩ : ∃ y_ : List Int, y_ = (([] : List Int)) := ⟨_, rfl⟩
  replace H : (some y317) = some r := by first | (rw [hy317]; with_reducible exact H) | (have H2_ := oS H; rw [hy317]; with_reducible exact H2_) | (have H2_ := oS H; with_reducible exact H2_) | with_reducible exact H | (rw [hy317]; exact H) | exact H
  have Ny317 := Zq.i hy317
  clear hy317
  obtain rfl := oI H
  go_enter Try.func52, Try.ntmps52
  go_wp2_with (first | ((with_reducible refine gate_callee (f := 41) rfl ?_); refine goesL_ (some 4) rfl rfl Try.func41 dq24 rfl #[.slice A0 l0.length c0] rfl dq23 ?_; (with_reducible refine (spec_ParticleOk.calls k _ _ l0 false _ ?side1 ?side2 A2.out).mono ?_); (case side1 => exact dq3); (case side2 => exact dq4); rintro e w10 ⟨rfl, hb⟩; refine ⟨_, rfl, ?_⟩; replace HB := Zq.i (below_step dq17 hb); (try clear hb)) | ((with_reducible refine gate_dst (N := 6) rfl ?_); refine Kd.R_lit (Kd.int .i64) _ 2 ?hg (N := 6) ?hd (xs := ([] : List Int)) (inner := []) (ok := fun _ => True) (okp := fun _ => True) ?hr ?hp (fun _ hk => hk) trivial (Below.refl _ _) (Nat.le_refl _) dq15 ?_; (case hd => rfl); (case hg => rfl); (case hr => exact dq0); (case hp => exact (Reps.none _ _)); intro v318 w11 ho12 hb hg_ hnew_; clear hg_ hnew_; (first | rw [← Ny317.out] at ho12 | (simp only [Int.reduceToNat] at ho12; rw [← Ny317.out] at ho12)); have HO319 := Zq.i (Kd.R_lower ho12 (below_size dq17)); replace HB := Zq.i (below_step dq17 hb); clear hb ho12))
  go_ret
  exact ⟨_, dq21, by (with_reducible repeat (first | apply Kd.R_alloc | apply Kd.R_drewN | apply Kd.R_drew)); exact HO319.out, dq17⟩
 subst c3
 rw [if_pos rfl] at H
 replace H := bM H
 obtain ⟨t311, A40, H⟩ := H
 try dsimp only at H
 have A4 := Zq.i A40
 clear A40
 replace H := bM H
 obtain ⟨t314, A50, H⟩ := H
 try dsimp only at H
 have A5 := Zq.i A50
 clear A50
 obtain rfl := oI H
 go_enter Try.func52, Try.ntmps52
 go_wp2_with (first | ((with_reducible refine gate_callee (f := 41) rfl ?_); refine goesL_ (some 4) rfl rfl Try.func41 dq24 rfl #[.slice A0 l0.length c0] rfl dq23 ?_; (with_reducible refine (spec_ParticleOk.calls k _ _ l0 true _ ?side1 ?side2 A2.out).mono ?_); (case side1 => exact dq3); (case side2 => exact dq4); rintro e w6 ⟨rfl, hb⟩; refine ⟨_, rfl, ?_⟩; replace HB := Zq.i (below_step dq17 hb); (try clear hb)) | ((with_reducible refine gate_callee (f := 97) rfl ?_); refine goesL_ (some 11) rfl rfl Try.func97 dq24 rfl #[.slice A0 l0.length c0, .int .i64 (wrap64 ((l0.length : Int) - 1)), .bool false] rfl dq23 ?_; (with_reducible refine (spec_l8Edge.calls k _ _ l0 (wrap64 ((l0.length : Int) - 1)) false t311 _ ?side1 ?side2 A4.out).mono ?_); (case side1 => exact dq5); (case side2 => exact dq4); rintro e w7 ⟨v312, rfl, ho0, hb⟩; refine ⟨_, rfl, ?_⟩; have HO313 := Zq.i (Kd.R_lower ho0 (below_size dq17)); replace HB := Zq.i (below_step dq17 hb); (try clear hb ho0); obtain ⟨Ao8, co8, eo8⟩ := Kd.R_slice HO313.out; subst eo8) | ((with_reducible refine gate_callee (f := 96) rfl ?_); refine goesL_ (some 12) rfl rfl Try.func96 dq24 rfl #[.slice Ao8 t311.length co8] rfl dq23 ?_; (with_reducible refine (spec_l8Sorted.calls k _ _ t311 t314 _ ?side1 ?side2 A5.out).mono ?_); (case side1 => repeat (first | exact (Kd.R_reads' HO313.out).2.2 | (with_reducible refine Kd.C_alloc ?_ _) | (with_reducible refine Kd.C_drewN ?_ _) | (with_reducible refine Kd.C_drew ?_))); (case side2 => exact (Kd.R_reads' HO313.out).2.1); rintro e w9 ⟨v315, rfl, ho0, hb⟩; refine ⟨_, rfl, ?_⟩; have HO316 := Zq.i (Kd.R_lower (Kd.R_new' ho0 (Kd.R_lt (by (with_reducible repeat (first | apply Kd.R_alloc | apply Kd.R_drewN | apply Kd.R_drew)); exact HO313.out))) (below_size dq17)); replace HO313 := Zq.i (Kd.R_elder' (by (with_reducible repeat (first | apply Kd.R_alloc | apply Kd.R_drewN | apply Kd.R_drew)); exact HO313.out) (Kd.R_base ho0) hb); replace HB := Zq.i (below_step dq17 hb); (try clear hb ho0)))
 go_ret
 exact ⟨_, dq21, by (with_reducible repeat (first | apply Kd.R_alloc | apply Kd.R_drewN | apply Kd.R_drew)); exact Kd.R_mono HO316.out (fun _ hk => trivial), dq17⟩

/-! ### spec_l8Has: function 55 -/
def spec_l8Has.l0 : Nat → List Int → Int → Int → Option (Bool)
 | 0, _, _, _ => none
 | k + 1, x0, x1, x5 => if x5 < (x0.length : Int) then (if 0 ≤ x5 then (if (rd x0 x5) = x1 then (some true) else (spec_l8Has.l0 k x0 x1 (wrap64 (x5 + 1)))) else (none)) else (some false)
def spec_l8Has.f (k : Nat) (l0 : List Int) (a1 : Int) : Option (Bool) := spec_l8Has.l0 k l0 a1 0
theorem spec_l8Has.calls (k : Nat) (A0 : Option Addr) (c0 : Nat) (l0 : List Int) (a1 : Int) (r : Bool) (w : World) (hr0 : Kd.C (Kd.int .i64) w A0 l0.length l0) (hc0 : l0.length ≤ c0) (h : spec_l8Has.f k l0 a1 = some r) :
  Calls Try.prog 55 #[.slice A0 l0.length c0, .int .i64 a1] w fun e w' => e = .returned (.bool r) ∧ Drawn0 w w' := by
 have HR0 := Zq.i hr0
 have HC0 := Zq.i hc0
 clear hr0 hc0
 have H := h
 unfold spec_l8Has.f at H
 clear h
 have H' := Zq.i H
 clear H
 go_enter Try.func55, Try.ntmps55
 go_wp2
 go_loopg [5] k (fun kq v5 w' => ∃ (x5_1 : Int), v5 = .int .i64 x5_1 ∧ Zq (spec_l8Has.l0 kq l0 a1 x5_1 = some r) ∧ Zq (kq ≤ k) ∧ Drawn0 w w')
 case atStart => exact ⟨(0), dq14, H', ⟨Nat.le_refl _⟩, dq13⟩
 clear H'
 try clear p2
 obtain ⟨x5_1, rfl, HA, HK1, ⟨m1, rfl⟩⟩ := hrel
 cases gk with
 | zero => exact absurd HA.out (by simp [spec_l8Has.l0])
 | succ k1 =>
  have H := HA.out
  clear HA
  simp only [spec_l8Has.l0] at H
  by_cases c3 : x5_1 < (l0.length : Int)
  rotate_left
  ·rw [if_neg c3] at H
   have c3b0 := dF c3
   clear c3
   obtain rfl := oI H
   go_wp2
   go_ret
   exact ⟨dq14, dq13⟩
  rw [if_pos c3] at H
  have c3b0 := dT c3
  clear c3
  by_cases c4 : 0 ≤ x5_1
  rotate_left
  ·rw [if_neg c4] at H
   exact absurd H dq15
  rw [if_pos c4] at H
  have c4b0 := dT c4
  clear c4
  by_cases c5 : (rd l0 x5_1) = a1
  ·rw [if_pos c5] at H
   have c5b0 := bE c5
   have c5b1 := bQ c5
   clear c5
   obtain rfl := oI H
   have p320 : 0 ≤ (x5_1 : Int) := oT dq22
   have q320 : x5_1 < (l0.length : Int) := oT dq22
   obtain ⟨ad320, e320, hx320_0⟩ := Kd.at_int HR0.out x5_1 p320 q320
   cases e320
   replace p320 := eq_true p320
   replace q320 := eq_true q320
   go_wp2
   go_ret
   exact ⟨dq14, dq13⟩
  rw [if_neg c5] at H
  have c5b0 := bN c5
  have c5b1 := bO c5
  have H' := Zq.i H
  clear H
  have p320 : 0 ≤ (x5_1 : Int) := oT dq22
  have q320 : x5_1 < (l0.length : Int) := oT dq22
  obtain ⟨ad320, e320, hx320_0⟩ := Kd.at_int HR0.out x5_1 p320 q320
  cases e320
  replace p320 := eq_true p320
  replace q320 := eq_true q320
  go_wp2
  go_roundg k1
  case measure => have := HK1.out; omega
  case rel => exact ⟨(wrap64 (x5_1 + 1)), dq14, H', ⟨dq27⟩, dq13⟩

/-! ### spec_l8Follow: function 53 -/
mutual
def spec_l8Follow.l0 : Nat → List (S42) → Int → List Int → Int → Option (List Int)
 | 0, _, _, _, _ => none
 | k + 1, x0, x1, x5, x6 => if x6 < (x0.length : Int) then (if 0 ≤ x6 then (if ((rd_T42 x0 x6).f3) ≥ 2 then ((spec_l8Edge.f k x0 x6 true).bind fun t329 => ((spec_l8Has.f k t329 x1).bind fun t332 => (spec_l8Follow.j1 k x0 x1 x5 x6 t332 ((rd_T42 x0 x6).f0) ((rd_T42 x0 x6).f1) ((rd_T42 x0 x6).f2) ((rd_T42 x0 x6).f3)))) else (spec_l8Follow.j1 k x0 x1 x5 x6 false ((rd_T42 x0 x6).f0) ((rd_T42 x0 x6).f1) ((rd_T42 x0 x6).f2) ((rd_T42 x0 x6).f3))) else (none)) else ((spec_l8Sorted.f k x5).bind fun t324 => (some t324))
def spec_l8Follow.j1 : Nat → List (S42) → Int → List Int → Int → Bool → Int → ByteArray → List Int → Int → Option (List Int)
 | 0, _, _, _, _, _, _, _, _, _ => none
 | k + 1, x0, x1, x5, x6, x30, x329000, x329001, x329002, x329003 => if x30 = true then ((spec_l8Edge.f k x0 x6 false).bind fun t333 => (if x5.length + t333.length < 17592186044416 then (spec_l8Follow.j2 k x0 x1 (x5 ++ t333) x6 x329000 x329001 x329002 x329003) else (none))) else (spec_l8Follow.j2 k x0 x1 x5 x6 x329000 x329001 x329002 x329003)
def spec_l8Follow.j2 : Nat → List (S42) → Int → List Int → Int → Int → ByteArray → List Int → Int → Option (List Int)
 | 0, _, _, _, _, _, _, _, _ => none
 | k + 1, x0, x1, x5, x6, x329000, x329001, x329002, x329003 => if x329000 = 2 then (spec_l8Follow.l1 k x0 x1 x5 x6 0 x329000 x329001 x329002 x329003) else (spec_l8Follow.l0 k x0 x1 x5 (wrap64 (x6 + 1)))
def spec_l8Follow.l1 : Nat → List (S42) → Int → List Int → Int → Int → Int → ByteArray → List Int → Int → Option (List Int)
 | 0, _, _, _, _, _, _, _, _, _ => none
 | k + 1, x0, x1, x5, x6, x8, x329000, x329001, x329002, x329003 => if x8 < (x329002.length : Int) then (if 0 ≤ x8 then ((spec_l8Edge.f k x0 (rd x329002 x8) true).bind fun t340 => ((spec_l8Has.f k t340 x1).bind fun t343 => (if t343 = true then (spec_l8Follow.l2 k x0 x1 x5 x6 x8 (wrap64 (x8 + 1)) x329000 x329001 x329002 x329003) else (spec_l8Follow.l1 k x0 x1 x5 x6 (wrap64 (x8 + 1)) x329000 x329001 x329002 x329003)))) else (none)) else (spec_l8Follow.l0 k x0 x1 x5 (wrap64 (x6 + 1)))
def spec_l8Follow.l2 : Nat → List (S42) → Int → List Int → Int → Int → Int → Int → ByteArray → List Int → Int → Option (List Int)
 | 0, _, _, _, _, _, _, _, _, _, _ => none
 | k + 1, x0, x1, x5, x6, x8, x9, x329000, x329001, x329002, x329003 => if x9 < (x329002.length : Int) then (if 0 ≤ x9 then ((spec_l8Edge.f k x0 (rd x329002 x9) false).bind fun t345 => (if x5.length + t345.length < 17592186044416 then ((some (x5 ++ t345 : List Int)).bind fun y348 => ((spec_l8Null.f k x0 (rd x329002 x9)).bind fun t352 => (if t352 = true then (spec_l8Follow.l2 k x0 x1 y348 x6 x8 (wrap64 (x9 + 1)) x329000 x329001 x329002 x329003) else (spec_l8Follow.l1 k x0 x1 y348 x6 (wrap64 (x8 + 1)) x329000 x329001 x329002 x329003)))) else (none))) else (none)) else (spec_l8Follow.l1 k x0 x1 x5 x6 (wrap64 (x8 + 1)) x329000 x329001 x329002 x329003)
end
def spec_l8Follow.f (k : Nat) (l0 : List (S42)) (a1 : Int) : Option (List Int) := spec_l8Follow.l0 k l0 a1 (([] : List Int)) 0
theorem spec_l8Follow.calls (k : Nat) (A0 : Option Addr) (c0 : Nat) (l0 : List (S42)) (a1 : Int) (r : List Int) (w : World) (hr0 : Kd.C k42 w A0 l0.length l0) (hc0 : l0.length ≤ c0) (h : spec_l8Follow.f k l0 a1 = some r) :
  Calls Try.prog 53 #[.slice A0 l0.length c0, .int .i64 a1] w fun e w' => ∃ v0_ : Value, e = .returned (v0_) ∧ Kd.R (Kd.int .i64) 2 w' w.heap.size (fun _ => True) v0_ r ∧ Below w.heap.size w w' := by
 have hu42 := Try.underlying42
 have HR0 := Zq.i hr0
 have HC0 := Zq.i hc0
 clear hr0 hc0
 have HB := Zq.i (Below.refl w.heap.size w)
 have H := h
 unfold spec_l8Follow.f at H
 clear h
 obtain ⟨y321, hy321⟩ : ∃ y_ : List Int, y_ = (([] : List Int)) := ⟨_, rfl⟩
 replace H : (spec_l8Follow.l0 k l0 a1 y321 0) = some r := by first | (rw [hy321]; with_reducible exact H) | (have H2_ := oS H; rw [hy321]; with_reducible exact H2_) | (have H2_ := oS H; with_reducible exact H2_) | with_reducible exact H | (rw [hy321]; exact H) | exact H
 have Ny321 := Zq.i hy321
 clear hy321
 have H' := Zq.i H
 clear H
 go_enter Try.func53, Try.ntmps53
 go_wp2_with (first | ((with_reducible refine gate_dst (N := 10) rfl ?_); refine Kd.R_lit (Kd.int .i64) _ 2 ?hg (N := 10) ?hd (xs := ([] : List Int)) (inner := []) (ok := fun _ => True) (okp := fun _ => True) ?hr ?hp (fun _ hk => hk) trivial (Below.refl _ _) (Nat.le_refl _) dq15 ?_; (case hd => rfl); (case hg => rfl); (case hr => exact dq0); (case hp => exact (Reps.none _ _)); intro v322 w3 ho4 hb hg_ hnew_; clear hg_ hnew_; (first | rw [← Ny321.out] at ho4 | (simp only [Int.reduceToNat] at ho4; rw [← Ny321.out] at ho4)); have HO323 := Zq.i (Kd.R_lower ho4 (below_size dq17)); replace HB := Zq.i (below_step dq17 hb); clear hb ho4))
 go_loopg [5, 6] k (fun kq v5 v6 w' => ∃ (x5_1 : List Int) (x6_1 : Int), v6 = .int .i64 x6_1 ∧ Zq (spec_l8Follow.l0 kq l0 a1 x5_1 x6_1 = some r) ∧ Zq (kq ≤ k) ∧ Zq (Kd.R (Kd.int .i64) 2 w' w.heap.size (fun _ => True) v5 x5_1) ∧ Zq (Below w.heap.size w w'))
 case atStart => exact ⟨(y321), (0), dq14, H', ⟨Nat.le_refl _⟩, ⟨by (with_reducible repeat (first | apply Kd.R_alloc | apply Kd.R_drewN | apply Kd.R_drew)); exact HO323.out⟩, ⟨dq17⟩⟩
 clear H'
 obtain ⟨x5_1, x6_1, rfl, HA, HK1, HO_5, HB⟩ := hrel
 cases gk with
 | zero => exact absurd HA.out (by simp [spec_l8Follow.l0])
 | succ k1 =>
  have H := HA.out
  clear HA
  simp only [spec_l8Follow.l0] at H
  by_cases c5 : x6_1 < (l0.length : Int)
  rotate_left
  ·rw [if_neg c5] at H
   have c5b0 := dF c5
   clear c5
   replace H := bM H
   obtain ⟨t324, A580, H⟩ := H
   try dsimp only at H
   have A58 := Zq.i A580
   clear A580
   obtain rfl := oI H
   obtain ⟨Ao59, co59, eo59⟩ := Kd.R_slice HO_5.out
   subst eo59
   go_wp2_with (first | ((with_reducible refine gate_callee (f := 96) rfl ?_); refine goesL_ (some 83) rfl rfl Try.func96 dq24 rfl #[.slice Ao59 x5_1.length co59] rfl dq23 ?_; (with_reducible refine (spec_l8Sorted.calls k1 _ _ x5_1 t324 _ ?side1 ?side2 A58.out).mono ?_); (case side1 => repeat (first | exact (Kd.R_reads' HO_5.out).2.2 | (with_reducible refine Kd.C_alloc ?_ _) | (with_reducible refine Kd.C_drewN ?_ _) | (with_reducible refine Kd.C_drew ?_))); (case side2 => exact (Kd.R_reads' HO_5.out).2.1); rintro e w60 ⟨v325, rfl, ho0, hb⟩; refine ⟨_, rfl, ?_⟩; have HO326 := Zq.i (Kd.R_lower (Kd.R_new' ho0 (Kd.R_lt dq72)) (below_size dq17)); replace HO_5 := Zq.i (Kd.R_elder' dq72 (Kd.R_base ho0) hb); replace HB := Zq.i (below_step dq17 hb); (try clear hb ho0)))
   go_ret
   exact ⟨_, dq21, by (with_reducible repeat (first | apply Kd.R_alloc | apply Kd.R_drewN | apply Kd.R_drew)); exact Kd.R_mono HO326.out (fun _ hk => trivial), dq17⟩
  rw [if_pos c5] at H
  have c5b0 := dT c5
  clear c5
  by_cases c6 : 0 ≤ x6_1
  rotate_left
  ·rw [if_neg c6] at H
   exact absurd H dq15
  rw [if_pos c6] at H
  have c6b0 := dT c6
  clear c6
  have HC7 := Zq.i H
  clear H
  have p327 : 0 ≤ (x6_1 : Int) := oT dq22
  have q327 : x6_1 < (l0.length : Int) := oT dq22
  obtain ⟨ad327, A327_2, c327_2, e327, hx327_0, hx327_1, hx327_2, hx327_3, hl327_2, hi327_2⟩ := at_T42 HR0.out x6_1 p327 q327
  cases e327
  replace hx327_0 := (HB.out.cell (bC w _ hx327_0)).trans hx327_0
  replace hx327_1 := (HB.out.cell (bC w _ hx327_1)).trans hx327_1
  replace hx327_2 := (HB.out.cell (bC w _ hx327_2)).trans hx327_2
  replace hx327_3 := (HB.out.cell (bC w _ hx327_3)).trans hx327_3
  have HR327_2 := Zq.i hi327_2
  have HC327_2 := Zq.i hl327_2
  clear hi327_2 hl327_2
  replace p327 := eq_true p327
  replace q327 := eq_true q327
  go_upto_region 6 with (first | ((with_reducible refine gate_dst (N := 7) rfl ?_); refine box_event ?hg (N := 7) ?hd (cs := #[.int .i64 0, .string (⟨#[]⟩ : ByteArray), .slice none 0 0, .int .i64 0]) (t := 42) ?hr ?_; (case hd => rfl); (case hg => rfl); (case hr => exact dq0); intro gb328 hg w8 hbox hb; replace HO_5 := Zq.i (Kd.R_below dq72 hb); have BK328 := Zq.i (hbox); have GW328 := Zq.i ((dq30 : w.heap.size ≤ gb328)); have GE328 := Zq.i ((dq30 : w.heap.size ≤ gb328)); replace HB := Zq.i (below_step dq17 hb); clear hb hbox hg; obtain ⟨⟨hcz9_0, hcz9_1, hcz9_2, hcz9_3⟩, hfz9_0, hfz9_1, hfz9_2, hfz9_3⟩ := blkC4 BK328.out))
  (try simp only [Act.put, List.setIfInBounds_toArray, List.set_cons_zero, List.set_cons_succ])
  go_cut [30] (fun v30 wc => ∃ (kq : Nat) (x30_6 : Bool), v30 = .bool x30_6 ∧ Zq (spec_l8Follow.j1 kq l0 a1 x5_1 x6_1 x30_6 ((rd_T42 l0 x6_1).f0) ((rd_T42 l0 x6_1).f1) ((rd_T42 l0 x6_1).f2) ((rd_T42 l0 x6_1).f3) = some r) ∧ Zq (kq ≤ k1) ∧ Zq (Kd.R (Kd.int .i64) 2 wc w.heap.size (fun _ => True) u5 x5_1) ∧ Zq (wc.heap[gb328]? = some (.cells #[.int .i64 ((rd_T42 l0 x6_1).f0), .string ((rd_T42 l0 x6_1).f1), (.slice A327_2 ((rd_T42 l0 x6_1).f2).length c327_2), .int .i64 ((rd_T42 l0 x6_1).f3)] 42 (0, 0))) ∧ Zq (Below w.heap.size w wc))
  case first =>
   have H := HC7.out
   clear HC7
   by_cases c10 : ((rd_T42 l0 x6_1).f3) ≥ 2
   rotate_left
   ·rw [if_neg c10] at H
    have c10b0 : decide (2 ≤ ((rd_T42 l0 x6_1).f3)) = false := dF c10
    clear c10
    (first | rw [c10b0] | (simp only [i64_w, i32_w]; rw [c10b0]) | skip)
    have H' := Zq.i H
    clear H
    obtain ⟨⟨hcz16_0, hcz16_1, hcz16_2, hcz16_3⟩, hfz16_0, hfz16_1, hfz16_2, hfz16_3⟩ := blkC4 BK328.out
    go_wp2
    go_meet
    case rel => exact ⟨_, (false), dq14, H', ⟨dq29⟩, ⟨by (with_reducible repeat (first | apply Kd.R_alloc | apply Kd.R_drewN | apply Kd.R_drew)); exact Kd.R_mono (Kd.R_far (p := ⟨gb328, 3, none⟩) (Kd.R_far (p := ⟨gb328, 2, none⟩) (Kd.R_far (p := ⟨gb328, 1, none⟩) (Kd.R_far (p := ⟨gb328, 0, none⟩) (Kd.R_types HO_5.out BK328.out dq25) (fun _ hk => hk.2) (.int .i64 ((rd_T42 l0 x6_1).f0))) (fun _ hk => hk.2) (.string ((rd_T42 l0 x6_1).f1))) (fun _ hk => hk.2) (.slice A327_2 ((rd_T42 l0 x6_1).f2).length c327_2)) (fun _ hk => hk.2) (.int .i64 ((rd_T42 l0 x6_1).f3))) (fun _ hk => trivial)⟩, ⟨dq74⟩, ⟨dq73⟩⟩
   rw [if_pos c10] at H
   have c10b0 : decide (2 ≤ ((rd_T42 l0 x6_1).f3)) = true := dT c10
   clear c10
   (first | rw [c10b0] | (simp only [i64_w, i32_w]; rw [c10b0]) | skip)
   replace H := bM H
   obtain ⟨t329, A110, H⟩ := H
   try dsimp only at H
   have A11 := Zq.i A110
   clear A110
   replace H := bM H
   obtain ⟨t332, A120, H⟩ := H
   try dsimp only at H
   have A12 := Zq.i A120
   clear A120
   have H' := Zq.i H
   clear H
   obtain ⟨⟨hcz13_0, hcz13_1, hcz13_2, hcz13_3⟩, hfz13_0, hfz13_1, hfz13_2, hfz13_3⟩ := blkC4 BK328.out
   go_wp2_with (first | (go_at_call 97; (with_reducible refine (spec_l8Edge.calls k1 _ _ l0 x6_1 true t329 _ ?side1 ?side2 A11.out).mono ?_); (case side1 => exact Kd.C_below HR0.out dq73); (case side2 => exact dq4); rintro e w14 ⟨v330, rfl, ho0, hb⟩; have HO331 := Zq.i (Kd.R_lower (Kd.R_new' ho0 (Kd.R_lt dq75)) (below_size dq73)); replace HO_5 := Zq.i (Kd.R_elder' dq75 (Kd.R_base ho0) hb); replace BK328 := Zq.i (blk_below (g := gb328) (o := .cells #[.int .i64 ((rd_T42 l0 x6_1).f0), .string ((rd_T42 l0 x6_1).f1), .slice A327_2 ((rd_T42 l0 x6_1).f2).length c327_2, .int .i64 ((rd_T42 l0 x6_1).f3)] 42 (0, 0)) dq74 hb); replace HB := Zq.i (below_step dq73 hb); (try clear hb ho0); obtain ⟨Ao15, co15, eo15⟩ := Kd.R_slice HO331.out; subst eo15) | (go_at_call 55; (with_reducible refine (spec_l8Has.calls k1 _ _ t329 a1 t332 _ ?side1 ?side2 A12.out).mono ?_); (case side1 => repeat (first | exact (Kd.R_reads' HO331.out).2.2 | (with_reducible refine Kd.C_alloc ?_ _) | (with_reducible refine Kd.C_drewN ?_ _) | (with_reducible refine Kd.C_drew ?_))); (case side2 => exact (Kd.R_reads' HO331.out).2.1); rintro e w' ⟨rfl, ⟨nd, rfl⟩⟩))
   go_meet
   case rel => exact ⟨_, (t332), dq14, H', ⟨dq29⟩, ⟨dq77⟩, ⟨dq76⟩, ⟨dq73⟩⟩
  clear HC7
  try clear c5b0
  try clear c6b0
  try clear hcz9_0
  try clear hcz9_1
  try clear hcz9_2
  try clear hcz9_3
  try clear hfz9_0
  try clear hfz9_1
  try clear hfz9_2
  try clear hfz9_3
  try clear hx327_0
  try clear hx327_1
  try clear hx327_2
  try clear hx327_3
  try clear p327
  try clear q327
  obtain ⟨kq, x30_6, rfl, HA, HJ6, HO_5, BK328, HB⟩ := hcut
  cases kq with
  | zero => exact absurd HA.out (by simp [spec_l8Follow.j1])
  | succ kj6 =>
   have H := HA.out
   clear HA
   simp only [spec_l8Follow.j1] at H
   have HC17 := Zq.i H
   clear H
   go_upto_if 30 with (fail)
   go_cut [5] (fun v5 wc => ∃ (kq : Nat) (x5_16 : List Int), Zq (spec_l8Follow.j2 kq l0 a1 x5_16 x6_1 ((rd_T42 l0 x6_1).f0) ((rd_T42 l0 x6_1).f1) ((rd_T42 l0 x6_1).f2) ((rd_T42 l0 x6_1).f3) = some r) ∧ Zq (kq ≤ kj6) ∧ Zq (Kd.R (Kd.int .i64) 2 wc w.heap.size (fun _ => True) v5 x5_16) ∧ Zq (wc.heap[gb328]? = some (.cells #[.int .i64 ((rd_T42 l0 x6_1).f0), .string ((rd_T42 l0 x6_1).f1), (.slice A327_2 ((rd_T42 l0 x6_1).f2).length c327_2), .int .i64 ((rd_T42 l0 x6_1).f3)] 42 (0, 0))) ∧ Zq (Below w.heap.size w wc))
   case first =>
    have H := HC17.out
    clear HC17
    by_cases c18 : x30_6 = true
    rotate_left
    ·replace c18 := Bool.eq_false_iff.mpr c18
     subst c18
     rw [iN] at H
     have H' := Zq.i H
     clear H
     go_wp2
     go_meet
     case rel => exact ⟨_, (x5_1), H', ⟨by have := HK1.out; have := HJ6.out; first | omega | exact Nat.le_refl _⟩, ⟨dq72⟩, ⟨dq76⟩, ⟨dq73⟩⟩
    subst c18
    rw [if_pos rfl] at H
    replace H := bM H
    obtain ⟨t333, A190, H⟩ := H
    try dsimp only at H
    have A19 := Zq.i A190
    clear A190
    by_cases c20 : x5_1.length + t333.length < 17592186044416
    rotate_left
    ·rw [if_neg c20] at H
     exact absurd H dq15
    rw [if_pos c20] at H
    have LMc20 := Zq.i c20
    clear c20
    obtain ⟨y336, hy336⟩ : ∃ y_ : List Int, y_ = (x5_1 ++ t333) := ⟨_, rfl⟩
    replace H : (spec_l8Follow.j2 kj6 l0 a1 y336 x6_1 ((rd_T42 l0 x6_1).f0) ((rd_T42 l0 x6_1).f1) ((rd_T42 l0 x6_1).f2) ((rd_T42 l0 x6_1).f3)) = some r := by first | (rw [hy336]; with_reducible exact H) | (have H2_ := oS H; rw [hy336]; with_reducible exact H2_) | (have H2_ := oS H; with_reducible exact H2_) | with_reducible exact H | (rw [hy336]; exact H) | exact H
    have Ny336 := Zq.i hy336
    clear hy336
    have H' := Zq.i H
    clear H
    go_wp2_with (first | ((with_reducible refine gate_callee (f := 97) rfl ?_); refine goesL_ (some 34) rfl rfl Try.func97 dq24 rfl #[.slice (some ad327) l0.length c0, .int .i64 x6_1, .bool false] rfl dq23 ?_; (with_reducible refine (spec_l8Edge.calls kj6 _ _ l0 x6_1 false t333 _ ?side1 ?side2 A19.out).mono ?_); (case side1 => exact dq5); (case side2 => exact dq4); rintro e w21 ⟨v334, rfl, ho0, hb⟩; refine ⟨_, rfl, ?_⟩; have HO335 := Zq.i (Kd.R_lower (Kd.R_new' ho0 (Kd.R_lt dq72)) (below_size dq73)); replace HO_5 := Zq.i (Kd.R_elder' dq72 (Kd.R_base ho0) hb); replace BK328 := Zq.i (blk_below (g := gb328) (o := .cells #[.int .i64 ((rd_T42 l0 x6_1).f0), .string ((rd_T42 l0 x6_1).f1), .slice A327_2 ((rd_T42 l0 x6_1).f2).length c327_2, .int .i64 ((rd_T42 l0 x6_1).f3)] 42 (0, 0)) dq76 hb); replace HB := Zq.i (below_step dq73 hb); (try clear hb ho0); obtain ⟨Ao23, co23, eo23⟩ := Kd.R_slice HO335.out; subst eo23) | ((with_reducible refine gate_builtin (b := .append) (xs := #[.tmp 31, .tmp 34]) rfl ?_); at_builtin; refine Kd.R_append_rows (Kd.int .i64) (w0 := w) w.heap.size rfl (.tmp 31) (.tmp 34) 33 2 (.int .i64 0) 8 rfl Try.underlying33 info2 rfl dq25 dq28 u5 x5_1 t333 _ _ _ (fun k_ => some k_ ≠ (.slice Ao23 t333.length co23 : Value).ownBlock) (fun _ => False) rfl rfl ?aO ?aR (fun _ _ h => h) (fun _ h => h.elim) ?aF ?aB ?aS ?aL ?_; (case aR => repeat (first | exact (Kd.R_reads' HO335.out).2.2 | (with_reducible refine Kd.C_alloc ?_ _) | (with_reducible refine Kd.C_drewN ?_ _) | (with_reducible refine Kd.C_drew ?_))); (case aB => exact dq73); (case aF => exact (fun k_ hk => Kd.fresh' (Kd.R_lt (by (with_reducible repeat (first | apply Kd.R_alloc | apply Kd.R_drewN | apply Kd.R_drew)); exact HO335.out)) k_ hk)); (case aO => exact dq78); (case aS => exact (below_size dq73)); (case aL => have := LMc20.out; omega); intro v337 w22 ho hb hg hat; rw [← Ny336.out] at ho; replace BK328 := Zq.i (blk_grown (g := gb328) (o := .cells #[.int .i64 ((rd_T42 l0 x6_1).f0), .string ((rd_T42 l0 x6_1).f1), .slice A327_2 ((rd_T42 l0 x6_1).f2).length c327_2, .int .i64 ((rd_T42 l0 x6_1).f3)] 42 (0, 0)) dq76 hg (Kd.R_ne HO_5.out BK328.out dq25)); replace HO335 := Zq.i (Kd.R_after (ok := (fun _ => True)) (by (with_reducible repeat (first | apply Kd.R_alloc | apply Kd.R_drewN | apply Kd.R_drew)); exact HO335.out) hg hat); replace HB := Zq.i (hb); have HO338 := Zq.i (ho); clear HO_5; clear ho hb hg hat))
    go_meet
    case rel => exact ⟨_, (y336), H', ⟨by have := HK1.out; have := HJ6.out; first | omega | exact Nat.le_refl _⟩, ⟨by (with_reducible repeat (first | apply Kd.R_alloc | apply Kd.R_drewN | apply Kd.R_drew)); exact Kd.R_mono HO338.out (fun _ hk => trivial)⟩, ⟨dq76⟩, ⟨dq73⟩⟩
   clear HC17
   obtain ⟨kq, x5_16, HA, HJ16, HO_5, BK328, HB⟩ := hcut
   cases kq with
   | zero => exact absurd HA.out (by simp [spec_l8Follow.j2])
   | succ kj16 =>
    have H := HA.out
    clear HA
    simp only [spec_l8Follow.j2] at H
    by_cases c24 : ((rd_T42 l0 x6_1).f0) = 2
    rotate_left
    ·rw [if_neg c24] at H
     have c24b0 := bN c24
     have c24b1 := bO c24
     have H' := Zq.i H
     clear H
     obtain ⟨⟨hcz57_0, hcz57_1, hcz57_2, hcz57_3⟩, hfz57_0, hfz57_1, hfz57_2, hfz57_3⟩ := blkC4 BK328.out
     go_wp2
     go_roundg kj16
     case measure => have := HK1.out; have := HJ6.out; have := HJ16.out; omega
     case rel => exact ⟨(x5_16), (wrap64 (x6_1 + 1)), dq14, H', ⟨by have := HK1.out; have := HJ6.out; have := HJ16.out; omega⟩, ⟨dq72⟩, ⟨dq73⟩⟩
    rw [if_pos c24] at H
    have c24b0 := bE c24
    have c24b1 := bQ c24
    clear c24
    have H' := Zq.i H
    clear H
    obtain ⟨⟨hcz25_0, hcz25_1, hcz25_2, hcz25_3⟩, hfz25_0, hfz25_1, hfz25_2, hfz25_3⟩ := blkC4 BK328.out
    go_wp2
    go_loopg [5, 8] kj16 (fun kq v5 v8 w' => ∃ (x5_4 : List Int) (x8_4 : Int), v8 = .int .i64 x8_4 ∧ Zq (spec_l8Follow.l1 kq l0 a1 x5_4 x6_1 x8_4 ((rd_T42 l0 x6_1).f0) ((rd_T42 l0 x6_1).f1) ((rd_T42 l0 x6_1).f2) ((rd_T42 l0 x6_1).f3) = some r) ∧ Zq (kq ≤ kj16) ∧ Zq (Kd.R (Kd.int .i64) 2 w' w.heap.size (fun _ => True) v5 x5_4) ∧ Zq (w'.heap[gb328]? = some (.cells #[.int .i64 ((rd_T42 l0 x6_1).f0), .string ((rd_T42 l0 x6_1).f1), (.slice A327_2 ((rd_T42 l0 x6_1).f2).length c327_2), .int .i64 ((rd_T42 l0 x6_1).f3)] 42 (0, 0))) ∧ Zq (Below w.heap.size w w'))
    case atStart => exact ⟨(x5_16), (0), dq14, H', ⟨Nat.le_refl _⟩, ⟨dq72⟩, ⟨dq76⟩, ⟨dq73⟩⟩
    clear H'
    try clear c24b0
    try clear c24b1
    try clear hcz25_0
    try clear hcz25_1
    try clear hcz25_2
    try clear hcz25_3
    try clear hfz25_0
    try clear hfz25_1
    try clear hfz25_2
    try clear hfz25_3
    obtain ⟨x5_4, x8_4, rfl, HA, HK4, HO_5, BK328, HB⟩ := hrel
    cases gk with
    | zero => exact absurd HA.out (by simp [spec_l8Follow.l1])
    | succ k4 =>
     have H := HA.out
     clear HA
     simp only [spec_l8Follow.l1] at H
     by_cases c26 : x8_4 < (((rd_T42 l0 x6_1).f2).length : Int)
     rotate_left
     ·rw [if_neg c26] at H
      have c26b0 := dF c26
      clear c26
      have H' := Zq.i H
      clear H
      obtain ⟨⟨hcz56_0, hcz56_1, hcz56_2, hcz56_3⟩, hfz56_0, hfz56_1, hfz56_2, hfz56_3⟩ := blkC4 BK328.out
      go_wp2
      go_roundg k4
      case measure => have := HK1.out; have := HJ6.out; have := HJ16.out; have := HK4.out; omega
      case rel => exact ⟨(x5_4), (wrap64 (x6_1 + 1)), dq14, H', ⟨by have := HK1.out; have := HJ6.out; have := HJ16.out; have := HK4.out; omega⟩, ⟨dq72⟩, ⟨dq73⟩⟩
     rw [if_pos c26] at H
     have c26b0 := dT c26
     clear c26
     by_cases c27 : 0 ≤ x8_4
     rotate_left
     ·rw [if_neg c27] at H
      exact absurd H dq15
     rw [if_pos c27] at H
     have c27b0 := dT c27
     clear c27
     replace H := bM H
     obtain ⟨t340, A280, H⟩ := H
     try dsimp only at H
     have A28 := Zq.i A280
     clear A280
     replace H := bM H
     obtain ⟨t343, A290, H⟩ := H
     try dsimp only at H
     have A29 := Zq.i A290
     clear A290
     by_cases c30 : t343 = true
     rotate_left
     ·replace c30 := Bool.eq_false_iff.mpr c30
      subst c30
      rw [iN] at H
      have H' := Zq.i H
      clear H
      obtain ⟨⟨hcz53_0, hcz53_1, hcz53_2, hcz53_3⟩, hfz53_0, hfz53_1, hfz53_2, hfz53_3⟩ := blkC4 BK328.out
      have p339 : 0 ≤ (x8_4 : Int) := oT dq22
      have q339 : x8_4 < (((rd_T42 l0 x6_1).f2).length : Int) := oT dq22
      obtain ⟨ad339, e339, hx339_0⟩ := Kd.at_int HR327_2.out x8_4 p339 q339
      cases e339
      replace hx339_0 := (HB.out.cell (bC w _ hx339_0)).trans hx339_0
      replace p339 := eq_true p339
      replace q339 := eq_true q339
      go_wp2_with (first | ((with_reducible refine gate_callee (f := 97) rfl ?_); refine goesL_ (some 52) rfl rfl Try.func97 dq24 rfl #[.slice (some ad327) l0.length c0, .int .i64 (rd ((rd_T42 l0 x6_1).f2) x8_4), .bool true] rfl dq23 ?_; (with_reducible refine (spec_l8Edge.calls k4 _ _ l0 (rd ((rd_T42 l0 x6_1).f2) x8_4) true t340 _ ?side1 ?side2 A28.out).mono ?_); (case side1 => exact dq5); (case side2 => exact dq4); rintro e w54 ⟨v341, rfl, ho0, hb⟩; refine ⟨_, rfl, ?_⟩; have HO342 := Zq.i (Kd.R_lower (Kd.R_new' ho0 (Kd.R_lt dq72)) (below_size dq73)); replace HO_5 := Zq.i (Kd.R_elder' dq72 (Kd.R_base ho0) hb); replace BK328 := Zq.i (blk_below (g := gb328) (o := .cells #[.int .i64 ((rd_T42 l0 x6_1).f0), .string ((rd_T42 l0 x6_1).f1), .slice (some ad339) ((rd_T42 l0 x6_1).f2).length c327_2, .int .i64 ((rd_T42 l0 x6_1).f3)] 42 (0, 0)) dq76 hb); replace HB := Zq.i (below_step dq73 hb); (try clear hb ho0); obtain ⟨Ao55, co55, eo55⟩ := Kd.R_slice HO342.out; subst eo55) | ((with_reducible refine gate_callee (f := 55) rfl ?_); refine goesL_ (some 54) rfl rfl Try.func55 dq24 rfl #[.slice Ao55 t340.length co55, .int .i64 a1] rfl dq23 ?_; (with_reducible refine (spec_l8Has.calls k4 _ _ t340 a1 false _ ?side1 ?side2 A29.out).mono ?_); (case side1 => repeat (first | exact (Kd.R_reads' HO342.out).2.2 | (with_reducible refine Kd.C_alloc ?_ _) | (with_reducible refine Kd.C_drewN ?_ _) | (with_reducible refine Kd.C_drew ?_))); (case side2 => exact (Kd.R_reads' HO342.out).2.1); rintro e w' ⟨rfl, ⟨nd, rfl⟩⟩; refine ⟨_, rfl, ?_⟩))
      go_roundg k4
      case measure => have := HK1.out; have := HJ6.out; have := HJ16.out; have := HK4.out; omega
      case rel => exact ⟨(x5_4), (wrap64 (x8_4 + 1)), dq14, H', ⟨by have := HK1.out; have := HJ6.out; have := HJ16.out; have := HK4.out; omega⟩, ⟨dq77⟩, ⟨dq76⟩, ⟨dq73⟩⟩
     subst c30
     rw [if_pos rfl] at H
     have H' := Zq.i H
     clear H
     obtain ⟨⟨hcz31_0, hcz31_1, hcz31_2, hcz31_3⟩, hfz31_0, hfz31_1, hfz31_2, hfz31_3⟩ := blkC4 BK328.out
     have p339 : 0 ≤ (x8_4 : Int) := oT dq22
     have q339 : x8_4 < (((rd_T42 l0 x6_1).f2).length : Int) := oT dq22
     obtain ⟨ad339, e339, hx339_0⟩ := Kd.at_int HR327_2.out x8_4 p339 q339
     cases e339
     replace hx339_0 := (HB.out.cell (bC w _ hx339_0)).trans hx339_0
     replace p339 := eq_true p339
     replace q339 := eq_true q339
     go_wp2_with (first | ((with_reducible refine gate_callee (f := 97) rfl ?_); refine goesL_ (some 52) rfl rfl Try.func97 dq24 rfl #[.slice (some ad327) l0.length c0, .int .i64 (rd ((rd_T42 l0 x6_1).f2) x8_4), .bool true] rfl dq23 ?_; (with_reducible refine (spec_l8Edge.calls k4 _ _ l0 (rd ((rd_T42 l0 x6_1).f2) x8_4) true t340 _ ?side1 ?side2 A28.out).mono ?_); (case side1 => exact dq5); (case side2 => exact dq4); rintro e w32 ⟨v341, rfl, ho0, hb⟩; refine ⟨_, rfl, ?_⟩; have HO342 := Zq.i (Kd.R_lower (Kd.R_new' ho0 (Kd.R_lt dq72)) (below_size dq73)); replace HO_5 := Zq.i (Kd.R_elder' dq72 (Kd.R_base ho0) hb); replace BK328 := Zq.i (blk_below (g := gb328) (o := .cells #[.int .i64 ((rd_T42 l0 x6_1).f0), .string ((rd_T42 l0 x6_1).f1), .slice (some ad339) ((rd_T42 l0 x6_1).f2).length c327_2, .int .i64 ((rd_T42 l0 x6_1).f3)] 42 (0, 0)) dq76 hb); replace HB := Zq.i (below_step dq73 hb); (try clear hb ho0); obtain ⟨Ao33, co33, eo33⟩ := Kd.R_slice HO342.out; subst eo33) | ((with_reducible refine gate_callee (f := 55) rfl ?_); refine goesL_ (some 54) rfl rfl Try.func55 dq24 rfl #[.slice Ao33 t340.length co33, .int .i64 a1] rfl dq23 ?_; (with_reducible refine (spec_l8Has.calls k4 _ _ t340 a1 true _ ?side1 ?side2 A29.out).mono ?_); (case side1 => repeat (first | exact (Kd.R_reads' HO342.out).2.2 | (with_reducible refine Kd.C_alloc ?_ _) | (with_reducible refine Kd.C_drewN ?_ _) | (with_reducible refine Kd.C_drew ?_))); (case side2 => exact (Kd.R_reads' HO342.out).2.1); rintro e w' ⟨rfl, ⟨nd, rfl⟩⟩; refine ⟨_, rfl, ?_⟩))
     go_loopg [5, 9] k4 (fun kq v5 v9 w' => ∃ (x5_5 : List Int) (x9_5 : Int), v9 = .int .i64 x9_5 ∧ Zq (spec_l8Follow.l2 kq l0 a1 x5_5 x6_1 x8_4 x9_5 ((rd_T42 l0 x6_1).f0) ((rd_T42 l0 x6_1).f1) ((rd_T42 l0 x6_1).f2) ((rd_T42 l0 x6_1).f3) = some r) ∧ Zq (kq ≤ k4) ∧ Zq (Kd.R (Kd.int .i64) 2 w' w.heap.size (fun _ => True) v5 x5_5) ∧ Zq (w'.heap[gb328]? = some (.cells #[.int .i64 ((rd_T42 l0 x6_1).f0), .string ((rd_T42 l0 x6_1).f1), (.slice (some ad339) ((rd_T42 l0 x6_1).f2).length c327_2), .int .i64 ((rd_T42 l0 x6_1).f3)] 42 (0, 0))) ∧ Zq (Below w.heap.size w w'))
     case atStart => exact ⟨(x5_4), (wrap64 (x8_4 + 1)), dq14, H', ⟨Nat.le_refl _⟩, ⟨dq77⟩, ⟨dq76⟩, ⟨dq73⟩⟩
     clear H'
     try clear c26b0
     try clear c27b0
     try clear hcz31_0
     try clear hcz31_1
     try clear hcz31_2
     try clear hcz31_3
     try clear hfz31_0
     try clear hfz31_1
     try clear hfz31_2
     try clear hfz31_3
     try clear hx339_0
     try clear p339
     try clear q339
     obtain ⟨x5_5, x9_5, rfl, HA, HK5, HO_5, BK328, HB⟩ := hrel
     cases gk with
     | zero => exact absurd HA.out (by simp [spec_l8Follow.l2])
     | succ k5 =>
      have H := HA.out
      clear HA
      simp only [spec_l8Follow.l2] at H
      by_cases c34 : x9_5 < (((rd_T42 l0 x6_1).f2).length : Int)
      rotate_left
      ·rw [if_neg c34] at H
       have c34b0 := dF c34
       clear c34
       have H' := Zq.i H
       clear H
       obtain ⟨⟨hcz52_0, hcz52_1, hcz52_2, hcz52_3⟩, hfz52_0, hfz52_1, hfz52_2, hfz52_3⟩ := blkC4 BK328.out
       go_wp2
       go_roundg k5
       case measure => have := HK1.out; have := HJ6.out; have := HJ16.out; have := HK4.out; have := HK5.out; omega
       case rel => exact ⟨(x5_5), (wrap64 (x8_4 + 1)), dq14, H', ⟨dq81⟩, ⟨dq72⟩, ⟨dq76⟩, ⟨dq73⟩⟩
      rw [if_pos c34] at H
      have c34b0 := dT c34
      clear c34
      by_cases c35 : 0 ≤ x9_5
      rotate_left
      ·rw [if_neg c35] at H
       exact absurd H dq15
      rw [if_pos c35] at H
      have c35b0 := dT c35
      clear c35
      replace H := bM H
      obtain ⟨t345, A360, H⟩ := H
      try dsimp only at H
      have A36 := Zq.i A360
      clear A360
      by_cases c37 : x5_5.length + t345.length < 17592186044416
      rotate_left
      ·rw [if_neg c37] at H
       exact absurd H dq15
      rw [if_pos c37] at H
      have LMc37 := Zq.i c37
      clear c37
      obtain ⟨y348, hy348⟩ : ∃ y_ : List Int, y_ = (x5_5 ++ t345) := ⟨_, rfl⟩
      replace H : ((spec_l8Null.f k5 l0 (rd ((rd_T42 l0 x6_1).f2) x9_5)).bind fun t352 => (if t352 = true then (spec_l8Follow.l2 k5 l0 a1 y348 x6_1 x8_4 (wrap64 (x9_5 + 1)) ((rd_T42 l0 x6_1).f0) ((rd_T42 l0 x6_1).f1) ((rd_T42 l0 x6_1).f2) ((rd_T42 l0 x6_1).f3)) else (spec_l8Follow.l1 k5 l0 a1 y348 x6_1 (wrap64 (x8_4 + 1)) ((rd_T42 l0 x6_1).f0) ((rd_T42 l0 x6_1).f1) ((rd_T42 l0 x6_1).f2) ((rd_T42 l0 x6_1).f3)))) = some r := by first | (rw [hy348]; with_reducible exact H) | (have H2_ := oS H; rw [hy348]; with_reducible exact H2_) | (have H2_ := oS H; with_reducible exact H2_) | with_reducible exact H | (rw [hy348]; exact H) | exact H
      have Ny348 := Zq.i hy348
      clear hy348
      replace H := bM H
      obtain ⟨t352, A380, H⟩ := H
      try dsimp only at H
      have A38 := Zq.i A380
      clear A380
      by_cases c39 : t352 = true
      ·subst c39
       rw [if_pos rfl] at H
       have H' := Zq.i H
       clear H
       obtain ⟨⟨hcz40_0, hcz40_1, hcz40_2, hcz40_3⟩, hfz40_0, hfz40_1, hfz40_2, hfz40_3⟩ := blkC4 BK328.out
       have p344 : 0 ≤ (x9_5 : Int) := oT dq22
       have q344 : x9_5 < (((rd_T42 l0 x6_1).f2).length : Int) := oT dq22
       obtain ⟨ad344, e344, hx344_0⟩ := Kd.at_int HR327_2.out x9_5 p344 q344
       obtain rfl : ad339 = ad344 := (by injection e344)
       replace hx344_0 := (HB.out.cell (bC w _ hx344_0)).trans hx344_0
       replace p344 := eq_true p344
       replace q344 := eq_true q344
       go_wp2_with (first | ((with_reducible refine gate_callee (f := 97) rfl ?_); refine goesL_ (some 72) rfl rfl Try.func97 dq24 rfl #[.slice (some ad327) l0.length c0, .int .i64 (rd ((rd_T42 l0 x6_1).f2) x9_5), .bool false] rfl dq23 ?_; (with_reducible refine (spec_l8Edge.calls k5 _ _ l0 (rd ((rd_T42 l0 x6_1).f2) x9_5) false t345 _ ?side1 ?side2 A36.out).mono ?_); (case side1 => exact dq5); (case side2 => exact dq4); rintro e w41 ⟨v346, rfl, ho0, hb⟩; refine ⟨_, rfl, ?_⟩; have HO347 := Zq.i (Kd.R_lower (Kd.R_new' ho0 (Kd.R_lt dq72)) (below_size dq73)); replace HO_5 := Zq.i (Kd.R_elder' dq72 (Kd.R_base ho0) hb); replace BK328 := Zq.i (blk_below (g := gb328) (o := .cells #[.int .i64 ((rd_T42 l0 x6_1).f0), .string ((rd_T42 l0 x6_1).f1), .slice (some ad339) ((rd_T42 l0 x6_1).f2).length c327_2, .int .i64 ((rd_T42 l0 x6_1).f3)] 42 (0, 0)) dq76 hb); replace HB := Zq.i (below_step dq73 hb); (try clear hb ho0); obtain ⟨Ao43, co43, eo43⟩ := Kd.R_slice HO347.out; subst eo43) | ((with_reducible refine gate_builtin (b := .append) (xs := #[.tmp 65, .tmp 72]) rfl ?_); at_builtin; refine Kd.R_append_rows (Kd.int .i64) (w0 := w) w.heap.size rfl (.tmp 65) (.tmp 72) 33 2 (.int .i64 0) 8 rfl Try.underlying33 info2 rfl dq25 dq28 u5 x5_5 t345 _ _ _ (fun k_ => some k_ ≠ (.slice Ao43 t345.length co43 : Value).ownBlock) (fun _ => False) rfl rfl ?aO ?aR (fun _ _ h => h) (fun _ h => h.elim) ?aF ?aB ?aS ?aL ?_; (case aR => repeat (first | exact (Kd.R_reads' HO347.out).2.2 | (with_reducible refine Kd.C_alloc ?_ _) | (with_reducible refine Kd.C_drewN ?_ _) | (with_reducible refine Kd.C_drew ?_))); (case aB => exact dq73); (case aF => exact (fun k_ hk => Kd.fresh' (Kd.R_lt dq79) k_ hk)); (case aO => exact dq78); (case aS => exact (below_size dq73)); (case aL => have := LMc37.out; omega); intro v349 w42 ho hb hg hat; rw [← Ny348.out] at ho; replace BK328 := Zq.i (blk_grown (g := gb328) (o := .cells #[.int .i64 ((rd_T42 l0 x6_1).f0), .string ((rd_T42 l0 x6_1).f1), .slice (some ad339) ((rd_T42 l0 x6_1).f2).length c327_2, .int .i64 ((rd_T42 l0 x6_1).f3)] 42 (0, 0)) dq76 hg (Kd.R_ne HO_5.out BK328.out dq25)); replace HO347 := Zq.i (Kd.R_after (ok := (fun _ => True)) dq79 hg hat); replace HB := Zq.i (hb); have HO350 := Zq.i (ho); clear HO_5; clear ho hb hg hat; obtain ⟨⟨hcz44_0, hcz44_1, hcz44_2, hcz44_3⟩, hfz44_0, hfz44_1, hfz44_2, hfz44_3⟩ := blkC4 BK328.out; have p351 : 0 ≤ (x9_5 : Int) := oT dq22; have q351 : x9_5 < (((rd_T42 l0 x6_1).f2).length : Int) := oT dq22; obtain ⟨ad351, e351, hx351_0⟩ := Kd.at_int HR327_2.out x9_5 p351 q351; obtain rfl : ad339 = ad351 := (by injection e351); replace hx351_0 := (HB.out.cell (bC w _ hx351_0)).trans hx351_0; replace p351 := eq_true p351; replace q351 := eq_true q351) | ((with_reducible refine gate_callee (f := 98) rfl ?_); refine goesL_ (some 80) rfl rfl Try.func98 dq24 rfl #[.slice (some ad327) l0.length c0, .int .i64 (rd ((rd_T42 l0 x6_1).f2) x9_5)] rfl dq23 ?_; (with_reducible refine (spec_l8Null.calls k5 _ _ l0 (rd ((rd_T42 l0 x6_1).f2) x9_5) true _ ?side1 ?side2 A38.out).mono ?_); (case side1 => exact dq5); (case side2 => exact dq4); rintro e w45 ⟨rfl, hb⟩; refine ⟨_, rfl, ?_⟩; replace HO347 := Zq.i (Kd.R_below dq79 hb); replace HO350 := Zq.i (Kd.R_below (by (with_reducible repeat (first | apply Kd.R_alloc | apply Kd.R_drewN | apply Kd.R_drew)); exact HO350.out) hb); replace BK328 := Zq.i (blk_below (g := gb328) (o := .cells #[.int .i64 ((rd_T42 l0 x6_1).f0), .string ((rd_T42 l0 x6_1).f1), .slice (some ad339) ((rd_T42 l0 x6_1).f2).length c327_2, .int .i64 ((rd_T42 l0 x6_1).f3)] 42 (0, 0)) dq76 hb); replace HB := Zq.i (below_step dq73 hb); (try clear hb)))
       go_roundg k5
       case measure => have := HK1.out; have := HJ6.out; have := HJ16.out; have := HK4.out; have := HK5.out; omega
       case rel => exact ⟨(y348), (wrap64 (x9_5 + 1)), dq14, H', ⟨dq81⟩, ⟨dq80⟩, ⟨dq76⟩, ⟨dq73⟩⟩
      replace c39 := Bool.eq_false_iff.mpr c39
      subst c39
      rw [iN] at H
      have H' := Zq.i H
      clear H
      obtain ⟨⟨hcz46_0, hcz46_1, hcz46_2, hcz46_3⟩, hfz46_0, hfz46_1, hfz46_2, hfz46_3⟩ := blkC4 BK328.out
      have p344 : 0 ≤ (x9_5 : Int) := oT dq22
      have q344 : x9_5 < (((rd_T42 l0 x6_1).f2).length : Int) := oT dq22
      obtain ⟨ad344, e344, hx344_0⟩ := Kd.at_int HR327_2.out x9_5 p344 q344
      obtain rfl : ad339 = ad344 := (by injection e344)
      replace hx344_0 := (HB.out.cell (bC w _ hx344_0)).trans hx344_0
      replace p344 := eq_true p344
      replace q344 := eq_true q344
      go_wp2_with (first | ((with_reducible refine gate_callee (f := 97) rfl ?_); refine goesL_ (some 72) rfl rfl Try.func97 dq24 rfl #[.slice (some ad327) l0.length c0, .int .i64 (rd ((rd_T42 l0 x6_1).f2) x9_5), .bool false] rfl dq23 ?_; (with_reducible refine (spec_l8Edge.calls k5 _ _ l0 (rd ((rd_T42 l0 x6_1).f2) x9_5) false t345 _ ?side1 ?side2 A36.out).mono ?_); (case side1 => exact dq5); (case side2 => exact dq4); rintro e w47 ⟨v346, rfl, ho0, hb⟩; refine ⟨_, rfl, ?_⟩; have HO347 := Zq.i (Kd.R_lower (Kd.R_new' ho0 (Kd.R_lt dq72)) (below_size dq73)); replace HO_5 := Zq.i (Kd.R_elder' dq72 (Kd.R_base ho0) hb); replace BK328 := Zq.i (blk_below (g := gb328) (o := .cells #[.int .i64 ((rd_T42 l0 x6_1).f0), .string ((rd_T42 l0 x6_1).f1), .slice (some ad339) ((rd_T42 l0 x6_1).f2).length c327_2, .int .i64 ((rd_T42 l0 x6_1).f3)] 42 (0, 0)) dq76 hb); replace HB := Zq.i (below_step dq73 hb); (try clear hb ho0); obtain ⟨Ao49, co49, eo49⟩ := Kd.R_slice HO347.out; subst eo49) | ((with_reducible refine gate_builtin (b := .append) (xs := #[.tmp 65, .tmp 72]) rfl ?_); at_builtin; refine Kd.R_append_rows (Kd.int .i64) (w0 := w) w.heap.size rfl (.tmp 65) (.tmp 72) 33 2 (.int .i64 0) 8 rfl Try.underlying33 info2 rfl dq25 dq28 u5 x5_5 t345 _ _ _ (fun k_ => some k_ ≠ (.slice Ao49 t345.length co49 : Value).ownBlock) (fun _ => False) rfl rfl ?aO ?aR (fun _ _ h => h) (fun _ h => h.elim) ?aF ?aB ?aS ?aL ?_; (case aR => repeat (first | exact (Kd.R_reads' HO347.out).2.2 | (with_reducible refine Kd.C_alloc ?_ _) | (with_reducible refine Kd.C_drewN ?_ _) | (with_reducible refine Kd.C_drew ?_))); (case aB => exact dq73); (case aF => exact (fun k_ hk => Kd.fresh' (Kd.R_lt dq79) k_ hk)); (case aO => exact dq78); (case aS => exact (below_size dq73)); (case aL => have := LMc37.out; omega); intro v349 w48 ho hb hg hat; rw [← Ny348.out] at ho; replace BK328 := Zq.i (blk_grown (g := gb328) (o := .cells #[.int .i64 ((rd_T42 l0 x6_1).f0), .string ((rd_T42 l0 x6_1).f1), .slice (some ad339) ((rd_T42 l0 x6_1).f2).length c327_2, .int .i64 ((rd_T42 l0 x6_1).f3)] 42 (0, 0)) dq76 hg (Kd.R_ne HO_5.out BK328.out dq25)); replace HO347 := Zq.i (Kd.R_after (ok := (fun _ => True)) dq79 hg hat); replace HB := Zq.i (hb); have HO350 := Zq.i (ho); clear HO_5; clear ho hb hg hat; obtain ⟨⟨hcz50_0, hcz50_1, hcz50_2, hcz50_3⟩, hfz50_0, hfz50_1, hfz50_2, hfz50_3⟩ := blkC4 BK328.out; have p351 : 0 ≤ (x9_5 : Int) := oT dq22; have q351 : x9_5 < (((rd_T42 l0 x6_1).f2).length : Int) := oT dq22; obtain ⟨ad351, e351, hx351_0⟩ := Kd.at_int HR327_2.out x9_5 p351 q351; obtain rfl : ad339 = ad351 := (by injection e351); replace hx351_0 := (HB.out.cell (bC w _ hx351_0)).trans hx351_0; replace p351 := eq_true p351; replace q351 := eq_true q351) | ((with_reducible refine gate_callee (f := 98) rfl ?_); refine goesL_ (some 80) rfl rfl Try.func98 dq24 rfl #[.slice (some ad327) l0.length c0, .int .i64 (rd ((rd_T42 l0 x6_1).f2) x9_5)] rfl dq23 ?_; (with_reducible refine (spec_l8Null.calls k5 _ _ l0 (rd ((rd_T42 l0 x6_1).f2) x9_5) false _ ?side1 ?side2 A38.out).mono ?_); (case side1 => exact dq5); (case side2 => exact dq4); rintro e w51 ⟨rfl, hb⟩; refine ⟨_, rfl, ?_⟩; replace HO347 := Zq.i (Kd.R_below dq79 hb); replace HO350 := Zq.i (Kd.R_below (by (with_reducible repeat (first | apply Kd.R_alloc | apply Kd.R_drewN | apply Kd.R_drew)); exact HO350.out) hb); replace BK328 := Zq.i (blk_below (g := gb328) (o := .cells #[.int .i64 ((rd_T42 l0 x6_1).f0), .string ((rd_T42 l0 x6_1).f1), .slice (some ad339) ((rd_T42 l0 x6_1).f2).length c327_2, .int .i64 ((rd_T42 l0 x6_1).f3)] 42 (0, 0)) dq76 hb); replace HB := Zq.i (below_step dq73 hb); (try clear hb)))
      go_roundg k5
      case measure => have := HK1.out; have := HJ6.out; have := HJ16.out; have := HK4.out; have := HK5.out; omega
      case rel => exact ⟨(y348), (wrap64 (x8_4 + 1)), dq14, H', ⟨dq81⟩, ⟨dq80⟩, ⟨dq76⟩, ⟨dq73⟩⟩

/-! ### spec_l1Rd_name: function 107 -/
def spec_l1Rd_name.f (s0_0 : List Int) (s0_1 : Int) : Option (ByteArray × Int) := (some (([(⟨#[97]⟩ : ByteArray), (⟨#[98]⟩ : ByteArray), (⟨#[99]⟩ : ByteArray), (⟨#[100]⟩ : ByteArray), (⟨#[120, 49]⟩ : ByteArray), (⟨#[95, 121]⟩ : ByteArray), (⟨#[97, 46, 98, 45, 99]⟩ : ByteArray)] : List ByteArray) : List ByteArray)).bind fun y353 => ((spec_l1Rd_below.f s0_0 s0_1 7).bind fun bt356 => (if 0 ≤ bt356.1 then (if bt356.1 < (y353.length : Int) then (some (rdOf ByteArray.empty y353 bt356.1, bt356.2)) else (none)) else (none)))
theorem spec_l1Rd_name.calls (g : Nat) (s0_0 : List Int) (s0_1 : Int) (r1 : ByteArray) (r2 : Int) (w0 w : World) (hI : IsS101 w0 w g s0_0 s0_1) (hB : Below w0.heap.size w0 w) (h : spec_l1Rd_name.f s0_0 s0_1 = some (r1, r2)) :
  Calls Try.prog 107 #[.pointer (some ⟨g, 0, none⟩)] w fun e w' => e = .returned (.string r1) ∧ IsS101 w0 w' g s0_0 r2 ∧ Below w0.heap.size w0 w' ∧ KeepBut w w' g none := by
 have HI0 := Zq.i hI
 have HK := Zq.i (KeepBut.refl w g none)
 have HL := Zq.i hB.size
 clear hI
 have HW0 := Zq.i hB.size
 have HB := Zq.i hB
 clear hB
 have H : ((some (([(⟨#[97]⟩ : ByteArray), (⟨#[98]⟩ : ByteArray), (⟨#[99]⟩ : ByteArray), (⟨#[100]⟩ : ByteArray), (⟨#[120, 49]⟩ : ByteArray), (⟨#[95, 121]⟩ : ByteArray), (⟨#[97, 46, 98, 45, 99]⟩ : ByteArray)] : List ByteArray) : List ByteArray)).bind fun y353 => ((spec_l1Rd_below.f s0_0 s0_1 7).bind fun bt356 => (if 0 ≤ bt356.1 then (if bt356.1 < (y353.length : Int) then (some (rdOf ByteArray.empty y353 bt356.1, bt356.2)) else (none)) else (none)))) = some (r1, r2) := h
 clear h
 obtain ⟨y353, hy353⟩ : ∃ y_ : List ByteArray, y_ = (([(⟨#[97]⟩ : ByteArray), (⟨#[98]⟩ : ByteArray), (⟨#[99]⟩ : ByteArray), (⟨#[100]⟩ : ByteArray), (⟨#[120, 49]⟩ : ByteArray), (⟨#[95, 121]⟩ : ByteArray), (⟨#[97, 46, 98, 45, 99]⟩ : ByteArray)] : List ByteArray)) := ⟨_, rfl⟩
 replace H : ((spec_l1Rd_below.f s0_0 s0_1 7).bind fun bt356 => (if 0 ≤ bt356.1 then (if bt356.1 < (y353.length : Int) then (some (rdOf ByteArray.empty y353 bt356.1, bt356.2)) else (none)) else (none))) = some (r1, r2) := by first | (rw [hy353]; with_reducible exact H) | (have H2_ := oS H; rw [hy353]; with_reducible exact H2_) | (have H2_ := oS H; with_reducible exact H2_) | with_reducible exact H | (rw [hy353]; exact H) | exact H
 have Ny353 := Zq.i hy353
 clear hy353
 replace H := bM H
 obtain ⟨⟨t356, t357⟩, A20, H⟩ := H
 try dsimp only at H
 have A2 := Zq.i A20
 clear A20
 by_cases c3 : 0 ≤ t356
 rotate_left
 ·rw [if_neg c3] at H
  exact absurd H dq15
 rw [if_pos c3] at H
 have c3b0 := dT c3
 clear c3
 by_cases c4 : t356 < (y353.length : Int)
 rotate_left
 ·rw [if_neg c4] at H
  exact absurd H dq15
 rw [if_pos c4] at H
 have c4b0 := dT c4
 clear c4
 obtain ⟨rfl, rfl⟩ := oP H
 go_enter Try.func107, Try.ntmps107
 go_wp2_with (first | ((with_reducible refine gate_dst (N := 3) rfl ?_); refine Kd.R_lit Kd.string _ 9 ?hg (N := 3) ?hd (xs := ([(⟨#[97]⟩ : ByteArray), (⟨#[98]⟩ : ByteArray), (⟨#[99]⟩ : ByteArray), (⟨#[100]⟩ : ByteArray), (⟨#[120, 49]⟩ : ByteArray), (⟨#[95, 121]⟩ : ByteArray), (⟨#[97, 46, 98, 45, 99]⟩ : ByteArray)] : List ByteArray)) (inner := [.string (⟨#[97]⟩ : ByteArray), .string (⟨#[98]⟩ : ByteArray), .string (⟨#[99]⟩ : ByteArray), .string (⟨#[100]⟩ : ByteArray), .string (⟨#[120, 49]⟩ : ByteArray), .string (⟨#[95, 121]⟩ : ByteArray), .string (⟨#[97, 46, 98, 45, 99]⟩ : ByteArray)]) (ok := fun _ => True) (okp := fun _ => True) ?hr ?hp (fun _ hk => hk) trivial (Below.refl _ _) (Nat.le_refl _) dq15 ?_; (case hd => rfl); (case hg => rfl); (case hr => exact dq0); (case hp => exact (Reps.one (show Kd.M Kd.string _ _ _ (⟨#[97]⟩ : ByteArray) [.string (⟨#[97]⟩ : ByteArray)] from rfl) (Reps.one (show Kd.M Kd.string _ _ _ (⟨#[98]⟩ : ByteArray) [.string (⟨#[98]⟩ : ByteArray)] from rfl) (Reps.one (show Kd.M Kd.string _ _ _ (⟨#[99]⟩ : ByteArray) [.string (⟨#[99]⟩ : ByteArray)] from rfl) (Reps.one (show Kd.M Kd.string _ _ _ (⟨#[100]⟩ : ByteArray) [.string (⟨#[100]⟩ : ByteArray)] from rfl) (Reps.one (show Kd.M Kd.string _ _ _ (⟨#[120, 49]⟩ : ByteArray) [.string (⟨#[120, 49]⟩ : ByteArray)] from rfl) (Reps.one (show Kd.M Kd.string _ _ _ (⟨#[95, 121]⟩ : ByteArray) [.string (⟨#[95, 121]⟩ : ByteArray)] from rfl) (Reps.one (show Kd.M Kd.string _ _ _ (⟨#[97, 46, 98, 45, 99]⟩ : ByteArray) [.string (⟨#[97, 46, 98, 45, 99]⟩ : ByteArray)] from rfl) (Reps.none _ _))))))))); intro v354 w5 ho6 hb hg_ hnew_; clear hg_ hnew_; (first | rw [← Ny353.out] at ho6 | (simp only [Int.reduceToNat] at ho6; rw [← Ny353.out] at ho6)); have HO355 := Zq.i (Kd.R_lower ho6 (keep_size (w := w) (g := g) (row := none) dq18)); replace HK := Zq.i (KeepBut.trans dq18 (KeepBut.of_below hb g none) (.inl rfl)); replace HB := Zq.i (below_step dq19 hb); replace HI0 := Zq.i (IsS101.below dq20 hb); clear hb ho6) | ((with_reducible refine gate_callee (f := 69) rfl ?_); refine goesL_ (some 5) rfl rfl Try.func69 dq24 rfl #[.pointer (some ⟨g, 0, none⟩), .int .i64 7] rfl dq23 ?_; (with_reducible refine (spec_l1Rd_below.calls g s0_0 s0_1 7 t356 t357 w0 _ ?side1 ?side2 A2.out).mono ?_); (case side1 => exact dq1); (case side2 => exact dq2); rintro e w7 ⟨rfl, hi, hb, hk⟩; refine ⟨_, rfl, ?_⟩; replace HO355 := Zq.i (Kd.R_mono (Kd.R_keep (IsS101.apart (show IsS101 w0 _ g s0_0 s0_1 from by repeat (first | (with_reducible first | exact HI0.out | apply IsS101.alloc | apply IsS101.drewN | apply IsS101.drew | apply IsS101.set_1) | exact HI0.out)) (by (with_reducible repeat (first | apply Kd.R_alloc | apply Kd.R_drewN | apply Kd.R_drew)); exact HO355.out) dq25) hk (fun _ h => h.2)) (fun _ h => h.1)); replace HK := Zq.i (KeepBut.trans dq18 hk (.inl rfl)); replace HB := Zq.i (hb); replace HI0 := Zq.i (hi); (try clear hb hk hi); obtain ⟨Ao8, co8, eo8⟩ := Kd.R_slice HO355.out; subst eo8; have p358 : 0 ≤ (t356 : Int) := oT dq22; have q358 : t356 < (y353.length : Int) := oT dq22; obtain ⟨ad358, e358, hx358_0⟩ := Kd.at_string (Kd.R_reads' HO355.out).2.2 t356 p358 q358; cases e358; replace p358 := eq_true p358; replace q358 := eq_true q358))
 go_ret
 exact ⟨dq21, dq20, dq19, dq18⟩

end Go.Proofs.Ytajdfbgbkgabjaa.L
