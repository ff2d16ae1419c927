/- Words and contracts for the row RowFnSample; printed, and merged. -/
import Derived.Test.YtajdfbgbkgabjaaQa6
set_option linter.unusedVariables false
set_option linter.unusedSimpArgs false
set_option maxHeartbeats 16000000
set_option maxRecDepth 100000
namespace Go.Proofs.Ytajdfbgbkgabjaa.L
open Go.RowKit YtajdfbgbkgabjaaW.PrintWords YtajdfbgbkgabjaaW.PrintLast YtajdfbgbkgabjaaW.PrintMore
attribute [local go_sem] max2_int min2_int max_two min_two max_three min_three max_four min_four

/-! ### spec_l1Rd_row: function 71 -/
mutual
def spec_l1Rd_row.j0 : Nat → List (S42) → List ByteArray → Bool → List Int → Int → Option (List ByteArray × Int)
 | 0, _, _, _, _, _ => none
 | k + 1, x1, x5, x17, x1000, x1001 => if x17 = true then ((spec_FirstOf.f k x1).bind fun t365 => ((spec_l1Rd_below.f x1000 x1001 7).bind fun bt368 => (spec_l1Rd_row.l0 k x1 x5 t365 bt368.1 x1000 bt368.2))) else ((spec_l1Rd_below.f x1000 x1001 5).bind fun bt389 => (spec_l1Rd_row.l1 k x5 bt389.1 x1000 bt389.2))
def spec_l1Rd_row.l0 : Nat → List (S42) → List ByteArray → List Int → Int → List Int → Int → Option (List ByteArray × Int)
 | 0, _, _, _, _, _, _ => none
 | k + 1, x1, x5, x6, x7, x1000, x1001 => if x7 > 0 then (spec_l1Rd_row.j2 k x1 x5 x6 x7 (decide ((x6.length : Int) > 0)) x1000 x1001) else (spec_l1Rd_row.j2 k x1 x5 x6 x7 false x1000 x1001)
def spec_l1Rd_row.j2 : Nat → List (S42) → List ByteArray → List Int → Int → Bool → List Int → Int → Option (List ByteArray × Int)
 | 0, _, _, _, _, _, _, _ => none
 | k + 1, x1, x5, x6, x7, x28, x1000, x1001 => if x28 = true then ((spec_l1Rd_below.f x1000 x1001 (x6.length : Int)).bind fun bt370 => (if 0 ≤ bt370.1 then (if bt370.1 < (x6.length : Int) then (if 0 ≤ (rd x6 bt370.1) then (if (rd x6 bt370.1) < (x1.length : Int) then (if ((rd_T42 x1 (rd x6 bt370.1)).f0) = 4 then ((spec_l1Rd_name.f x1000 bt370.2).bind fun bt374 => (if x5.length < 8796093022208 then ((spec_l8Follow.f k x1 (rd x6 bt370.1)).bind fun t379 => (spec_l1Rd_row.l0 k x1 (x5 ++ [bt374.1]) t379 (wrap64 (x7 - 1)) x1000 bt374.2)) else (none))) else (if x5.length < 8796093022208 then ((spec_l8Follow.f k x1 (rd x6 bt370.1)).bind fun t386 => (spec_l1Rd_row.l0 k x1 (x5 ++ [(rd_T42 x1 (rd x6 bt370.1)).f1]) t386 (wrap64 (x7 - 1)) x1000 bt370.2)) else (none))) else (none)) else (none)) else (none)) else (none))) else (some (x5, x1001))
def spec_l1Rd_row.l1 : Nat → List ByteArray → Int → List Int → Int → Option (List ByteArray × Int)
 | 0, _, _, _, _ => none
 | k + 1, x5, x9, x1000, x1001 => if x9 > 0 then ((some (([(⟨#[97]⟩ : ByteArray), (⟨#[98]⟩ : ByteArray), (⟨#[99]⟩ : ByteArray), (⟨#[100]⟩ : ByteArray)] : List ByteArray) : List ByteArray)).bind fun y391 => ((spec_l1Rd_below.f x1000 x1001 4).bind fun bt394 => (if 0 ≤ bt394.1 then (if bt394.1 < (y391.length : Int) then (if x5.length < 8796093022208 then (spec_l1Rd_row.l1 k (x5 ++ [rdOf ByteArray.empty y391 bt394.1]) (wrap64 (x9 - 1)) x1000 bt394.2) else (none)) else (none)) else (none)))) else (some (x5, x1001))
end
def spec_l1Rd_row.f (k : Nat) (s0_0 : List Int) (s0_1 : Int) (l1 : List (S42)) : Option (List ByteArray × Int) := (some (([] : List ByteArray) : List ByteArray)).bind fun y359 => ((spec_ParticleOk.f k l1).bind fun t362 => (if t362 = true then ((spec_l1Rd_once.f s0_0 s0_1 3).bind fun bt363 => (spec_l1Rd_row.j0 k l1 y359 (!bt363.1) s0_0 bt363.2)) else (spec_l1Rd_row.j0 k l1 y359 false s0_0 s0_1)))
theorem spec_l1Rd_row.calls (k : Nat) (g : Nat) (s0_0 : List Int) (s0_1 : Int) (A1 : Option Addr) (c1 : Nat) (l1 : List (S42)) (r1 : List ByteArray) (r2 : Int) (w0 w : World) (hI : IsS101 w0 w g s0_0 s0_1) (hB : Below w0.heap.size w0 w) (hr1 : ∀ W_, KeepBut w W_ g none → Kd.C k42 W_ A1 l1.length l1) (hc1 : l1.length ≤ c1) (h : spec_l1Rd_row.f k s0_0 s0_1 l1 = some (r1, r2)) :
  Calls Try.prog 71 #[.pointer (some ⟨g, 0, none⟩), .slice A1 l1.length c1] w fun e w' => ∃ v0_ : Value, e = .returned (v0_) ∧ Kd.R Kd.string 9 w' w.heap.size (fun _ => True) v0_ r1 ∧ IsS101 w0 w' g s0_0 r2 ∧ Below w0.heap.size w0 w' ∧ KeepBut w w' g none := by
 have HR1 := Zq.i hr1
 have HC1 := Zq.i hc1
 clear hr1 hc1
 have HI0 := Zq.i hI
 have HK := Zq.i (KeepBut.refl w g none)
 have HL := Zq.i hB.size
 clear hI
 have HW0 := Zq.i hB.size
 have HB := Zq.i hB
 clear hB
 have H := h
 unfold spec_l1Rd_row.f at H
 clear h
 obtain ⟨y359, hy359⟩ : ∃ y_ : List ByteArray, y_ = (([] : List ByteArray)) := ⟨_, rfl⟩
 replace H : ((spec_ParticleOk.f k l1).bind fun t362 => (if t362 = true then ((spec_l1Rd_once.f s0_0 s0_1 3).bind fun bt363 => (spec_l1Rd_row.j0 k l1 y359 (!bt363.1) s0_0 bt363.2)) else (spec_l1Rd_row.j0 k l1 y359 false s0_0 s0_1))) = some (r1, r2) := by first | (rw [hy359]; with_reducible exact H) | (have H2_ := oS H; rw [hy359]; with_reducible exact H2_) | (have H2_ := oS H; with_reducible exact H2_) | with_reducible exact H | (rw [hy359]; exact H) | exact H
 have Ny359 := Zq.i hy359
 clear hy359
 have HC3 := Zq.i H
 clear H
 go_enter Try.func71, Try.ntmps71
 go_upto_region 2 with (first | ((with_reducible refine gate_dst (N := 10) rfl ?_); (try (refine gate_guard dq31 ?_; dsimp only)); refine Kd.R_lit Kd.string _ 9 ?hg (N := 10) ?hd (xs := ([] : List ByteArray)) (inner := []) (ok := fun _ => True) (okp := fun _ => True) ?hr ?hp (fun _ hk => hk) trivial (Below.refl _ _) (Nat.le_refl _) dq15 ?_; (case hd => rfl); (case hg => rfl); (case hr => exact dq0); (case hp => exact (Reps.none _ _)); intro v360 w4 ho5 hb hg_ hnew_; clear hg_ hnew_; (first | rw [← Ny359.out] at ho5 | (simp only [Int.reduceToNat] at ho5; rw [← Ny359.out] at ho5)); have HO361 := Zq.i (Kd.R_lower ho5 (keep_size (w := w) (g := g) (row := none) dq18)); replace HK := Zq.i (KeepBut.trans dq18 (KeepBut.of_below hb g none) (.inl rfl)); replace HB := Zq.i (below_step dq19 hb); replace HI0 := Zq.i (IsS101.below dq20 hb); clear hb ho5))
 (try simp only [Act.put, List.setIfInBounds_toArray, List.set_cons_zero, List.set_cons_succ])
 go_cut [17] (fun v17 wc => ∃ (kq : Nat) (x17_2 : Bool) (x1001_2 : Int), v17 = .bool x17_2 ∧ Zq (spec_l1Rd_row.j0 kq l1 y359 x17_2 s0_0 x1001_2 = some (r1, r2)) ∧ Zq (kq ≤ k) ∧ Zq (Kd.R Kd.string 9 wc w.heap.size (fun _ => True) v360 y359) ∧ Zq (IsS101 w0 wc g s0_0 x1001_2) ∧ Zq (KeepBut w wc g none) ∧ Zq (Below w0.heap.size w0 wc))
 case first =>
  have H := HC3.out
  clear HC3
  replace H := bM H
  obtain ⟨t362, A60, H⟩ := H
  try dsimp only at H
  have A6 := Zq.i A60
  clear A60
  by_cases c7 : t362 = true
  rotate_left
  ·replace c7 := Bool.eq_false_iff.mpr c7
   subst c7
   rw [iN] at H
   have H' := Zq.i H
   clear H
   go_wp2_with (first | ((with_reducible refine gate_callee (f := 41) rfl ?_); refine goesL_ (some 12) rfl rfl Try.func41 dq24 rfl #[.slice A1 l1.length c1] rfl dq23 ?_; (with_reducible refine (spec_ParticleOk.calls k _ _ l1 false _ ?side1 ?side2 A6.out).mono ?_); (case side1 => exact dq8); (case side2 => exact HC1.out); rintro e w11 ⟨rfl, hb⟩; refine ⟨_, rfl, ?_⟩; replace HO361 := Zq.i (Kd.R_below dq82 hb); replace HK := Zq.i (KeepBut.trans dq18 (KeepBut.of_below hb g none) (.inl rfl)); replace HB := Zq.i (below_step dq19 hb); replace HI0 := Zq.i (IsS101.below dq20 hb); (try clear hb)))
   go_meet
   case rel => exact ⟨_, (false), (s0_1), dq14, H', ⟨dq26⟩, ⟨dq82⟩, ⟨dq20⟩, ⟨dq18⟩, ⟨dq19⟩⟩
  subst c7
  rw [if_pos rfl] at H
  replace H := bM H
  obtain ⟨⟨t363, t364⟩, A80, H⟩ := H
  try dsimp only at H
  have A8 := Zq.i A80
  clear A80
  have H' := Zq.i H
  clear H
  go_wp2_with (first | ((with_reducible refine gate_callee (f := 41) rfl ?_); refine goesL_ (some 12) rfl rfl Try.func41 dq24 rfl #[.slice A1 l1.length c1] rfl dq23 ?_; (with_reducible refine (spec_ParticleOk.calls k _ _ l1 true _ ?side1 ?side2 A6.out).mono ?_); (case side1 => exact dq8); (case side2 => exact HC1.out); rintro e w9 ⟨rfl, hb⟩; refine ⟨_, rfl, ?_⟩; replace HO361 := Zq.i (Kd.R_below dq82 hb); replace HK := Zq.i (KeepBut.trans dq18 (KeepBut.of_below hb g none) (.inl rfl)); replace HB := Zq.i (below_step dq19 hb); replace HI0 := Zq.i (IsS101.below dq20 hb); (try clear hb)) | (go_at_call 100; (with_reducible refine (spec_l1Rd_once.calls g s0_0 s0_1 3 t363 t364 w0 _ ?side1 ?side2 A8.out).mono ?_); (case side1 => exact dq1); (case side2 => exact dq2); rintro e w10 ⟨rfl, hi, hb, hk⟩; replace HO361 := Zq.i (Kd.R_mono (Kd.R_keep (IsS101.apart (show IsS101 w0 _ g s0_0 s0_1 from by repeat (first | (with_reducible first | exact HI0.out | apply IsS101.alloc | apply IsS101.drewN | apply IsS101.drew | apply IsS101.set_1) | exact HI0.out)) dq82 dq25) hk (fun _ h => h.2)) (fun _ h => h.1)); replace HK := Zq.i (KeepBut.trans dq18 hk (.inl rfl)); replace HB := Zq.i (hb); replace HI0 := Zq.i (hi); (try clear hb hk hi)))
  go_meet
  case rel => exact ⟨_, (!t363), (t364), dq14, H', ⟨dq26⟩, ⟨dq82⟩, ⟨dq20⟩, ⟨dq18⟩, ⟨dq19⟩⟩
 clear HC3
 obtain ⟨kq, x17_2, x1001_2, rfl, HA, HJ2, HO_5, HI0, HK, HB⟩ := hcut
 cases kq with
 | zero => exact absurd HA.out (by simp [spec_l1Rd_row.j0])
 | succ kj2 =>
  have H := HA.out
  clear HA
  simp only [spec_l1Rd_row.j0] at H
  by_cases c12 : x17_2 = true
  rotate_left
  ·replace c12 := Bool.eq_false_iff.mpr c12
   subst c12
   rw [iN] at H
   replace H := bM H
   obtain ⟨⟨t389, t390⟩, A410, H⟩ := H
   try dsimp only at H
   have A41 := Zq.i A410
   clear A410
   have H' := Zq.i H
   clear H
   go_wp2_with (first | ((with_reducible refine gate_callee (f := 69) rfl ?_); refine goesL_ (some 62) rfl rfl Try.func69 dq24 rfl #[.pointer (some ⟨g, 0, none⟩), .int .i64 5] rfl dq23 ?_; (with_reducible refine (spec_l1Rd_below.calls g s0_0 x1001_2 5 t389 t390 w0 _ ?side1 ?side2 A41.out).mono ?_); (case side1 => exact dq1); (case side2 => exact dq2); rintro e w42 ⟨rfl, hi, hb, hk⟩; refine ⟨_, rfl, ?_⟩; replace HO_5 := Zq.i (Kd.R_mono (Kd.R_keep (IsS101.apart (show IsS101 w0 _ g s0_0 x1001_2 from by repeat (first | (with_reducible first | exact HI0.out | apply IsS101.alloc | apply IsS101.drewN | apply IsS101.drew | apply IsS101.set_1) | exact HI0.out)) dq72 dq25) hk (fun _ h => h.2)) (fun _ h => h.1)); replace HK := Zq.i (KeepBut.trans dq18 hk (.inl rfl)); replace HB := Zq.i (hb); replace HI0 := Zq.i (hi); (try clear hb hk hi)))
   go_loopg [5, 9] kj2 (fun kq v5 v9 w' => ∃ (x5_2 : List ByteArray) (x9_2 : Int) (x1001_2 : Int), v9 = .int .i64 x9_2 ∧ Zq (spec_l1Rd_row.l1 kq x5_2 x9_2 s0_0 x1001_2 = some (r1, r2)) ∧ Zq (kq ≤ kj2) ∧ Zq (Kd.R Kd.string 9 w' w.heap.size (fun _ => True) v5 x5_2) ∧ Zq (IsS101 w0 w' g s0_0 x1001_2) ∧ Zq (KeepBut w w' g none) ∧ Zq (Below w0.heap.size w0 w'))
   case atStart => exact ⟨(y359), (t389), (t390), dq14, H', ⟨Nat.le_refl _⟩, ⟨dq72⟩, ⟨dq20⟩, ⟨dq18⟩, ⟨dq19⟩⟩
   clear H'
   obtain ⟨x5_2, x9_2, x1001_2, rfl, HA, HK2, HO_5, HI0, HK, HB⟩ := hrel
   cases gk with
   | zero => exact absurd HA.out (by simp [spec_l1Rd_row.l1])
   | succ k2 =>
    have H := HA.out
    clear HA
    simp only [spec_l1Rd_row.l1] at H
    by_cases c43 : x9_2 > 0
    rotate_left
    ·rw [if_neg c43] at H
     have c43b0 : decide (0 < x9_2) = false := dF c43
     clear c43
     obtain ⟨rfl, rfl⟩ := oP H
     go_wp2
     go_ret
     exact ⟨_, dq21, dq72, dq20, dq19, dq18⟩
    rw [if_pos c43] at H
    have c43b0 : decide (0 < x9_2) = true := dT c43
    clear c43
    obtain ⟨y391, hy391⟩ : ∃ y_ : List ByteArray, y_ = (([(⟨#[97]⟩ : ByteArray), (⟨#[98]⟩ : ByteArray), (⟨#[99]⟩ : ByteArray), (⟨#[100]⟩ : ByteArray)] : List ByteArray)) := ⟨_, rfl⟩
    replace H : ((spec_l1Rd_below.f s0_0 x1001_2 4).bind fun bt394 => (if 0 ≤ bt394.1 then (if bt394.1 < (y391.length : Int) then (if x5_2.length < 8796093022208 then (spec_l1Rd_row.l1 k2 (x5_2 ++ [rdOf ByteArray.empty y391 bt394.1]) (wrap64 (x9_2 - 1)) s0_0 bt394.2) else (none)) else (none)) else (none))) = some (r1, r2) := by first | (rw [hy391]; with_reducible exact H) | (have H2_ := oS H; rw [hy391]; with_reducible exact H2_) | (have H2_ := oS H; with_reducible exact H2_) | with_reducible exact H | (rw [hy391]; exact H) | exact H
    have Ny391 := Zq.i hy391
    clear hy391
    replace H := bM H
    obtain ⟨⟨t394, t395⟩, A440, H⟩ := H
    try dsimp only at H
    have A44 := Zq.i A440
    clear A440
    by_cases c45 : 0 ≤ t394
    rotate_left
    ·rw [if_neg c45] at H
     exact absurd H dq15
    rw [if_pos c45] at H
    have c45b0 := dT c45
    clear c45
    by_cases c46 : t394 < (y391.length : Int)
    rotate_left
    ·rw [if_neg c46] at H
     exact absurd H dq15
    rw [if_pos c46] at H
    have c46b0 := dT c46
    clear c46
    by_cases c47 : x5_2.length < 8796093022208
    rotate_left
    ·rw [if_neg c47] at H
     exact absurd H dq15
    rw [if_pos c47] at H
    have LMc47 := Zq.i c47
    clear c47
    obtain ⟨y397, hy397⟩ : ∃ y_ : List ByteArray, y_ = (x5_2 ++ [rdOf ByteArray.empty y391 t394]) := ⟨_, rfl⟩
    replace H : (spec_l1Rd_row.l1 k2 y397 (wrap64 (x9_2 - 1)) s0_0 t395) = some (r1, r2) := by first | (rw [hy397]; with_reducible exact H) | (have H2_ := oS H; rw [hy397]; with_reducible exact H2_) | (have H2_ := oS H; with_reducible exact H2_) | with_reducible exact H | (rw [hy397]; exact H) | exact H
    have Ny397 := Zq.i hy397
    clear hy397
    have H' := Zq.i H
    clear H
    go_wp2_with (first | ((with_reducible refine gate_dst (N := 68) rfl ?_); (try (refine gate_guard dq31 ?_; dsimp only)); refine Kd.R_lit Kd.string _ 9 ?hg (N := 68) ?hd (xs := ([(⟨#[97]⟩ : ByteArray), (⟨#[98]⟩ : ByteArray), (⟨#[99]⟩ : ByteArray), (⟨#[100]⟩ : ByteArray)] : List ByteArray)) (inner := [.string (⟨#[97]⟩ : ByteArray), .string (⟨#[98]⟩ : ByteArray), .string (⟨#[99]⟩ : ByteArray), .string (⟨#[100]⟩ : ByteArray)]) (ok := fun _ => True) (okp := fun _ => True) ?hr ?hp (fun _ hk => hk) trivial (Below.refl _ _) (Nat.le_refl _) dq15 ?_; (case hd => rfl); (case hg => rfl); (case hr => exact dq0); (case hp => exact (Reps.one (show Kd.M Kd.string _ _ _ (⟨#[97]⟩ : ByteArray) [.string (⟨#[97]⟩ : ByteArray)] from rfl) (Reps.one (show Kd.M Kd.string _ _ _ (⟨#[98]⟩ : ByteArray) [.string (⟨#[98]⟩ : ByteArray)] from rfl) (Reps.one (show Kd.M Kd.string _ _ _ (⟨#[99]⟩ : ByteArray) [.string (⟨#[99]⟩ : ByteArray)] from rfl) (Reps.one (show Kd.M Kd.string _ _ _ (⟨#[100]⟩ : ByteArray) [.string (⟨#[100]⟩ : ByteArray)] from rfl) (Reps.none _ _)))))); intro v392 w48 ho49 hb hg_ hnew_; clear hg_ hnew_; (first | rw [← Ny391.out] at ho49 | (simp only [Int.reduceToNat] at ho49; rw [← Ny391.out] at ho49)); have HO393 := Zq.i (Kd.R_lower (Kd.R_new' ho49 (Kd.R_lt dq72)) (keep_size (w := w) (g := g) (row := none) dq18)); replace HO_5 := Zq.i (Kd.R_elder' dq72 (Kd.R_base ho49) hb); replace HK := Zq.i (KeepBut.trans dq18 (KeepBut.of_below hb g none) (.inl rfl)); replace HB := Zq.i (below_step dq19 hb); replace HI0 := Zq.i (IsS101.below dq20 hb); clear hb ho49) | ((with_reducible refine gate_callee (f := 69) rfl ?_); refine goesL_ (some 70) rfl rfl Try.func69 dq24 rfl #[.pointer (some ⟨g, 0, none⟩), .int .i64 4] rfl dq23 ?_; (with_reducible refine (spec_l1Rd_below.calls g s0_0 x1001_2 4 t394 t395 w0 _ ?side1 ?side2 A44.out).mono ?_); (case side1 => exact dq1); (case side2 => exact dq2); rintro e w50 ⟨rfl, hi, hb, hk⟩; refine ⟨_, rfl, ?_⟩; replace HO_5 := Zq.i (Kd.R_mono (Kd.R_keep (IsS101.apart (show IsS101 w0 _ g s0_0 x1001_2 from by repeat (first | (with_reducible first | exact HI0.out | apply IsS101.alloc | apply IsS101.drewN | apply IsS101.drew | apply IsS101.set_1) | exact HI0.out)) dq72 dq25) hk (fun _ h => h.2)) (fun _ h => h.1)); replace HO393 := Zq.i (Kd.R_mono (Kd.R_keep (IsS101.apart (show IsS101 w0 _ g s0_0 x1001_2 from by repeat (first | (with_reducible first | exact HI0.out | apply IsS101.alloc | apply IsS101.drewN | apply IsS101.drew | apply IsS101.set_1) | exact HI0.out)) dq84 dq25) hk (fun _ h => h.2)) (fun _ h => h.1)); replace HK := Zq.i (KeepBut.trans dq18 hk (.inl rfl)); replace HB := Zq.i (hb); replace HI0 := Zq.i (hi); (try clear hb hk hi); obtain ⟨Ao51, co51, eo51⟩ := Kd.R_slice HO393.out; subst eo51; have p396 : 0 ≤ (t394 : Int) := oT dq22; have q396 : t394 < (y391.length : Int) := oT dq22; obtain ⟨ad396, e396, hx396_0⟩ := Kd.at_string (Kd.R_reads' HO393.out).2.2 t394 p396 q396; cases e396; replace p396 := eq_true p396; replace q396 := eq_true q396) | ((with_reducible refine gate_builtin (b := .append) (xs := #[.tmp 67, .tmp 73]) rfl ?_); (try (refine gate_guard dq31 ?_; dsimp only)); at_builtin; refine Kd.R_append Kd.string w.heap.size rfl (.tmp 67) (.tmp 73) 30 9 (.string ⟨#[]⟩) 16 rfl Try.underlying30 info9 rfl dq25 dq28 u5 x5_2 (rdOf ByteArray.empty y391 t394) [.string (rdOf ByteArray.empty y391 t394)] (fun k_ => some k_ ≠ (.slice (some ad396) y391.length co51 : Value).ownBlock) (fun _ => False) rfl rfl ?aP (fun _ hk => hk.elim) ?aF ?aO (Below.refl _ _) ?aS ?aL ?_; (case aP => exact rfl); (case aF => exact (fun k_ hk => Kd.fresh' (Kd.R_lt dq84) k_ hk)); (case aO => exact dq78); (case aS => exact (keep_size (w := w) (g := g) (row := none) dq18)); (case aL => have := LMc47.out; omega); intro v398 w52 ho hb hg hat; rw [← Ny397.out] at ho; replace HO393 := Zq.i (Kd.R_after (ok := (fun _ => True)) dq84 hg hat); replace HB := Zq.i (below_weaken dq19 HL.out hb); replace HI0 := Zq.i (IsS101.grown dq20 hg (IsS101.own_ne HI0.out HO_5.out dq25)); replace HK := Zq.i (KeepBut.trans dq18 (KeepBut.of_grown hg g) (Kd.R_base2 HO_5.out)); have HO399 := Zq.i (ho); clear HO_5; clear ho hb hg hat))
    go_roundg k2
    case measure => have := HJ2.out; have := HK2.out; omega
    case rel => exact ⟨(y397), (wrap64 (x9_2 - 1)), (t395), dq14, H', ⟨by have := HJ2.out; have := HK2.out; omega⟩, ⟨by (with_reducible repeat (first | apply Kd.R_alloc | apply Kd.R_drewN | apply Kd.R_drew)); exact Kd.R_mono HO399.out (fun _ hk => trivial)⟩, ⟨dq20⟩, ⟨dq18⟩, ⟨dq19⟩⟩
  subst c12
  rw [if_pos rfl] at H
  replace H := bM H
  obtain ⟨t365, A130, H⟩ := H
  try dsimp only at H
  have A13 := Zq.i A130
  clear A130
  replace H := bM H
  obtain ⟨⟨t368, t369⟩, A140, H⟩ := H
  try dsimp only at H
  have A14 := Zq.i A140
  clear A140
  have H' := Zq.i H
  clear H
  go_wp2_with (first | ((with_reducible refine gate_callee (f := 52) rfl ?_); refine goesL_ (some 19) rfl rfl Try.func52 dq24 rfl #[.slice A1 l1.length c1] rfl dq23 ?_; (with_reducible refine (spec_FirstOf.calls kj2 _ _ l1 t365 _ ?side1 ?side2 A13.out).mono ?_); (case side1 => exact dq8); (case side2 => exact HC1.out); rintro e w15 ⟨v366, rfl, ho0, hb⟩; refine ⟨_, rfl, ?_⟩; replace HO_5 := Zq.i (Kd.R_below dq72 hb); have HO367 := Zq.i (Kd.R_lower ho0 (keep_size (w := w) (g := g) (row := none) dq18)); replace HK := Zq.i (KeepBut.trans dq18 (KeepBut.of_below hb g none) (.inl rfl)); replace HB := Zq.i (below_step dq19 hb); replace HI0 := Zq.i (IsS101.below dq20 hb); (try clear hb ho0)) | ((with_reducible refine gate_callee (f := 69) rfl ?_); refine goesL_ (some 21) rfl rfl Try.func69 dq24 rfl #[.pointer (some ⟨g, 0, none⟩), .int .i64 7] rfl dq23 ?_; (with_reducible refine (spec_l1Rd_below.calls g s0_0 x1001_2 7 t368 t369 w0 _ ?side1 ?side2 A14.out).mono ?_); (case side1 => exact dq1); (case side2 => exact dq2); rintro e w16 ⟨rfl, hi, hb, hk⟩; refine ⟨_, rfl, ?_⟩; replace HO_5 := Zq.i (Kd.R_mono (Kd.R_keep (IsS101.apart (show IsS101 w0 _ g s0_0 x1001_2 from by repeat (first | (with_reducible first | exact HI0.out | apply IsS101.alloc | apply IsS101.drewN | apply IsS101.drew | apply IsS101.set_1) | exact HI0.out)) dq72 dq25) hk (fun _ h => h.2)) (fun _ h => h.1)); replace HO367 := Zq.i (Kd.R_mono (Kd.R_keep (IsS101.apart (show IsS101 w0 _ g s0_0 x1001_2 from by repeat (first | (with_reducible first | exact HI0.out | apply IsS101.alloc | apply IsS101.drewN | apply IsS101.drew | apply IsS101.set_1) | exact HI0.out)) (by (with_reducible repeat (first | apply Kd.R_alloc | apply Kd.R_drewN | apply Kd.R_drew)); exact HO367.out) dq25) hk (fun _ h => h.2)) (fun _ h => h.1)); replace HK := Zq.i (KeepBut.trans dq18 hk (.inl rfl)); replace HB := Zq.i (hb); replace HI0 := Zq.i (hi); (try clear hb hk hi)))
  go_loopg [5, 6, 7] kj2 (fun kq v5 v6 v7 w' => ∃ (x5_2 : List ByteArray) (x6_2 : List Int) (x7_2 : Int) (x1001_2 : Int), v7 = .int .i64 x7_2 ∧ Zq (spec_l1Rd_row.l0 kq l1 x5_2 x6_2 x7_2 s0_0 x1001_2 = some (r1, r2)) ∧ Zq (kq ≤ kj2) ∧ Zq (Kd.R Kd.string 9 w' w.heap.size (fun _ => True) v5 x5_2) ∧ Zq (Kd.R (Kd.int .i64) 2 w' w.heap.size (fun _ => True) v6 x6_2) ∧ Zq (IsS101 w0 w' g s0_0 x1001_2) ∧ Zq (KeepBut w w' g none) ∧ Zq (Below w0.heap.size w0 w'))
  case atStart => exact ⟨(y359), (t365), (t368), (t369), dq14, H', ⟨Nat.le_refl _⟩, ⟨dq72⟩, ⟨by (with_reducible repeat (first | apply Kd.R_alloc | apply Kd.R_drewN | apply Kd.R_drew)); exact HO367.out⟩, ⟨dq20⟩, ⟨dq18⟩, ⟨dq19⟩⟩
  clear H'
  obtain ⟨x5_2, x6_2, x7_2, x1001_2, rfl, HA, HK2, HO_5, HO_6, HI0, HK, HB⟩ := hrel
  cases gk with
  | zero => exact absurd HA.out (by simp [spec_l1Rd_row.l0])
  | succ k2 =>
   have H := HA.out
   clear HA
   simp only [spec_l1Rd_row.l0] at H
   have HC17 := Zq.i H
   clear H
   go_upto_region 5 with (fail)
   go_cut [28] (fun v28 wc => ∃ (kq : Nat) (x28_16 : Bool), v28 = .bool x28_16 ∧ Zq (spec_l1Rd_row.j2 kq l1 x5_2 x6_2 x7_2 x28_16 s0_0 x1001_2 = some (r1, r2)) ∧ Zq (kq ≤ k2) ∧ Zq (Kd.R Kd.string 9 wc w.heap.size (fun _ => True) u5 x5_2) ∧ Zq (Kd.R (Kd.int .i64) 2 wc w.heap.size (fun _ => True) u6 x6_2) ∧ Zq (IsS101 w0 wc g s0_0 x1001_2) ∧ Zq (KeepBut w wc g none) ∧ Zq (Below w0.heap.size w0 wc))
   case first =>
    have H := HC17.out
    clear HC17
    by_cases c18 : x7_2 > 0
    rotate_left
    ·rw [if_neg c18] at H
     have c18b0 : decide (0 < x7_2) = false := dF c18
     clear c18
     (first | rw [c18b0] | (simp only [i64_w, i32_w]; rw [c18b0]) | skip)
     have H' := Zq.i H
     clear H
     go_wp2
     go_meet
     case rel => exact ⟨_, (false), dq14, H', ⟨by have := HJ2.out; have := HK2.out; first | omega | exact Nat.le_refl _⟩, ⟨dq72⟩, ⟨dq83⟩, ⟨dq20⟩, ⟨dq18⟩, ⟨dq19⟩⟩
    rw [if_pos c18] at H
    have c18b0 : decide (0 < x7_2) = true := dT c18
    clear c18
    (first | rw [c18b0] | (simp only [i64_w, i32_w]; rw [c18b0]) | skip)
    have H' := Zq.i H
    clear H
    obtain ⟨Ao19, co19, eo19⟩ := Kd.R_slice HO_6.out
    subst eo19
    go_wp2
    go_meet
    case rel => exact ⟨_, (decide ((x6_2.length : Int) > 0)), dq14, H', ⟨by have := HJ2.out; have := HK2.out; first | omega | exact Nat.le_refl _⟩, ⟨dq72⟩, ⟨dq83⟩, ⟨dq20⟩, ⟨dq18⟩, ⟨dq19⟩⟩
   clear HC17
   obtain ⟨kq, x28_16, rfl, HA, HJ16, HO_5, HO_6, HI0, HK, HB⟩ := hcut
   cases kq with
   | zero => exact absurd HA.out (by simp [spec_l1Rd_row.j2])
   | succ kj16 =>
    have H := HA.out
    clear HA
    simp only [spec_l1Rd_row.j2] at H
    by_cases c20 : x28_16 = true
    rotate_left
    ·replace c20 := Bool.eq_false_iff.mpr c20
     subst c20
     rw [iN] at H
     obtain ⟨rfl, rfl⟩ := oP H
     go_wp2
     go_ret
     exact ⟨_, dq21, dq72, dq20, dq19, dq18⟩
    subst c20
    rw [if_pos rfl] at H
    replace H := bM H
    obtain ⟨⟨t370, t371⟩, A210, H⟩ := H
    try dsimp only at H
    have A21 := Zq.i A210
    clear A210
    by_cases c22 : 0 ≤ t370
    rotate_left
    ·rw [if_neg c22] at H
     exact absurd H dq15
    rw [if_pos c22] at H
    have c22b0 := dT c22
    clear c22
    by_cases c23 : t370 < (x6_2.length : Int)
    rotate_left
    ·rw [if_neg c23] at H
     exact absurd H dq15
    rw [if_pos c23] at H
    have c23b0 := dT c23
    clear c23
    by_cases c24 : 0 ≤ (rd x6_2 t370)
    rotate_left
    ·rw [if_neg c24] at H
     exact absurd H dq15
    rw [if_pos c24] at H
    have c24b0 := dT c24
    clear c24
    by_cases c25 : (rd x6_2 t370) < (l1.length : Int)
    rotate_left
    ·rw [if_neg c25] at H
     exact absurd H dq15
    rw [if_pos c25] at H
    have c25b0 := dT c25
    clear c25
    by_cases c26 : ((rd_T42 l1 (rd x6_2 t370)).f0) = 4
    rotate_left
    ·rw [if_neg c26] at H
     have c26b0 := bN c26
     have c26b1 := bO c26
     by_cases c35 : x5_2.length < 8796093022208
     rotate_left
     ·rw [if_neg c35] at H
      exact absurd H dq15
     rw [if_pos c35] at H
     have LMc35 := Zq.i c35
     clear c35
     obtain ⟨y383, hy383⟩ : ∃ y_ : List ByteArray, y_ = (x5_2 ++ [(rd_T42 l1 (rd x6_2 t370)).f1]) := ⟨_, rfl⟩
     replace H : ((spec_l8Follow.f kj16 l1 (rd x6_2 t370)).bind fun t386 => (spec_l1Rd_row.l0 kj16 l1 y383 t386 (wrap64 (x7_2 - 1)) s0_0 t371)) = some (r1, r2) := by first | (rw [hy383]; with_reducible exact H) | (have H2_ := oS H; rw [hy383]; with_reducible exact H2_) | (have H2_ := oS H; with_reducible exact H2_) | with_reducible exact H | (rw [hy383]; exact H) | exact H
     have Ny383 := Zq.i hy383
     clear hy383
     replace H := bM H
     obtain ⟨t386, A360, H⟩ := H
     try dsimp only at H
     have A36 := Zq.i A360
     clear A360
     have H' := Zq.i H
     clear H
     obtain ⟨Ao37, co37, eo37⟩ := Kd.R_slice HO_6.out
     subst eo37
     go_wp2_with (first | ((with_reducible refine gate_callee (f := 69) rfl ?_); refine goesL_ (some 35) rfl rfl Try.func69 dq24 rfl #[.pointer (some ⟨g, 0, none⟩), .int .i64 (x6_2.length : Int)] rfl dq23 ?_; (with_reducible refine (spec_l1Rd_below.calls g s0_0 x1001_2 (x6_2.length : Int) t370 t371 w0 _ ?side1 ?side2 A21.out).mono ?_); (case side1 => exact dq1); (case side2 => exact dq2); rintro e w38 ⟨rfl, hi, hb, hk⟩; refine ⟨_, rfl, ?_⟩; replace HO_5 := Zq.i (Kd.R_mono (Kd.R_keep (IsS101.apart (show IsS101 w0 _ g s0_0 x1001_2 from by repeat (first | (with_reducible first | exact HI0.out | apply IsS101.alloc | apply IsS101.drewN | apply IsS101.drew | apply IsS101.set_1) | exact HI0.out)) dq72 dq25) hk (fun _ h => h.2)) (fun _ h => h.1)); replace HO_6 := Zq.i (Kd.R_mono (Kd.R_keep (IsS101.apart (show IsS101 w0 _ g s0_0 x1001_2 from by repeat (first | (with_reducible first | exact HI0.out | apply IsS101.alloc | apply IsS101.drewN | apply IsS101.drew | apply IsS101.set_1) | exact HI0.out)) dq83 dq25) hk (fun _ h => h.2)) (fun _ h => h.1)); replace HK := Zq.i (KeepBut.trans dq18 hk (.inl rfl)); replace HB := Zq.i (hb); replace HI0 := Zq.i (hi); (try clear hb hk hi); have p372 : 0 ≤ (t370 : Int) := oT dq22; have q372 : t370 < (x6_2.length : Int) := oT dq22; obtain ⟨ad372, e372, hx372_0⟩ := Kd.at_int (Kd.R_reads' HO_6.out).2.2 t370 p372 q372; cases e372; replace p372 := eq_true p372; replace q372 := eq_true q372; have p373 : 0 ≤ ((rd x6_2 t370) : Int) := oT dq22; have q373 : (rd x6_2 t370) < (l1.length : Int) := oT dq22; obtain ⟨ad373, A373_2, c373_2, e373, hx373_0, hx373_1, hx373_2, hx373_3, hl373_2, hi373_2⟩ := at_T42 (Kd.C_foot_now HR1.out HK.out) (rd x6_2 t370) p373 q373; cases e373; have HR373_2 := Zq.i hi373_2; have HC373_2 := Zq.i hl373_2; clear hi373_2 hl373_2; replace p373 := eq_true p373; replace q373 := eq_true q373; have p382 : 0 ≤ ((rd x6_2 t370) : Int) := oT dq22; have q382 : (rd x6_2 t370) < (l1.length : Int) := oT dq22; obtain ⟨ad382, A382_2, c382_2, e382, hx382_0, hx382_1, hx382_2, hx382_3, hl382_2, hi382_2⟩ := at_T42 (Kd.C_foot_now HR1.out HK.out) (rd x6_2 t370) p382 q382; obtain rfl : ad373 = ad382 := (by injection e382); have HR382_2 := Zq.i hi382_2; have HC382_2 := Zq.i hl382_2; clear hi382_2 hl382_2; replace p382 := eq_true p382; replace q382 := eq_true q382; have ea_ := oI (hx373_2.symm.trans hx382_2); injection ea_ with ea_ en_ ec_; subst ea_; subst ec_; clear en_) | ((with_reducible refine gate_builtin (b := .append) (xs := #[.tmp 49, .tmp 55]) rfl ?_); (try (refine gate_guard dq31 ?_; dsimp only)); at_builtin; refine Kd.R_append Kd.string w.heap.size rfl (.tmp 49) (.tmp 55) 30 9 (.string ⟨#[]⟩) 16 rfl Try.underlying30 info9 rfl dq25 dq28 u5 x5_2 ((rd_T42 l1 (rd x6_2 t370)).f1) [.string ((rd_T42 l1 (rd x6_2 t370)).f1)] (fun _ => True) (fun _ => False) rfl rfl ?aP (fun _ hk => hk.elim) ?aF ?aO (Below.refl _ _) ?aS ?aL ?_; (case aP => exact rfl); (case aF => exact (fun _ _ => trivial)); (case aO => exact dq72); (case aS => exact (keep_size (w := w) (g := g) (row := none) dq18)); (case aL => have := LMc35.out; omega); intro v384 w39 ho hb hg hat; rw [← Ny383.out] at ho; replace HO_6 := Zq.i (Kd.R_over' dq83 (Kd.R_typed dq72) dq25 hg); replace HB := Zq.i (below_weaken dq19 HL.out hb); replace HI0 := Zq.i (IsS101.grown dq20 hg (IsS101.own_ne HI0.out HO_5.out dq25)); replace HK := Zq.i (KeepBut.trans dq18 (KeepBut.of_grown hg g) (Kd.R_base2 HO_5.out)); have HO385 := Zq.i (ho); clear HO_5; clear ho hb hg hat) | ((with_reducible refine gate_callee (f := 53) rfl ?_); refine goesL_ (some 59) rfl rfl Try.func53 dq24 rfl #[.slice (some ad373) l1.length c1, .int .i64 (rd x6_2 t370)] rfl dq23 ?_; (with_reducible refine (spec_l8Follow.calls kj16 _ _ l1 (rd x6_2 t370) t386 _ ?side1 ?side2 A36.out).mono ?_); (case side1 => exact dq8); (case side2 => exact HC1.out); rintro e w40 ⟨v387, rfl, ho0, hb⟩; refine ⟨_, rfl, ?_⟩; replace HO385 := Zq.i (Kd.R_below (by (with_reducible repeat (first | apply Kd.R_alloc | apply Kd.R_drewN | apply Kd.R_drew)); exact HO385.out) hb); have HO388 := Zq.i (Kd.R_lower (Kd.R_new' ho0 (Kd.R_lt dq83)) (keep_size (w := w) (g := g) (row := none) dq18)); replace HO_6 := Zq.i (Kd.R_elder' dq83 (Kd.R_base ho0) hb); replace HK := Zq.i (KeepBut.trans dq18 (KeepBut.of_below hb g none) (.inl rfl)); replace HB := Zq.i (below_step dq19 hb); replace HI0 := Zq.i (IsS101.below dq20 hb); (try clear hb ho0)))
     go_roundg kj16
     case measure => have := HJ2.out; have := HK2.out; have := HJ16.out; omega
     case rel => exact ⟨(y383), (t386), (wrap64 (x7_2 - 1)), (t371), dq14, H', ⟨by have := HJ2.out; have := HK2.out; have := HJ16.out; omega⟩, ⟨by (with_reducible repeat (first | apply Kd.R_alloc | apply Kd.R_drewN | apply Kd.R_drew)); exact HO385.out⟩, ⟨by (with_reducible repeat (first | apply Kd.R_alloc | apply Kd.R_drewN | apply Kd.R_drew)); exact Kd.R_mono HO388.out (fun _ hk => trivial)⟩, ⟨dq20⟩, ⟨dq18⟩, ⟨dq19⟩⟩
    rw [if_pos c26] at H
    have c26b0 := bE c26
    have c26b1 := bQ c26
    clear c26
    replace H := bM H
    obtain ⟨⟨t374, t375⟩, A270, H⟩ := H
    try dsimp only at H
    have A27 := Zq.i A270
    clear A270
    by_cases c28 : x5_2.length < 8796093022208
    rotate_left
    ·rw [if_neg c28] at H
     exact absurd H dq15
    rw [if_pos c28] at H
    have LMc28 := Zq.i c28
    clear c28
    obtain ⟨y376, hy376⟩ : ∃ y_ : List ByteArray, y_ = (x5_2 ++ [t374]) := ⟨_, rfl⟩
    replace H : ((spec_l8Follow.f kj16 l1 (rd x6_2 t370)).bind fun t379 => (spec_l1Rd_row.l0 kj16 l1 y376 t379 (wrap64 (x7_2 - 1)) s0_0 t375)) = some (r1, r2) := by first | (rw [hy376]; with_reducible exact H) | (have H2_ := oS H; rw [hy376]; with_reducible exact H2_) | (have H2_ := oS H; with_reducible exact H2_) | with_reducible exact H | (rw [hy376]; exact H) | exact H
    have Ny376 := Zq.i hy376
    clear hy376
    replace H := bM H
    obtain ⟨t379, A290, H⟩ := H
    try dsimp only at H
    have A29 := Zq.i A290
    clear A290
    have H' := Zq.i H
    clear H
    obtain ⟨Ao30, co30, eo30⟩ := Kd.R_slice HO_6.out
    subst eo30
    go_wp2_with (first | ((with_reducible refine gate_callee (f := 69) rfl ?_); refine goesL_ (some 35) rfl rfl Try.func69 dq24 rfl #[.pointer (some ⟨g, 0, none⟩), .int .i64 (x6_2.length : Int)] rfl dq23 ?_; (with_reducible refine (spec_l1Rd_below.calls g s0_0 x1001_2 (x6_2.length : Int) t370 t371 w0 _ ?side1 ?side2 A21.out).mono ?_); (case side1 => exact dq1); (case side2 => exact dq2); rintro e w31 ⟨rfl, hi, hb, hk⟩; refine ⟨_, rfl, ?_⟩; replace HO_5 := Zq.i (Kd.R_mono (Kd.R_keep (IsS101.apart (show IsS101 w0 _ g s0_0 x1001_2 from by repeat (first | (with_reducible first | exact HI0.out | apply IsS101.alloc | apply IsS101.drewN | apply IsS101.drew | apply IsS101.set_1) | exact HI0.out)) dq72 dq25) hk (fun _ h => h.2)) (fun _ h => h.1)); replace HO_6 := Zq.i (Kd.R_mono (Kd.R_keep (IsS101.apart (show IsS101 w0 _ g s0_0 x1001_2 from by repeat (first | (with_reducible first | exact HI0.out | apply IsS101.alloc | apply IsS101.drewN | apply IsS101.drew | apply IsS101.set_1) | exact HI0.out)) dq83 dq25) hk (fun _ h => h.2)) (fun _ h => h.1)); replace HK := Zq.i (KeepBut.trans dq18 hk (.inl rfl)); replace HB := Zq.i (hb); replace HI0 := Zq.i (hi); (try clear hb hk hi); have p372 : 0 ≤ (t370 : Int) := oT dq22; have q372 : t370 < (x6_2.length : Int) := oT dq22; obtain ⟨ad372, e372, hx372_0⟩ := Kd.at_int (Kd.R_reads' HO_6.out).2.2 t370 p372 q372; cases e372; replace p372 := eq_true p372; replace q372 := eq_true q372; have p373 : 0 ≤ ((rd x6_2 t370) : Int) := oT dq22; have q373 : (rd x6_2 t370) < (l1.length : Int) := oT dq22; obtain ⟨ad373, A373_2, c373_2, e373, hx373_0, hx373_1, hx373_2, hx373_3, hl373_2, hi373_2⟩ := at_T42 (Kd.C_foot_now HR1.out HK.out) (rd x6_2 t370) p373 q373; cases e373; have HR373_2 := Zq.i hi373_2; have HC373_2 := Zq.i hl373_2; clear hi373_2 hl373_2; replace p373 := eq_true p373; replace q373 := eq_true q373) | ((with_reducible refine gate_callee (f := 107) rfl ?_); refine goesL_ (some 46) rfl rfl Try.func107 dq24 rfl #[.pointer (some ⟨g, 0, none⟩)] rfl dq23 ?_; (with_reducible refine (spec_l1Rd_name.calls g s0_0 t371 t374 t375 w0 _ ?side1 ?side2 A27.out).mono ?_); (case side1 => exact dq1); (case side2 => exact dq2); rintro e w32 ⟨rfl, hi, hb, hk⟩; refine ⟨_, rfl, ?_⟩; replace HO_5 := Zq.i (Kd.R_mono (Kd.R_keep (IsS101.apart (show IsS101 w0 _ g s0_0 t371 from by repeat (first | (with_reducible first | exact HI0.out | apply IsS101.alloc | apply IsS101.drewN | apply IsS101.drew | apply IsS101.set_1) | exact HI0.out)) dq72 dq25) hk (fun _ h => h.2)) (fun _ h => h.1)); replace HO_6 := Zq.i (Kd.R_mono (Kd.R_keep (IsS101.apart (show IsS101 w0 _ g s0_0 t371 from by repeat (first | (with_reducible first | exact HI0.out | apply IsS101.alloc | apply IsS101.drewN | apply IsS101.drew | apply IsS101.set_1) | exact HI0.out)) dq83 dq25) hk (fun _ h => h.2)) (fun _ h => h.1)); replace HK := Zq.i (KeepBut.trans dq18 hk (.inl rfl)); replace HB := Zq.i (hb); replace HI0 := Zq.i (hi); (try clear hb hk hi)) | ((with_reducible refine gate_builtin (b := .append) (xs := #[.tmp 44, .tmp 47]) rfl ?_); (try (refine gate_guard dq31 ?_; dsimp only)); at_builtin; refine Kd.R_append Kd.string w.heap.size rfl (.tmp 44) (.tmp 47) 30 9 (.string ⟨#[]⟩) 16 rfl Try.underlying30 info9 rfl dq25 dq28 u5 x5_2 t374 [.string t374] (fun _ => True) (fun _ => False) rfl rfl ?aP (fun _ hk => hk.elim) ?aF ?aO (Below.refl _ _) ?aS ?aL ?_; (case aP => exact rfl); (case aF => exact (fun _ _ => trivial)); (case aO => exact dq72); (case aS => exact (keep_size (w := w) (g := g) (row := none) dq18)); (case aL => have := LMc28.out; omega); intro v377 w33 ho hb hg hat; rw [← Ny376.out] at ho; replace HO_6 := Zq.i (Kd.R_over' dq83 (Kd.R_typed dq72) dq25 hg); replace HB := Zq.i (below_weaken dq19 HL.out hb); replace HI0 := Zq.i (IsS101.grown dq20 hg (IsS101.own_ne HI0.out HO_5.out dq25)); replace HK := Zq.i (KeepBut.trans dq18 (KeepBut.of_grown hg g) (Kd.R_base2 HO_5.out)); have HO378 := Zq.i (ho); clear HO_5; clear ho hb hg hat) | ((with_reducible refine gate_callee (f := 53) rfl ?_); refine goesL_ (some 59) rfl rfl Try.func53 dq24 rfl #[.slice (some ad373) l1.length c1, .int .i64 (rd x6_2 t370)] rfl dq23 ?_; (with_reducible refine (spec_l8Follow.calls kj16 _ _ l1 (rd x6_2 t370) t379 _ ?side1 ?side2 A29.out).mono ?_); (case side1 => exact dq8); (case side2 => exact HC1.out); rintro e w34 ⟨v380, rfl, ho0, hb⟩; refine ⟨_, rfl, ?_⟩; replace HO378 := Zq.i (Kd.R_below (by (with_reducible repeat (first | apply Kd.R_alloc | apply Kd.R_drewN | apply Kd.R_drew)); exact HO378.out) hb); have HO381 := Zq.i (Kd.R_lower (Kd.R_new' ho0 (Kd.R_lt dq83)) (keep_size (w := w) (g := g) (row := none) dq18)); replace HO_6 := Zq.i (Kd.R_elder' dq83 (Kd.R_base ho0) hb); replace HK := Zq.i (KeepBut.trans dq18 (KeepBut.of_below hb g none) (.inl rfl)); replace HB := Zq.i (below_step dq19 hb); replace HI0 := Zq.i (IsS101.below dq20 hb); (try clear hb ho0)))
    go_roundg kj16
    case measure => have := HJ2.out; have := HK2.out; have := HJ16.out; omega
    case rel => exact ⟨(y376), (t379), (wrap64 (x7_2 - 1)), (t375), dq14, H', ⟨by have := HJ2.out; have := HK2.out; have := HJ16.out; omega⟩, ⟨by (with_reducible repeat (first | apply Kd.R_alloc | apply Kd.R_drewN | apply Kd.R_drew)); exact HO378.out⟩, ⟨by (with_reducible repeat (first | apply Kd.R_alloc | apply Kd.R_drewN | apply Kd.R_drew)); exact Kd.R_mono HO381.out (fun _ hk => trivial)⟩, ⟨dq20⟩, ⟨dq18⟩, ⟨dq19⟩⟩

/-! ### spec_DrawAccepts: function 32 -/
def spec_DrawAccepts.f (k : Nat) (l0 : List Int) : Option ((List (S42)) × List ByteArray) := (spec_l1Open.f l0).bind fun bt400 => ((spec_l1Rd_model.f k bt400.1 bt400.2).bind fun bt403 => ((spec_l1Rd_row.f k bt400.1 bt403.2 bt403.1).bind fun bt407 => (some (bt403.1, bt407.1))))
theorem spec_DrawAccepts.calls (k : Nat) (A0 : Option Addr) (c0 : Nat) (l0 : List Int) (r1 : List (S42)) (r2 : List ByteArray) (w : World) (hr0 : Kd.C (Kd.int .u8) w A0 l0.length l0) (hc0 : l0.length ≤ c0) (h : spec_DrawAccepts.f k l0 = some (r1, r2)) :
  Calls Try.prog 32 #[.slice A0 l0.length c0] w fun e w' => ∃ v0_ v1_ : Value, e = .returned (.tuple #[v0_, v1_]) ∧ Kd.S k42 42 w' w.heap.size (fun _ => True) v0_ r1 ∧ Kd.R Kd.string 9 w' w.heap.size (fun _ => True) v1_ r2 ∧ Below w.heap.size w w' := by
 have HR0 := Zq.i hr0
 have HC0 := Zq.i hc0
 clear hr0 hc0
 have HB := Zq.i (Below.refl w.heap.size w)
 have H := h
 unfold spec_DrawAccepts.f at H
 clear h
 replace H := bM H
 obtain ⟨⟨t400, t401⟩, A20, H⟩ := H
 try dsimp only at H
 have A2 := Zq.i A20
 clear A20
 replace H := bM H
 obtain ⟨⟨t403, t406⟩, A30, H⟩ := H
 try dsimp only at H
 have A3 := Zq.i A30
 clear A30
 replace H := bM H
 obtain ⟨⟨t407, t410⟩, A40, H⟩ := H
 try dsimp only at H
 have A4 := Zq.i A40
 clear A40
 obtain ⟨rfl, rfl⟩ := oP H
 go_enter Try.func32, Try.ntmps32
 go_wp2_with (first | ((with_reducible refine gate_callee (f := 64) rfl ?_); refine goesL_ (some 7) rfl rfl Try.func64 dq24 rfl #[.slice A0 l0.length c0] rfl dq23 ?_; (with_reducible refine (spec_l1Open.calls _ _ l0 t400 t401 w _ ?side1 ?side2 ?side3 A2.out).mono ?_); (case side1 => repeat (first | (with_reducible first | exact HB.out | apply below_alloc | apply pw_below_drewN | apply below_drew1) | exact HB.out)); (case side2 => exact HR0.out); (case side3 => exact dq4); rintro e w5 ⟨g402, rfl, hi, hb, hb2⟩; refine ⟨_, rfl, ?_⟩; replace HB := Zq.i (hb); have HI402 := Zq.i (hi); (try clear hb hb2 hi)) | ((with_reducible refine gate_callee (f := 65) rfl ?_); refine goesL_ (some 9) rfl rfl Try.func65 dq24 rfl #[.pointer (some ⟨g402, 0, none⟩)] rfl dq23 ?_; (with_reducible refine (spec_l1Rd_model.calls k g402 t400 t401 t403 t406 w _ ?side1 ?side2 A3.out).mono ?_); (case side1 => repeat (first | (with_reducible first | exact HI402.out | apply IsS101.alloc | apply IsS101.drewN | apply IsS101.drew | apply IsS101.set_1) | exact HI402.out)); (case side2 => repeat (first | (with_reducible first | exact HB.out | apply below_alloc | apply pw_below_drewN | apply below_drew1 | refine below_set ?_ (IsS101.ge HI402.out)) | exact HB.out)); rintro e w6 ⟨v404, rfl, ho0, hi, hb, hk⟩; refine ⟨_, rfl, ?_⟩; have HO405 := Zq.i (Kd.S_lower ho0 (below_size dq85)); replace HB := Zq.i (hb); replace HI402 := Zq.i (hi); (try clear hb hk hi ho0); obtain ⟨Ao7, co7, eo7⟩ := Kd.S_slice HO405.out; subst eo7) | ((with_reducible refine gate_callee (f := 71) rfl ?_); refine goesL_ (some 13) rfl rfl Try.func71 dq24 rfl #[.pointer (some ⟨g402, 0, none⟩), .slice Ao7 t403.length co7] rfl dq23 ?_; (with_reducible refine (spec_l1Rd_row.calls k g402 t400 t406 _ _ t403 t407 t410 w _ ?side1 ?side2 ?side3 ?side4 A4.out).mono ?_); (case side1 => repeat (first | (with_reducible first | exact HI402.out | apply IsS101.alloc | apply IsS101.drewN | apply IsS101.drew | apply IsS101.set_1) | exact HI402.out)); (case side2 => repeat (first | (with_reducible first | exact HB.out | apply below_alloc | apply pw_below_drewN | apply below_drew1 | refine below_set ?_ (IsS101.ge HI402.out)) | exact HB.out)); (case side3 => exact Kd.C_foot_own ((Kd.S_R (IsS101.apartS (show IsS101 w _ g402 t400 t406 from by repeat (first | (with_reducible first | exact HI402.out | apply IsS101.alloc | apply IsS101.drewN | apply IsS101.drew | apply IsS101.set_1) | exact HI402.out)) dq86 dq25))) (fun _ h_ => h_.2)); (case side4 => exact (Kd.S_reads' HO405.out).2.1); rintro e w8 ⟨v408, rfl, ho0, hi, hb, hk⟩; refine ⟨_, rfl, ?_⟩; replace HO405 := Zq.i (Kd.S_mono (Kd.S_keep (IsS101.apartS (show IsS101 w _ g402 t400 t406 from by repeat (first | (with_reducible first | exact HI402.out | apply IsS101.alloc | apply IsS101.drewN | apply IsS101.drew | apply IsS101.set_1) | exact HI402.out)) dq86 dq25) hk (fun _ h => h.2)) (fun _ h => h.1)); have HO409 := Zq.i (Kd.R_lower ho0 (below_size dq85)); replace HB := Zq.i (hb); replace HI402 := Zq.i (hi); (try clear hb hk hi ho0)))
 go_ret2
 exact ⟨_, _, dq21, dq86, by (with_reducible repeat (first | apply Kd.R_alloc | apply Kd.R_drewN | apply Kd.R_drew)); exact HO409.out, dq85⟩

/-! ### spec_DrawSample: function 36 -/
def spec_DrawSample.f (k : Nat) (l0 : List Int) : Option ((List (S42))) := (spec_l1Open.f l0).bind fun bt615 => ((spec_l1Rd_model.f k bt615.1 bt615.2).bind fun bt618 => (some bt618.1))
theorem spec_DrawSample.calls (k : Nat) (A0 : Option Addr) (c0 : Nat) (l0 : List Int) (r : List (S42)) (w : World) (hr0 : Kd.C (Kd.int .u8) w A0 l0.length l0) (hc0 : l0.length ≤ c0) (h : spec_DrawSample.f k l0 = some r) :
  Calls Try.prog 36 #[.slice A0 l0.length c0] w fun e w' => ∃ v0_ : Value, e = .returned (v0_) ∧ Kd.S k42 42 w' w.heap.size (fun _ => True) v0_ r ∧ Below w.heap.size w w' := by
 have HR0 := Zq.i hr0
 have HC0 := Zq.i hc0
 clear hr0 hc0
 have HB := Zq.i (Below.refl w.heap.size w)
 have H := h
 unfold spec_DrawSample.f at H
 clear h
 replace H := bM H
 obtain ⟨⟨t615, t616⟩, A20, H⟩ := H
 try dsimp only at H
 have A2 := Zq.i A20
 clear A20
 replace H := bM H
 obtain ⟨⟨t618, t621⟩, A30, H⟩ := H
 try dsimp only at H
 have A3 := Zq.i A30
 clear A30
 obtain rfl := oI H
 go_enter Try.func36, Try.ntmps36
 go_wp2_with (first | ((with_reducible refine gate_callee (f := 64) rfl ?_); refine goesL_ (some 5) rfl rfl Try.func64 dq24 rfl #[.slice A0 l0.length c0] rfl dq23 ?_; (with_reducible refine (spec_l1Open.calls _ _ l0 t615 t616 w _ ?side1 ?side2 ?side3 A2.out).mono ?_); (case side1 => repeat (first | (with_reducible first | exact HB.out | apply below_alloc | apply pw_below_drewN | apply below_drew1) | exact HB.out)); (case side2 => exact HR0.out); (case side3 => exact dq4); rintro e w4 ⟨g617, rfl, hi, hb, hb2⟩; refine ⟨_, rfl, ?_⟩; replace HB := Zq.i (hb); have HI617 := Zq.i (hi); (try clear hb hb2 hi)) | ((with_reducible refine gate_callee (f := 65) rfl ?_); refine goesL_ (some 7) rfl rfl Try.func65 dq24 rfl #[.pointer (some ⟨g617, 0, none⟩)] rfl dq23 ?_; (with_reducible refine (spec_l1Rd_model.calls k g617 t615 t616 t618 t621 w _ ?side1 ?side2 A3.out).mono ?_); (case side1 => repeat (first | (with_reducible first | exact HI617.out | apply IsS101.alloc | apply IsS101.drewN | apply IsS101.drew | apply IsS101.set_1) | exact HI617.out)); (case side2 => repeat (first | (with_reducible first | exact HB.out | apply below_alloc | apply pw_below_drewN | apply below_drew1 | refine below_set ?_ (IsS101.ge HI617.out)) | exact HB.out)); rintro e w5 ⟨v619, rfl, ho0, hi, hb, hk⟩; refine ⟨_, rfl, ?_⟩; have HO620 := Zq.i (Kd.S_lower ho0 (below_size dq87)); replace HB := Zq.i (hb); replace HI617 := Zq.i (hi); (try clear hb hk hi ho0)))
 go_ret
 exact ⟨_, dq21, by (with_reducible repeat (first | apply Kd.S_alloc | apply Kd.S_drewN | apply Kd.S_drew)); exact HO620.out, dq87⟩

/-! ### impl_in: function 63 -/
def impl_in.f (a0 : Int) (a1 : Int) (a2 : Int) : Option (Bool) := if a1 ≤ a0 then (some (decide (a0 ≤ a2))) else (some false)
theorem impl_in.calls (a0 : Int) (a1 : Int) (a2 : Int) (r : Bool) (w : World) (h : impl_in.f a0 a1 a2 = some r) :
  Calls Try.prog 63 #[.int .i64 a0, .int .i64 a1, .int .i64 a2] w fun e w' => e = .returned (.bool r) ∧ Drawn0 w w' := by
 have H : (if a1 ≤ a0 then (some (decide (a0 ≤ a2))) else (some false)) = some r := h
 clear h
 by_cases c4 : a1 ≤ a0
 ·rw [if_pos c4] at H
  have c4b0 := dT c4
  clear c4
  obtain rfl := oI H
  go_enter Try.func63, Try.ntmps63
  go_wp2
  go_ret
  exact ⟨dq14, dq13⟩
 rw [if_neg c4] at H
 have c4b0 := dF c4
 clear c4
 obtain rfl := oI H
 go_enter Try.func63, Try.ntmps63
 go_wp2
 go_ret
 exact ⟨dq14, dq13⟩

/-! ### impl_NameOk: function 104 -/
def impl_NameOk.l0 : Nat → ByteArray → Int → Int → Option (Bool)
 | 0, _, _, _ => none
 | k + 1, x0, x7, x8 => if x8 < x7 then (if 0 ≤ x8 then (if x8 < (x0.size : Int) then (if (bt x0 x8) ≥ 97 then (if (bt x0 x8) ≤ 122 then (impl_NameOk.l0 k x0 x7 (wrap64 (x8 + 1))) else (if (bt x0 x8) ≥ 65 then (if (bt x0 x8) ≤ 90 then (impl_NameOk.l0 k x0 x7 (wrap64 (x8 + 1))) else (if ((bt x0 x8) = 95) then (impl_NameOk.l0 k x0 x7 (wrap64 (x8 + 1))) else (if x8 = 0 then (some false) else (if (bt x0 x8) ≥ 48 then (if ((bt x0 x8) ≤ 57) then (impl_NameOk.l0 k x0 x7 (wrap64 (x8 + 1))) else (if (bt x0 x8) = 46 then (impl_NameOk.l0 k x0 x7 (wrap64 (x8 + 1))) else (if (bt x0 x8) = 45 then (impl_NameOk.l0 k x0 x7 (wrap64 (x8 + 1))) else (some false)))) else (if (bt x0 x8) = 46 then (impl_NameOk.l0 k x0 x7 (wrap64 (x8 + 1))) else (if (bt x0 x8) = 45 then (impl_NameOk.l0 k x0 x7 (wrap64 (x8 + 1))) else (some false))))))) else (if ((bt x0 x8) = 95) then (impl_NameOk.l0 k x0 x7 (wrap64 (x8 + 1))) else (if x8 = 0 then (some false) else (if (bt x0 x8) ≥ 48 then (if ((bt x0 x8) ≤ 57) then (impl_NameOk.l0 k x0 x7 (wrap64 (x8 + 1))) else (if (bt x0 x8) = 46 then (impl_NameOk.l0 k x0 x7 (wrap64 (x8 + 1))) else (if (bt x0 x8) = 45 then (impl_NameOk.l0 k x0 x7 (wrap64 (x8 + 1))) else (some false)))) else (if (bt x0 x8) = 46 then (impl_NameOk.l0 k x0 x7 (wrap64 (x8 + 1))) else (if (bt x0 x8) = 45 then (impl_NameOk.l0 k x0 x7 (wrap64 (x8 + 1))) else (some false)))))))) else (if (bt x0 x8) ≥ 65 then (if (bt x0 x8) ≤ 90 then (impl_NameOk.l0 k x0 x7 (wrap64 (x8 + 1))) else (if ((bt x0 x8) = 95) then (impl_NameOk.l0 k x0 x7 (wrap64 (x8 + 1))) else (if x8 = 0 then (some false) else (if (bt x0 x8) ≥ 48 then (if ((bt x0 x8) ≤ 57) then (impl_NameOk.l0 k x0 x7 (wrap64 (x8 + 1))) else (if (bt x0 x8) = 46 then (impl_NameOk.l0 k x0 x7 (wrap64 (x8 + 1))) else (if (bt x0 x8) = 45 then (impl_NameOk.l0 k x0 x7 (wrap64 (x8 + 1))) else (some false)))) else (if (bt x0 x8) = 46 then (impl_NameOk.l0 k x0 x7 (wrap64 (x8 + 1))) else (if (bt x0 x8) = 45 then (impl_NameOk.l0 k x0 x7 (wrap64 (x8 + 1))) else (some false))))))) else (if ((bt x0 x8) = 95) then (impl_NameOk.l0 k x0 x7 (wrap64 (x8 + 1))) else (if x8 = 0 then (some false) else (if (bt x0 x8) ≥ 48 then (if ((bt x0 x8) ≤ 57) then (impl_NameOk.l0 k x0 x7 (wrap64 (x8 + 1))) else (if (bt x0 x8) = 46 then (impl_NameOk.l0 k x0 x7 (wrap64 (x8 + 1))) else (if (bt x0 x8) = 45 then (impl_NameOk.l0 k x0 x7 (wrap64 (x8 + 1))) else (some false)))) else (if (bt x0 x8) = 46 then (impl_NameOk.l0 k x0 x7 (wrap64 (x8 + 1))) else (if (bt x0 x8) = 45 then (impl_NameOk.l0 k x0 x7 (wrap64 (x8 + 1))) else (some false)))))))) else (none)) else (none)) else ((impl_in.f (x0.size : Int) 1 40).bind fun t418 => (some t418))
def impl_NameOk.f (k : Nat) (a0 : ByteArray) : Option (Bool) := impl_NameOk.l0 k a0 (a0.size : Int) 0
theorem impl_NameOk.calls (k : Nat) (a0 : ByteArray) (r : Bool) (w : World) (h : impl_NameOk.f k a0 = some r) :
  Calls Try.prog 104 #[.string a0] w fun e w' => e = .returned (.bool r) ∧ Drawn0 w w' := by
 have H := h
 unfold impl_NameOk.f at H
 clear h
 have H' := Zq.i H
 clear H
 go_enter Try.func104, Try.ntmps104
 go_wp2
 go_loopg [8] k (fun kq v8 w' => ∃ (x8_1 : Int), v8 = .int .i64 x8_1 ∧ Zq (impl_NameOk.l0 kq a0 (a0.size : Int) x8_1 = some r) ∧ Zq (kq ≤ k) ∧ Drawn0 w w')
 case atStart => exact ⟨(0), dq14, H', ⟨Nat.le_refl _⟩, dq13⟩
 clear H'
 obtain ⟨x8_1, rfl, HA, HK1, ⟨m1, rfl⟩⟩ := hrel
 cases gk with
 | zero => exact absurd HA.out (by simp [impl_NameOk.l0])
 | succ k1 =>
  have H := HA.out
  clear HA
  simp only [impl_NameOk.l0] at H
  by_cases c2 : x8_1 < (a0.size : Int)
  rotate_left
  ·rw [if_neg c2] at H
   have c2b0 := dF c2
   clear c2
   replace H := bM H
   obtain ⟨t418, A440, H⟩ := H
   try dsimp only at H
   have A44 := Zq.i A440
   clear A440
   obtain rfl := oI H
   go_wp2_with (first | ((with_reducible refine gate_callee (f := 63) rfl ?_); refine goesL_ (some 58) rfl rfl Try.func63 dq24 rfl #[.int .i64 (a0.size : Int), .int .i64 1, .int .i64 40] rfl dq23 ?_; (with_reducible refine (impl_in.calls (a0.size : Int) 1 40 t418 _ A44.out).mono ?_); rintro e w' ⟨rfl, ⟨nd, rfl⟩⟩; refine ⟨_, rfl, ?_⟩))
   go_ret
   exact ⟨dq14, dq13⟩
  rw [if_pos c2] at H
  have c2b0 := dT c2
  clear c2
  by_cases c3 : 0 ≤ x8_1
  rotate_left
  ·rw [if_neg c3] at H
   exact absurd H dq15
  rw [if_pos c3] at H
  have c3b0 := dT c3
  clear c3
  by_cases c4 : x8_1 < (a0.size : Int)
  rotate_left
  ·rw [if_neg c4] at H
   exact absurd H dq15
  rw [if_pos c4] at H
  have c4b0 := dT c4
  clear c4
  by_cases c6 : (bt a0 x8_1) ≥ 97
  rotate_left
  ·rw [if_neg c6] at H
   have c6b0 : decide (97 ≤ (bt a0 x8_1)) = false := dF c6
   clear c6
   by_cases c26 : (bt a0 x8_1) ≥ 65
   rotate_left
   ·rw [if_neg c26] at H
    have c26b0 : decide (65 ≤ (bt a0 x8_1)) = false := dF c26
    clear c26
    by_cases c36 : ((bt a0 x8_1) = 95)
    ·rw [if_pos c36] at H
     have c36b0 : ((bt a0 x8_1) == 95) = true := bE c36
     have c36b1 : ((bt a0 x8_1) != 95) = false := bQ c36
     clear c36
     have H' := Zq.i H
     clear H
     have p5 : 0 ≤ (x8_1 : Int) := oT dq22
     have q5 : x8_1 < (a0.size : Int) := oT dq22
     have hx5 := bt_at a0 x8_1
     replace p5 := eq_true p5
     replace q5 := eq_true q5
     go_wp2
     go_roundg k1
     case measure => have := HK1.out; omega
     case rel => exact ⟨(wrap64 (x8_1 + 1)), dq14, H', ⟨dq27⟩, dq13⟩
    rw [if_neg c36] at H
    have c36b0 : ((bt a0 x8_1) == 95) = false := bN c36
    have c36b1 : ((bt a0 x8_1) != 95) = true := bO c36
    by_cases c37 : x8_1 = 0
    ·rw [if_pos c37] at H
     have c37b0 := bE c37
     have c37b1 := bQ c37
     clear c37
     obtain rfl := oI H
     have p5 : 0 ≤ (x8_1 : Int) := oT dq22
     have q5 : x8_1 < (a0.size : Int) := oT dq22
     have hx5 := bt_at a0 x8_1
     replace p5 := eq_true p5
     replace q5 := eq_true q5
     go_wp2
     go_ret
     exact ⟨dq14, dq13⟩
    rw [if_neg c37] at H
    have c37b0 := bN c37
    have c37b1 := bO c37
    by_cases c38 : (bt a0 x8_1) ≥ 48
    rotate_left
    ·rw [if_neg c38] at H
     have c38b0 : decide (48 ≤ (bt a0 x8_1)) = false := dF c38
     clear c38
     by_cases c42 : (bt a0 x8_1) = 46
     ·rw [if_pos c42] at H
      have c42b0 := bE c42
      have c42b1 := bQ c42
      clear c42
      have H' := Zq.i H
      clear H
      have p5 : 0 ≤ (x8_1 : Int) := oT dq22
      have q5 : x8_1 < (a0.size : Int) := oT dq22
      have hx5 := bt_at a0 x8_1
      replace p5 := eq_true p5
      replace q5 := eq_true q5
      go_wp2
      go_roundg k1
      case measure => have := HK1.out; omega
      case rel => exact ⟨(wrap64 (x8_1 + 1)), dq14, H', ⟨dq27⟩, dq13⟩
     rw [if_neg c42] at H
     have c42b0 := bN c42
     have c42b1 := bO c42
     by_cases c43 : (bt a0 x8_1) = 45
     rotate_left
     ·rw [if_neg c43] at H
      have c43b0 := bN c43
      have c43b1 := bO c43
      obtain rfl := oI H
      have p5 : 0 ≤ (x8_1 : Int) := oT dq22
      have q5 : x8_1 < (a0.size : Int) := oT dq22
      have hx5 := bt_at a0 x8_1
      replace p5 := eq_true p5
      replace q5 := eq_true q5
      go_wp2
      go_ret
      exact ⟨dq14, dq13⟩
     rw [if_pos c43] at H
     have c43b0 := bE c43
     have c43b1 := bQ c43
     clear c43
     have H' := Zq.i H
     clear H
     have p5 : 0 ≤ (x8_1 : Int) := oT dq22
     have q5 : x8_1 < (a0.size : Int) := oT dq22
     have hx5 := bt_at a0 x8_1
     replace p5 := eq_true p5
     replace q5 := eq_true q5
     go_wp2
     go_roundg k1
     case measure => have := HK1.out; omega
     case rel => exact ⟨(wrap64 (x8_1 + 1)), dq14, H', ⟨dq27⟩, dq13⟩
    rw [if_pos c38] at H
    have c38b0 : decide (48 ≤ (bt a0 x8_1)) = true := dT c38
    clear c38
    by_cases c39 : ((bt a0 x8_1) ≤ 57)
    ·rw [if_pos c39] at H
     have c39b0 : decide ((bt a0 x8_1) ≤ 57) = true := dT c39
     clear c39
     have H' := Zq.i H
     clear H
     have p5 : 0 ≤ (x8_1 : Int) := oT dq22
     have q5 : x8_1 < (a0.size : Int) := oT dq22
     have hx5 := bt_at a0 x8_1
     replace p5 := eq_true p5
     replace q5 := eq_true q5
     go_wp2
     go_roundg k1
     case measure => have := HK1.out; omega
     case rel => exact ⟨(wrap64 (x8_1 + 1)), dq14, H', ⟨dq27⟩, dq13⟩
    rw [if_neg c39] at H
    have c39b0 : decide ((bt a0 x8_1) ≤ 57) = false := dF c39
    clear c39
    by_cases c40 : (bt a0 x8_1) = 46
    ·rw [if_pos c40] at H
     have c40b0 := bE c40
     have c40b1 := bQ c40
     clear c40
     have H' := Zq.i H
     clear H
     have p5 : 0 ≤ (x8_1 : Int) := oT dq22
     have q5 : x8_1 < (a0.size : Int) := oT dq22
     have hx5 := bt_at a0 x8_1
     replace p5 := eq_true p5
     replace q5 := eq_true q5
     go_wp2
     go_roundg k1
     case measure => have := HK1.out; omega
     case rel => exact ⟨(wrap64 (x8_1 + 1)), dq14, H', ⟨dq27⟩, dq13⟩
    rw [if_neg c40] at H
    have c40b0 := bN c40
    have c40b1 := bO c40
    by_cases c41 : (bt a0 x8_1) = 45
    rotate_left
    ·rw [if_neg c41] at H
     have c41b0 := bN c41
     have c41b1 := bO c41
     obtain rfl := oI H
     have p5 : 0 ≤ (x8_1 : Int) := oT dq22
     have q5 : x8_1 < (a0.size : Int) := oT dq22
     have hx5 := bt_at a0 x8_1
     replace p5 := eq_true p5
     replace q5 := eq_true q5
     go_wp2
     go_ret
     exact ⟨dq14, dq13⟩
    rw [if_pos c41] at H
    have c41b0 := bE c41
    have c41b1 := bQ c41
    clear c41
    have H' := Zq.i H
    clear H
    have p5 : 0 ≤ (x8_1 : Int) := oT dq22
    have q5 : x8_1 < (a0.size : Int) := oT dq22
    have hx5 := bt_at a0 x8_1
    replace p5 := eq_true p5
    replace q5 := eq_true q5
    go_wp2
    go_roundg k1
    case measure => have := HK1.out; omega
    case rel => exact ⟨(wrap64 (x8_1 + 1)), dq14, H', ⟨dq27⟩, dq13⟩
   rw [if_pos c26] at H
   have c26b0 : decide (65 ≤ (bt a0 x8_1)) = true := dT c26
   clear c26
   by_cases c27 : (bt a0 x8_1) ≤ 90
   ·rw [if_pos c27] at H
    have c27b0 := dT c27
    clear c27
    have H' := Zq.i H
    clear H
    have p5 : 0 ≤ (x8_1 : Int) := oT dq22
    have q5 : x8_1 < (a0.size : Int) := oT dq22
    have hx5 := bt_at a0 x8_1
    replace p5 := eq_true p5
    replace q5 := eq_true q5
    go_wp2
    go_roundg k1
    case measure => have := HK1.out; omega
    case rel => exact ⟨(wrap64 (x8_1 + 1)), dq14, H', ⟨dq27⟩, dq13⟩
   rw [if_neg c27] at H
   have c27b0 := dF c27
   clear c27
   by_cases c28 : ((bt a0 x8_1) = 95)
   ·rw [if_pos c28] at H
    have c28b0 : ((bt a0 x8_1) == 95) = true := bE c28
    have c28b1 : ((bt a0 x8_1) != 95) = false := bQ c28
    clear c28
    have H' := Zq.i H
    clear H
    have p5 : 0 ≤ (x8_1 : Int) := oT dq22
    have q5 : x8_1 < (a0.size : Int) := oT dq22
    have hx5 := bt_at a0 x8_1
    replace p5 := eq_true p5
    replace q5 := eq_true q5
    go_wp2
    go_roundg k1
    case measure => have := HK1.out; omega
    case rel => exact ⟨(wrap64 (x8_1 + 1)), dq14, H', ⟨dq27⟩, dq13⟩
   rw [if_neg c28] at H
   have c28b0 : ((bt a0 x8_1) == 95) = false := bN c28
   have c28b1 : ((bt a0 x8_1) != 95) = true := bO c28
   by_cases c29 : x8_1 = 0
   ·rw [if_pos c29] at H
    have c29b0 := bE c29
    have c29b1 := bQ c29
    clear c29
    obtain rfl := oI H
    have p5 : 0 ≤ (x8_1 : Int) := oT dq22
    have q5 : x8_1 < (a0.size : Int) := oT dq22
    have hx5 := bt_at a0 x8_1
    replace p5 := eq_true p5
    replace q5 := eq_true q5
    go_wp2
    go_ret
    exact ⟨dq14, dq13⟩
   rw [if_neg c29] at H
   have c29b0 := bN c29
   have c29b1 := bO c29
   by_cases c30 : (bt a0 x8_1) ≥ 48
   rotate_left
   ·rw [if_neg c30] at H
    have c30b0 : decide (48 ≤ (bt a0 x8_1)) = false := dF c30
    clear c30
    by_cases c34 : (bt a0 x8_1) = 46
    ·rw [if_pos c34] at H
     have c34b0 := bE c34
     have c34b1 := bQ c34
     clear c34
     have H' := Zq.i H
     clear H
     have p5 : 0 ≤ (x8_1 : Int) := oT dq22
     have q5 : x8_1 < (a0.size : Int) := oT dq22
     have hx5 := bt_at a0 x8_1
     replace p5 := eq_true p5
     replace q5 := eq_true q5
     go_wp2
     go_roundg k1
     case measure => have := HK1.out; omega
     case rel => exact ⟨(wrap64 (x8_1 + 1)), dq14, H', ⟨dq27⟩, dq13⟩
    rw [if_neg c34] at H
    have c34b0 := bN c34
    have c34b1 := bO c34
    by_cases c35 : (bt a0 x8_1) = 45
    rotate_left
    ·rw [if_neg c35] at H
     have c35b0 := bN c35
     have c35b1 := bO c35
     obtain rfl := oI H
     have p5 : 0 ≤ (x8_1 : Int) := oT dq22
     have q5 : x8_1 < (a0.size : Int) := oT dq22
     have hx5 := bt_at a0 x8_1
     replace p5 := eq_true p5
     replace q5 := eq_true q5
     go_wp2
     go_ret
     exact ⟨dq14, dq13⟩
    rw [if_pos c35] at H
    have c35b0 := bE c35
    have c35b1 := bQ c35
    clear c35
    have H' := Zq.i H
    clear H
    have p5 : 0 ≤ (x8_1 : Int) := oT dq22
    have q5 : x8_1 < (a0.size : Int) := oT dq22
    have hx5 := bt_at a0 x8_1
    replace p5 := eq_true p5
    replace q5 := eq_true q5
    go_wp2
    go_roundg k1
    case measure => have := HK1.out; omega
    case rel => exact ⟨(wrap64 (x8_1 + 1)), dq14, H', ⟨dq27⟩, dq13⟩
   rw [if_pos c30] at H
   have c30b0 : decide (48 ≤ (bt a0 x8_1)) = true := dT c30
   clear c30
   by_cases c31 : ((bt a0 x8_1) ≤ 57)
   ·rw [if_pos c31] at H
    have c31b0 : decide ((bt a0 x8_1) ≤ 57) = true := dT c31
    clear c31
    have H' := Zq.i H
    clear H
    have p5 : 0 ≤ (x8_1 : Int) := oT dq22
    have q5 : x8_1 < (a0.size : Int) := oT dq22
    have hx5 := bt_at a0 x8_1
    replace p5 := eq_true p5
    replace q5 := eq_true q5
    go_wp2
    go_roundg k1
    case measure => have := HK1.out; omega
    case rel => exact ⟨(wrap64 (x8_1 + 1)), dq14, H', ⟨dq27⟩, dq13⟩
   rw [if_neg c31] at H
   have c31b0 : decide ((bt a0 x8_1) ≤ 57) = false := dF c31
   clear c31
   by_cases c32 : (bt a0 x8_1) = 46
   ·rw [if_pos c32] at H
    have c32b0 := bE c32
    have c32b1 := bQ c32
    clear c32
    have H' := Zq.i H
    clear H
    have p5 : 0 ≤ (x8_1 : Int) := oT dq22
    have q5 : x8_1 < (a0.size : Int) := oT dq22
    have hx5 := bt_at a0 x8_1
    replace p5 := eq_true p5
    replace q5 := eq_true q5
    go_wp2
    go_roundg k1
    case measure => have := HK1.out; omega
    case rel => exact ⟨(wrap64 (x8_1 + 1)), dq14, H', ⟨dq27⟩, dq13⟩
   rw [if_neg c32] at H
   have c32b0 := bN c32
   have c32b1 := bO c32
   by_cases c33 : (bt a0 x8_1) = 45
   rotate_left
   ·rw [if_neg c33] at H
    have c33b0 := bN c33
    have c33b1 := bO c33
    obtain rfl := oI H
    have p5 : 0 ≤ (x8_1 : Int) := oT dq22
    have q5 : x8_1 < (a0.size : Int) := oT dq22
    have hx5 := bt_at a0 x8_1
    replace p5 := eq_true p5
    replace q5 := eq_true q5
    go_wp2
    go_ret
    exact ⟨dq14, dq13⟩
   rw [if_pos c33] at H
   have c33b0 := bE c33
   have c33b1 := bQ c33
   clear c33
   have H' := Zq.i H
   clear H
   have p5 : 0 ≤ (x8_1 : Int) := oT dq22
   have q5 : x8_1 < (a0.size : Int) := oT dq22
   have hx5 := bt_at a0 x8_1
   replace p5 := eq_true p5
   replace q5 := eq_true q5
   go_wp2
   go_roundg k1
   case measure => have := HK1.out; omega
   case rel => exact ⟨(wrap64 (x8_1 + 1)), dq14, H', ⟨dq27⟩, dq13⟩
  rw [if_pos c6] at H
  have c6b0 : decide (97 ≤ (bt a0 x8_1)) = true := dT c6
  clear c6
  by_cases c7 : (bt a0 x8_1) ≤ 122
  ·rw [if_pos c7] at H
   have c7b0 := dT c7
   clear c7
   have H' := Zq.i H
   clear H
   have p5 : 0 ≤ (x8_1 : Int) := oT dq22
   have q5 : x8_1 < (a0.size : Int) := oT dq22
   have hx5 := bt_at a0 x8_1
   replace p5 := eq_true p5
   replace q5 := eq_true q5
   go_wp2
   go_roundg k1
   case measure => have := HK1.out; omega
   case rel => exact ⟨(wrap64 (x8_1 + 1)), dq14, H', ⟨dq27⟩, dq13⟩
  rw [if_neg c7] at H
  have c7b0 := dF c7
  clear c7
  by_cases c8 : (bt a0 x8_1) ≥ 65
  rotate_left
  ·rw [if_neg c8] at H
   have c8b0 : decide (65 ≤ (bt a0 x8_1)) = false := dF c8
   clear c8
   by_cases c18 : ((bt a0 x8_1) = 95)
   ·rw [if_pos c18] at H
    have c18b0 : ((bt a0 x8_1) == 95) = true := bE c18
    have c18b1 : ((bt a0 x8_1) != 95) = false := bQ c18
    clear c18
    have H' := Zq.i H
    clear H
    have p5 : 0 ≤ (x8_1 : Int) := oT dq22
    have q5 : x8_1 < (a0.size : Int) := oT dq22
    have hx5 := bt_at a0 x8_1
    replace p5 := eq_true p5
    replace q5 := eq_true q5
    go_wp2
    go_roundg k1
    case measure => have := HK1.out; omega
    case rel => exact ⟨(wrap64 (x8_1 + 1)), dq14, H', ⟨dq27⟩, dq13⟩
   rw [if_neg c18] at H
   have c18b0 : ((bt a0 x8_1) == 95) = false := bN c18
   have c18b1 : ((bt a0 x8_1) != 95) = true := bO c18
   by_cases c19 : x8_1 = 0
   ·rw [if_pos c19] at H
    have c19b0 := bE c19
    have c19b1 := bQ c19
    clear c19
    obtain rfl := oI H
    have p5 : 0 ≤ (x8_1 : Int) := oT dq22
    have q5 : x8_1 < (a0.size : Int) := oT dq22
    have hx5 := bt_at a0 x8_1
    replace p5 := eq_true p5
    replace q5 := eq_true q5
    go_wp2
    go_ret
    exact ⟨dq14, dq13⟩
   rw [if_neg c19] at H
   have c19b0 := bN c19
   have c19b1 := bO c19
   by_cases c20 : (bt a0 x8_1) ≥ 48
   rotate_left
   ·rw [if_neg c20] at H
    have c20b0 : decide (48 ≤ (bt a0 x8_1)) = false := dF c20
    clear c20
    by_cases c24 : (bt a0 x8_1) = 46
    ·rw [if_pos c24] at H
     have c24b0 := bE c24
     have c24b1 := bQ c24
     clear c24
     have H' := Zq.i H
     clear H
     have p5 : 0 ≤ (x8_1 : Int) := oT dq22
     have q5 : x8_1 < (a0.size : Int) := oT dq22
     have hx5 := bt_at a0 x8_1
     replace p5 := eq_true p5
     replace q5 := eq_true q5
     go_wp2
     go_roundg k1
     case measure => have := HK1.out; omega
     case rel => exact ⟨(wrap64 (x8_1 + 1)), dq14, H', ⟨dq27⟩, dq13⟩
    rw [if_neg c24] at H
    have c24b0 := bN c24
    have c24b1 := bO c24
    by_cases c25 : (bt a0 x8_1) = 45
    rotate_left
    ·rw [if_neg c25] at H
     have c25b0 := bN c25
     have c25b1 := bO c25
     obtain rfl := oI H
     have p5 : 0 ≤ (x8_1 : Int) := oT dq22
     have q5 : x8_1 < (a0.size : Int) := oT dq22
     have hx5 := bt_at a0 x8_1
     replace p5 := eq_true p5
     replace q5 := eq_true q5
     go_wp2
     go_ret
     exact ⟨dq14, dq13⟩
    rw [if_pos c25] at H
    have c25b0 := bE c25
    have c25b1 := bQ c25
    clear c25
    have H' := Zq.i H
    clear H
    have p5 : 0 ≤ (x8_1 : Int) := oT dq22
    have q5 : x8_1 < (a0.size : Int) := oT dq22
    have hx5 := bt_at a0 x8_1
    replace p5 := eq_true p5
    replace q5 := eq_true q5
    go_wp2
    go_roundg k1
    case measure => have := HK1.out; omega
    case rel => exact ⟨(wrap64 (x8_1 + 1)), dq14, H', ⟨dq27⟩, dq13⟩
   rw [if_pos c20] at H
   have c20b0 : decide (48 ≤ (bt a0 x8_1)) = true := dT c20
   clear c20
   by_cases c21 : ((bt a0 x8_1) ≤ 57)
   ·rw [if_pos c21] at H
    have c21b0 : decide ((bt a0 x8_1) ≤ 57) = true := dT c21
    clear c21
    have H' := Zq.i H
    clear H
    have p5 : 0 ≤ (x8_1 : Int) := oT dq22
    have q5 : x8_1 < (a0.size : Int) := oT dq22
    have hx5 := bt_at a0 x8_1
    replace p5 := eq_true p5
    replace q5 := eq_true q5
    go_wp2
    go_roundg k1
    case measure => have := HK1.out; omega
    case rel => exact ⟨(wrap64 (x8_1 + 1)), dq14, H', ⟨dq27⟩, dq13⟩
   rw [if_neg c21] at H
   have c21b0 : decide ((bt a0 x8_1) ≤ 57) = false := dF c21
   clear c21
   by_cases c22 : (bt a0 x8_1) = 46
   ·rw [if_pos c22] at H
    have c22b0 := bE c22
    have c22b1 := bQ c22
    clear c22
    have H' := Zq.i H
    clear H
    have p5 : 0 ≤ (x8_1 : Int) := oT dq22
    have q5 : x8_1 < (a0.size : Int) := oT dq22
    have hx5 := bt_at a0 x8_1
    replace p5 := eq_true p5
    replace q5 := eq_true q5
    go_wp2
    go_roundg k1
    case measure => have := HK1.out; omega
    case rel => exact ⟨(wrap64 (x8_1 + 1)), dq14, H', ⟨dq27⟩, dq13⟩
   rw [if_neg c22] at H
   have c22b0 := bN c22
   have c22b1 := bO c22
   by_cases c23 : (bt a0 x8_1) = 45
   rotate_left
   ·rw [if_neg c23] at H
    have c23b0 := bN c23
    have c23b1 := bO c23
    obtain rfl := oI H
    have p5 : 0 ≤ (x8_1 : Int) := oT dq22
    have q5 : x8_1 < (a0.size : Int) := oT dq22
    have hx5 := bt_at a0 x8_1
    replace p5 := eq_true p5
    replace q5 := eq_true q5
    go_wp2
    go_ret
    exact ⟨dq14, dq13⟩
   rw [if_pos c23] at H
   have c23b0 := bE c23
   have c23b1 := bQ c23
   clear c23
   have H' := Zq.i H
   clear H
   have p5 : 0 ≤ (x8_1 : Int) := oT dq22
   have q5 : x8_1 < (a0.size : Int) := oT dq22
   have hx5 := bt_at a0 x8_1
   replace p5 := eq_true p5
   replace q5 := eq_true q5
   go_wp2
   go_roundg k1
   case measure => have := HK1.out; omega
   case rel => exact ⟨(wrap64 (x8_1 + 1)), dq14, H', ⟨dq27⟩, dq13⟩
  rw [if_pos c8] at H
  have c8b0 : decide (65 ≤ (bt a0 x8_1)) = true := dT c8
  clear c8
  by_cases c9 : (bt a0 x8_1) ≤ 90
  ·rw [if_pos c9] at H
   have c9b0 := dT c9
   clear c9
   have H' := Zq.i H
   clear H
   have p5 : 0 ≤ (x8_1 : Int) := oT dq22
   have q5 : x8_1 < (a0.size : Int) := oT dq22
   have hx5 := bt_at a0 x8_1
   replace p5 := eq_true p5
   replace q5 := eq_true q5
   go_wp2
   go_roundg k1
   case measure => have := HK1.out; omega
   case rel => exact ⟨(wrap64 (x8_1 + 1)), dq14, H', ⟨dq27⟩, dq13⟩
  rw [if_neg c9] at H
  have c9b0 := dF c9
  clear c9
  by_cases c10 : ((bt a0 x8_1) = 95)
  ·rw [if_pos c10] at H
   have c10b0 : ((bt a0 x8_1) == 95) = true := bE c10
   have c10b1 : ((bt a0 x8_1) != 95) = false := bQ c10
   clear c10
   have H' := Zq.i H
   clear H
   have p5 : 0 ≤ (x8_1 : Int) := oT dq22
   have q5 : x8_1 < (a0.size : Int) := oT dq22
   have hx5 := bt_at a0 x8_1
   replace p5 := eq_true p5
   replace q5 := eq_true q5
   go_wp2
   go_roundg k1
   case measure => have := HK1.out; omega
   case rel => exact ⟨(wrap64 (x8_1 + 1)), dq14, H', ⟨dq27⟩, dq13⟩
  rw [if_neg c10] at H
  have c10b0 : ((bt a0 x8_1) == 95) = false := bN c10
  have c10b1 : ((bt a0 x8_1) != 95) = true := bO c10
  by_cases c11 : x8_1 = 0
  ·rw [if_pos c11] at H
   have c11b0 := bE c11
   have c11b1 := bQ c11
   clear c11
   obtain rfl := oI H
   have p5 : 0 ≤ (x8_1 : Int) := oT dq22
   have q5 : x8_1 < (a0.size : Int) := oT dq22
   have hx5 := bt_at a0 x8_1
   replace p5 := eq_true p5
   replace q5 := eq_true q5
   go_wp2
   go_ret
   exact ⟨dq14, dq13⟩
  rw [if_neg c11] at H
  have c11b0 := bN c11
  have c11b1 := bO c11
  by_cases c12 : (bt a0 x8_1) ≥ 48
  rotate_left
  ·rw [if_neg c12] at H
   have c12b0 : decide (48 ≤ (bt a0 x8_1)) = false := dF c12
   clear c12
   by_cases c16 : (bt a0 x8_1) = 46
   ·rw [if_pos c16] at H
    have c16b0 := bE c16
    have c16b1 := bQ c16
    clear c16
    have H' := Zq.i H
    clear H
    have p5 : 0 ≤ (x8_1 : Int) := oT dq22
    have q5 : x8_1 < (a0.size : Int) := oT dq22
    have hx5 := bt_at a0 x8_1
    replace p5 := eq_true p5
    replace q5 := eq_true q5
    go_wp2
    go_roundg k1
    case measure => have := HK1.out; omega
    case rel => exact ⟨(wrap64 (x8_1 + 1)), dq14, H', ⟨dq27⟩, dq13⟩
   rw [if_neg c16] at H
   have c16b0 := bN c16
   have c16b1 := bO c16
   by_cases c17 : (bt a0 x8_1) = 45
   rotate_left
   ·rw [if_neg c17] at H
    have c17b0 := bN c17
    have c17b1 := bO c17
    obtain rfl := oI H
    have p5 : 0 ≤ (x8_1 : Int) := oT dq22
    have q5 : x8_1 < (a0.size : Int) := oT dq22
    have hx5 := bt_at a0 x8_1
    replace p5 := eq_true p5
    replace q5 := eq_true q5
    go_wp2
    go_ret
    exact ⟨dq14, dq13⟩
   rw [if_pos c17] at H
   have c17b0 := bE c17
   have c17b1 := bQ c17
   clear c17
   have H' := Zq.i H
   clear H
   have p5 : 0 ≤ (x8_1 : Int) := oT dq22
   have q5 : x8_1 < (a0.size : Int) := oT dq22
   have hx5 := bt_at a0 x8_1
   replace p5 := eq_true p5
   replace q5 := eq_true q5
   go_wp2
   go_roundg k1
   case measure => have := HK1.out; omega
   case rel => exact ⟨(wrap64 (x8_1 + 1)), dq14, H', ⟨dq27⟩, dq13⟩
  rw [if_pos c12] at H
  have c12b0 : decide (48 ≤ (bt a0 x8_1)) = true := dT c12
  clear c12
  by_cases c13 : ((bt a0 x8_1) ≤ 57)
  ·rw [if_pos c13] at H
   have c13b0 : decide ((bt a0 x8_1) ≤ 57) = true := dT c13
   clear c13
   have H' := Zq.i H
   clear H
   have p5 : 0 ≤ (x8_1 : Int) := oT dq22
   have q5 : x8_1 < (a0.size : Int) := oT dq22
   have hx5 := bt_at a0 x8_1
   replace p5 := eq_true p5
   replace q5 := eq_true q5
   go_wp2
   go_roundg k1
   case measure => have := HK1.out; omega
   case rel => exact ⟨(wrap64 (x8_1 + 1)), dq14, H', ⟨dq27⟩, dq13⟩
  rw [if_neg c13] at H
  have c13b0 : decide ((bt a0 x8_1) ≤ 57) = false := dF c13
  clear c13
  by_cases c14 : (bt a0 x8_1) = 46
  ·rw [if_pos c14] at H
   have c14b0 := bE c14
   have c14b1 := bQ c14
   clear c14
   have H' := Zq.i H
   clear H
   have p5 : 0 ≤ (x8_1 : Int) := oT dq22
   have q5 : x8_1 < (a0.size : Int) := oT dq22
   have hx5 := bt_at a0 x8_1
   replace p5 := eq_true p5
   replace q5 := eq_true q5
   go_wp2
   go_roundg k1
   case measure => have := HK1.out; omega
   case rel => exact ⟨(wrap64 (x8_1 + 1)), dq14, H', ⟨dq27⟩, dq13⟩
  rw [if_neg c14] at H
  have c14b0 := bN c14
  have c14b1 := bO c14
  by_cases c15 : (bt a0 x8_1) = 45
  rotate_left
  ·rw [if_neg c15] at H
   have c15b0 := bN c15
   have c15b1 := bO c15
   obtain rfl := oI H
   have p5 : 0 ≤ (x8_1 : Int) := oT dq22
   have q5 : x8_1 < (a0.size : Int) := oT dq22
   have hx5 := bt_at a0 x8_1
   replace p5 := eq_true p5
   replace q5 := eq_true q5
   go_wp2
   go_ret
   exact ⟨dq14, dq13⟩
  rw [if_pos c15] at H
  have c15b0 := bE c15
  have c15b1 := bQ c15
  clear c15
  have H' := Zq.i H
  clear H
  have p5 : 0 ≤ (x8_1 : Int) := oT dq22
  have q5 : x8_1 < (a0.size : Int) := oT dq22
  have hx5 := bt_at a0 x8_1
  replace p5 := eq_true p5
  replace q5 := eq_true q5
  go_wp2
  go_roundg k1
  case measure => have := HK1.out; omega
  case rel => exact ⟨(wrap64 (x8_1 + 1)), dq14, H', ⟨dq27⟩, dq13⟩

/-! ### impl_PNode_fits: function 68 -/
def impl_PNode_fits.f (k : Nat) (a0_0 : Int) (a0_1 : ByteArray) (l0_2 : List Int) (a0_3 : Int) : Option (Bool) := if a0_0 = 1 then ((impl_NameOk.f k a0_1).bind fun t420 => (if t420 = true then (some ((l0_2.length : Int) == 0)) else (some false))) else (if a0_0 = 4 then (if a0_1.toList = ([] : List UInt8) then (if a0_0 = 2 then (some true) else (some ((l0_2.length : Int) == 0))) else (some false)) else (if a0_0 = 2 then (if a0_1.toList = ([] : List UInt8) then (some true) else (some false)) else (if a0_0 = 3 then (if a0_1.toList = ([] : List UInt8) then (some (decide ((l0_2.length : Int) ≥ 2))) else (some false)) else (some false))))
theorem impl_PNode_fits.calls (k : Nat) (a0_0 : Int) (a0_1 : ByteArray) (A0_2 : Option Addr) (c0_2 : Nat) (l0_2 : List Int) (a0_3 : Int) (r : Bool) (w : World) (hr0_2 : Kd.C (Kd.int .i64) w A0_2 l0_2.length l0_2) (hc0_2 : l0_2.length ≤ c0_2) (h : impl_PNode_fits.f k a0_0 a0_1 l0_2 a0_3 = some r) :
  Calls Try.prog 68 #[.agg #[.int .i64 a0_0, .string a0_1, .slice A0_2 l0_2.length c0_2, .int .i64 a0_3]] w fun e w' => e = .returned (.bool r) ∧ Below w.heap.size w w' := by
 have hu42 := Try.underlying42
 have HR0_2 := Zq.i hr0_2
 have HC0_2 := Zq.i hc0_2
 clear hr0_2 hc0_2
 have HB := Zq.i (Below.refl w.heap.size w)
 have H := h
 unfold impl_PNode_fits.f at H
 clear h
 by_cases c2 : a0_0 = 1
 ·rw [if_pos c2] at H
  have c2b0 := bE c2
  have c2b1 := bQ c2
  clear c2
  replace H := bM H
  obtain ⟨t420, A30, H⟩ := H
  try dsimp only at H
  have A3 := Zq.i A30
  clear A30
  by_cases c4 : t420 = true
  ·subst c4
   rw [if_pos rfl] at H
   obtain rfl := oI H
   go_enter Try.func68, Try.ntmps68
   go_wp2_with (first | ((with_reducible refine gate_dst (N := 1) rfl ?_); (try (refine gate_guard dq31 ?_; dsimp only)); refine box_event ?hg (N := 1) ?hd (cs := #[.int .i64 a0_0, .string a0_1, .slice A0_2 l0_2.length c0_2, .int .i64 a0_3]) (t := 42) ?hr ?_; (case hd => rfl); (case hg => rfl); (case hr => exact dq0); intro gb419 hg w5 hbox hb; have BK419 := Zq.i (hbox); have GW419 := Zq.i ((dq30 : w.heap.size ≤ gb419)); have GE419 := Zq.i ((dq30 : w.heap.size ≤ gb419)); replace HB := Zq.i (below_step dq17 hb); clear hb hbox hg; obtain ⟨⟨hcz6_0, hcz6_1, hcz6_2, hcz6_3⟩, hfz6_0, hfz6_1, hfz6_2, hfz6_3⟩ := blkC4 BK419.out) | ((with_reducible refine gate_callee (f := 104) rfl ?_); refine goesL_ (some 9) rfl rfl Try.func104 dq24 rfl #[.string a0_1] rfl dq23 ?_; (with_reducible refine (impl_NameOk.calls k a0_1 true _ A3.out).mono ?_); rintro e w' ⟨rfl, ⟨nd, rfl⟩⟩; refine ⟨_, rfl, ?_⟩))
   go_ret
   exact ⟨dq21, dq88⟩
  replace c4 := Bool.eq_false_iff.mpr c4
  subst c4
  rw [iN] at H
  obtain rfl := oI H
  go_enter Try.func68, Try.ntmps68
  go_wp2_with (first | ((with_reducible refine gate_dst (N := 1) rfl ?_); (try (refine gate_guard dq31 ?_; dsimp only)); refine box_event ?hg (N := 1) ?hd (cs := #[.int .i64 a0_0, .string a0_1, .slice A0_2 l0_2.length c0_2, .int .i64 a0_3]) (t := 42) ?hr ?_; (case hd => rfl); (case hg => rfl); (case hr => exact dq0); intro gb419 hg w7 hbox hb; have BK419 := Zq.i (hbox); have GW419 := Zq.i ((dq30 : w.heap.size ≤ gb419)); have GE419 := Zq.i ((dq30 : w.heap.size ≤ gb419)); replace HB := Zq.i (below_step dq17 hb); clear hb hbox hg; obtain ⟨⟨hcz8_0, hcz8_1, hcz8_2, hcz8_3⟩, hfz8_0, hfz8_1, hfz8_2, hfz8_3⟩ := blkC4 BK419.out) | ((with_reducible refine gate_callee (f := 104) rfl ?_); refine goesL_ (some 9) rfl rfl Try.func104 dq24 rfl #[.string a0_1] rfl dq23 ?_; (with_reducible refine (impl_NameOk.calls k a0_1 false _ A3.out).mono ?_); rintro e w' ⟨rfl, ⟨nd, rfl⟩⟩; refine ⟨_, rfl, ?_⟩))
  go_ret
  exact ⟨dq21, dq88⟩
 rw [if_neg c2] at H
 have c2b0 := bN c2
 have c2b1 := bO c2
 by_cases c9 : a0_0 = 4
 ·rw [if_pos c9] at H
  have c9b0 := bE c9
  have c9b1 := bQ c9
  clear c9
  by_cases c10 : a0_1.toList = ([] : List UInt8)
  rotate_left
  ·rw [if_neg c10] at H
   have c10b0 := bN c10
   have c10b1 := bO c10
   obtain rfl := oI H
   go_enter Try.func68, Try.ntmps68
   go_wp2_with (first | ((with_reducible refine gate_dst (N := 1) rfl ?_); (try (refine gate_guard dq31 ?_; dsimp only)); refine box_event ?hg (N := 1) ?hd (cs := #[.int .i64 a0_0, .string a0_1, .slice A0_2 l0_2.length c0_2, .int .i64 a0_3]) (t := 42) ?hr ?_; (case hd => rfl); (case hg => rfl); (case hr => exact dq0); intro gb419 hg w16 hbox hb; have BK419 := Zq.i (hbox); have GW419 := Zq.i ((dq30 : w.heap.size ≤ gb419)); have GE419 := Zq.i ((dq30 : w.heap.size ≤ gb419)); replace HB := Zq.i (below_step dq17 hb); clear hb hbox hg; obtain ⟨⟨hcz17_0, hcz17_1, hcz17_2, hcz17_3⟩, hfz17_0, hfz17_1, hfz17_2, hfz17_3⟩ := blkC4 BK419.out))
   go_ret
   exact ⟨dq21, dq88⟩
  rw [if_pos c10] at H
  have c10b0 := bE c10
  have c10b1 := bQ c10
  clear c10
  by_cases c11 : a0_0 = 2
  rotate_left
  ·rw [if_neg c11] at H
   have c11b0 := bN c11
   have c11b1 := bO c11
   obtain rfl := oI H
   go_enter Try.func68, Try.ntmps68
   go_wp2_with (first | ((with_reducible refine gate_dst (N := 1) rfl ?_); (try (refine gate_guard dq31 ?_; dsimp only)); refine box_event ?hg (N := 1) ?hd (cs := #[.int .i64 a0_0, .string a0_1, .slice A0_2 l0_2.length c0_2, .int .i64 a0_3]) (t := 42) ?hr ?_; (case hd => rfl); (case hg => rfl); (case hr => exact dq0); intro gb419 hg w14 hbox hb; have BK419 := Zq.i (hbox); have GW419 := Zq.i ((dq30 : w.heap.size ≤ gb419)); have GE419 := Zq.i ((dq30 : w.heap.size ≤ gb419)); replace HB := Zq.i (below_step dq17 hb); clear hb hbox hg; obtain ⟨⟨hcz15_0, hcz15_1, hcz15_2, hcz15_3⟩, hfz15_0, hfz15_1, hfz15_2, hfz15_3⟩ := blkC4 BK419.out))
   go_ret
   exact ⟨dq21, dq88⟩
  rw [if_pos c11] at H
  have c11b0 := bE c11
  have c11b1 := bQ c11
  clear c11
  obtain rfl := oI H
  go_enter Try.func68, Try.ntmps68
  go_wp2_with (first | ((with_reducible refine gate_dst (N := 1) rfl ?_); (try (refine gate_guard dq31 ?_; dsimp only)); refine box_event ?hg (N := 1) ?hd (cs := #[.int .i64 a0_0, .string a0_1, .slice A0_2 l0_2.length c0_2, .int .i64 a0_3]) (t := 42) ?hr ?_; (case hd => rfl); (case hg => rfl); (case hr => exact dq0); intro gb419 hg w12 hbox hb; have BK419 := Zq.i (hbox); have GW419 := Zq.i ((dq30 : w.heap.size ≤ gb419)); have GE419 := Zq.i ((dq30 : w.heap.size ≤ gb419)); replace HB := Zq.i (below_step dq17 hb); clear hb hbox hg; obtain ⟨⟨hcz13_0, hcz13_1, hcz13_2, hcz13_3⟩, hfz13_0, hfz13_1, hfz13_2, hfz13_3⟩ := blkC4 BK419.out))
  go_ret
  exact ⟨dq21, dq88⟩
 rw [if_neg c9] at H
 have c9b0 := bN c9
 have c9b1 := bO c9
 by_cases c18 : a0_0 = 2
 ·rw [if_pos c18] at H
  have c18b0 := bE c18
  have c18b1 := bQ c18
  clear c18
  by_cases c19 : a0_1.toList = ([] : List UInt8)
  rotate_left
  ·rw [if_neg c19] at H
   have c19b0 := bN c19
   have c19b1 := bO c19
   obtain rfl := oI H
   go_enter Try.func68, Try.ntmps68
   go_wp2_with (first | ((with_reducible refine gate_dst (N := 1) rfl ?_); (try (refine gate_guard dq31 ?_; dsimp only)); refine box_event ?hg (N := 1) ?hd (cs := #[.int .i64 a0_0, .string a0_1, .slice A0_2 l0_2.length c0_2, .int .i64 a0_3]) (t := 42) ?hr ?_; (case hd => rfl); (case hg => rfl); (case hr => exact dq0); intro gb419 hg w22 hbox hb; have BK419 := Zq.i (hbox); have GW419 := Zq.i ((dq30 : w.heap.size ≤ gb419)); have GE419 := Zq.i ((dq30 : w.heap.size ≤ gb419)); replace HB := Zq.i (below_step dq17 hb); clear hb hbox hg; obtain ⟨⟨hcz23_0, hcz23_1, hcz23_2, hcz23_3⟩, hfz23_0, hfz23_1, hfz23_2, hfz23_3⟩ := blkC4 BK419.out))
   go_ret
   exact ⟨dq21, dq88⟩
  rw [if_pos c19] at H
  have c19b0 := bE c19
  have c19b1 := bQ c19
  clear c19
  obtain rfl := oI H
  go_enter Try.func68, Try.ntmps68
  go_wp2_with (first | ((with_reducible refine gate_dst (N := 1) rfl ?_); (try (refine gate_guard dq31 ?_; dsimp only)); refine box_event ?hg (N := 1) ?hd (cs := #[.int .i64 a0_0, .string a0_1, .slice A0_2 l0_2.length c0_2, .int .i64 a0_3]) (t := 42) ?hr ?_; (case hd => rfl); (case hg => rfl); (case hr => exact dq0); intro gb419 hg w20 hbox hb; have BK419 := Zq.i (hbox); have GW419 := Zq.i ((dq30 : w.heap.size ≤ gb419)); have GE419 := Zq.i ((dq30 : w.heap.size ≤ gb419)); replace HB := Zq.i (below_step dq17 hb); clear hb hbox hg; obtain ⟨⟨hcz21_0, hcz21_1, hcz21_2, hcz21_3⟩, hfz21_0, hfz21_1, hfz21_2, hfz21_3⟩ := blkC4 BK419.out))
  go_ret
  exact ⟨dq21, dq88⟩
 rw [if_neg c18] at H
 have c18b0 := bN c18
 have c18b1 := bO c18
 by_cases c24 : a0_0 = 3
 rotate_left
 ·rw [if_neg c24] at H
  have c24b0 := bN c24
  have c24b1 := bO c24
  obtain rfl := oI H
  go_enter Try.func68, Try.ntmps68
  go_wp2_with (first | ((with_reducible refine gate_dst (N := 1) rfl ?_); (try (refine gate_guard dq31 ?_; dsimp only)); refine box_event ?hg (N := 1) ?hd (cs := #[.int .i64 a0_0, .string a0_1, .slice A0_2 l0_2.length c0_2, .int .i64 a0_3]) (t := 42) ?hr ?_; (case hd => rfl); (case hg => rfl); (case hr => exact dq0); intro gb419 hg w30 hbox hb; have BK419 := Zq.i (hbox); have GW419 := Zq.i ((dq30 : w.heap.size ≤ gb419)); have GE419 := Zq.i ((dq30 : w.heap.size ≤ gb419)); replace HB := Zq.i (below_step dq17 hb); clear hb hbox hg; obtain ⟨⟨hcz31_0, hcz31_1, hcz31_2, hcz31_3⟩, hfz31_0, hfz31_1, hfz31_2, hfz31_3⟩ := blkC4 BK419.out))
  go_ret
  exact ⟨dq21, dq88⟩
 rw [if_pos c24] at H
 have c24b0 := bE c24
 have c24b1 := bQ c24
 clear c24
 by_cases c25 : a0_1.toList = ([] : List UInt8)
 rotate_left
 ·rw [if_neg c25] at H
  have c25b0 := bN c25
  have c25b1 := bO c25
  obtain rfl := oI H
  go_enter Try.func68, Try.ntmps68
  go_wp2_with (first | ((with_reducible refine gate_dst (N := 1) rfl ?_); (try (refine gate_guard dq31 ?_; dsimp only)); refine box_event ?hg (N := 1) ?hd (cs := #[.int .i64 a0_0, .string a0_1, .slice A0_2 l0_2.length c0_2, .int .i64 a0_3]) (t := 42) ?hr ?_; (case hd => rfl); (case hg => rfl); (case hr => exact dq0); intro gb419 hg w28 hbox hb; have BK419 := Zq.i (hbox); have GW419 := Zq.i ((dq30 : w.heap.size ≤ gb419)); have GE419 := Zq.i ((dq30 : w.heap.size ≤ gb419)); replace HB := Zq.i (below_step dq17 hb); clear hb hbox hg; obtain ⟨⟨hcz29_0, hcz29_1, hcz29_2, hcz29_3⟩, hfz29_0, hfz29_1, hfz29_2, hfz29_3⟩ := blkC4 BK419.out))
  go_ret
  exact ⟨dq21, dq88⟩
 rw [if_pos c25] at H
 have c25b0 := bE c25
 have c25b1 := bQ c25
 clear c25
 obtain rfl := oI H
 go_enter Try.func68, Try.ntmps68
 go_wp2_with (first | ((with_reducible refine gate_dst (N := 1) rfl ?_); (try (refine gate_guard dq31 ?_; dsimp only)); refine box_event ?hg (N := 1) ?hd (cs := #[.int .i64 a0_0, .string a0_1, .slice A0_2 l0_2.length c0_2, .int .i64 a0_3]) (t := 42) ?hr ?_; (case hd => rfl); (case hg => rfl); (case hr => exact dq0); intro gb419 hg w26 hbox hb; have BK419 := Zq.i (hbox); have GW419 := Zq.i ((dq30 : w.heap.size ≤ gb419)); have GE419 := Zq.i ((dq30 : w.heap.size ≤ gb419)); replace HB := Zq.i (below_step dq17 hb); clear hb hbox hg; obtain ⟨⟨hcz27_0, hcz27_1, hcz27_2, hcz27_3⟩, hfz27_0, hfz27_1, hfz27_2, hfz27_3⟩ := blkC4 BK419.out))
 go_ret
 exact ⟨dq21, dq88⟩

/-! ### impl_ParticleOk: function 29 -/
mutual
def impl_ParticleOk.l0 : Nat → List (S42) → List Int → List Int → List (S42) → Int → Int → Option (Bool)
 | 0, _, _, _, _, _, _ => none
 | k + 1, x0, x3, x4, x20, x21, x22 => if x22 < x21 then (if 0 ≤ x22 then (if x22 < (x20.length : Int) then ((impl_PNode_fits.f k ((rd_T42 x20 x22).f0) ((rd_T42 x20 x22).f1) ((rd_T42 x20 x22).f2) ((rd_T42 x20 x22).f3)).bind fun t434 => (if t434 = true then ((impl_in.f ((rd_T42 x20 x22).f3) 0 3).bind fun t435 => (impl_ParticleOk.j1 k x0 x3 x4 x22 x20 x21 x22 (!t435) ((rd_T42 x20 x22).f0) ((rd_T42 x20 x22).f1) ((rd_T42 x20 x22).f2) ((rd_T42 x20 x22).f3))) else (impl_ParticleOk.j1 k x0 x3 x4 x22 x20 x21 x22 true ((rd_T42 x20 x22).f0) ((rd_T42 x20 x22).f1) ((rd_T42 x20 x22).f2) ((rd_T42 x20 x22).f3)))) else (none)) else (none)) else (if 0 ≤ (wrap64 ((x0.length : Int) - 1)) then (if (wrap64 ((x0.length : Int) - 1)) < (x3.length : Int) then (if (rd x3 (wrap64 ((x0.length : Int) - 1))) = 0 then (if (wrap64 ((x0.length : Int) - 1)) < (x0.length : Int) then ((impl_PNode_isPosition.f ((rd_T42 x0 (wrap64 ((x0.length : Int) - 1))).f0) ((rd_T42 x0 (wrap64 ((x0.length : Int) - 1))).f1) ((rd_T42 x0 (wrap64 ((x0.length : Int) - 1))).f2) ((rd_T42 x0 (wrap64 ((x0.length : Int) - 1))).f3)).bind fun t430 => (if t430 = true then (some false) else (if (wrap64 ((x0.length : Int) - 1)) < (x4.length : Int) then (some (decide ((rd x4 (wrap64 ((x0.length : Int) - 1))) ≤ 9))) else (none)))) else (none)) else (some false)) else (none)) else (none))
def impl_ParticleOk.j1 : Nat → List (S42) → List Int → List Int → Int → List (S42) → Int → Int → Bool → Int → ByteArray → List Int → Int → Option (Bool)
 | 0, _, _, _, _, _, _, _, _, _, _, _, _ => none
 | k + 1, x0, x3, x4, x5, x20, x21, x22, x35, x434000, x434001, x434002, x434003 => if x35 = true then (some false) else (if 0 ≤ x5 then (if x5 < (x3.length : Int) then (impl_ParticleOk.l1 k x0 (x3.set (x5 : Int).toNat x5) x4 x5 (wrap64 ((x434002.length : Int) - 1)) x20 x21 x22 x434000 x434001 x434002 x434003) else (none)) else (none))
def impl_ParticleOk.l1 : Nat → List (S42) → List Int → List Int → Int → Int → List (S42) → Int → Int → Int → ByteArray → List Int → Int → Option (Bool)
 | 0, _, _, _, _, _, _, _, _, _, _, _, _ => none
 | k + 1, x0, x3, x4, x5, x7, x20, x21, x22, x434000, x434001, x434002, x434003 => if x7 ≥ 0 then (if 0 ≤ x7 then (if x7 < (x434002.length : Int) then (if (rd x434002 x7) < 0 then (some false) else (if 0 ≤ x5 then (if x5 < (x3.length : Int) then (if (rd x434002 x7) = (wrap64 ((rd x3 x5) - 1)) then (if 0 ≤ (rd x434002 x7) then (if (rd x434002 x7) < (x3.length : Int) then (if x5 < (x4.length : Int) then (if (rd x434002 x7) < (x4.length : Int) then (impl_ParticleOk.l1 k x0 (x3.set (x5 : Int).toNat (rd x3 (rd x434002 x7))) (x4.set (x5 : Int).toNat (mx (rd x4 x5) (wrap64 ((rd x4 (rd x434002 x7)) + 1)))) x5 (wrap64 (x7 - 1)) x20 x21 x22 x434000 x434001 x434002 x434003) else (none)) else (none)) else (none)) else (none)) else (some false)) else (none)) else (none))) else (none)) else (none)) else (impl_ParticleOk.l0 k x0 x3 x4 x20 x21 (wrap64 (x22 + 1)))
end
def impl_ParticleOk.f (k : Nat) (l0 : List (S42)) : Option (Bool) := (impl_in.f (l0.length : Int) 1 40).bind fun t421 => (if t421 = true then (if 0 ≤ (l0.length : Int) then (if ((l0.length : Int) : Int).toNat ≤ 35184372088832 then (impl_ParticleOk.l0 k l0 (List.replicate ((l0.length : Int) : Int).toNat 0) (List.replicate ((l0.length : Int) : Int).toNat 0) l0 (l0.length : Int) 0) else (none)) else (none)) else (some false))
def impl_ParticleOk.T3 : Bool × List (List Nat × List Nat) := (true, [([], []), ([0], [0]), ([1, 1], [1]), ([], []), ([3], [3]), ([4, 4], [4]), ([2, 0, 1, 2], [2]), ([5, 6, 0, 1, 2, 3, 4, 5, 6], [5])])
def impl_ParticleOk.B3 : List Nat := [0, 1, 3, 0, 8, 24, 7, 127]
theorem impl_ParticleOk.tab3 : rtab .any (opsOf Try.f29 3) = impl_ParticleOk.T3 := by kernel_rfl
theorem impl_ParticleOk.bits3 : waitsOk impl_ParticleOk.T3.2 impl_ParticleOk.B3 = true := by kernel_rfl
def impl_ParticleOk.T16 : Bool × List (List Nat × List Nat) := (true, [([], []), ([], []), ([], []), ([], []), ([], []), ([], []), ([4, 5], [4, 5]), ([6], [6]), ([], []), ([], []), ([8, 9], [8, 9]), ([10], [10]), ([], []), ([], []), ([12, 13], [12, 13]), ([14], [14]), ([15], [15]), ([11, 16], [11, 16]), ([0, 1, 0, 1, 4, 5, 6, 7, 11, 15], [0, 1]), ([18, 7, 0, 1, 4, 5, 6, 7, 11, 15], [7, 18]), ([2, 3, 0, 1, 2, 3, 4, 5, 6, 7, 8, 9, 10, 11, 12, 13, 14, 15, 16, 17, 18, 19], [2, 3]), ([20, 17, 19, 0, 1, 2, 3, 4, 5, 6, 7, 8, 9, 10, 11, 12, 13, 14, 15, 16, 17, 18, 19], [17, 20])])
def impl_ParticleOk.B16 : List Nat := [0, 0, 0, 0, 0, 0, 48, 112, 0, 0, 768, 1792, 0, 0, 12288, 28672, 61440, 130816, 65523, 327667, 1048575, 2097151]
theorem impl_ParticleOk.tab16 : rtab .any (opsOf Try.f29 16) = impl_ParticleOk.T16 := by kernel_rfl
theorem impl_ParticleOk.bits16 : waitsOk impl_ParticleOk.T16.2 impl_ParticleOk.B16 = true := by kernel_rfl
theorem impl_ParticleOk.calls (k : Nat) (A0 : Option Addr) (c0 : Nat) (l0 : List (S42)) (r : Bool) (w : World) (hr0 : Kd.C k42 w A0 l0.length l0) (hc0 : l0.length ≤ c0) (h : impl_ParticleOk.f k l0 = some r) :
  Calls Try.prog 29 #[.slice A0 l0.length c0] w fun e w' => e = .returned (.bool r) ∧ Below w.heap.size w w' := by
 have hu42 := Try.underlying42
 have HR0 := Zq.i hr0
 have HC0 := Zq.i hc0
 clear hr0 hc0
 have HB := Zq.i (Below.refl w.heap.size w)
 have H := h
 unfold impl_ParticleOk.f at H
 clear h
 replace H := bM H
 obtain ⟨t421, A20, H⟩ := H
 try dsimp only at H
 have A2 := Zq.i A20
 clear A20
 by_cases c3 : t421 = true
 rotate_left
 ·replace c3 := Bool.eq_false_iff.mpr c3
  subst c3
  rw [iN] at H
  obtain rfl := oI H
  go_enter Try.func29, Try.ntmps29
  go_wp2_with (first | ((with_reducible refine gate_callee (f := 63) rfl ?_); refine goesL_ (some 12) rfl rfl Try.func63 dq24 rfl #[.int .i64 (l0.length : Int), .int .i64 1, .int .i64 40] rfl dq23 ?_; (with_reducible refine (impl_in.calls (l0.length : Int) 1 40 false _ A2.out).mono ?_); rintro e w' ⟨rfl, ⟨nd, rfl⟩⟩; refine ⟨_, rfl, ?_⟩))
  go_ret
  exact ⟨dq21, dq17⟩
 subst c3
 rw [if_pos rfl] at H
 by_cases c4 : 0 ≤ (l0.length : Int)
 rotate_left
 ·rw [if_neg c4] at H
  exact absurd H dq15
 rw [if_pos c4] at H
 have c4b0 := eq_true c4
 have c4b1 := dT c4
 clear c4
 by_cases c5 : ((l0.length : Int) : Int).toNat ≤ 35184372088832
 rotate_left
 ·rw [if_neg c5] at H
  exact absurd H dq15
 rw [if_pos c5] at H
 have c5b0 := eq_true c5
 have c5b1 := dT c5
 clear c5
 obtain ⟨y422, hy422⟩ : ∃ y_ : List Int, y_ = (List.replicate ((l0.length : Int) : Int).toNat 0) := ⟨_, rfl⟩
 replace H : (impl_ParticleOk.l0 k l0 y422 (List.replicate ((l0.length : Int) : Int).toNat 0) l0 (l0.length : Int) 0) = some r := by first | (rw [hy422]; with_reducible exact H) | (have H2_ := oS H; rw [hy422]; with_reducible exact H2_) | (have H2_ := oS H; with_reducible exact H2_) | with_reducible exact H | (rw [hy422]; exact H) | exact H
 have Ny422 := Zq.i hy422
 clear hy422
 obtain ⟨y425, hy425⟩ : ∃ y_ : List Int, y_ = (List.replicate ((l0.length : Int) : Int).toNat 0) := ⟨_, rfl⟩
 replace H : (impl_ParticleOk.l0 k l0 y422 y425 l0 (l0.length : Int) 0) = some r := by first | (rw [hy425]; with_reducible exact H) | (have H2_ := oS H; rw [hy425]; with_reducible exact H2_) | (have H2_ := oS H; with_reducible exact H2_) | with_reducible exact H | (rw [hy425]; exact H) | exact H
 have Ny425 := Zq.i hy425
 clear hy425
 have H' := Zq.i H
 clear H
 go_enter Try.func29, Try.ntmps29
 try go_wp2_with (first | ((with_reducible refine gate_callee (f := 63) rfl ?_); refine goesL_ (some 12) rfl rfl Try.func63 dq24 rfl #[.int .i64 (l0.length : Int), .int .i64 1, .int .i64 40] rfl dq23 ?_; (with_reducible refine (impl_in.calls (l0.length : Int) 1 40 true _ A2.out).mono ?_); rintro e w' ⟨rfl, ⟨nd, rfl⟩⟩; refine ⟨_, rfl, ?_⟩))
 have n0_ : Zq (Below w.heap.size w (w.drewN nd).drew) := ⟨below_drew1 (pw_below_drewN HB.out _)⟩
 clear HB
 have HB := n0_
 clear n0_
 refine start_ (n := 8) (S := fun w' => True) (ds := []) #[false, false, false, false, false, false, false, false] dq24 rfl rfl trivial (fun hHeld => ?_); refine with_tabW impl_ParticleOk.tab3 impl_ParticleOk.bits3 (fun HT_ HW_ => ?_)
 generalize (w.drewN nd).drew = w6 at HB hHeld ⊢
 refine pureA (i := 0) (N := some 14) #[true, false, false, false, false, false, false, false] ?_
 refine pureA (i := 1) (N := some 15) #[true, true, false, false, false, false, false, false] ?_
 refine pureA (i := 3) (N := some 17) #[true, true, false, true, false, false, false, false] ?_
 refine pureA (i := 4) (N := some 18) #[true, true, false, true, true, false, false, false] ?_
 refine join_ (σ := Value × Value) 1 #[true, true, true, true, true, true, true, false] (fun s_ => [(16, s_.1), (19, s_.2), (3, s_.1)]) (fun s_ w' => (Kd.R (Kd.int .i64) 2 w' w.heap.size (fun k_ => some k_ ≠ (s_.2 : Value).ownBlock) s_.1 y422) ∧ (Kd.R (Kd.int .i64) 2 w' w.heap.size (fun k_ => some k_ ≠ (s_.1 : Value).ownBlock) s_.2 y425) ∧ (Below w.heap.size w w')) ?_ ?_
 rotate_left
 ·intro hCont
  refine two_ (i := 2) (j := 5) (Ni := some 16) (Nj := some 19) #[true, true, true, true, true, false, false, false] #[true, true, false, true, true, true, false, false] rfl rfl rfl rfl (two_of HT_.out dq24) dq25 dq25 (fun K hK => ?_) (fun K hK => ?_)
  ·skip
   refine Kd.R_make_step (Kd.int .i64) _ 2 dq31 (N := 16) rfl 33 _ _ rfl (l0.length : Int) rfl rfl Try.underlying33 (.int .i64 0) 8 info2 rfl dq25 dq28 0 (ok := fun _ => True) (okp := fun _ => True) rfl (fun _ hk => hk) trivial (oT dq22) (Nat.le_trans (Nat.mul_le_mul_right _ (oT dq22 : (l0.length : Int).toNat ≤ 35184372088832)) dq28) (Below.refl _ _) (Nat.le_refl _) ?_
   intro v423 w7 ho8 hb hg_ hnew_
   clear hg_ hnew_
   (first | rw [← Ny422.out] at ho8 | (simp only [Int.reduceToNat] at ho8; rw [← Ny422.out] at ho8))
   have HO424 := Zq.i (Kd.R_lower ho8 (below_size dq17))
   replace HB := Zq.i (below_step dq17 hb)
   clear hb ho8
   refine hK.out _ _ trivial (fun hHeld => ?_)
   clear hK K
   refine norm_ (a' := ?_) ?_ ?_
   rotate_left
   ·exact (dAct : Act.put _ (some 16) _ = _)
   refine pureA (i := 6) (N := some 3) #[true, true, true, true, true, false, true, false] ?_
   refine one_ (i := 5) (N := some 19) #[true, true, true, true, true, true, true, false] rfl rfl (one_of HT_.out dq24) dq25 (fun K hK => ?_)
   refine Kd.R_make_step (Kd.int .i64) _ 2 dq31 (N := 19) rfl 33 _ _ rfl (l0.length : Int) rfl rfl Try.underlying33 (.int .i64 0) 8 info2 rfl dq25 dq28 0 (ok := fun _ => True) (okp := fun _ => True) rfl (fun _ hk => hk) trivial (oT dq22) (Nat.le_trans (Nat.mul_le_mul_right _ (oT dq22 : (l0.length : Int).toNat ≤ 35184372088832)) dq28) (Below.refl _ _) (Nat.le_refl _) ?_
   intro v426 w9 ho10 hb hg_ hnew_
   clear hg_ hnew_
   (first | rw [← Ny425.out] at ho10 | (simp only [Int.reduceToNat] at ho10; rw [← Ny425.out] at ho10))
   have HO427 := Zq.i (Kd.R_lower (Kd.R_new' ho10 (Kd.R_lt dq89)) (below_size dq17))
   replace HO424 := Zq.i (Kd.R_elder' dq89 (Kd.R_base ho10) hb)
   replace HB := Zq.i (below_step dq17 hb)
   clear hb ho10
   refine hK.out _ _ trivial (fun hHeld => ?_)
   clear hK K
   refine norm_ (a' := ?_) ?_ ?_
   rotate_left
   ·exact (dAct : Act.put _ (some 19) _ = _)
   exact norm_ (by simp only [putAll, Act.put, List.setIfInBounds_toArray, List.set_cons_zero, List.set_cons_succ]) (hCont (v423, v426) _ ⟨dq91, dq90, dq17⟩)
  skip
  refine Kd.R_make_step (Kd.int .i64) _ 2 dq31 (N := 19) rfl 33 _ _ rfl (l0.length : Int) rfl rfl Try.underlying33 (.int .i64 0) 8 info2 rfl dq25 dq28 0 (ok := fun _ => True) (okp := fun _ => True) rfl (fun _ hk => hk) trivial (oT dq22) (Nat.le_trans (Nat.mul_le_mul_right _ (oT dq22 : (l0.length : Int).toNat ≤ 35184372088832)) dq28) (Below.refl _ _) (Nat.le_refl _) ?_
  intro v426 w7 ho8 hb hg_ hnew_
  clear hg_ hnew_
  (first | rw [← Ny425.out] at ho8 | (simp only [Int.reduceToNat] at ho8; rw [← Ny425.out] at ho8))
  have HO427 := Zq.i (Kd.R_lower ho8 (below_size dq17))
  replace HB := Zq.i (below_step dq17 hb)
  clear hb ho8
  refine hK.out _ _ trivial (fun hHeld => ?_)
  clear hK K
  refine norm_ (a' := ?_) ?_ ?_
  rotate_left
  ·exact (dAct : Act.put _ (some 19) _ = _)
  refine one_ (i := 2) (N := some 16) #[true, true, true, true, true, true, false, false] rfl rfl (one_of HT_.out dq24) dq25 (fun K hK => ?_)
  refine Kd.R_make_step (Kd.int .i64) _ 2 dq31 (N := 16) rfl 33 _ _ rfl (l0.length : Int) rfl rfl Try.underlying33 (.int .i64 0) 8 info2 rfl dq25 dq28 0 (ok := fun _ => True) (okp := fun _ => True) rfl (fun _ hk => hk) trivial (oT dq22) (Nat.le_trans (Nat.mul_le_mul_right _ (oT dq22 : (l0.length : Int).toNat ≤ 35184372088832)) dq28) (Below.refl _ _) (Nat.le_refl _) ?_
  intro v423 w9 ho10 hb hg_ hnew_
  clear hg_ hnew_
  (first | rw [← Ny422.out] at ho10 | (simp only [Int.reduceToNat] at ho10; rw [← Ny422.out] at ho10))
  have HO424 := Zq.i (Kd.R_lower (Kd.R_new' ho10 (Kd.R_lt dq92)) (below_size dq17))
  replace HO427 := Zq.i (Kd.R_elder' dq92 (Kd.R_base ho10) hb)
  replace HB := Zq.i (below_step dq17 hb)
  clear hb ho10
  refine hK.out _ _ trivial (fun hHeld => ?_)
  clear hK K
  refine norm_ (a' := ?_) ?_ ?_
  rotate_left
  ·exact (dAct : Act.put _ (some 16) _ = _)
  refine pureA (i := 6) (N := some 3) #[true, true, true, true, true, true, true, false] ?_
  exact norm_ (by simp only [putAll, Act.put, List.setIfInBounds_toArray, List.set_cons_zero, List.set_cons_succ]) (hCont (v423, v426) _ ⟨dq91, dq90, dq17⟩)
 rintro ⟨v423, v426⟩ w11 ⟨h0_, h1_, h2_⟩
 have n0_ : Zq (Kd.R (Kd.int .i64) 2 w11 w.heap.size (fun k_ => some k_ ≠ (v426 : Value).ownBlock) v423 y422) := ⟨h0_⟩
 have n1_ : Zq (Kd.R (Kd.int .i64) 2 w11 w.heap.size (fun k_ => some k_ ≠ (v423 : Value).ownBlock) v426 y425) := ⟨h1_⟩
 have n2_ : Zq (Below w.heap.size w w11) := ⟨h2_⟩
 clear HB h0_ h1_ h2_
 have HO424 := n0_
 have HO427 := n1_
 have HB := n2_
 clear n0_ n1_ n2_
 have hHeld := trivial
 refine norm_ (a' := ?_) ?_ ?_
 rotate_left
 ·simp only [putAll, Act.put, List.setIfInBounds_toArray, List.set_cons_zero, List.set_cons_succ]
  rfl
 refine pureA (i := 7) (N := some 4) #[true, true, true, true, true, true, true, true] ?_
 refine done_ (done_of HT_.out dq24) ?_
 try go_wp2
 go_loopg [22] k (fun kq v22 w' => ∃ (x3_1 : List Int) (x4_1 : List Int) (x22_1 : Int), v22 = .int .i64 x22_1 ∧ Zq (impl_ParticleOk.l0 kq l0 x3_1 x4_1 l0 (l0.length : Int) x22_1 = some r) ∧ Zq (kq ≤ k) ∧ Zq (Kd.R (Kd.int .i64) 2 w' w.heap.size (fun k_ => some k_ ≠ (v426 : Value).ownBlock) v423 x3_1) ∧ Zq (Kd.R (Kd.int .i64) 2 w' w.heap.size (fun k_ => some k_ ≠ (v423 : Value).ownBlock) v426 x4_1) ∧ Zq (Below w.heap.size w w'))
 case atStart => exact ⟨(y422), (y425), (0), dq14, H', ⟨Nat.le_refl _⟩, ⟨dq89⟩, ⟨dq92⟩, ⟨dq17⟩⟩
 clear H'
 try clear c4b0
 try clear c4b1
 try clear c5b0
 try clear c5b1
 obtain ⟨x3_1, x4_1, x22_1, rfl, HA, HK1, HO_3, HO_4, HB⟩ := hrel
 cases gk with
 | zero => exact absurd HA.out (by simp [impl_ParticleOk.l0])
 | succ k1 =>
  have H := HA.out
  clear HA
  simp only [impl_ParticleOk.l0] at H
  by_cases c12 : x22_1 < (l0.length : Int)
  rotate_left
  ·rw [if_neg c12] at H
   have c12b0 := dF c12
   clear c12
   obtain ⟨ji54, hji54⟩ : ∃ j_ : Int, (wrap64 ((l0.length : Int) - 1)) = j_ := ⟨_, rfl⟩
   replace H : (if 0 ≤ (ji54) then (if (ji54) < (x3_1.length : Int) then (if (rd x3_1 (ji54)) = 0 then (if (ji54) < (l0.length : Int) then ((impl_PNode_isPosition.f ((rd_T42 l0 (ji54)).f0) ((rd_T42 l0 (ji54)).f1) ((rd_T42 l0 (ji54)).f2) ((rd_T42 l0 (ji54)).f3)).bind fun t430 => (if t430 = true then (some false) else (if (ji54) < (x4_1.length : Int) then (some (decide ((rd x4_1 (ji54)) ≤ 9))) else (none)))) else (none)) else (some false)) else (none)) else (none)) = some r := by first | (rw [hji54] at H; exact H) | (simp only [hji54] at H ⊢; exact H)
   have hji54w : (IntKind.i64.wrap ((l0.length : Int) - 1)) = ji54 := (i64_w _).trans hji54
   by_cases c55 : 0 ≤ (ji54)
   rotate_left
   ·rw [if_neg c55] at H
    exact absurd H dq15
   rw [if_pos c55] at H
   have c55b0 := dT c55
   clear c55
   by_cases c56 : (ji54) < (x3_1.length : Int)
   rotate_left
   ·rw [if_neg c56] at H
    exact absurd H dq15
   rw [if_pos c56] at H
   have c56b0 := dT c56
   clear c56
   by_cases c57 : (rd x3_1 (ji54)) = 0
   rotate_left
   ·rw [if_neg c57] at H
    have c57b0 := bN c57
    have c57b1 := bO c57
    obtain rfl := oI H
    obtain ⟨Ao67, co67, eo67⟩ := Kd.R_slice HO_3.out
    subst eo67
    have p428 : 0 ≤ ((ji54) : Int) := oT dq22
    have q428 : (ji54) < (x3_1.length : Int) := oT dq22
    obtain ⟨ad428, e428, hx428_0⟩ := Kd.at_int (Kd.R_reads' HO_3.out).2.2 (ji54) p428 q428
    cases e428
    replace p428 := eq_true p428
    replace q428 := eq_true q428
    go_wp2
    go_ret
    exact ⟨dq98, dq17⟩
   rw [if_pos c57] at H
   have c57b0 := bE c57
   have c57b1 := bQ c57
   clear c57
   by_cases c58 : (ji54) < (l0.length : Int)
   rotate_left
   ·rw [if_neg c58] at H
    exact absurd H dq15
   rw [if_pos c58] at H
   have c58b0 := dT c58
   clear c58
   replace H := bM H
   obtain ⟨t430, A590, H⟩ := H
   try dsimp only at H
   have A59 := Zq.i A590
   clear A590
   by_cases c60 : t430 = true
   ·subst c60
    rw [if_pos rfl] at H
    obtain rfl := oI H
    obtain ⟨Ao61, co61, eo61⟩ := Kd.R_slice HO_3.out
    subst eo61
    have p428 : 0 ≤ ((ji54) : Int) := oT dq22
    have q428 : (ji54) < (x3_1.length : Int) := oT dq22
    obtain ⟨ad428, e428, hx428_0⟩ := Kd.at_int (Kd.R_reads' HO_3.out).2.2 (ji54) p428 q428
    cases e428
    replace p428 := eq_true p428
    replace q428 := eq_true q428
    have p429 : 0 ≤ ((ji54) : Int) := oT dq22
    have q429 : (ji54) < (l0.length : Int) := oT dq22
    obtain ⟨ad429, A429_2, c429_2, e429, hx429_0, hx429_1, hx429_2, hx429_3, hl429_2, hi429_2⟩ := at_T42 HR0.out (ji54) p429 q429
    cases e429
    replace hx429_0 := (HB.out.cell (bC w _ hx429_0)).trans hx429_0
    replace hx429_1 := (HB.out.cell (bC w _ hx429_1)).trans hx429_1
    replace hx429_2 := (HB.out.cell (bC w _ hx429_2)).trans hx429_2
    replace hx429_3 := (HB.out.cell (bC w _ hx429_3)).trans hx429_3
    have HR429_2 := Zq.i hi429_2
    have HC429_2 := Zq.i hl429_2
    clear hi429_2 hl429_2
    replace p429 := eq_true p429
    replace q429 := eq_true q429
    go_wp2_with (first | (go_at_call 57; (with_reducible refine (impl_PNode_isPosition.calls ((rd_T42 l0 (ji54)).f0) ((rd_T42 l0 (ji54)).f1) _ _ ((rd_T42 l0 (ji54)).f2) ((rd_T42 l0 (ji54)).f3) true _ ?side1 ?side2 A59.out).mono ?_); (case side1 => repeat (first | exact (Kd.C_below HR429_2.out HB.out) | (with_reducible refine Kd.C_alloc ?_ _) | (with_reducible refine Kd.C_drewN ?_ _) | (with_reducible refine Kd.C_drew ?_))); (case side2 => exact HC429_2.out); rintro e w62 ⟨rfl, hb⟩; replace HO_3 := Zq.i (Kd.R_below dq59 hb); replace HO_4 := Zq.i (Kd.R_below dq93 hb); replace HB := Zq.i (below_step dq17 hb); (try clear hb)))
    go_ret
    exact ⟨dq98, dq17⟩
   replace c60 := Bool.eq_false_iff.mpr c60
   subst c60
   rw [iN] at H
   by_cases c63 : (ji54) < (x4_1.length : Int)
   rotate_left
   ·rw [if_neg c63] at H
    exact absurd H dq15
   rw [if_pos c63] at H
   have c63b0 := dT c63
   clear c63
   obtain rfl := oI H
   obtain ⟨Ao64, co64, eo64⟩ := Kd.R_slice HO_3.out
   subst eo64
   have p428 : 0 ≤ ((ji54) : Int) := oT dq22
   have q428 : (ji54) < (x3_1.length : Int) := oT dq22
   obtain ⟨ad428, e428, hx428_0⟩ := Kd.at_int (Kd.R_reads' HO_3.out).2.2 (ji54) p428 q428
   cases e428
   replace p428 := eq_true p428
   replace q428 := eq_true q428
   have p429 : 0 ≤ ((ji54) : Int) := oT dq22
   have q429 : (ji54) < (l0.length : Int) := oT dq22
   obtain ⟨ad429, A429_2, c429_2, e429, hx429_0, hx429_1, hx429_2, hx429_3, hl429_2, hi429_2⟩ := at_T42 HR0.out (ji54) p429 q429
   cases e429
   replace hx429_0 := (HB.out.cell (bC w _ hx429_0)).trans hx429_0
   replace hx429_1 := (HB.out.cell (bC w _ hx429_1)).trans hx429_1
   replace hx429_2 := (HB.out.cell (bC w _ hx429_2)).trans hx429_2
   replace hx429_3 := (HB.out.cell (bC w _ hx429_3)).trans hx429_3
   have HR429_2 := Zq.i hi429_2
   have HC429_2 := Zq.i hl429_2
   clear hi429_2 hl429_2
   replace p429 := eq_true p429
   replace q429 := eq_true q429
   go_wp2_with (first | (go_at_call 57; (with_reducible refine (impl_PNode_isPosition.calls ((rd_T42 l0 (ji54)).f0) ((rd_T42 l0 (ji54)).f1) _ _ ((rd_T42 l0 (ji54)).f2) ((rd_T42 l0 (ji54)).f3) false _ ?side1 ?side2 A59.out).mono ?_); (case side1 => repeat (first | exact (Kd.C_below HR429_2.out HB.out) | (with_reducible refine Kd.C_alloc ?_ _) | (with_reducible refine Kd.C_drewN ?_ _) | (with_reducible refine Kd.C_drew ?_))); (case side2 => exact HC429_2.out); rintro e w65 ⟨rfl, hb⟩; replace HO_3 := Zq.i (Kd.R_below dq59 hb); replace HO_4 := Zq.i (Kd.R_below dq93 hb); replace HB := Zq.i (below_step dq17 hb); (try clear hb); obtain ⟨Ao66, co66, eo66⟩ := Kd.R_slice HO_4.out; subst eo66; have p431 : 0 ≤ ((ji54) : Int) := oT dq22; have q431 : (ji54) < (x4_1.length : Int) := oT dq22; obtain ⟨ad431, e431, hx431_0⟩ := Kd.at_int (Kd.R_reads' HO_4.out).2.2 (ji54) p431 q431; cases e431; replace p431 := eq_true p431; replace q431 := eq_true q431))
   go_ret
   exact ⟨dq98, dq17⟩
  rw [if_pos c12] at H
  have c12b0 := dT c12
  clear c12
  by_cases c13 : 0 ≤ x22_1
  rotate_left
  ·rw [if_neg c13] at H
   exact absurd H dq15
  rw [if_pos c13] at H
  have c13b0 := dT c13
  clear c13
  by_cases c14 : x22_1 < (l0.length : Int)
  rotate_left
  ·rw [if_neg c14] at H
   exact absurd H dq15
  rw [if_pos c14] at H
  have c14b0 := dT c14
  clear c14
  have HC15 := Zq.i H
  clear H
  have p432 : 0 ≤ (x22_1 : Int) := oT dq22
  have q432 : x22_1 < (l0.length : Int) := oT dq22
  obtain ⟨ad432, A432_2, c432_2, e432, hx432_0, hx432_1, hx432_2, hx432_3, hl432_2, hi432_2⟩ := at_T42 HR0.out x22_1 p432 q432
  cases e432
  replace hx432_0 := (HB.out.cell (bC w _ hx432_0)).trans hx432_0
  replace hx432_1 := (HB.out.cell (bC w _ hx432_1)).trans hx432_1
  replace hx432_2 := (HB.out.cell (bC w _ hx432_2)).trans hx432_2
  replace hx432_3 := (HB.out.cell (bC w _ hx432_3)).trans hx432_3
  have HR432_2 := Zq.i hi432_2
  have HC432_2 := Zq.i hl432_2
  clear hi432_2 hl432_2
  replace p432 := eq_true p432
  replace q432 := eq_true q432
  go_upto_region 7 with (first | ((with_reducible refine gate_dst (N := 6) rfl ?_); refine box_event ?hg (N := 6) ?hd (cs := #[.int .i64 0, .string (⟨#[]⟩ : ByteArray), .slice none 0 0, .int .i64 0]) (t := 42) ?hr ?_; (case hd => rfl); (case hg => rfl); (case hr => exact dq0); intro gb433 hg w16 hbox hb; replace HO_3 := Zq.i (Kd.R_below dq59 hb); replace HO_4 := Zq.i (Kd.R_below dq93 hb); have BK433 := Zq.i (hbox); have GW433 := Zq.i ((dq30 : w.heap.size ≤ gb433)); have GE433 := Zq.i ((dq30 : w.heap.size ≤ gb433)); replace HB := Zq.i (below_step dq17 hb); clear hb hbox hg; obtain ⟨⟨hcz17_0, hcz17_1, hcz17_2, hcz17_3⟩, hfz17_0, hfz17_1, hfz17_2, hfz17_3⟩ := blkC4 BK433.out))
  (try simp only [Act.put, List.setIfInBounds_toArray, List.set_cons_zero, List.set_cons_succ])
  go_cut [35] (fun v35 wc => ∃ (kq : Nat) (x35_14 : Bool), v35 = .bool x35_14 ∧ Zq (impl_ParticleOk.j1 kq l0 x3_1 x4_1 x22_1 l0 (l0.length : Int) x22_1 x35_14 ((rd_T42 l0 x22_1).f0) ((rd_T42 l0 x22_1).f1) ((rd_T42 l0 x22_1).f2) ((rd_T42 l0 x22_1).f3) = some r) ∧ Zq (kq ≤ k1) ∧ Zq (Kd.R (Kd.int .i64) 2 wc w.heap.size (fun k_ => some k_ ≠ (v426 : Value).ownBlock) v423 x3_1) ∧ Zq (Kd.R (Kd.int .i64) 2 wc w.heap.size (fun k_ => some k_ ≠ (v423 : Value).ownBlock) v426 x4_1) ∧ Zq (wc.heap[gb433]? = some (.cells #[.int .i64 ((rd_T42 l0 x22_1).f0), .string ((rd_T42 l0 x22_1).f1), (.slice A432_2 ((rd_T42 l0 x22_1).f2).length c432_2), .int .i64 ((rd_T42 l0 x22_1).f3)] 42 (0, 0))) ∧ Zq (Below w.heap.size w wc))
  case first =>
   have H := HC15.out
   clear HC15
   replace H := bM H
   obtain ⟨t434, A180, H⟩ := H
   try dsimp only at H
   have A18 := Zq.i A180
   clear A180
   by_cases c19 : t434 = true
   rotate_left
   ·replace c19 := Bool.eq_false_iff.mpr c19
    subst c19
    rw [iN] at H
    have H' := Zq.i H
    clear H
    obtain ⟨⟨hcz24_0, hcz24_1, hcz24_2, hcz24_3⟩, hfz24_0, hfz24_1, hfz24_2, hfz24_3⟩ := blkC4 BK433.out
    go_wp2_with (first | ((with_reducible refine gate_callee (f := 68) rfl ?_); refine goesL_ (some 28) rfl rfl Try.func68 dq24 rfl #[.agg #[.int .i64 ((rd_T42 l0 x22_1).f0), .string ((rd_T42 l0 x22_1).f1), .slice A432_2 ((rd_T42 l0 x22_1).f2).length c432_2, .int .i64 ((rd_T42 l0 x22_1).f3)]] rfl dq23 ?_; (with_reducible refine (impl_PNode_fits.calls k1 ((rd_T42 l0 x22_1).f0) ((rd_T42 l0 x22_1).f1) _ _ ((rd_T42 l0 x22_1).f2) ((rd_T42 l0 x22_1).f3) false _ ?side1 ?side2 A18.out).mono ?_); (case side1 => exact dq9); (case side2 => exact HC432_2.out); rintro e w25 ⟨rfl, hb⟩; refine ⟨_, rfl, ?_⟩; replace HO_3 := Zq.i (Kd.R_below dq97 hb); replace HO_4 := Zq.i (Kd.R_below dq96 hb); replace BK433 := Zq.i (blk_below (g := gb433) (o := .cells #[.int .i64 ((rd_T42 l0 x22_1).f0), .string ((rd_T42 l0 x22_1).f1), .slice A432_2 ((rd_T42 l0 x22_1).f2).length c432_2, .int .i64 ((rd_T42 l0 x22_1).f3)] 42 (0, 0)) dq95 hb); replace HB := Zq.i (below_step dq94 hb); (try clear hb)))
    go_meet
    case rel => exact ⟨_, (true), dq14, H', ⟨dq29⟩, ⟨dq59⟩, ⟨dq93⟩, ⟨by refine blk_up ?_; exact BK433.out⟩, ⟨dq94⟩⟩
   subst c19
   rw [if_pos rfl] at H
   replace H := bM H
   obtain ⟨t435, A200, H⟩ := H
   try dsimp only at H
   have A20 := Zq.i A200
   clear A200
   have H' := Zq.i H
   clear H
   obtain ⟨⟨hcz21_0, hcz21_1, hcz21_2, hcz21_3⟩, hfz21_0, hfz21_1, hfz21_2, hfz21_3⟩ := blkC4 BK433.out
   go_wp2_with (first | ((with_reducible refine gate_callee (f := 68) rfl ?_); refine goesL_ (some 28) rfl rfl Try.func68 dq24 rfl #[.agg #[.int .i64 ((rd_T42 l0 x22_1).f0), .string ((rd_T42 l0 x22_1).f1), .slice A432_2 ((rd_T42 l0 x22_1).f2).length c432_2, .int .i64 ((rd_T42 l0 x22_1).f3)]] rfl dq23 ?_; (with_reducible refine (impl_PNode_fits.calls k1 ((rd_T42 l0 x22_1).f0) ((rd_T42 l0 x22_1).f1) _ _ ((rd_T42 l0 x22_1).f2) ((rd_T42 l0 x22_1).f3) true _ ?side1 ?side2 A18.out).mono ?_); (case side1 => exact dq9); (case side2 => exact HC432_2.out); rintro e w22 ⟨rfl, hb⟩; refine ⟨_, rfl, ?_⟩; replace HO_3 := Zq.i (Kd.R_below dq97 hb); replace HO_4 := Zq.i (Kd.R_below dq96 hb); replace BK433 := Zq.i (blk_below (g := gb433) (o := .cells #[.int .i64 ((rd_T42 l0 x22_1).f0), .string ((rd_T42 l0 x22_1).f1), .slice A432_2 ((rd_T42 l0 x22_1).f2).length c432_2, .int .i64 ((rd_T42 l0 x22_1).f3)] 42 (0, 0)) dq95 hb); replace HB := Zq.i (below_step dq94 hb); (try clear hb); obtain ⟨⟨hcz23_0, hcz23_1, hcz23_2, hcz23_3⟩, hfz23_0, hfz23_1, hfz23_2, hfz23_3⟩ := blkC4 BK433.out) | (go_at_call 63; (with_reducible refine (impl_in.calls ((rd_T42 l0 x22_1).f3) 0 3 t435 _ A20.out).mono ?_); rintro e w' ⟨rfl, ⟨nd, rfl⟩⟩))
   go_meet
   case rel => exact ⟨_, (!t435), dq14, H', ⟨dq29⟩, ⟨dq59⟩, ⟨dq93⟩, ⟨by refine blk_up ?_; exact BK433.out⟩, ⟨dq94⟩⟩
  clear HC15
  try clear c12b0
  try clear c13b0
  try clear c14b0
  try clear hcz17_0
  try clear hcz17_1
  try clear hcz17_2
  try clear hcz17_3
  try clear hfz17_0
  try clear hfz17_1
  try clear hfz17_2
  try clear hfz17_3
  try clear hx432_0
  try clear hx432_1
  try clear hx432_2
  try clear hx432_3
  try clear p432
  try clear q432
  obtain ⟨kq, x35_14, rfl, HA, HJ14, HO_3, HO_4, BK433, HB⟩ := hcut
  cases kq with
  | zero => exact absurd HA.out (by simp [impl_ParticleOk.j1])
  | succ kj14 =>
   have H := HA.out
   clear HA
   simp only [impl_ParticleOk.j1] at H
   by_cases c26 : x35_14 = true
   ·subst c26
    rw [if_pos rfl] at H
    obtain rfl := oI H
    go_wp2
    go_ret
    exact ⟨dq21, dq94⟩
   replace c26 := Bool.eq_false_iff.mpr c26
   subst c26
   rw [iN] at H
   by_cases c27 : 0 ≤ x22_1
   rotate_left
   ·rw [if_neg c27] at H
    exact absurd H dq15
   rw [if_pos c27] at H
   have c27b0 := dT c27
   clear c27
   by_cases c28 : x22_1 < (x3_1.length : Int)
   rotate_left
   ·rw [if_neg c28] at H
    exact absurd H dq15
   rw [if_pos c28] at H
   have c28b0 := dT c28
   clear c28
   obtain ⟨y436, hy436⟩ : ∃ y_ : List Int, y_ = (x3_1.set (x22_1 : Int).toNat x22_1) := ⟨_, rfl⟩
   replace H : (impl_ParticleOk.l1 kj14 l0 y436 x4_1 x22_1 (wrap64 ((((rd_T42 l0 x22_1).f2).length : Int) - 1)) l0 (l0.length : Int) x22_1 ((rd_T42 l0 x22_1).f0) ((rd_T42 l0 x22_1).f1) ((rd_T42 l0 x22_1).f2) ((rd_T42 l0 x22_1).f3)) = some r := by first | (rw [hy436]; with_reducible exact H) | (have H2_ := oS H; rw [hy436]; with_reducible exact H2_) | (have H2_ := oS H; with_reducible exact H2_) | with_reducible exact H | (rw [hy436]; exact H) | exact H
   have Ny436 := Zq.i hy436
   clear hy436
   have H' := Zq.i H
   clear H
   have p29 : 0 ≤ (x22_1 : Int) := oT dq22
   have q29 : (x22_1 : Int) < ((x3_1.length : Int) : Int) := oT dq22
   obtain ⟨go29, co29, eo29, gb29, gl29, cl29, HG29⟩ := Kd.R_form HO_3.out dq28
   (first | cases eo29 | (injection eo29 with ea_ en_ ec_; (first | subst ea_ | (injection ea_ with ea_; subst ea_)); subst ec_; clear en_))
   have GB29 := Zq.i gb29
   have GG29 := Zq.i HG29
   clear gb29 gl29 HG29
   obtain ⟨hx29_0, hf29_0⟩ := Kd.R_celln 0 HO_3.out (x22_1 : Int) p29 q29
   replace p29 := eq_true p29
   replace q29 := eq_true q29
   have HP30 := Kd.R_putg HO_3.out (x22_1 : Int) x22_1
   go_wp2_with (first | ((with_reducible refine gate_store (t := 2) (p := 39) rfl ?_); refine store_event (t := 2) (p := 39) (v := ?vo_w31) (w1 := (wc.setCell ⟨go29, (x22_1 : Int).toNat, none⟩ (.int .i64 x22_1))) ?hg ?ho ?hn ?hr ?_; (case ho => rfl); (case hg => rfl); (case hn => rfl); (case hr => exact dq0); intro w31 hw; have hg : wc.grownBy w31 (some go29) := (by rw [hw]; exact HP30.2); have hp_ : Kd.R (Kd.int .i64) 2 w31 w.heap.size (fun k_ => some k_ ≠ (v426 : Value).ownBlock) (.slice (some ⟨go29, 0, none⟩) x3_1.length co29) y436 := (by rw [hw, Ny436.out]; exact HP30.1); clear HP30; replace HO_4 := Zq.i (Kd.R_after (v := (.slice (some ⟨go29, 0, none⟩) x3_1.length co29)) (v1 := (.slice (some ⟨go29, 0, none⟩) x3_1.length co29)) (ok := (fun _ => True)) (by (with_reducible repeat (first | apply Kd.R_alloc | apply Kd.R_drewN | apply Kd.R_drew)); exact Kd.R_mono HO_4.out (fun _ hk => ⟨trivial, hk⟩)) hg (.inl rfl)); replace BK433 := Zq.i (blk_grown (g := gb433) (o := .cells #[.int .i64 ((rd_T42 l0 x22_1).f0), .string ((rd_T42 l0 x22_1).f1), .slice A432_2 ((rd_T42 l0 x22_1).f2).length c432_2, .int .i64 ((rd_T42 l0 x22_1).f3)] 42 (0, 0)) (by refine blk_up ?_; exact BK433.out) hg (Kd.R_ne HO_3.out BK433.out dq25)); replace HO_3 := Zq.i (hp_); replace HB := Zq.i ((by rw [hw]; exact below_set (HB.out) GB29.out : Below w.heap.size w w31)); clear hg hw hp_; obtain ⟨⟨hcz32_0, hcz32_1, hcz32_2, hcz32_3⟩, hfz32_0, hfz32_1, hfz32_2, hfz32_3⟩ := blkC4 BK433.out))
   go_loopg [7] kj14 (fun kq v7 w' => ∃ (x3_3 : List Int) (x4_3 : List Int) (x7_3 : Int), v7 = .int .i64 x7_3 ∧ Zq (impl_ParticleOk.l1 kq l0 x3_3 x4_3 x22_1 x7_3 l0 (l0.length : Int) x22_1 ((rd_T42 l0 x22_1).f0) ((rd_T42 l0 x22_1).f1) ((rd_T42 l0 x22_1).f2) ((rd_T42 l0 x22_1).f3) = some r) ∧ Zq (kq ≤ kj14) ∧ Zq (Kd.R (Kd.int .i64) 2 w' w.heap.size (fun k_ => some k_ ≠ (v426 : Value).ownBlock) (.slice (some ⟨go29, 0, none⟩) x3_1.length co29) x3_3) ∧ Zq (Kd.R (Kd.int .i64) 2 w' w.heap.size (fun k_ => some k_ ≠ ((.slice (some ⟨go29, 0, none⟩) x3_1.length co29) : Value).ownBlock) v426 x4_3) ∧ Zq (w'.heap[gb433]? = some (.cells #[.int .i64 ((rd_T42 l0 x22_1).f0), .string ((rd_T42 l0 x22_1).f1), (.slice A432_2 ((rd_T42 l0 x22_1).f2).length c432_2), .int .i64 ((rd_T42 l0 x22_1).f3)] 42 (0, 0))) ∧ Zq (Below w.heap.size w w'))
   case atStart => exact ⟨(y436), (x4_1), (wrap64 ((((rd_T42 l0 x22_1).f2).length : Int) - 1)), dq14, H', ⟨Nat.le_refl _⟩, ⟨dq59⟩, ⟨by (with_reducible repeat (first | apply Kd.R_alloc | apply Kd.R_drewN | apply Kd.R_drew)); exact Kd.R_mono HO_4.out (fun _ hk => hk.2)⟩, ⟨by refine blk_up ?_; exact BK433.out⟩, ⟨dq94⟩⟩
   clear H'
   try clear c27b0
   try clear c28b0
   try clear p29
   try clear q29
   try clear hcz32_0
   try clear hcz32_1
   try clear hcz32_2
   try clear hcz32_3
   try clear hfz32_0
   try clear hfz32_1
   try clear hfz32_2
   try clear hfz32_3
   try clear hx29_0
   obtain ⟨x3_3, x4_3, x7_3, rfl, HA, HK3, HO_3, HO_4, BK433, HB⟩ := hrel
   have hl3_3 := (Kd.R_reads' HO_3.out).1
   rw [hl3_3] at HO_3
   (try simp only [hl3_3])
   (try simp only [hl3_3] at BK433)
   (try simp only [hl3_3] at HO_4)
   cases gk with
   | zero => exact absurd HA.out (by simp [impl_ParticleOk.l1])
   | succ k3 =>
    have H := HA.out
    clear HA
    simp only [impl_ParticleOk.l1] at H
    by_cases c33 : x7_3 ≥ 0
    rotate_left
    ·rw [if_neg c33] at H
     have c33b0 : decide (0 ≤ x7_3) = false := dF c33
     clear c33
     have H' := Zq.i H
     clear H
     go_wp2
     (try simp only [← hl3_3])
     go_roundg k3
     case measure => have := HK1.out; have := HJ14.out; have := HK3.out; omega
     case rel => exact ⟨(x3_3), (x4_3), (wrap64 (x22_1 + 1)), dq14, H', ⟨by have := HK1.out; have := HJ14.out; have := HK3.out; omega⟩, ⟨by (try simp only [hl3_3]); (with_reducible repeat (first | apply Kd.R_alloc | apply Kd.R_drewN | apply Kd.R_drew)); exact HO_3.out⟩, ⟨by (try simp only [hl3_3]); (with_reducible repeat (first | apply Kd.R_alloc | apply Kd.R_drewN | apply Kd.R_drew)); exact HO_4.out⟩, ⟨dq94⟩⟩
    rw [if_pos c33] at H
    have c33b0 : decide (0 ≤ x7_3) = true := dT c33
    clear c33
    by_cases c34 : 0 ≤ x7_3
    rotate_left
    ·rw [if_neg c34] at H
     exact absurd H dq15
    rw [if_pos c34] at H
    have c34b0 := dT c34
    clear c34
    by_cases c35 : x7_3 < (((rd_T42 l0 x22_1).f2).length : Int)
    rotate_left
    ·rw [if_neg c35] at H
     exact absurd H dq15
    rw [if_pos c35] at H
    have c35b0 := dT c35
    clear c35
    by_cases c36 : (rd ((rd_T42 l0 x22_1).f2) x7_3) < 0
    ·rw [if_pos c36] at H
     have c36b0 := dT c36
     clear c36
     obtain rfl := oI H
     obtain ⟨⟨hcz37_0, hcz37_1, hcz37_2, hcz37_3⟩, hfz37_0, hfz37_1, hfz37_2, hfz37_3⟩ := blkC4 BK433.out
     have p437 : 0 ≤ (x7_3 : Int) := oT dq22
     have q437 : x7_3 < (((rd_T42 l0 x22_1).f2).length : Int) := oT dq22
     obtain ⟨ad437, e437, hx437_0⟩ := Kd.at_int HR432_2.out x7_3 p437 q437
     cases e437
     replace hx437_0 := (HB.out.cell (bC w _ hx437_0)).trans hx437_0
     replace p437 := eq_true p437
     replace q437 := eq_true q437
     go_wp2
     go_ret
     exact ⟨dq21, dq94⟩
    rw [if_neg c36] at H
    have c36b0 := dF c36
    clear c36
    by_cases c38 : 0 ≤ x22_1
    rotate_left
    ·rw [if_neg c38] at H
     exact absurd H dq15
    rw [if_pos c38] at H
    have c38b0 := dT c38
    clear c38
    by_cases c39 : x22_1 < (x3_3.length : Int)
    rotate_left
    ·rw [if_neg c39] at H
     exact absurd H dq15
    rw [if_pos c39] at H
    have c39b0 := dT c39
    clear c39
    by_cases c40 : (rd ((rd_T42 l0 x22_1).f2) x7_3) = (wrap64 ((rd x3_3 x22_1) - 1))
    rotate_left
    ·rw [if_neg c40] at H
     have c40b0 := bN c40
     have c40b1 := bO c40
     obtain rfl := oI H
     obtain ⟨⟨hcz53_0, hcz53_1, hcz53_2, hcz53_3⟩, hfz53_0, hfz53_1, hfz53_2, hfz53_3⟩ := blkC4 BK433.out
     have p437 : 0 ≤ (x7_3 : Int) := oT dq22
     have q437 : x7_3 < (((rd_T42 l0 x22_1).f2).length : Int) := oT dq22
     obtain ⟨ad437, e437, hx437_0⟩ := Kd.at_int HR432_2.out x7_3 p437 q437
     cases e437
     replace hx437_0 := (HB.out.cell (bC w _ hx437_0)).trans hx437_0
     replace p437 := eq_true p437
     replace q437 := eq_true q437
     have p438 : 0 ≤ (x22_1 : Int) := oT dq22
     have q438 : x22_1 < (x3_3.length : Int) := oT dq22
     obtain ⟨ad438, e438, hx438_0⟩ := Kd.at_int (Kd.R_reads' HO_3.out).2.2 x22_1 p438 q438
     obtain rfl : (⟨go29, 0, none⟩ : Addr) = ad438 := (by injection e438)
     (first | simp only [add_plain] at hx438_0 | simp only [add_at] at hx438_0 | simp only [Addr.add, Nat.zero_add] at hx438_0 | skip)
     replace p438 := eq_true p438
     replace q438 := eq_true q438
     go_wp2
     go_ret
     exact ⟨dq21, dq94⟩
    rw [if_pos c40] at H
    have c40b0 := bE c40
    have c40b1 := bQ c40
    clear c40
    by_cases c41 : 0 ≤ (rd ((rd_T42 l0 x22_1).f2) x7_3)
    rotate_left
    ·rw [if_neg c41] at H
     exact absurd H dq15
    rw [if_pos c41] at H
    have c41b0 := dT c41
    clear c41
    by_cases c42 : (rd ((rd_T42 l0 x22_1).f2) x7_3) < (x3_3.length : Int)
    rotate_left
    ·rw [if_neg c42] at H
     exact absurd H dq15
    rw [if_pos c42] at H
    have c42b0 := dT c42
    clear c42
    by_cases c43 : x22_1 < (x4_3.length : Int)
    rotate_left
    ·rw [if_neg c43] at H
     exact absurd H dq15
    rw [if_pos c43] at H
    have c43b0 := dT c43
    clear c43
    by_cases c44 : (rd ((rd_T42 l0 x22_1).f2) x7_3) < (x4_3.length : Int)
    rotate_left
    ·rw [if_neg c44] at H
     exact absurd H dq15
    rw [if_pos c44] at H
    have c44b0 := dT c44
    clear c44
    obtain ⟨ji45, hji45⟩ : ∃ j_ : Int, (mx (rd x4_3 x22_1) (wrap64 ((rd x4_3 (rd ((rd_T42 l0 x22_1).f2) x7_3)) + 1))) = j_ := ⟨_, rfl⟩
    replace H : (impl_ParticleOk.l1 k3 l0 (x3_3.set (x22_1 : Int).toNat (rd x3_3 (rd ((rd_T42 l0 x22_1).f2) x7_3))) (x4_3.set (x22_1 : Int).toNat (ji45)) x22_1 (wrap64 (x7_3 - 1)) l0 (l0.length : Int) x22_1 ((rd_T42 l0 x22_1).f0) ((rd_T42 l0 x22_1).f1) ((rd_T42 l0 x22_1).f2) ((rd_T42 l0 x22_1).f3)) = some r := by first | (rw [hji45] at H; exact H) | (simp only [hji45] at H ⊢; exact H)
    have hji45_ : (if (rd x4_3 x22_1) < (wrap64 ((rd x4_3 (rd ((rd_T42 l0 x22_1).f2) x7_3)) + 1)) then (wrap64 ((rd x4_3 (rd ((rd_T42 l0 x22_1).f2) x7_3)) + 1)) else (rd x4_3 x22_1)) = ji45 := hji45
    obtain ⟨y442, hy442⟩ : ∃ y_ : List Int, y_ = (x3_3.set (x22_1 : Int).toNat (rd x3_3 (rd ((rd_T42 l0 x22_1).f2) x7_3))) := ⟨_, rfl⟩
    replace H : (impl_ParticleOk.l1 k3 l0 y442 (x4_3.set (x22_1 : Int).toNat (ji45)) x22_1 (wrap64 (x7_3 - 1)) l0 (l0.length : Int) x22_1 ((rd_T42 l0 x22_1).f0) ((rd_T42 l0 x22_1).f1) ((rd_T42 l0 x22_1).f2) ((rd_T42 l0 x22_1).f3)) = some r := by first | (rw [hy442]; with_reducible exact H) | (have H2_ := oS H; rw [hy442]; with_reducible exact H2_) | (have H2_ := oS H; with_reducible exact H2_) | with_reducible exact H | (rw [hy442]; exact H) | exact H
    have Ny442 := Zq.i hy442
    clear hy442
    obtain ⟨y443, hy443⟩ : ∃ y_ : List Int, y_ = (x4_3.set (x22_1 : Int).toNat (ji45)) := ⟨_, rfl⟩
    replace H : (impl_ParticleOk.l1 k3 l0 y442 y443 x22_1 (wrap64 (x7_3 - 1)) l0 (l0.length : Int) x22_1 ((rd_T42 l0 x22_1).f0) ((rd_T42 l0 x22_1).f1) ((rd_T42 l0 x22_1).f2) ((rd_T42 l0 x22_1).f3)) = some r := by first | (rw [hy443]; with_reducible exact H) | (have H2_ := oS H; rw [hy443]; with_reducible exact H2_) | (have H2_ := oS H; with_reducible exact H2_) | with_reducible exact H | (rw [hy443]; exact H) | exact H
    have Ny443 := Zq.i hy443
    clear hy443
    have H' := Zq.i H
    clear H
    obtain ⟨⟨hcz48_0, hcz48_1, hcz48_2, hcz48_3⟩, hfz48_0, hfz48_1, hfz48_2, hfz48_3⟩ := blkC4 BK433.out
    have p437 : 0 ≤ (x7_3 : Int) := oT dq22
    have q437 : x7_3 < (((rd_T42 l0 x22_1).f2).length : Int) := oT dq22
    obtain ⟨ad437, e437, hx437_0⟩ := Kd.at_int HR432_2.out x7_3 p437 q437
    cases e437
    replace hx437_0 := (HB.out.cell (bC w _ hx437_0)).trans hx437_0
    replace p437 := eq_true p437
    replace q437 := eq_true q437
    have p438 : 0 ≤ (x22_1 : Int) := oT dq22
    have q438 : x22_1 < (x3_3.length : Int) := oT dq22
    obtain ⟨ad438, e438, hx438_0⟩ := Kd.at_int (Kd.R_reads' HO_3.out).2.2 x22_1 p438 q438
    obtain rfl : (⟨go29, 0, none⟩ : Addr) = ad438 := (by injection e438)
    (first | simp only [add_plain] at hx438_0 | simp only [add_at] at hx438_0 | simp only [Addr.add, Nat.zero_add] at hx438_0 | skip)
    replace p438 := eq_true p438
    replace q438 := eq_true q438
    try go_wp2
    replace HO_3 := Zq.i (Kd.R_drew HO_3.out)
    replace HO_4 := Zq.i (Kd.R_drew HO_4.out)
    replace BK433 := Zq.i (blk_drew BK433.out)
    replace HB := Zq.i (below_drew1 HB.out)
    have p439 : 0 ≤ ((rd ((rd_T42 l0 x22_1).f2) x7_3) : Int) := oT dq22
    have q439 : (rd ((rd_T42 l0 x22_1).f2) x7_3) < (x3_3.length : Int) := oT dq22
    obtain ⟨ad439, e439, hx439_0⟩ := Kd.at_int (Kd.R_reads' HO_3.out).2.2 (rd ((rd_T42 l0 x22_1).f2) x7_3) p439 q439
    obtain rfl : (⟨go29, 0, none⟩ : Addr) = ad439 := (by injection e439)
    (first | simp only [add_plain] at hx439_0 | simp only [add_at] at hx439_0 | simp only [Addr.add, Nat.zero_add] at hx439_0 | skip)
    replace p439 := eq_true p439
    replace q439 := eq_true q439
    obtain ⟨Ao50, co50, eo50⟩ := Kd.R_slice HO_4.out
    (first | subst eo50 | (injection eo50 with f1_ f2_ f3_; have f4_ := f1_.symm; have f5_ := f3_.symm; clear f1_ f2_ f3_; subst f4_; subst f5_))
    have p440 : 0 ≤ (x22_1 : Int) := oT dq22
    have q440 : x22_1 < (x4_3.length : Int) := oT dq22
    obtain ⟨ad440, e440, hx440_0⟩ := Kd.at_int (Kd.R_reads' HO_4.out).2.2 x22_1 p440 q440
    cases e440
    replace p440 := eq_true p440
    replace q440 := eq_true q440
    have p441 : 0 ≤ ((rd ((rd_T42 l0 x22_1).f2) x7_3) : Int) := oT dq22
    have q441 : (rd ((rd_T42 l0 x22_1).f2) x7_3) < (x4_3.length : Int) := oT dq22
    obtain ⟨ad441, e441, hx441_0⟩ := Kd.at_int (Kd.R_reads' HO_4.out).2.2 (rd ((rd_T42 l0 x22_1).f2) x7_3) p441 q441
    obtain rfl : ad440 = ad441 := (by injection e441)
    replace p441 := eq_true p441
    replace q441 := eq_true q441
    have p46 : 0 ≤ (x22_1 : Int) := oT dq22
    have q46 : (x22_1 : Int) < ((x3_3.length : Int) : Int) := oT dq22
    obtain ⟨hx46_0, hf46_0⟩ := Kd.R_celln 0 HO_3.out (x22_1 : Int) p46 q46
    replace p46 := eq_true p46
    replace q46 := eq_true q46
    have HP51 := Kd.R_putn HO_3.out (x22_1 : Int) (rd x3_3 (rd ((rd_T42 l0 x22_1).f2) x7_3))
    rw [← Ny442.out] at HP51
    have HQ51 := Zq.i HP51
    clear HP51
    have p47 : 0 ≤ (x22_1 : Int) := oT dq22
    have q47 : (x22_1 : Int) < ((x4_3.length : Int) : Int) := oT dq22
    obtain ⟨go47, co47, eo47, gb47, gl47, cl47, HG47⟩ := Kd.R_form HO_4.out dq28
    (first | cases eo47 | (injection eo47 with ea_ en_ ec_; (first | subst ea_ | (injection ea_ with ea_; subst ea_)); subst ec_; clear en_))
    have GB47 := Zq.i gb47
    have GG47 := Zq.i HG47
    clear gb47 gl47 HG47
    (first | simp only [add_plain] at hx440_0 | skip)
    (first | simp only [add_plain] at hx441_0 | skip)
    obtain ⟨hx47_0, hf47_0⟩ := Kd.R_celln 0 (Kd.R_far (p := ⟨go29, (x22_1 : Int).toNat, none⟩) (Kd.R_mono HO_4.out (fun k_ hk => (⟨hk, fun e_ => hk (by rw [e_]; rfl)⟩ : _ ∧ k_ ≠ go29))) (fun _ hk => hk.2) (.int .i64 (rd x3_3 (rd ((rd_T42 l0 x22_1).f2) x7_3)))) (x22_1 : Int) p47 q47
    replace p47 := eq_true p47
    replace q47 := eq_true q47
    have HP52 := Kd.R_putn (Kd.R_far (p := ⟨go29, (x22_1 : Int).toNat, none⟩) (Kd.R_mono HO_4.out (fun k_ hk => (⟨hk, fun e_ => hk (by rw [e_]; rfl)⟩ : _ ∧ k_ ≠ go29))) (fun _ hk => hk.2) (.int .i64 (rd x3_3 (rd ((rd_T42 l0 x22_1).f2) x7_3)))) (x22_1 : Int) ji45
    rw [← Ny443.out] at HP52
    have HQ52 := Zq.i HP52
    clear HP52
    refine start_ (n := 22) (S := fun w' => w'.cell? ⟨go29, ((rd ((rd_T42 l0 x22_1).f2) x7_3)).toNat, none⟩ = some (.int .i64 (rd x3_3 (rd ((rd_T42 l0 x22_1).f2) x7_3))) ∧ w'.cell? ⟨go47, (x22_1).toNat, none⟩ = some (.int .i64 (rd x4_3 x22_1)) ∧ w'.cell? ⟨go47, ((rd ((rd_T42 l0 x22_1).f2) x7_3)).toNat, none⟩ = some (.int .i64 (rd x4_3 (rd ((rd_T42 l0 x22_1).f2) x7_3)))) (ds := [19, 21]) (bitsA 22 0) dq24 rfl rfl ⟨hx439_0, hx440_0, hx441_0⟩ (fun hHeld => ?_); refine with_tabW impl_ParticleOk.tab16 impl_ParticleOk.bits16 (fun HT_ HW_ => ?_)
    generalize wr.drew = w49 at HO_3 HO_4 BK433 HB GG47 HQ51 HQ52 hf46_0 hf47_0 hx439_0 hx440_0 hx441_0 hx46_0 hx47_0 hHeld ⊢
    refine pureA (i := 0) (N := some 64) (bitsA 22 1) ?_
    refine pureA (i := 1) (N := some 65) (bitsA 22 3) ?_
    refine pureA (i := 2) (N := some 66) (bitsA 22 7) ?_
    refine pureA (i := 3) (N := some 67) (bitsA 22 15) ?_
    refine pureA (i := 4) (N := some 68) (bitsA 22 31) ?_
    refine pureA (i := 5) (N := some 69) (bitsA 22 63) ?_
    refine pureA (i := 6) (N := some 70) (bitsA 22 127) ?_
    refine pureA (i := 8) (N := some 72) (bitsA 22 383) ?_
    refine pureA (i := 9) (N := some 73) (bitsA 22 895) ?_
    refine pureA (i := 10) (N := some 74) (bitsA 22 1919) ?_
    refine pureA (i := 12) (N := some 76) (bitsA 22 6015) ?_
    refine pureA (i := 13) (N := some 77) (bitsA 22 14207) ?_
    refine pureA (i := 14) (N := some 78) (bitsA 22 30591) ?_
    refine takeA3 (i := 7) (N := some 71) (bitsA 22 30719) ?_
    refine takeA3 (i := 11) (N := some 75) (bitsA 22 32767) ?_
    refine takeA3 (i := 15) (N := some 79) (bitsA 22 65535) ?_
    refine pureA (i := 16) (N := some 80) (bitsA 22 131071) ?_
    refine pureA (i := 17) (N := some 81) (bitsA 22 262143) ?_
    refine pureA (i := 18) (N := some 82) (bitsA 22 524287) ?_
    refine last_ (i := 19) (N := none) (bitsA 22 1048575) rfl rfl (one_of HT_.out dq24) dq25 (fun K hK => ?_)
    refine skip_ (w1 := ?_) dq31 rfl ?_ ?_
    rotate_left
    ·go_simp
     rfl
    refine hK.out _ _ ?_
    clear hK K
    refine pureA (i := 20) (N := some 83) (bitsA 22 2097151) ?_
    refine last_ (i := 21) (N := none) (bitsA 22 4194303) rfl rfl (one_of HT_.out dq24) dq25 (fun K hK => ?_)
    refine skip_ (w1 := ?_) dq31 rfl ?_ ?_
    rotate_left
    ·go_simp
     rfl
    refine hK.out _ _ ?_
    clear hK K
    refine done_ (done_of HT_.out dq24) ?_
    try go_wp2
    (try simp only [← hl3_3])
    go_roundg k3
    case measure => have := HK1.out; have := HJ14.out; have := HK3.out; omega
    case rel => exact ⟨(y442), (y443), (wrap64 (x7_3 - 1)), dq14, H', ⟨by have := HK1.out; have := HJ14.out; have := HK3.out; omega⟩, ⟨by (try simp only [hl3_3]); (with_reducible repeat (first | apply Kd.R_alloc | apply Kd.R_drewN | apply Kd.R_drew)); exact Kd.R_mono (Kd.R_far (p := ⟨go47, (x22_1 : Int).toNat, none⟩) (Kd.R_mono HQ51.out (fun k_ hk => (⟨hk, fun e_ => hk (by rw [e_]; rfl)⟩ : _ ∧ k_ ≠ go47))) (fun _ hk => hk.2) (.int .i64 ji45)) (fun _ hk => hk.1)⟩, ⟨by (try simp only [hl3_3]); (with_reducible repeat (first | apply Kd.R_alloc | apply Kd.R_drewN | apply Kd.R_drew)); exact Kd.R_mono HQ52.out (fun _ hk => hk.1)⟩, ⟨by (try simp only [hl3_3]); refine blk_up ?_; refine blk_far ?_ (by have h_ := Kd.R_ne HO_4.out BK433.out dq25; intro e_; exact h_ (by rw [e_]; rfl)) _; refine blk_up ?_; refine blk_far ?_ (by have h_ := Kd.R_ne HO_3.out BK433.out dq25; intro e_; exact h_ (by rw [e_]; rfl)) _; refine blk_up ?_; exact BK433.out⟩, ⟨by repeat (first | (with_reducible first | exact HB.out | apply below_alloc | apply pw_below_drewN | apply below_drew1 | refine below_set ?_ GB29.out | refine below_set ?_ GB47.out | refine below_set ?_ GE433.out) | exact HB.out)⟩⟩

end Go.Proofs.Ytajdfbgbkgabjaa.L
