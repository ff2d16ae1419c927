/- Words and contracts for the row RowFnDeepPath: what the Go functions answer that it calls; printed by programs of the kit and of this session, and merged. -/
import Derived.Test.YtpmjpbaeecnpiaaDoorQd6
namespace Go.Proofs.YtpmjpbaeecnpiaaDoor.L
open Go.RowKit Go.Proofs.YtpmjpbaeecnpiaaDoorW.PrintWords Go.Proofs.YtpmjpbaeecnpiaaDoorW.PrintLast Go.Proofs.YtpmjpbaeecnpiaaDoorW.PrintMore
attribute [local go_sem] max2_int min2_int max_two min_two max_three min_three max_four min_four
set_option linter.unusedVariables false
set_option linter.unusedSimpArgs false

/-! ### spec_l1Rd_flat: function 51 -/
mutual
def spec_l1Rd_flat.l0 : Nat → List (S39) → Int → List Int → Int → Option ((List (S39)) × Int)
 | 0, _, _, _, _ => none
 | k + 1, x3, x4, x1000, x1001 => if x4 > 0 then ((spec_l1Rd_once.f x1000 x1001 3).bind fun bt385 => (if bt385.1 = true then (spec_l1Rd_flat.l1 k x3 x4 (wrap64 ((x3.length : Int) - 1)) x1000 bt385.2) else (spec_l1Rd_flat.j2 k x3 x4 0 x1000 bt385.2))) else ((spec_l1Rd_once.f x1000 x1001 24).bind fun bt382 => (if bt382.1 = true then (if 0 < (x3.length : Int) then (some ((x3.set (0 : Int).toNat (⟨(rd_T39 x3 0).f0, (⟨#[]⟩ : ByteArray), (rd_T39 x3 0).f2, (rd_T39 x3 0).f3⟩ : S39)), bt382.2)) else (none)) else (some (x3, bt382.2))))
def spec_l1Rd_flat.j2 : Nat → List (S39) → Int → Int → List Int → Int → Option ((List (S39)) × Int)
 | 0, _, _, _, _, _ => none
 | k + 1, x3, x4, x5, x1000, x1001 => (some (([(⟨#[97]⟩ : ByteArray), (⟨#[98]⟩ : ByteArray)] : List ByteArray) : List ByteArray)).bind fun y389 => ((spec_l1Rd_below.f x1000 x1001 2).bind fun bt392 => (if 0 ≤ bt392.1 then (if bt392.1 < (y389.length : Int) then ((spec_l1Rd_once.f x1000 bt392.2 3).bind fun bt396 => (if bt396.1 = true then (spec_l1Rd_flat.j3 k x3 x4 x1000 bt396.2 x5 (rdOf ByteArray.empty y389 bt392.1) (⟨#[]⟩ : ByteArray) ([] : List (S46))) else ((some (([(⟨#[49]⟩ : ByteArray), (⟨#[50]⟩ : ByteArray), (⟨#[32, 49]⟩ : ByteArray), (⟨#[51]⟩ : ByteArray)] : List ByteArray) : List ByteArray)).bind fun y398 => ((spec_l1Rd_below.f x1000 bt396.2 4).bind fun bt401 => (if 0 ≤ bt401.1 then (if bt401.1 < (y398.length : Int) then (if ([] : List (S46)).length < 4398046511104 then (spec_l1Rd_flat.j3 k x3 x4 x1000 bt401.2 x5 (rdOf ByteArray.empty y389 bt392.1) (⟨#[]⟩ : ByteArray) (([] : List (S46)) ++ [(⟨(⟨#[97]⟩ : ByteArray), rdOf ByteArray.empty y398 bt401.1⟩ : S46)])) else (none)) else (none)) else (none)))))) else (none)) else (none)))
def spec_l1Rd_flat.j3 : Nat → List (S39) → Int → List Int → Int → Int → ByteArray → ByteArray → List (S46) → Option ((List (S39)) × Int)
 | 0, _, _, _, _, _, _, _, _ => none
 | k + 1, x3, x4, x1000, x1001, x396000, x396001, x396002, x396003 => if x3.length < 2199023255552 then ((some (x3 ++ [(⟨x396000, x396001, x396002, x396003⟩ : S39)] : List (S39))).bind fun y407 => ((spec_l1Rd_once.f x1000 x1001 3).bind fun bt410 => (if bt410.1 = true then ((some (([(⟨#[117]⟩ : ByteArray), (⟨#[118]⟩ : ByteArray), (⟨#[32, 117, 32]⟩ : ByteArray)] : List ByteArray) : List ByteArray)).bind fun y412 => ((spec_l1Rd_below.f x1000 bt410.2 3).bind fun bt415 => (if 0 ≤ bt415.1 then (if bt415.1 < (y412.length : Int) then (if y407.length < 2199023255552 then (spec_l1Rd_flat.l0 k (y407 ++ [(⟨(x3.length : Int), (⟨#[]⟩ : ByteArray), rdOf ByteArray.empty y412 bt415.1, ([] : List (S46))⟩ : S39)]) (wrap64 (x4 - 1)) x1000 bt415.2) else (none)) else (none)) else (none)))) else (spec_l1Rd_flat.l0 k y407 (wrap64 (x4 - 1)) x1000 bt410.2)))) else (none)
def spec_l1Rd_flat.l1 : Nat → List (S39) → Int → Int → List Int → Int → Option ((List (S39)) × Int)
 | 0, _, _, _, _, _ => none
 | k + 1, x3, x4, x5, x1000, x1001 => if 0 ≤ x5 then (if x5 < (x3.length : Int) then (if ((rd_T39 x3 x5).f1).toList = ([] : List UInt8) then (spec_l1Rd_flat.l1 k x3 x4 ((rd_T39 x3 x5).f0) x1000 x1001) else (spec_l1Rd_flat.j2 k x3 x4 x5 x1000 x1001)) else (none)) else (none)
end
def spec_l1Rd_flat.f (k : Nat) (s0_0 : List Int) (s0_1 : Int) : Option ((List (S39)) × Int) := (spec_l1Rd_below.f s0_0 s0_1 8).bind fun bt380 => (spec_l1Rd_flat.l0 k (([(⟨(-1), (⟨#[97]⟩ : ByteArray), (⟨#[]⟩ : ByteArray), ([] : List (S46))⟩ : S39)] : List (S39))) bt380.1 s0_0 bt380.2)
def spec_l1Rd_flat.T12 : Bool × List (List Nat × List Nat) := (true, [([], []), ([0], [0]), ([], []), ([], []), ([3], [3]), ([2, 4], [2, 4]), ([5], [5]), ([6], [6]), ([7], [7]), ([1, 8, 4], [1, 8]), ([0, 1, 2, 3, 4, 5, 6, 7, 8, 9], []), ([10, 9, 9, 0, 1, 2, 3, 4, 5, 6, 7, 8, 9], [9, 10])])
def spec_l1Rd_flat.B12 : List Nat := [0, 1, 0, 0, 8, 28, 60, 124, 252, 511, 1023, 2047]
theorem spec_l1Rd_flat.tab12 : rtab .any (opsOf Tryd.f51 12) = spec_l1Rd_flat.T12 := by kernel_rfl
theorem spec_l1Rd_flat.bits12 : waitsOk spec_l1Rd_flat.T12.2 spec_l1Rd_flat.B12 = true := by kernel_rfl
set_option maxHeartbeats 8000000 in
set_option maxRecDepth 100000 in
theorem spec_l1Rd_flat.calls (k : Nat) (g : Nat) (s0_0 : List Int) (s0_1 : Int) (r1 : List (S39)) (r2 : Int) (w0 w : World) (hI : IsS99 w0 w g s0_0 s0_1) (hB : Below w0.heap.size w0 w) (h : spec_l1Rd_flat.f k s0_0 s0_1 = some (r1, r2)) :
  Calls Tryd.prog 51 #[.pointer (some ⟨g, 0, none⟩)] w fun e w' => ∃ v0_ : Value, e = .returned (v0_) ∧ Kd.S k39 39 w' w.heap.size (fun _ => True) v0_ r1 ∧ IsS99 w0 w' g s0_0 r2 ∧ Below w0.heap.size w0 w' ∧ KeepBut w w' g none := by
 have hu39 := Tryd.underlying39
 have hu46 := Tryd.underlying46
 have HI0 := Aside0.mk hI
 have HK := Aside0.mk (KeepBut.refl w g none)
 have HL := Aside0.mk hB.size
 clear hI
 have HW0 := Aside0.mk hB.size
 have HB := Aside0.mk hB
 clear hB
 have H : ((spec_l1Rd_below.f s0_0 s0_1 8).bind fun bt380 => (spec_l1Rd_flat.l0 k (([(⟨(-1), (⟨#[97]⟩ : ByteArray), (⟨#[]⟩ : ByteArray), ([] : List (S46))⟩ : S39)] : List (S39))) bt380.1 s0_0 bt380.2)) = some (r1, r2) := h
 clear h
 obtain ⟨y377, hy377⟩ : ∃ y_ : List (S39), y_ = (([(⟨(-1), (⟨#[97]⟩ : ByteArray), (⟨#[]⟩ : ByteArray), ([] : List (S46))⟩ : S39)] : List (S39))) := ⟨_, rfl⟩
 replace H : ((spec_l1Rd_below.f s0_0 s0_1 8).bind fun bt380 => (spec_l1Rd_flat.l0 k y377 bt380.1 s0_0 bt380.2)) = some (r1, r2) := by first | (rw [hy377]; with_reducible exact H) | (have H2_ := (Option.bind_some _ _).symm.trans H; rw [hy377]; with_reducible exact H2_) | (have H2_ := (Option.bind_some _ _).symm.trans H; with_reducible exact H2_) | with_reducible exact H | (rw [hy377]; exact H) | exact H
 have Ny377 := Aside0.mk hy377
 clear hy377
 replace H := Option.bind_eq_some_iff.mp H
 obtain ⟨⟨t380, t381⟩, A20, H⟩ := H
 replace H : (spec_l1Rd_flat.l0 k y377 t380 s0_0 t381) = some (r1, r2) := H
 have A2 := Aside0.mk A20
 clear A20
 have H' := Aside0.mk H
 clear H
 go_enter Tryd.func51, Tryd.ntmps51
 go_wp2_with (first | ((with_reducible refine gate_dst (N := 9) rfl ?_); refine Kd.S_lit k39 _ 39 ?hg (N := 9) ?hd (xs := ([(⟨(-1), (⟨#[97]⟩ : ByteArray), (⟨#[]⟩ : ByteArray), ([] : List (S46))⟩ : S39)] : List (S39))) (inner := [.int .i64 (-1), .string (⟨#[97]⟩ : ByteArray), .string (⟨#[]⟩ : ByteArray), .slice none 0 0]) (ok := fun _ => True) (okp := fun _ => True) ?hr ?hp (fun _ hk => hk) trivial (Below.refl _ _) (Nat.le_refl _) dq28 ?_; (case hd => rfl); (case hg => rfl); (case hr => exact dq0); (case hp => exact (Reps.c4 (show Kd.M k39 _ _ _ (⟨(-1), (⟨#[97]⟩ : ByteArray), (⟨#[]⟩ : ByteArray), ([] : List (S46))⟩ : S39) [.int .i64 (-1), .string (⟨#[97]⟩ : ByteArray), .string (⟨#[]⟩ : ByteArray), .slice none 0 0] from (k39_mkM _ _ _ (⟨(-1), (⟨#[97]⟩ : ByteArray), (⟨#[]⟩ : ByteArray), ([] : List (S46))⟩ : S39) (Kd.R_nil _ _ _ _ _))) (Reps.none _ _))); intro v378 w3 ho4 hb hg_ hnew_; clear hg_ hnew_; (first | rw [← Ny377.out] at ho4 | (simp only [Int.reduceToNat] at ho4; rw [← Ny377.out] at ho4)); have n0_ := Aside0.mk (Kd.S_lower ho4 (keep_size (w := w) (g := g) (row := none) dq97)); have n1_ := Aside0.mk (IsS99.below dq99 hb); have n2_ := Aside0.mk (KeepBut.trans dq97 (KeepBut.of_below hb g none) (.inl rfl)); have n3_ := Aside0.mk (below_step dq98 hb); clear HI0; clear HK; clear HB; have HO379 := n0_; have HI0 := n1_; have HK := n2_; have HB := n3_; clear n0_ n1_ n2_ n3_; clear hb ho4) | ((with_reducible refine gate_callee (f := 63) rfl ?_); refine goesL_ (some 11) rfl rfl Tryd.func63 dq30 rfl #[.pointer (some ⟨g, 0, none⟩), .int .i64 8] rfl dq29 ?_; (with_reducible refine (spec_l1Rd_below.calls g s0_0 s0_1 8 t380 t381 w0 _ ?side1 ?side2 A2.out).mono ?_); (case side1 => exact dq7); (case side2 => exact dq8); rintro e w5 ⟨rfl, hi, hb, hk⟩; refine ⟨_, rfl, ?_⟩; have n0_ := Aside0.mk (Kd.S_mono (Kd.S_keep (IsS99.apartS (show IsS99 w0 _ g s0_0 s0_1 from by repeat (first | (with_reducible first | exact HI0.out | apply IsS99.alloc | apply IsS99.drewN | apply IsS99.drew | apply IsS99.set_1) | exact HI0.out)) (by (with_reducible repeat (first | apply Kd.S_alloc | apply Kd.S_drewN | apply Kd.S_drew)); exact HO379.out) dq37) hk (fun _ h => h.2)) (fun _ h => h.1)); have n1_ := Aside0.mk (KeepBut.trans dq97 hk (.inl rfl)); have n2_ := Aside0.mk (hb); have n3_ := Aside0.mk (hi); clear HO379; clear HK; clear HB; clear HI0; have HO379 := n0_; have HK := n1_; have HB := n2_; have HI0 := n3_; clear n0_ n1_ n2_ n3_; (try clear hb); (try clear hb2); (try clear hk); (try clear hi)))
 go_loopg [3, 4] k (fun kq v3 v4 w' => ∃ (x3_1 : List (S39)) (x4_1 : Int) (x1001_1 : Int), v4 = .int .i64 x4_1 ∧ Aside0 (spec_l1Rd_flat.l0 kq x3_1 x4_1 s0_0 x1001_1 = some (r1, r2)) ∧ Aside0 (kq ≤ k) ∧ Aside0 (Kd.S k39 39 w' w.heap.size (fun _ => True) v3 x3_1) ∧ Aside0 (IsS99 w0 w' g s0_0 x1001_1) ∧ Aside0 (KeepBut w w' g none) ∧ Aside0 (Below w0.heap.size w0 w'))
 case atStart => exact ⟨(y377), (t380), (t381), dq25, H', ⟨Nat.le_refl _⟩, ⟨by (with_reducible repeat (first | apply Kd.S_alloc | apply Kd.S_drewN | apply Kd.S_drew)); exact HO379.out⟩, ⟨dq99⟩, ⟨dq97⟩, ⟨dq98⟩⟩
 clear H'
 obtain ⟨x3_1, x4_1, x1001_1, rfl, HA, HK1, HO_3, HI0, HK, HB⟩ := hrel
 cases gk with
 | zero => exact absurd HA.out (by simp [spec_l1Rd_flat.l0])
 | succ k1 =>
  have H := HA.out
  clear HA
  simp only [spec_l1Rd_flat.l0] at H
  by_cases c6 : x4_1 > 0
  rotate_left
  ·rw [if_neg c6] at H
   have c6b0 : decide (0 < x4_1) = false := decide_eq_false c6
   clear c6
   replace H := Option.bind_eq_some_iff.mp H
   obtain ⟨⟨t382, t383⟩, A670, H⟩ := H
   replace H : (if t382 = true then (if 0 < (x3_1.length : Int) then (some ((x3_1.set (0 : Int).toNat (⟨(rd_T39 x3_1 0).f0, (⟨#[]⟩ : ByteArray), (rd_T39 x3_1 0).f2, (rd_T39 x3_1 0).f3⟩ : S39)), t383)) else (none)) else (some (x3_1, t383))) = some (r1, r2) := H
   have A67 := Aside0.mk A670
   clear A670
   by_cases c68 : t382 = true
   rotate_left
   ·replace c68 := Bool.eq_false_iff.mpr c68
    subst c68
    have H1 : (some (x3_1, t383)) = some (r1, r2) := by rw [if_neg (show ¬ (false = true) by decide)] at H; exact H
    clear H
    have H := H1
    clear H1
    simp only [Option.some.injEq, Prod.mk.injEq] at H
    obtain ⟨rfl, rfl⟩ := H
    go_wp2_with (first | ((with_reducible refine gate_callee (f := 52) rfl ?_); refine goesL_ (some 72) rfl rfl Tryd.func52 dq30 rfl #[.pointer (some ⟨g, 0, none⟩), .int .i64 24] rfl dq29 ?_; (with_reducible refine (spec_l1Rd_once.calls g s0_0 x1001_1 24 false t383 w0 _ ?side1 ?side2 A67.out).mono ?_); (case side1 => exact dq7); (case side2 => exact dq8); rintro e w74 ⟨rfl, hi, hb, hk⟩; refine ⟨_, rfl, ?_⟩; have n0_ := Aside0.mk (Kd.S_mono (Kd.S_keep (IsS99.apartS (show IsS99 w0 _ g s0_0 x1001_1 from by repeat (first | (with_reducible first | exact HI0.out | apply IsS99.alloc | apply IsS99.drewN | apply IsS99.drew | apply IsS99.set_1) | exact HI0.out)) dq100 dq37) hk (fun _ h => h.2)) (fun _ h => h.1)); have n1_ := Aside0.mk (KeepBut.trans dq97 hk (.inl rfl)); have n2_ := Aside0.mk (hb); have n3_ := Aside0.mk (hi); clear HO_3; clear HK; clear HB; clear HI0; have HO_3 := n0_; have HK := n1_; have HB := n2_; have HI0 := n3_; clear n0_ n1_ n2_ n3_; (try clear hb); (try clear hb2); (try clear hk); (try clear hi)))
    go_ret
    exact ⟨_, dq35, dq100, dq99, dq98, dq97⟩
   subst c68
   have H1 : (if 0 < (x3_1.length : Int) then (some ((x3_1.set (0 : Int).toNat (⟨(rd_T39 x3_1 0).f0, (⟨#[]⟩ : ByteArray), (rd_T39 x3_1 0).f2, (rd_T39 x3_1 0).f3⟩ : S39)), t383)) else (none)) = some (r1, r2) := by rw [if_pos rfl] at H; exact H
   clear H
   have H := H1
   clear H1
   by_cases c69 : 0 < (x3_1.length : Int)
   rotate_left
   ·rw [if_neg c69] at H
    exact absurd H dq28
   rw [if_pos c69] at H
   have c69b0 := decide_eq_true c69
   have c69b1 : decide (0 < x3_1.length) = true := decide_eq_true dq31
   clear c69
   obtain ⟨y384, hy384⟩ : ∃ y_ : List (S39), y_ = (x3_1.set (0 : Int).toNat (⟨(rd_T39 x3_1 0).f0, (⟨#[]⟩ : ByteArray), (rd_T39 x3_1 0).f2, (rd_T39 x3_1 0).f3⟩ : S39)) := ⟨_, rfl⟩
   replace H : (some (y384, t383)) = some (r1, r2) := by first | (rw [hy384]; with_reducible exact H) | (have H2_ := (Option.bind_some _ _).symm.trans H; rw [hy384]; with_reducible exact H2_) | (have H2_ := (Option.bind_some _ _).symm.trans H; with_reducible exact H2_) | with_reducible exact H | (rw [hy384]; exact H) | exact H
   have Ny384 := Aside0.mk hy384
   clear hy384
   simp only [Option.some.injEq, Prod.mk.injEq] at H
   obtain ⟨rfl, rfl⟩ := H
   go_wp2_with (first | ((with_reducible refine gate_callee (f := 52) rfl ?_); refine goesL_ (some 72) rfl rfl Tryd.func52 dq30 rfl #[.pointer (some ⟨g, 0, none⟩), .int .i64 24] rfl dq29 ?_; (with_reducible refine (spec_l1Rd_once.calls g s0_0 x1001_1 24 true t383 w0 _ ?side1 ?side2 A67.out).mono ?_); (case side1 => exact dq7); (case side2 => exact dq8); rintro e w71 ⟨rfl, hi, hb, hk⟩; refine ⟨_, rfl, ?_⟩; have n0_ := Aside0.mk (Kd.S_mono (Kd.S_keep (IsS99.apartS (show IsS99 w0 _ g s0_0 x1001_1 from by repeat (first | (with_reducible first | exact HI0.out | apply IsS99.alloc | apply IsS99.drewN | apply IsS99.drew | apply IsS99.set_1) | exact HI0.out)) dq100 dq37) hk (fun _ h => h.2)) (fun _ h => h.1)); have n1_ := Aside0.mk (KeepBut.trans dq97 hk (.inl rfl)); have n2_ := Aside0.mk (hb); have n3_ := Aside0.mk (hi); clear HO_3; clear HK; clear HB; clear HI0; have HO_3 := n0_; have HK := n1_; have HB := n2_; have HI0 := n3_; clear n0_ n1_ n2_ n3_; (try clear hb); (try clear hb2); (try clear hk); (try clear hi); have p70 : 0 ≤ (0 : Int) := dq31; have q70 : (0 : Int) < ((x3_1.length : Int) : Int) := of_decide_eq_true dq26; have qi70 : (0 < x3_1.length) = True := eq_true dq31; obtain ⟨go70, co70, eo70, gb70, gl70, cl70, HG70⟩ := Kd.S_form HO_3.out dq31; (first | cases eo70 | (injection eo70 with ea_ en_ ec_; (first | subst ea_ | (injection ea_ with ea_; subst ea_)); subst ec_; clear en_)); have GB70 := Aside0.mk gb70; have GG70 := Aside0.mk HG70; clear gb70 gl70 HG70; obtain ⟨_, ce70, hcl70, hM70, hcc70, hfr70, _, _⟩ := Kd.S_elem HO_3.out z39 (0 : Int) p70 q70; obtain ⟨ve70_3, rfl, ge70_3⟩ := k39_openM hM70; have hx70_0 : w71.cell? ⟨go70, (0 : Int).toNat * 4, none⟩ = some (.int .i64 ((rd_T39 x3_1 0).f0)) := hcc70 0 _ rfl; have hx70_1 : w71.cell? ⟨go70, (0 : Int).toNat * 4 + 1, none⟩ = some (.string ((rd_T39 x3_1 0).f1)) := hcc70 1 _ rfl; have hx70_2 : w71.cell? ⟨go70, (0 : Int).toNat * 4 + 2, none⟩ = some (.string ((rd_T39 x3_1 0).f2)) := hcc70 2 _ rfl; have hx70_3 : w71.cell? ⟨go70, (0 : Int).toNat * 4 + 3, none⟩ = some (ve70_3) := hcc70 3 _ rfl; have hf70_0 : w71.frozen? ⟨go70, (0 : Int).toNat * 4, none⟩ = false := hfr70 0; have hf70_1 : w71.frozen? ⟨go70, (0 : Int).toNat * 4 + 1, none⟩ = false := hfr70 1; have hf70_2 : w71.frozen? ⟨go70, (0 : Int).toNat * 4 + 2, none⟩ = false := hfr70 2; have hf70_3 : w71.frozen? ⟨go70, (0 : Int).toNat * 4 + 3, none⟩ = false := hfr70 3; clear hcl70 hcc70 hfr70 hM70; (try rw [show ((0 : Int)).toNat = 0 from rfl] at hx70_0); (try simp only [Nat.reduceMul, Nat.zero_mul, Nat.zero_add, Nat.reduceAdd] at hx70_0); (try rw [show ((0 : Int)).toNat = 0 from rfl] at hf70_0); (try simp only [Nat.reduceMul, Nat.zero_mul, Nat.zero_add, Nat.reduceAdd] at hf70_0); (try rw [show ((0 : Int)).toNat = 0 from rfl] at hx70_1); (try simp only [Nat.reduceMul, Nat.zero_mul, Nat.zero_add, Nat.reduceAdd] at hx70_1); (try rw [show ((0 : Int)).toNat = 0 from rfl] at hf70_1); (try simp only [Nat.reduceMul, Nat.zero_mul, Nat.zero_add, Nat.reduceAdd] at hf70_1); (try rw [show ((0 : Int)).toNat = 0 from rfl] at hx70_2); (try simp only [Nat.reduceMul, Nat.zero_mul, Nat.zero_add, Nat.reduceAdd] at hx70_2); (try rw [show ((0 : Int)).toNat = 0 from rfl] at hf70_2); (try simp only [Nat.reduceMul, Nat.zero_mul, Nat.zero_add, Nat.reduceAdd] at hf70_2); (try rw [show ((0 : Int)).toNat = 0 from rfl] at hx70_3); (try simp only [Nat.reduceMul, Nat.zero_mul, Nat.zero_add, Nat.reduceAdd] at hx70_3); (try rw [show ((0 : Int)).toNat = 0 from rfl] at hf70_3); (try simp only [Nat.reduceMul, Nat.zero_mul, Nat.zero_add, Nat.reduceAdd] at hf70_3); replace p70 := eq_true p70; replace q70 := eq_true q70; have HX72 := Aside0.mk (show Kd.S k39 39 w71 w.heap.size (fun k_ => ((fun _ => True)) k_ ∧ ¬ ((fun _ => False)) k_) (.slice (some ⟨go70, 0, none⟩) x3_1.length co70) x3_1 from (by (with_reducible repeat (first | apply Kd.S_alloc | apply Kd.S_drewN | apply Kd.S_drew)); exact Kd.S_mono HO_3.out (fun k_ hk => ⟨trivial, fun e_ => e_⟩))); obtain ⟨oki72, ce72, hcl72, hM72, hcc72, hfr72, hoki72, hH72⟩ := Kd.S_elem HX72.out z39 (0 : Int) dq31 (by have h_ : (0 : Int) < ((x3_1.length : Int) : Int) := of_decide_eq_true dq26; first | exact h_ | (have e_ := (Kd.S_reads' HO_3.out).1; omega) | simpa using h_); obtain ⟨ve72_3, rfl, ge72_3⟩ := k39_openM hM72; have HP72 := Kd.S_seg hH72 dq31 (by have h_ : (0 : Int) < ((x3_1.length : Int) : Int) := of_decide_eq_true dq26; first | exact h_ | (have e_ := (Kd.S_reads' HO_3.out).1; omega) | simpa using h_) (seg := [.string (⟨#[]⟩ : ByteArray)]) (j := 1) (show 2 ≤ 4 from by decide) (x' := (⟨(rd_T39 x3_1 0).f0, (⟨#[]⟩ : ByteArray), (rd_T39 x3_1 0).f2, (rd_T39 x3_1 0).f3⟩ : S39)) (k39_mkM _ _ _ (⟨(rd_T39 x3_1 0).f0, (⟨#[]⟩ : ByteArray), (rd_T39 x3_1 0).f2, (rd_T39 x3_1 0).f3⟩ : S39) (Kd.R_mono ge72_3 (fun _ h_ => Or.inl h_))) (fun _ hk => hk) (fun k_ hk_ => hk_.elim); have hx72_1 := hcc72 1 _ rfl; (try simp only [show (k39).sz = 4 from rfl, Nat.mul_one, Nat.add_zero] at hx72_1); (try rw [show ((0 : Int)).toNat = 0 from rfl] at hx72_1); (try simp only [Nat.reduceMul, Nat.zero_mul, Nat.zero_add, Nat.reduceAdd] at hx72_1); have hf72_1 := hfr72 1; (try simp only [show (k39).sz = 4 from rfl, Nat.mul_one, Nat.add_zero] at hf72_1); (try rw [show ((0 : Int)).toNat = 0 from rfl] at hf72_1); (try simp only [Nat.reduceMul, Nat.zero_mul, Nat.zero_add, Nat.reduceAdd] at hf72_1); clear hcl72 hcc72 hfr72 hM72 hoki72 hH72) | ((with_reducible refine gate_store (t := 9) (p := 75) rfl ?_); refine store_event (t := 9) (p := 75) (v := ?vo_w73) (w1 := (w71.setCell ⟨go70, 1, none⟩ (.string (⟨#[]⟩ : ByteArray)))) ?hg ?ho ?hn ?hr ?_; (case ho => rfl); (case hg => rfl); (case hn => rfl); (case hr => exact dq0); intro w73 hw; have hg : w71.grownBy w73 (some go70) := (by rw [hw]; exact HP72.2); have hp_ : Kd.S k39 39 w73 w.heap.size (fun _ => True) (.slice (some ⟨go70, 0, none⟩) x3_1.length co70) y384 := (by rw [hw, Ny384.out]; exact HP72.1); clear HP72; have n0_ := Aside0.mk (hp_); have n1_ := Aside0.mk (IsS99.grown dq99 hg (IsS99.own_neS HI0.out HO_3.out dq37)); have n2_ := Aside0.mk ((by rw [hw]; exact below_set (HB.out) (Nat.le_trans HL.out GB70.out) : Below w0.heap.size w0 w73)); have n3_ := Aside0.mk (KeepBut.trans dq97 (KeepBut.of_grown hg g) (Kd.S_base2 HO_3.out)); clear HO_3; clear HI0; clear HB; clear HK; have HO_3 := n0_; have HI0 := n1_; have HB := n2_; have HK := n3_; clear n0_ n1_ n2_ n3_; clear hg hw hp_))
   go_ret
   exact ⟨_, dq35, dq100, dq99, dq98, dq97⟩
  rw [if_pos c6] at H
  have c6b0 : decide (0 < x4_1) = true := decide_eq_true c6
  clear c6
  replace H := Option.bind_eq_some_iff.mp H
  obtain ⟨⟨t385, t386⟩, A70, H⟩ := H
  replace H : (if t385 = true then (spec_l1Rd_flat.l1 k1 x3_1 x4_1 (wrap64 ((x3_1.length : Int) - 1)) s0_0 t386) else (spec_l1Rd_flat.j2 k1 x3_1 x4_1 0 s0_0 t386)) = some (r1, r2) := H
  have A7 := Aside0.mk A70
  clear A70
  have HC8 := Aside0.mk H
  clear H
  go_upto_if 17 with (first | ((with_reducible refine gate_callee (f := 52) rfl ?_); refine goesL_ (some 17) rfl rfl Tryd.func52 dq30 rfl #[.pointer (some ⟨g, 0, none⟩), .int .i64 3] rfl dq29 ?_; (with_reducible refine (spec_l1Rd_once.calls g s0_0 x1001_1 3 t385 t386 w0 _ ?side1 ?side2 A7.out).mono ?_); (case side1 => exact dq7); (case side2 => exact dq8); rintro e w9 ⟨rfl, hi, hb, hk⟩; refine ⟨_, rfl, ?_⟩; have n0_ := Aside0.mk (Kd.S_mono (Kd.S_keep (IsS99.apartS (show IsS99 w0 _ g s0_0 x1001_1 from by repeat (first | (with_reducible first | exact HI0.out | apply IsS99.alloc | apply IsS99.drewN | apply IsS99.drew | apply IsS99.set_1) | exact HI0.out)) dq100 dq37) hk (fun _ h => h.2)) (fun _ h => h.1)); have n1_ := Aside0.mk (KeepBut.trans dq97 hk (.inl rfl)); have n2_ := Aside0.mk (hb); have n3_ := Aside0.mk (hi); clear HO_3; clear HK; clear HB; clear HI0; have HO_3 := n0_; have HK := n1_; have HB := n2_; have HI0 := n3_; clear n0_ n1_ n2_ n3_; (try clear hb); (try clear hb2); (try clear hk); (try clear hi)))
  (try simp only [Act.put, List.setIfInBounds_toArray, List.set_cons_zero, List.set_cons_succ])
  go_cut [5] (fun v5 wc => ∃ (kq : Nat) (x5_7 : Int), v5 = .int .i64 x5_7 ∧ Aside0 (spec_l1Rd_flat.j2 kq x3_1 x4_1 x5_7 s0_0 t386 = some (r1, r2)) ∧ Aside0 (kq ≤ k1) ∧ Aside0 (Kd.S k39 39 wc w.heap.size (fun _ => True) u3 x3_1) ∧ Aside0 (IsS99 w0 wc g s0_0 t386) ∧ Aside0 (KeepBut w wc g none) ∧ Aside0 (Below w0.heap.size w0 wc))
  case first =>
   have H := HC8.out
   clear HC8
   by_cases c10 : t385 = true
   rotate_left
   ·replace c10 := Bool.eq_false_iff.mpr c10
    subst c10
    have H1 : (spec_l1Rd_flat.j2 k1 x3_1 x4_1 0 s0_0 t386) = some (r1, r2) := by rw [if_neg (show ¬ (false = true) by decide)] at H; exact H
    clear H
    have H := H1
    clear H1
    have H' := Aside0.mk H
    clear H
    go_wp2
    go_meet
    case rel => exact ⟨_, (0), dq25, H', ⟨dq39⟩, ⟨dq100⟩, ⟨dq99⟩, ⟨dq97⟩, ⟨dq98⟩⟩
   subst c10
   have H1 : (spec_l1Rd_flat.l1 k1 x3_1 x4_1 (wrap64 ((x3_1.length : Int) - 1)) s0_0 t386) = some (r1, r2) := by rw [if_pos rfl] at H; exact H
   clear H
   have H := H1
   clear H1
   have H' := Aside0.mk H
   clear H
   obtain ⟨Ao11, co11, eo11⟩ := Kd.S_slice HO_3.out
   subst eo11
   go_wp2
   go_loopg [5] k1 (fun kq v5 w' => ∃ (x5_2 : Int), v5 = .int .i64 x5_2 ∧ Aside0 (spec_l1Rd_flat.l1 kq x3_1 x4_1 x5_2 s0_0 t386 = some (r1, r2)) ∧ Aside0 (kq ≤ k1) ∧ Aside0 (Kd.S k39 39 w' w.heap.size (fun _ => True) (.slice Ao11 x3_1.length co11) x3_1) ∧ Aside0 (IsS99 w0 w' g s0_0 t386) ∧ Aside0 (KeepBut w w' g none) ∧ Aside0 (Below w0.heap.size w0 w'))
   case atStart => exact ⟨(wrap64 ((x3_1.length : Int) - 1)), dq25, H', ⟨Nat.le_refl _⟩, ⟨dq100⟩, ⟨dq99⟩, ⟨dq97⟩, ⟨dq98⟩⟩
   clear H'
   try clear c6b0
   obtain ⟨x5_2, rfl, HA, HK2, HO_3, HI0, HK, HB⟩ := hrel
   cases gk with
   | zero => exact absurd HA.out (by simp [spec_l1Rd_flat.l1])
   | succ k2 =>
    have H := HA.out
    clear HA
    simp only [spec_l1Rd_flat.l1] at H
    by_cases c12 : 0 ≤ x5_2
    rotate_left
    ·rw [if_neg c12] at H
     exact absurd H dq28
    rw [if_pos c12] at H
    have c12b0 := decide_eq_true c12
    clear c12
    (first | rw [c12b0] | (simp only [i64_w, i32_w]; rw [c12b0]) | skip)
    by_cases c13 : x5_2 < (x3_1.length : Int)
    rotate_left
    ·rw [if_neg c13] at H
     exact absurd H dq28
    rw [if_pos c13] at H
    have c13b0 := decide_eq_true c13
    clear c13
    by_cases c14 : ((rd_T39 x3_1 x5_2).f1).toList = ([] : List UInt8)
    rotate_left
    ·rw [if_neg c14] at H
     have c14b0 := beq_eq_false_iff_ne.mpr c14
     have c14b1 := bne_iff_ne.mpr c14
     have H' := Aside0.mk H
     clear H
     have p387 : 0 ≤ (x5_2 : Int) := of_decide_eq_true dq26
     have q387 : x5_2 < (x3_1.length : Int) := of_decide_eq_true dq26
     obtain ⟨ad387, A387_3, c387_3, e387, hx387_0, hx387_1, hx387_2, hx387_3, hl387_3, hi387_3⟩ := at_T39 (Kd.S_reads' HO_3.out).2.2 x5_2 p387 q387
     cases e387
     obtain ⟨ce387, hce387, hMe387, hcc387⟩ := Kd.S_get HO_3.out z39 x5_2 p387 dq101
     obtain ⟨ve387_3, rfl, ge387_3⟩ := k39_openM hMe387
     have hv387_3 := hcc387 3 _ rfl
     rw [add_field _ _ 3 dq31] at hv387_3
     replace hv387_3 := Option.some.inj (hv387_3.symm.trans hx387_3)
     rw [hv387_3] at ge387_3
     have HL387_3 := Aside0.mk (show Kd.R k46 46 _ _ _ _ ((rd_T39 x3_1 x5_2).f3) from ge387_3)
     clear hv387_3 ge387_3
     clear hcc387 hce387
     have HR387_3 := Aside0.mk hi387_3
     have HC387_3 := Aside0.mk hl387_3
     clear hi387_3 hl387_3
     replace p387 := eq_true p387
     replace q387 := eq_true q387
     go_wp2
     go_meet
     case rel => exact ⟨_, (x5_2), dq25, H', ⟨by have := HK1.out; have := HK2.out; first | omega | exact Nat.le_refl _⟩, ⟨dq100⟩, ⟨dq99⟩, ⟨dq97⟩, ⟨dq98⟩⟩
    rw [if_pos c14] at H
    have c14b0 := beq_iff_eq.mpr c14
    have c14b1 := bne_eq_false_iff_eq.mpr c14
    clear c14
    have H' := Aside0.mk H
    clear H
    have p387 : 0 ≤ (x5_2 : Int) := of_decide_eq_true dq26
    have q387 : x5_2 < (x3_1.length : Int) := of_decide_eq_true dq26
    obtain ⟨ad387, A387_3, c387_3, e387, hx387_0, hx387_1, hx387_2, hx387_3, hl387_3, hi387_3⟩ := at_T39 (Kd.S_reads' HO_3.out).2.2 x5_2 p387 q387
    cases e387
    obtain ⟨ce387, hce387, hMe387, hcc387⟩ := Kd.S_get HO_3.out z39 x5_2 p387 dq101
    obtain ⟨ve387_3, rfl, ge387_3⟩ := k39_openM hMe387
    have hv387_3 := hcc387 3 _ rfl
    rw [add_field _ _ 3 dq31] at hv387_3
    replace hv387_3 := Option.some.inj (hv387_3.symm.trans hx387_3)
    rw [hv387_3] at ge387_3
    have HL387_3 := Aside0.mk (show Kd.R k46 46 _ _ _ _ ((rd_T39 x3_1 x5_2).f3) from ge387_3)
    clear hv387_3 ge387_3
    clear hcc387 hce387
    have HR387_3 := Aside0.mk hi387_3
    have HC387_3 := Aside0.mk hl387_3
    clear hi387_3 hl387_3
    replace p387 := eq_true p387
    replace q387 := eq_true q387
    have p388 : 0 ≤ (x5_2 : Int) := of_decide_eq_true dq26
    have q388 : x5_2 < (x3_1.length : Int) := of_decide_eq_true dq26
    obtain ⟨ad388, A388_3, c388_3, e388, hx388_0, hx388_1, hx388_2, hx388_3, hl388_3, hi388_3⟩ := at_T39 (Kd.S_reads' HO_3.out).2.2 x5_2 p388 q388
    obtain rfl : ad387 = ad388 := (by injection e388)
    obtain ⟨ce388, hce388, hMe388, hcc388⟩ := Kd.S_get HO_3.out z39 x5_2 p388 (by first | exact q388 | exact of_decide_eq_true dq26 | (have e_ := (Kd.S_reads' HO_3.out).1; omega))
    obtain ⟨ve388_3, rfl, ge388_3⟩ := k39_openM hMe388
    have hv388_3 := hcc388 3 _ rfl
    rw [add_field _ _ 3 dq31] at hv388_3
    replace hv388_3 := Option.some.inj (hv388_3.symm.trans hx388_3)
    rw [hv388_3] at ge388_3
    have HL388_3 := Aside0.mk (show Kd.R k46 46 _ _ _ _ ((rd_T39 x3_1 x5_2).f3) from ge388_3)
    clear hv388_3 ge388_3
    clear hcc388 hce388
    have HR388_3 := Aside0.mk hi388_3
    have HC388_3 := Aside0.mk hl388_3
    clear hi388_3 hl388_3
    replace p388 := eq_true p388
    replace q388 := eq_true q388
    have ea_ := Option.some.inj (hx387_3.symm.trans hx388_3)
    injection ea_ with ea_ en_ ec_
    subst ea_
    subst ec_
    clear en_
    go_wp2
    go_roundg k2
    case measure => have := HK1.out; have := HK2.out; omega
    case rel => exact ⟨((rd_T39 x3_1 x5_2).f0), dq25, H', ⟨dq47⟩, ⟨dq100⟩, ⟨dq99⟩, ⟨dq97⟩, ⟨dq98⟩⟩
  clear HC8
  try clear c6b0
  obtain ⟨kq, x5_7, rfl, HA, HJ7, HO_3, HI0, HK, HB⟩ := hcut
  cases kq with
  | zero => exact absurd HA.out (by simp [spec_l1Rd_flat.j2])
  | succ kj7 =>
   have H := HA.out
   clear HA
   simp only [spec_l1Rd_flat.j2] at H
   obtain ⟨y389, hy389⟩ : ∃ y_ : List ByteArray, y_ = (([(⟨#[97]⟩ : ByteArray), (⟨#[98]⟩ : ByteArray)] : List ByteArray)) := ⟨_, rfl⟩
   replace H : ((spec_l1Rd_below.f s0_0 t386 2).bind fun bt392 => (if 0 ≤ bt392.1 then (if bt392.1 < (y389.length : Int) then ((spec_l1Rd_once.f s0_0 bt392.2 3).bind fun bt396 => (if bt396.1 = true then (spec_l1Rd_flat.j3 kj7 x3_1 x4_1 s0_0 bt396.2 x5_7 (rdOf ByteArray.empty y389 bt392.1) (⟨#[]⟩ : ByteArray) ([] : List (S46))) else ((some (([(⟨#[49]⟩ : ByteArray), (⟨#[50]⟩ : ByteArray), (⟨#[32, 49]⟩ : ByteArray), (⟨#[51]⟩ : ByteArray)] : List ByteArray) : List ByteArray)).bind fun y398 => ((spec_l1Rd_below.f s0_0 bt396.2 4).bind fun bt401 => (if 0 ≤ bt401.1 then (if bt401.1 < (y398.length : Int) then (if ([] : List (S46)).length < 4398046511104 then (spec_l1Rd_flat.j3 kj7 x3_1 x4_1 s0_0 bt401.2 x5_7 (rdOf ByteArray.empty y389 bt392.1) (⟨#[]⟩ : ByteArray) (([] : List (S46)) ++ [(⟨(⟨#[97]⟩ : ByteArray), rdOf ByteArray.empty y398 bt401.1⟩ : S46)])) else (none)) else (none)) else (none)))))) else (none)) else (none))) = some (r1, r2) := by first | (rw [hy389]; with_reducible exact H) | (have H2_ := (Option.bind_some _ _).symm.trans H; rw [hy389]; with_reducible exact H2_) | (have H2_ := (Option.bind_some _ _).symm.trans H; with_reducible exact H2_) | with_reducible exact H | (rw [hy389]; exact H) | exact H
   have Ny389 := Aside0.mk hy389
   clear hy389
   replace H := Option.bind_eq_some_iff.mp H
   obtain ⟨⟨t392, t393⟩, A150, H⟩ := H
   replace H : (if 0 ≤ t392 then (if t392 < (y389.length : Int) then ((spec_l1Rd_once.f s0_0 t393 3).bind fun bt396 => (if bt396.1 = true then (spec_l1Rd_flat.j3 kj7 x3_1 x4_1 s0_0 bt396.2 x5_7 (rdOf ByteArray.empty y389 t392) (⟨#[]⟩ : ByteArray) ([] : List (S46))) else ((some (([(⟨#[49]⟩ : ByteArray), (⟨#[50]⟩ : ByteArray), (⟨#[32, 49]⟩ : ByteArray), (⟨#[51]⟩ : ByteArray)] : List ByteArray) : List ByteArray)).bind fun y398 => ((spec_l1Rd_below.f s0_0 bt396.2 4).bind fun bt401 => (if 0 ≤ bt401.1 then (if bt401.1 < (y398.length : Int) then (if ([] : List (S46)).length < 4398046511104 then (spec_l1Rd_flat.j3 kj7 x3_1 x4_1 s0_0 bt401.2 x5_7 (rdOf ByteArray.empty y389 t392) (⟨#[]⟩ : ByteArray) (([] : List (S46)) ++ [(⟨(⟨#[97]⟩ : ByteArray), rdOf ByteArray.empty y398 bt401.1⟩ : S46)])) else (none)) else (none)) else (none)))))) else (none)) else (none)) = some (r1, r2) := H
   have A15 := Aside0.mk A150
   clear A150
   by_cases c16 : 0 ≤ t392
   rotate_left
   ·rw [if_neg c16] at H
    exact absurd H dq28
   rw [if_pos c16] at H
   have c16b0 := decide_eq_true c16
   clear c16
   by_cases c17 : t392 < (y389.length : Int)
   rotate_left
   ·rw [if_neg c17] at H
    exact absurd H dq28
   rw [if_pos c17] at H
   have c17b0 := decide_eq_true c17
   clear c17
   replace H := Option.bind_eq_some_iff.mp H
   obtain ⟨⟨t396, t397⟩, A180, H⟩ := H
   replace H : (if t396 = true then (spec_l1Rd_flat.j3 kj7 x3_1 x4_1 s0_0 t397 x5_7 (rdOf ByteArray.empty y389 t392) (⟨#[]⟩ : ByteArray) ([] : List (S46))) else ((some (([(⟨#[49]⟩ : ByteArray), (⟨#[50]⟩ : ByteArray), (⟨#[32, 49]⟩ : ByteArray), (⟨#[51]⟩ : ByteArray)] : List ByteArray) : List ByteArray)).bind fun y398 => ((spec_l1Rd_below.f s0_0 t397 4).bind fun bt401 => (if 0 ≤ bt401.1 then (if bt401.1 < (y398.length : Int) then (if ([] : List (S46)).length < 4398046511104 then (spec_l1Rd_flat.j3 kj7 x3_1 x4_1 s0_0 bt401.2 x5_7 (rdOf ByteArray.empty y389 t392) (⟨#[]⟩ : ByteArray) (([] : List (S46)) ++ [(⟨(⟨#[97]⟩ : ByteArray), rdOf ByteArray.empty y398 bt401.1⟩ : S46)])) else (none)) else (none)) else (none))))) = some (r1, r2) := H
   have A18 := Aside0.mk A180
   clear A180
   have HC19 := Aside0.mk H
   clear H
   go_upto_if 41 with (first | ((with_reducible refine gate_dst (N := 33) rfl ?_); refine Kd.R_lit Kd.string _ 9 ?hg (N := 33) ?hd (xs := ([(⟨#[97]⟩ : ByteArray), (⟨#[98]⟩ : ByteArray)] : List ByteArray)) (inner := [.string (⟨#[97]⟩ : ByteArray), .string (⟨#[98]⟩ : ByteArray)]) (ok := fun _ => True) (okp := fun _ => True) ?hr ?hp (fun _ hk => hk) trivial (Below.refl _ _) (Nat.le_refl _) dq28 ?_; (case hd => rfl); (case hg => rfl); (case hr => exact dq0); (case hp => exact (Reps.one (show Kd.M Kd.string _ _ _ (⟨#[97]⟩ : ByteArray) [.string (⟨#[97]⟩ : ByteArray)] from rfl) (Reps.one (show Kd.M Kd.string _ _ _ (⟨#[98]⟩ : ByteArray) [.string (⟨#[98]⟩ : ByteArray)] from rfl) (Reps.none _ _)))); intro v390 w20 ho21 hb hg_ hnew_; clear hg_ hnew_; (first | rw [← Ny389.out] at ho21 | (simp only [Int.reduceToNat] at ho21; rw [← Ny389.out] at ho21)); have n0_ := Aside0.mk (Kd.S_below dq100 hb); have n1_ := Aside0.mk (Kd.R_lower ho21 (keep_size (w := w) (g := g) (row := none) dq97)); have n2_ := Aside0.mk (IsS99.below dq99 hb); have n3_ := Aside0.mk (KeepBut.trans dq97 (KeepBut.of_below hb g none) (.inl rfl)); have n4_ := Aside0.mk (below_step dq98 hb); clear HO_3; clear HI0; clear HK; clear HB; have HO_3 := n0_; have HO391 := n1_; have HI0 := n2_; have HK := n3_; have HB := n4_; clear n0_ n1_ n2_ n3_ n4_; clear hb ho21) | ((with_reducible refine gate_callee (f := 63) rfl ?_); refine goesL_ (some 35) rfl rfl Tryd.func63 dq30 rfl #[.pointer (some ⟨g, 0, none⟩), .int .i64 2] rfl dq29 ?_; (with_reducible refine (spec_l1Rd_below.calls g s0_0 t386 2 t392 t393 w0 _ ?side1 ?side2 A15.out).mono ?_); (case side1 => exact dq7); (case side2 => exact dq8); rintro e w22 ⟨rfl, hi, hb, hk⟩; refine ⟨_, rfl, ?_⟩; have n0_ := Aside0.mk (Kd.S_mono (Kd.S_keep (IsS99.apartS (show IsS99 w0 _ g s0_0 t386 from by repeat (first | (with_reducible first | exact HI0.out | apply IsS99.alloc | apply IsS99.drewN | apply IsS99.drew | apply IsS99.set_1) | exact HI0.out)) dq100 dq37) hk (fun _ h => h.2)) (fun _ h => h.1)); have n1_ := Aside0.mk (Kd.R_mono (Kd.R_keep (IsS99.apart (show IsS99 w0 _ g s0_0 t386 from by repeat (first | (with_reducible first | exact HI0.out | apply IsS99.alloc | apply IsS99.drewN | apply IsS99.drew | apply IsS99.set_1) | exact HI0.out)) dq104 dq37) hk (fun _ h => h.2)) (fun _ h => h.1)); have n2_ := Aside0.mk (KeepBut.trans dq97 hk (.inl rfl)); have n3_ := Aside0.mk (hb); have n4_ := Aside0.mk (hi); clear HO_3; clear HO391; clear HK; clear HB; clear HI0; have HO_3 := n0_; have HO391 := n1_; have HK := n2_; have HB := n3_; have HI0 := n4_; clear n0_ n1_ n2_ n3_ n4_; (try clear hb); (try clear hb2); (try clear hk); (try clear hi); obtain ⟨Ao23, co23, eo23⟩ := Kd.R_slice HO391.out; subst eo23; have p394 : 0 ≤ (t392 : Int) := of_decide_eq_true dq26; have q394 : t392 < (y389.length : Int) := of_decide_eq_true dq26; obtain ⟨ad394, e394, hx394_0⟩ := Kd.at_string (Kd.R_reads' HO391.out).2.2 t392 p394 q394; cases e394; replace p394 := eq_true p394; replace q394 := eq_true q394) | ((with_reducible refine gate_dst (N := 6) rfl ?_); refine box_event ?hg (N := 6) ?hd (cs := #[.int .i64 0, .string (⟨#[]⟩ : ByteArray), .string (⟨#[]⟩ : ByteArray), .slice none 0 0]) (t := 39) ?hr ?_; (case hd => rfl); (case hg => rfl); (case hr => exact dq0); intro gb395 hg w24 hbox hb; have n0_ := Aside0.mk (Kd.S_below (Kd.S_elderB dq100 gb395 (Nat.le_of_eq hg.symm)) hb); have n1_ := Aside0.mk (Kd.R_below dq104 hb); have n2_ := Aside0.mk (IsS99.below dq99 hb); have n3_ := Aside0.mk (KeepBut.trans dq97 (KeepBut.of_below hb g none) (.inl rfl)); have n4_ := Aside0.mk (below_step dq98 hb); have n5_ := Aside0.mk (hbox); have n6_ := Aside0.mk ((dq103 : w.heap.size ≤ gb395)); have n7_ := Aside0.mk ((Nat.le_trans HW0.out (dq103 : w.heap.size ≤ gb395) : w0.heap.size ≤ gb395)); have n8_ := Aside0.mk ((by rw [hg]; exact Nat.ne_of_lt (IsS99.lt (show IsS99 w0 _ g s0_0 t393 from by repeat (first | (with_reducible first | exact HI0.out | apply IsS99.alloc | apply IsS99.drewN | apply IsS99.drew | apply IsS99.set_1) | exact HI0.out))) : g ≠ gb395)); have n9_ := Aside0.mk ((by rw [hg]; exact Nat.ne_of_gt (IsS99.lt (show IsS99 w0 _ g s0_0 t393 from by repeat (first | (with_reducible first | exact HI0.out | apply IsS99.alloc | apply IsS99.drewN | apply IsS99.drew | apply IsS99.set_1) | exact HI0.out))) : gb395 ≠ g)); clear HO_3; clear HO391; clear HI0; clear HK; clear HB; have HO_3 := n0_; have HO391 := n1_; have HI0 := n2_; have HK := n3_; have HB := n4_; have BK395 := n5_; have GW395 := n6_; have GE395 := n7_; have NB0_395 := n8_; have NB395_0 := n9_; clear n0_ n1_ n2_ n3_ n4_ n5_ n6_ n7_ n8_ n9_; clear hb hbox hg; have hnb25 := NB395_0.out; have hnc25 := NB0_395.out; obtain ⟨⟨hcz26_0, hcz26_1, hcz26_2, hcz26_3⟩, hfz26_0, hfz26_1, hfz26_2, hfz26_3⟩ := blkC4 BK395.out) | ((with_reducible refine gate_callee (f := 52) rfl ?_); refine goesL_ (some 40) rfl rfl Tryd.func52 dq30 rfl #[.pointer (some ⟨g, 0, none⟩), .int .i64 3] rfl dq29 ?_; (with_reducible refine (spec_l1Rd_once.calls g s0_0 t393 3 t396 t397 w0 _ ?side1 ?side2 A18.out).mono ?_); (case side1 => exact dq9); (case side2 => exact dq10); rintro e w27 ⟨rfl, hi, hb, hk⟩; refine ⟨_, rfl, ?_⟩; have n0_ := Aside0.mk (Kd.S_mono (Kd.S_keep (IsS99.apartS (show IsS99 w0 _ g s0_0 t393 from by repeat (first | (with_reducible first | exact HI0.out | apply IsS99.alloc | apply IsS99.drewN | apply IsS99.drew | apply IsS99.set_1 | refine IsS99.far ?_ NB0_395.out _) | exact HI0.out)) (by (with_reducible repeat (first | apply Kd.S_alloc | apply Kd.S_drewN | apply Kd.S_drew)); exact (Kd.S_mono (Kd.S_far (p := ⟨gb395, 3, none⟩) (Kd.S_far (p := ⟨gb395, 2, none⟩) (Kd.S_far (p := ⟨gb395, 1, none⟩) (Kd.S_far (p := ⟨gb395, 0, none⟩) (Kd.S_mono HO_3.out (fun k_ hk => (⟨hk, hk.2⟩ : _ ∧ k_ ≠ gb395))) (fun _ hk => hk.2) (.int .i64 x5_7)) (fun _ hk => hk.2) (.string (rdOf ByteArray.empty y389 t392))) (fun _ hk => hk.2) (.string (⟨#[]⟩ : ByteArray))) (fun _ hk => hk.2) (.slice none 0 0)) (fun _ h_ => h_.1))) dq37) hk (fun _ h => h.2)) (fun _ h => h.1)); have n1_ := Aside0.mk (Kd.R_mono (Kd.R_keep (IsS99.apart (show IsS99 w0 _ g s0_0 t393 from by repeat (first | (with_reducible first | exact HI0.out | apply IsS99.alloc | apply IsS99.drewN | apply IsS99.drew | apply IsS99.set_1 | refine IsS99.far ?_ NB0_395.out _) | exact HI0.out)) (by (with_reducible repeat (first | apply Kd.R_alloc | apply Kd.R_drewN | apply Kd.R_drew)); exact (Kd.R_mono (Kd.R_far (p := ⟨gb395, 3, none⟩) (Kd.R_far (p := ⟨gb395, 2, none⟩) (Kd.R_far (p := ⟨gb395, 1, none⟩) (Kd.R_far (p := ⟨gb395, 0, none⟩) (Kd.R_types HO391.out BK395.out dq37) (fun _ hk => hk.2) (.int .i64 x5_7)) (fun _ hk => hk.2) (.string (rdOf ByteArray.empty y389 t392))) (fun _ hk => hk.2) (.string (⟨#[]⟩ : ByteArray))) (fun _ hk => hk.2) (.slice none 0 0)) (fun _ h_ => h_.1))) dq37) hk (fun _ h => h.2)) (fun _ h => h.1)); have n2_ := Aside0.mk (KeepBut.blk hk (g' := gb395) (o := .cells #[.int .i64 x5_7, .string (rdOf ByteArray.empty y389 t392), .string (⟨#[]⟩ : ByteArray), .slice none 0 0] 39 (0, 0)) (by refine blk_up ?_; refine blk_put (cs := #[.int .i64 x5_7, .string (rdOf ByteArray.empty y389 t392), .string (⟨#[]⟩ : ByteArray), .slice none 0 0]) ?_ 3 _ rfl; refine blk_up ?_; refine blk_put (cs := #[.int .i64 x5_7, .string (rdOf ByteArray.empty y389 t392), .string (⟨#[]⟩ : ByteArray), .slice none 0 0]) ?_ 2 _ rfl; refine blk_up ?_; refine blk_put (cs := #[.int .i64 x5_7, .string (⟨#[]⟩ : ByteArray), .string (⟨#[]⟩ : ByteArray), .slice none 0 0]) ?_ 1 _ rfl; refine blk_up ?_; refine blk_put (cs := #[.int .i64 0, .string (⟨#[]⟩ : ByteArray), .string (⟨#[]⟩ : ByteArray), .slice none 0 0]) ?_ 0 _ rfl; refine blk_up ?_; exact BK395.out) NB395_0.out dq28); have n3_ := Aside0.mk (KeepBut.trans dq102 hk (.inl rfl)); have n4_ := Aside0.mk (hb); have n5_ := Aside0.mk (hi); clear HO_3; clear HO391; clear BK395; clear HK; clear HB; clear HI0; have HO_3 := n0_; have HO391 := n1_; have BK395 := n2_; have HK := n3_; have HB := n4_; have HI0 := n5_; clear n0_ n1_ n2_ n3_ n4_ n5_; (try clear hb); (try clear hb2); (try clear hk); (try clear hi)))
   (try simp only [Act.put, List.setIfInBounds_toArray, List.set_cons_zero, List.set_cons_succ])
   go_cut [] (fun wc => ∃ (kq : Nat) (x1001_18 : Int) (x396003_18 : List (S46)) (u396003 : Value), Aside0 (spec_l1Rd_flat.j3 kq x3_1 x4_1 s0_0 x1001_18 x5_7 (rdOf ByteArray.empty y389 t392) (⟨#[]⟩ : ByteArray) x396003_18 = some (r1, r2)) ∧ Aside0 (kq ≤ kj7) ∧ Aside0 (Kd.S k39 39 wc w.heap.size (fun k_ => some k_ ≠ (u396003 : Value).ownBlock ∧ k_ ≠ gb395) u3 x3_1) ∧ Aside0 (Kd.R k46 46 wc w.heap.size (fun _ => True) u396003 x396003_18) ∧ Aside0 (wc.heap[gb395]? = some (.cells #[.int .i64 x5_7, .string (rdOf ByteArray.empty y389 t392), .string (⟨#[]⟩ : ByteArray), u396003] 39 (0, 0))) ∧ Aside0 (IsS99 w0 wc g s0_0 x1001_18) ∧ Aside0 (KeepBut w wc g none) ∧ Aside0 (Below w0.heap.size w0 wc))
   case rest =>
    clear HC19
    try clear c16b0
    try clear c17b0
    try clear hcz26_0
    try clear hcz26_1
    try clear hcz26_2
    try clear hcz26_3
    try clear hfz26_0
    try clear hfz26_1
    try clear hfz26_2
    try clear hfz26_3
    try clear hx394_0
    try clear p394
    try clear q394
    obtain ⟨kq, x1001_18, x396003_18, u396003, HA, HJ18, HO_3, HO_396003, BK395, HI0, HK, HB⟩ := hcut
    cases kq with
    | zero => exact absurd HA.out (by simp [spec_l1Rd_flat.j3])
    | succ kj18 =>
     have H := HA.out
     clear HA
     simp only [spec_l1Rd_flat.j3] at H
     by_cases c43 : x3_1.length < 2199023255552
     rotate_left
     ·rw [if_neg c43] at H
      exact absurd H dq28
     rw [if_pos c43] at H
     have LMc43 := Aside0.mk c43
     clear c43
     obtain ⟨y407, hy407⟩ : ∃ y_ : List (S39), y_ = (x3_1 ++ [(⟨x5_7, (rdOf ByteArray.empty y389 t392), (⟨#[]⟩ : ByteArray), x396003_18⟩ : S39)]) := ⟨_, rfl⟩
     replace H : ((spec_l1Rd_once.f s0_0 x1001_18 3).bind fun bt410 => (if bt410.1 = true then ((some (([(⟨#[117]⟩ : ByteArray), (⟨#[118]⟩ : ByteArray), (⟨#[32, 117, 32]⟩ : ByteArray)] : List ByteArray) : List ByteArray)).bind fun y412 => ((spec_l1Rd_below.f s0_0 bt410.2 3).bind fun bt415 => (if 0 ≤ bt415.1 then (if bt415.1 < (y412.length : Int) then (if y407.length < 2199023255552 then (spec_l1Rd_flat.l0 kj18 (y407 ++ [(⟨(x3_1.length : Int), (⟨#[]⟩ : ByteArray), rdOf ByteArray.empty y412 bt415.1, ([] : List (S46))⟩ : S39)]) (wrap64 (x4_1 - 1)) s0_0 bt415.2) else (none)) else (none)) else (none)))) else (spec_l1Rd_flat.l0 kj18 y407 (wrap64 (x4_1 - 1)) s0_0 bt410.2))) = some (r1, r2) := by first | (rw [hy407]; with_reducible exact H) | (have H2_ := (Option.bind_some _ _).symm.trans H; rw [hy407]; with_reducible exact H2_) | (have H2_ := (Option.bind_some _ _).symm.trans H; with_reducible exact H2_) | with_reducible exact H | (rw [hy407]; exact H) | exact H
     have Ny407 := Aside0.mk hy407
     clear hy407
     replace H := Option.bind_eq_some_iff.mp H
     obtain ⟨⟨t410, t411⟩, A440, H⟩ := H
     replace H : (if t410 = true then ((some (([(⟨#[117]⟩ : ByteArray), (⟨#[118]⟩ : ByteArray), (⟨#[32, 117, 32]⟩ : ByteArray)] : List ByteArray) : List ByteArray)).bind fun y412 => ((spec_l1Rd_below.f s0_0 t411 3).bind fun bt415 => (if 0 ≤ bt415.1 then (if bt415.1 < (y412.length : Int) then (if y407.length < 2199023255552 then (spec_l1Rd_flat.l0 kj18 (y407 ++ [(⟨(x3_1.length : Int), (⟨#[]⟩ : ByteArray), rdOf ByteArray.empty y412 bt415.1, ([] : List (S46))⟩ : S39)]) (wrap64 (x4_1 - 1)) s0_0 bt415.2) else (none)) else (none)) else (none)))) else (spec_l1Rd_flat.l0 kj18 y407 (wrap64 (x4_1 - 1)) s0_0 t411)) = some (r1, r2) := H
     have A44 := Aside0.mk A440
     clear A440
     by_cases c45 : t410 = true
     rotate_left
     ·replace c45 := Bool.eq_false_iff.mpr c45
      subst c45
      have H1 : (spec_l1Rd_flat.l0 kj18 y407 (wrap64 (x4_1 - 1)) s0_0 t411) = some (r1, r2) := by rw [if_neg (show ¬ (false = true) by decide)] at H; exact H
      clear H
      have H := H1
      clear H1
      have H' := Aside0.mk H
      clear H
      obtain ⟨Ao61, co61, eo61⟩ := Kd.S_slice HO_3.out
      subst eo61
      have hnb62 := NB395_0.out
      have hnc62 := NB0_395.out
      obtain ⟨⟨hcz63_0, hcz63_1, hcz63_2, hcz63_3⟩, hfz63_0, hfz63_1, hfz63_2, hfz63_3⟩ := blkC4 BK395.out
      obtain ⟨Ao65, co65, eo65⟩ := Kd.R_slice HO_396003.out
      subst eo65
      go_wp2_with (first | ((with_reducible refine gate_builtin (b := .append) (xs := #[.tmp 55, .tmp 57]) rfl ?_); at_builtin; refine Kd.S_append k39 w.heap.size rfl (.tmp 55) (.tmp 57) 26 39 (.agg #[(.int .i64 0), (.string ⟨#[]⟩), (.string ⟨#[]⟩), (.slice none 0 0)]) 64 rfl Tryd.underlying26 info39 rfl dq37 dq31 (.slice Ao61 x3_1.length co61) x3_1 (⟨x5_7, (rdOf ByteArray.empty y389 t392), (⟨#[]⟩ : ByteArray), x396003_18⟩ : S39) [.int .i64 x5_7, .string (rdOf ByteArray.empty y389 t392), .string (⟨#[]⟩ : ByteArray), .slice Ao65 x396003_18.length co65] (fun k_ => k_ ≠ gb395) (fun k_ => some k_ = (.slice Ao65 x396003_18.length co65 : Value).ownBlock) rfl rfl ?aP (fun k_ hk_ => ((Kd.R_mono (ok' := fun k_ => ((fun k_ => k_ ≠ gb395)) k_ ∧ some k_ ≠ (.slice Ao61 x3_1.length co61 : Value).ownBlock) (Kd.R_types (Kd.R_apart' (HO_396003.out) (Kd.S_typed HO_3.out) dq37) BK395.out dq37) (fun k_ hk => ⟨hk.2, hk.1.2⟩))).1 k_ hk_.symm) ?aF ?aO (Below.refl _ _) ?aS ?aL ?_; (case aP => exact k39_mkM _ _ _ (⟨x5_7, (rdOf ByteArray.empty y389 t392), (⟨#[]⟩ : ByteArray), x396003_18⟩ : S39) (Kd.R_mono (Kd.R_tight rfl (Kd.R_mono (ok' := fun k_ => ((fun k_ => k_ ≠ gb395)) k_ ∧ some k_ ≠ (.slice Ao61 x3_1.length co61 : Value).ownBlock) (Kd.R_types (Kd.R_apart' (HO_396003.out) (Kd.S_typed HO_3.out) dq37) BK395.out dq37) (fun k_ hk => ⟨hk.2, hk.1.2⟩))) (fun _ h_ => h_))); (case aF => exact (fun k_ hk => Kd.freshB (g := gb395) (o := .cells #[.int .i64 x5_7, .string (rdOf ByteArray.empty y389 t392), .string (⟨#[]⟩ : ByteArray), .slice Ao65 x396003_18.length co65] 39 (0, 0)) dq107 k_ hk)); (case aO => exact dq112); (case aS => exact (keep_size (w := w) (g := g) (row := none) dq102)); (case aL => have := LMc43.out; omega); intro v408 w64 ho hb hg hat; rw [← Ny407.out] at ho; have n0_ := Aside0.mk (blk_grown (g := gb395) (o := .cells #[.int .i64 x5_7, .string (rdOf ByteArray.empty y389 t392), .string (⟨#[]⟩ : ByteArray), .slice Ao65 x396003_18.length co65] 39 (0, 0)) dq107 hg (Kd.S_away HO_3.out (fun _ hk => hk.2))); have n1_ := Aside0.mk (IsS99.grown dq106 hg (IsS99.own_neS HI0.out HO_3.out dq37)); have n2_ := Aside0.mk (below_weaken dq105 HL.out hb); have n3_ := Aside0.mk (KeepBut.trans dq102 (KeepBut.of_grown hg g) (Kd.S_base2 HO_3.out)); have n4_ := Aside0.mk (ho); clear BK395; clear HI0; clear HB; clear HK; clear HO_3; clear HO_396003; have BK395 := n0_; have HI0 := n1_; have HB := n2_; have HK := n3_; have HO409 := n4_; clear n0_ n1_ n2_ n3_ n4_; clear ho hb hg hat) | ((with_reducible refine gate_callee (f := 52) rfl ?_); refine goesL_ (some 60) rfl rfl Tryd.func52 dq30 rfl #[.pointer (some ⟨g, 0, none⟩), .int .i64 3] rfl dq29 ?_; (with_reducible refine (spec_l1Rd_once.calls g s0_0 x1001_18 3 false t411 w0 _ ?side1 ?side2 A44.out).mono ?_); (case side1 => exact dq9); (case side2 => exact dq10); rintro e w66 ⟨rfl, hi, hb, hk⟩; refine ⟨_, rfl, ?_⟩; have n0_ := Aside0.mk (KeepBut.blk hk (g' := gb395) (o := .cells #[.int .i64 x5_7, .string (rdOf ByteArray.empty y389 t392), .string (⟨#[]⟩ : ByteArray), .slice Ao65 x396003_18.length co65] 39 (0, 0)) dq107 NB395_0.out dq28); have n1_ := Aside0.mk (Kd.S_mono (Kd.S_keep (IsS99.apartS (show IsS99 w0 _ g s0_0 x1001_18 from by repeat (first | (with_reducible first | exact HI0.out | apply IsS99.alloc | apply IsS99.drewN | apply IsS99.drew | apply IsS99.set_1 | refine IsS99.far ?_ NB0_395.out _) | exact HI0.out)) dq111 dq37) hk (fun _ h => h.2)) (fun _ h => h.1)); have n2_ := Aside0.mk (KeepBut.trans dq102 hk (.inl rfl)); have n3_ := Aside0.mk (hb); have n4_ := Aside0.mk (hi); clear BK395; clear HO409; clear HK; clear HB; clear HI0; have BK395 := n0_; have HO409 := n1_; have HK := n2_; have HB := n3_; have HI0 := n4_; clear n0_ n1_ n2_ n3_ n4_; (try clear hb); (try clear hb2); (try clear hk); (try clear hi)))
      go_roundg kj18
      case measure => have := HK1.out; have := HJ7.out; have := HJ18.out; omega
      case rel => exact ⟨(y407), (wrap64 (x4_1 - 1)), (t411), dq25, H', ⟨by have := HK1.out; have := HJ7.out; have := HJ18.out; omega⟩, ⟨by (with_reducible repeat (first | apply Kd.S_alloc | apply Kd.S_drewN | apply Kd.S_drew)); exact Kd.S_mono HO409.out (fun _ hk => trivial)⟩, ⟨dq106⟩, ⟨dq102⟩, ⟨dq105⟩⟩
     subst c45
     have H1 : ((some (([(⟨#[117]⟩ : ByteArray), (⟨#[118]⟩ : ByteArray), (⟨#[32, 117, 32]⟩ : ByteArray)] : List ByteArray) : List ByteArray)).bind fun y412 => ((spec_l1Rd_below.f s0_0 t411 3).bind fun bt415 => (if 0 ≤ bt415.1 then (if bt415.1 < (y412.length : Int) then (if y407.length < 2199023255552 then (spec_l1Rd_flat.l0 kj18 (y407 ++ [(⟨(x3_1.length : Int), (⟨#[]⟩ : ByteArray), rdOf ByteArray.empty y412 bt415.1, ([] : List (S46))⟩ : S39)]) (wrap64 (x4_1 - 1)) s0_0 bt415.2) else (none)) else (none)) else (none)))) = some (r1, r2) := by rw [if_pos rfl] at H; exact H
     clear H
     have H := H1
     clear H1
     obtain ⟨y412, hy412⟩ : ∃ y_ : List ByteArray, y_ = (([(⟨#[117]⟩ : ByteArray), (⟨#[118]⟩ : ByteArray), (⟨#[32, 117, 32]⟩ : ByteArray)] : List ByteArray)) := ⟨_, rfl⟩
     replace H : ((spec_l1Rd_below.f s0_0 t411 3).bind fun bt415 => (if 0 ≤ bt415.1 then (if bt415.1 < (y412.length : Int) then (if y407.length < 2199023255552 then (spec_l1Rd_flat.l0 kj18 (y407 ++ [(⟨(x3_1.length : Int), (⟨#[]⟩ : ByteArray), rdOf ByteArray.empty y412 bt415.1, ([] : List (S46))⟩ : S39)]) (wrap64 (x4_1 - 1)) s0_0 bt415.2) else (none)) else (none)) else (none))) = some (r1, r2) := by first | (rw [hy412]; with_reducible exact H) | (have H2_ := (Option.bind_some _ _).symm.trans H; rw [hy412]; with_reducible exact H2_) | (have H2_ := (Option.bind_some _ _).symm.trans H; with_reducible exact H2_) | with_reducible exact H | (rw [hy412]; exact H) | exact H
     have Ny412 := Aside0.mk hy412
     clear hy412
     replace H := Option.bind_eq_some_iff.mp H
     obtain ⟨⟨t415, t416⟩, A460, H⟩ := H
     replace H : (if 0 ≤ t415 then (if t415 < (y412.length : Int) then (if y407.length < 2199023255552 then (spec_l1Rd_flat.l0 kj18 (y407 ++ [(⟨(x3_1.length : Int), (⟨#[]⟩ : ByteArray), rdOf ByteArray.empty y412 t415, ([] : List (S46))⟩ : S39)]) (wrap64 (x4_1 - 1)) s0_0 t416) else (none)) else (none)) else (none)) = some (r1, r2) := H
     have A46 := Aside0.mk A460
     clear A460
     by_cases c47 : 0 ≤ t415
     rotate_left
     ·rw [if_neg c47] at H
      exact absurd H dq28
     rw [if_pos c47] at H
     have c47b0 := decide_eq_true c47
     clear c47
     by_cases c48 : t415 < (y412.length : Int)
     rotate_left
     ·rw [if_neg c48] at H
      exact absurd H dq28
     rw [if_pos c48] at H
     have c48b0 := decide_eq_true c48
     clear c48
     by_cases c49 : y407.length < 2199023255552
     rotate_left
     ·rw [if_neg c49] at H
      exact absurd H dq28
     rw [if_pos c49] at H
     have LMc49 := Aside0.mk c49
     clear c49
     obtain ⟨y418, hy418⟩ : ∃ y_ : List (S39), y_ = (y407 ++ [(⟨(x3_1.length : Int), (⟨#[]⟩ : ByteArray), rdOf ByteArray.empty y412 t415, ([] : List (S46))⟩ : S39)]) := ⟨_, rfl⟩
     replace H : (spec_l1Rd_flat.l0 kj18 y418 (wrap64 (x4_1 - 1)) s0_0 t416) = some (r1, r2) := by first | (rw [hy418]; with_reducible exact H) | (have H2_ := (Option.bind_some _ _).symm.trans H; rw [hy418]; with_reducible exact H2_) | (have H2_ := (Option.bind_some _ _).symm.trans H; with_reducible exact H2_) | with_reducible exact H | (rw [hy418]; exact H) | exact H
     have Ny418 := Aside0.mk hy418
     clear hy418
     have H' := Aside0.mk H
     clear H
     obtain ⟨Ao50, co50, eo50⟩ := Kd.S_slice HO_3.out
     subst eo50
     have hnb51 := NB395_0.out
     have hnc51 := NB0_395.out
     obtain ⟨⟨hcz52_0, hcz52_1, hcz52_2, hcz52_3⟩, hfz52_0, hfz52_1, hfz52_2, hfz52_3⟩ := blkC4 BK395.out
     obtain ⟨Ao54, co54, eo54⟩ := Kd.R_slice HO_396003.out
     subst eo54
     go_wp2_with (first | ((with_reducible refine gate_builtin (b := .append) (xs := #[.tmp 55, .tmp 57]) rfl ?_); at_builtin; refine Kd.S_append k39 w.heap.size rfl (.tmp 55) (.tmp 57) 26 39 (.agg #[(.int .i64 0), (.string ⟨#[]⟩), (.string ⟨#[]⟩), (.slice none 0 0)]) 64 rfl Tryd.underlying26 info39 rfl dq37 dq31 (.slice Ao50 x3_1.length co50) x3_1 (⟨x5_7, (rdOf ByteArray.empty y389 t392), (⟨#[]⟩ : ByteArray), x396003_18⟩ : S39) [.int .i64 x5_7, .string (rdOf ByteArray.empty y389 t392), .string (⟨#[]⟩ : ByteArray), .slice Ao54 x396003_18.length co54] (fun k_ => k_ ≠ gb395) (fun k_ => some k_ = (.slice Ao54 x396003_18.length co54 : Value).ownBlock) rfl rfl ?aP (fun k_ hk_ => ((Kd.R_mono (ok' := fun k_ => ((fun k_ => k_ ≠ gb395)) k_ ∧ some k_ ≠ (.slice Ao50 x3_1.length co50 : Value).ownBlock) (Kd.R_types (Kd.R_apart' (HO_396003.out) (Kd.S_typed HO_3.out) dq37) BK395.out dq37) (fun k_ hk => ⟨hk.2, hk.1.2⟩))).1 k_ hk_.symm) ?aF ?aO (Below.refl _ _) ?aS ?aL ?_; (case aP => exact k39_mkM _ _ _ (⟨x5_7, (rdOf ByteArray.empty y389 t392), (⟨#[]⟩ : ByteArray), x396003_18⟩ : S39) (Kd.R_mono (Kd.R_tight rfl (Kd.R_mono (ok' := fun k_ => ((fun k_ => k_ ≠ gb395)) k_ ∧ some k_ ≠ (.slice Ao50 x3_1.length co50 : Value).ownBlock) (Kd.R_types (Kd.R_apart' (HO_396003.out) (Kd.S_typed HO_3.out) dq37) BK395.out dq37) (fun k_ hk => ⟨hk.2, hk.1.2⟩))) (fun _ h_ => h_))); (case aF => exact (fun k_ hk => Kd.freshB (g := gb395) (o := .cells #[.int .i64 x5_7, .string (rdOf ByteArray.empty y389 t392), .string (⟨#[]⟩ : ByteArray), .slice Ao54 x396003_18.length co54] 39 (0, 0)) dq107 k_ hk)); (case aO => exact dq112); (case aS => exact (keep_size (w := w) (g := g) (row := none) dq102)); (case aL => have := LMc43.out; omega); intro v408 w53 ho hb hg hat; rw [← Ny407.out] at ho; have n0_ := Aside0.mk (blk_grown (g := gb395) (o := .cells #[.int .i64 x5_7, .string (rdOf ByteArray.empty y389 t392), .string (⟨#[]⟩ : ByteArray), .slice Ao54 x396003_18.length co54] 39 (0, 0)) dq107 hg (Kd.S_away HO_3.out (fun _ hk => hk.2))); have n1_ := Aside0.mk (IsS99.grown dq106 hg (IsS99.own_neS HI0.out HO_3.out dq37)); have n2_ := Aside0.mk (below_weaken dq105 HL.out hb); have n3_ := Aside0.mk (KeepBut.trans dq102 (KeepBut.of_grown hg g) (Kd.S_base2 HO_3.out)); have n4_ := Aside0.mk (ho); clear BK395; clear HI0; clear HB; clear HK; clear HO_3; clear HO_396003; have BK395 := n0_; have HI0 := n1_; have HB := n2_; have HK := n3_; have HO409 := n4_; clear n0_ n1_ n2_ n3_ n4_; clear ho hb hg hat) | ((with_reducible refine gate_callee (f := 52) rfl ?_); refine goesL_ (some 60) rfl rfl Tryd.func52 dq30 rfl #[.pointer (some ⟨g, 0, none⟩), .int .i64 3] rfl dq29 ?_; (with_reducible refine (spec_l1Rd_once.calls g s0_0 x1001_18 3 true t411 w0 _ ?side1 ?side2 A44.out).mono ?_); (case side1 => exact dq9); (case side2 => exact dq10); rintro e w55 ⟨rfl, hi, hb, hk⟩; refine ⟨_, rfl, ?_⟩; have n0_ := Aside0.mk (KeepBut.blk hk (g' := gb395) (o := .cells #[.int .i64 x5_7, .string (rdOf ByteArray.empty y389 t392), .string (⟨#[]⟩ : ByteArray), .slice Ao54 x396003_18.length co54] 39 (0, 0)) dq107 NB395_0.out dq28); have n1_ := Aside0.mk (Kd.S_mono (Kd.S_keep (IsS99.apartS (show IsS99 w0 _ g s0_0 x1001_18 from by repeat (first | (with_reducible first | exact HI0.out | apply IsS99.alloc | apply IsS99.drewN | apply IsS99.drew | apply IsS99.set_1 | refine IsS99.far ?_ NB0_395.out _) | exact HI0.out)) dq111 dq37) hk (fun _ h => h.2)) (fun _ h => h.1)); have n2_ := Aside0.mk (KeepBut.trans dq102 hk (.inl rfl)); have n3_ := Aside0.mk (hb); have n4_ := Aside0.mk (hi); clear BK395; clear HO409; clear HK; clear HB; clear HI0; have BK395 := n0_; have HO409 := n1_; have HK := n2_; have HB := n3_; have HI0 := n4_; clear n0_ n1_ n2_ n3_ n4_; (try clear hb); (try clear hb2); (try clear hk); (try clear hi)) | ((with_reducible refine gate_dst (N := 63) rfl ?_); refine Kd.R_lit Kd.string _ 9 ?hg (N := 63) ?hd (xs := ([(⟨#[117]⟩ : ByteArray), (⟨#[118]⟩ : ByteArray), (⟨#[32, 117, 32]⟩ : ByteArray)] : List ByteArray)) (inner := [.string (⟨#[117]⟩ : ByteArray), .string (⟨#[118]⟩ : ByteArray), .string (⟨#[32, 117, 32]⟩ : ByteArray)]) (ok := fun _ => True) (okp := fun _ => True) ?hr ?hp (fun _ hk => hk) trivial (Below.refl _ _) (Nat.le_refl _) dq28 ?_; (case hd => rfl); (case hg => rfl); (case hr => exact dq0); (case hp => exact (Reps.one (show Kd.M Kd.string _ _ _ (⟨#[117]⟩ : ByteArray) [.string (⟨#[117]⟩ : ByteArray)] from rfl) (Reps.one (show Kd.M Kd.string _ _ _ (⟨#[118]⟩ : ByteArray) [.string (⟨#[118]⟩ : ByteArray)] from rfl) (Reps.one (show Kd.M Kd.string _ _ _ (⟨#[32, 117, 32]⟩ : ByteArray) [.string (⟨#[32, 117, 32]⟩ : ByteArray)] from rfl) (Reps.none _ _))))); intro v413 w56 ho57 hb hg_ hnew_; clear hg_ hnew_; (first | rw [← Ny412.out] at ho57 | (simp only [Int.reduceToNat] at ho57; rw [← Ny412.out] at ho57)); have n0_ := Aside0.mk (Kd.S_below dq111 hb); have n1_ := Aside0.mk (Kd.R_lower ho57 (keep_size (w := w) (g := g) (row := none) dq102)); have n2_ := Aside0.mk (blk_below (g := gb395) (o := .cells #[.int .i64 x5_7, .string (rdOf ByteArray.empty y389 t392), .string (⟨#[]⟩ : ByteArray), .slice Ao54 x396003_18.length co54] 39 (0, 0)) dq107 hb); have n3_ := Aside0.mk (IsS99.below dq106 hb); have n4_ := Aside0.mk (KeepBut.trans dq102 (KeepBut.of_below hb g none) (.inl rfl)); have n5_ := Aside0.mk (below_step dq105 hb); clear HO409; clear BK395; clear HI0; clear HK; clear HB; have HO409 := n0_; have HO414 := n1_; have BK395 := n2_; have HI0 := n3_; have HK := n4_; have HB := n5_; clear n0_ n1_ n2_ n3_ n4_ n5_; clear hb ho57) | ((with_reducible refine gate_callee (f := 63) rfl ?_); refine goesL_ (some 65) rfl rfl Tryd.func63 dq30 rfl #[.pointer (some ⟨g, 0, none⟩), .int .i64 3] rfl dq29 ?_; (with_reducible refine (spec_l1Rd_below.calls g s0_0 t411 3 t415 t416 w0 _ ?side1 ?side2 A46.out).mono ?_); (case side1 => exact dq9); (case side2 => exact dq10); rintro e w58 ⟨rfl, hi, hb, hk⟩; refine ⟨_, rfl, ?_⟩; have n0_ := Aside0.mk (KeepBut.blk hk (g' := gb395) (o := .cells #[.int .i64 x5_7, .string (rdOf ByteArray.empty y389 t392), .string (⟨#[]⟩ : ByteArray), .slice Ao54 x396003_18.length co54] 39 (0, 0)) dq107 NB395_0.out dq28); have n1_ := Aside0.mk (Kd.S_mono (Kd.S_keep (IsS99.apartS (show IsS99 w0 _ g s0_0 t411 from by repeat (first | (with_reducible first | exact HI0.out | apply IsS99.alloc | apply IsS99.drewN | apply IsS99.drew | apply IsS99.set_1 | refine IsS99.far ?_ NB0_395.out _) | exact HI0.out)) dq111 dq37) hk (fun _ h => h.2)) (fun _ h => h.1)); have n2_ := Aside0.mk (Kd.R_mono (Kd.R_keep (IsS99.apart (show IsS99 w0 _ g s0_0 t411 from by repeat (first | (with_reducible first | exact HI0.out | apply IsS99.alloc | apply IsS99.drewN | apply IsS99.drew | apply IsS99.set_1 | refine IsS99.far ?_ NB0_395.out _) | exact HI0.out)) (by (with_reducible repeat (first | apply Kd.R_alloc | apply Kd.R_drewN | apply Kd.R_drew)); exact HO414.out) dq37) hk (fun _ h => h.2)) (fun _ h => h.1)); have n3_ := Aside0.mk (KeepBut.trans dq102 hk (.inl rfl)); have n4_ := Aside0.mk (hb); have n5_ := Aside0.mk (hi); clear BK395; clear HO409; clear HO414; clear HK; clear HB; clear HI0; have BK395 := n0_; have HO409 := n1_; have HO414 := n2_; have HK := n3_; have HB := n4_; have HI0 := n5_; clear n0_ n1_ n2_ n3_ n4_ n5_; (try clear hb); (try clear hb2); (try clear hk); (try clear hi); obtain ⟨Ao59, co59, eo59⟩ := Kd.R_slice HO414.out; subst eo59; have p417 : 0 ≤ (t415 : Int) := of_decide_eq_true dq26; have q417 : t415 < (y412.length : Int) := of_decide_eq_true dq26; obtain ⟨ad417, e417, hx417_0⟩ := Kd.at_string (Kd.R_reads' HO414.out).2.2 t415 p417 q417; cases e417; replace p417 := eq_true p417; replace q417 := eq_true q417) | ((with_reducible refine gate_builtin (b := .append) (xs := #[.tmp 61, .tmp 69]) rfl ?_); at_builtin; refine Kd.S_append k39 w.heap.size rfl (.tmp 61) (.tmp 69) 26 39 (.agg #[(.int .i64 0), (.string ⟨#[]⟩), (.string ⟨#[]⟩), (.slice none 0 0)]) 64 rfl Tryd.underlying26 info39 rfl dq37 dq31 v408 y407 (⟨(x3_1.length : Int), (⟨#[]⟩ : ByteArray), rdOf ByteArray.empty y412 t415, ([] : List (S46))⟩ : S39) [.int .i64 (x3_1.length : Int), .string (⟨#[]⟩ : ByteArray), .string (rdOf ByteArray.empty y412 t415), .slice none 0 0] (fun k_ => k_ ≠ gb395) (fun _ => False) rfl rfl ?aP (fun k_ hk_ => hk_.elim) ?aF ?aO (Below.refl _ _) ?aS ?aL ?_; (case aP => exact k39_mkM _ _ _ (⟨(x3_1.length : Int), (⟨#[]⟩ : ByteArray), rdOf ByteArray.empty y412 t415, ([] : List (S46))⟩ : S39) (Kd.R_nil _ _ _ _ _)); (case aF => exact (fun k_ hk => Kd.freshB (g := gb395) (o := .cells #[.int .i64 x5_7, .string (rdOf ByteArray.empty y389 t392), .string (⟨#[]⟩ : ByteArray), .slice Ao54 x396003_18.length co54] 39 (0, 0)) dq107 k_ hk)); (case aO => exact (by (with_reducible repeat (first | apply Kd.S_alloc | apply Kd.S_drewN | apply Kd.S_drew)); exact Kd.S_mono HO409.out (fun k_ hk => ⟨hk, fun e_ => e_⟩))); (case aS => exact (keep_size (w := w) (g := g) (row := none) dq102)); (case aL => have := LMc49.out; omega); intro v419 w60 ho hb hg hat; rw [← Ny418.out] at ho; have n0_ := Aside0.mk (blk_grown (g := gb395) (o := .cells #[.int .i64 x5_7, .string (rdOf ByteArray.empty y389 t392), .string (⟨#[]⟩ : ByteArray), .slice Ao54 x396003_18.length co54] 39 (0, 0)) dq107 hg (Kd.S_away HO409.out (fun _ hk => hk))); have n1_ := Aside0.mk (IsS99.grown dq106 hg (IsS99.own_neS HI0.out HO409.out dq37)); have n2_ := Aside0.mk (Kd.R_over' (by (with_reducible repeat (first | apply Kd.R_alloc | apply Kd.R_drewN | apply Kd.R_drew)); exact HO414.out) (Kd.S_typed dq111) dq37 hg); have n3_ := Aside0.mk (below_weaken dq105 HL.out hb); have n4_ := Aside0.mk (KeepBut.trans dq102 (KeepBut.of_grown hg g) (Kd.S_base2 HO409.out)); have n5_ := Aside0.mk (ho); clear BK395; clear HI0; clear HO414; clear HB; clear HK; clear HO409; have BK395 := n0_; have HI0 := n1_; have HO414 := n2_; have HB := n3_; have HK := n4_; have HO420 := n5_; clear n0_ n1_ n2_ n3_ n4_ n5_; clear ho hb hg hat))
     go_roundg kj18
     case measure => have := HK1.out; have := HJ7.out; have := HJ18.out; omega
     case rel => exact ⟨(y418), (wrap64 (x4_1 - 1)), (t416), dq25, H', ⟨by have := HK1.out; have := HJ7.out; have := HJ18.out; omega⟩, ⟨by (with_reducible repeat (first | apply Kd.S_alloc | apply Kd.S_drewN | apply Kd.S_drew)); exact Kd.S_mono HO420.out (fun _ hk => trivial)⟩, ⟨dq106⟩, ⟨dq102⟩, ⟨dq105⟩⟩
   have H := HC19.out
   clear HC19
   by_cases c28 : t396 = true
   ·subst c28
    have H1 : (spec_l1Rd_flat.j3 kj7 x3_1 x4_1 s0_0 t397 x5_7 (rdOf ByteArray.empty y389 t392) (⟨#[]⟩ : ByteArray) ([] : List (S46))) = some (r1, r2) := by rw [if_pos rfl] at H; exact H
    clear H
    have H := H1
    clear H1
    have H' := Aside0.mk H
    clear H
    go_wp2
    go_meet
    case rel => exact ⟨_, (t397), (([] : List (S46))), (.slice none 0 0), H', ⟨by have := HK1.out; have := HJ7.out; first | omega | exact Nat.le_refl _⟩, ⟨by (with_reducible repeat (first | apply Kd.S_alloc | apply Kd.S_drewN | apply Kd.S_drew)); exact Kd.S_mono HO_3.out (fun _ hk => ⟨(by simp [Value.ownBlock]), hk.2⟩)⟩, ⟨dq34⟩, ⟨dq107⟩, ⟨dq106⟩, ⟨dq102⟩, ⟨dq105⟩⟩
   replace c28 := Bool.eq_false_iff.mpr c28
   subst c28
   have H1 : ((some (([(⟨#[49]⟩ : ByteArray), (⟨#[50]⟩ : ByteArray), (⟨#[32, 49]⟩ : ByteArray), (⟨#[51]⟩ : ByteArray)] : List ByteArray) : List ByteArray)).bind fun y398 => ((spec_l1Rd_below.f s0_0 t397 4).bind fun bt401 => (if 0 ≤ bt401.1 then (if bt401.1 < (y398.length : Int) then (if ([] : List (S46)).length < 4398046511104 then (spec_l1Rd_flat.j3 kj7 x3_1 x4_1 s0_0 bt401.2 x5_7 (rdOf ByteArray.empty y389 t392) (⟨#[]⟩ : ByteArray) (([] : List (S46)) ++ [(⟨(⟨#[97]⟩ : ByteArray), rdOf ByteArray.empty y398 bt401.1⟩ : S46)])) else (none)) else (none)) else (none)))) = some (r1, r2) := by rw [if_neg (show ¬ (false = true) by decide)] at H; exact H
   clear H
   have H := H1
   clear H1
   obtain ⟨y398, hy398⟩ : ∃ y_ : List ByteArray, y_ = (([(⟨#[49]⟩ : ByteArray), (⟨#[50]⟩ : ByteArray), (⟨#[32, 49]⟩ : ByteArray), (⟨#[51]⟩ : ByteArray)] : List ByteArray)) := ⟨_, rfl⟩
   replace H : ((spec_l1Rd_below.f s0_0 t397 4).bind fun bt401 => (if 0 ≤ bt401.1 then (if bt401.1 < (y398.length : Int) then (if ([] : List (S46)).length < 4398046511104 then (spec_l1Rd_flat.j3 kj7 x3_1 x4_1 s0_0 bt401.2 x5_7 (rdOf ByteArray.empty y389 t392) (⟨#[]⟩ : ByteArray) (([] : List (S46)) ++ [(⟨(⟨#[97]⟩ : ByteArray), rdOf ByteArray.empty y398 bt401.1⟩ : S46)])) else (none)) else (none)) else (none))) = some (r1, r2) := by first | (rw [hy398]; with_reducible exact H) | (have H2_ := (Option.bind_some _ _).symm.trans H; rw [hy398]; with_reducible exact H2_) | (have H2_ := (Option.bind_some _ _).symm.trans H; with_reducible exact H2_) | with_reducible exact H | (rw [hy398]; exact H) | exact H
   have Ny398 := Aside0.mk hy398
   clear hy398
   replace H := Option.bind_eq_some_iff.mp H
   obtain ⟨⟨t401, t402⟩, A290, H⟩ := H
   replace H : (if 0 ≤ t401 then (if t401 < (y398.length : Int) then (if ([] : List (S46)).length < 4398046511104 then (spec_l1Rd_flat.j3 kj7 x3_1 x4_1 s0_0 t402 x5_7 (rdOf ByteArray.empty y389 t392) (⟨#[]⟩ : ByteArray) (([] : List (S46)) ++ [(⟨(⟨#[97]⟩ : ByteArray), rdOf ByteArray.empty y398 t401⟩ : S46)])) else (none)) else (none)) else (none)) = some (r1, r2) := H
   have A29 := Aside0.mk A290
   clear A290
   by_cases c30 : 0 ≤ t401
   rotate_left
   ·rw [if_neg c30] at H
    exact absurd H dq28
   rw [if_pos c30] at H
   have c30b0 := decide_eq_true c30
   clear c30
   (first | rw [c30b0] | (simp only [i64_w, i32_w]; rw [c30b0]) | skip)
   by_cases c31 : t401 < (y398.length : Int)
   rotate_left
   ·rw [if_neg c31] at H
    exact absurd H dq28
   rw [if_pos c31] at H
   have c31b0 := decide_eq_true c31
   clear c31
   by_cases c32 : ([] : List (S46)).length < 4398046511104
   rotate_left
   ·rw [if_neg c32] at H
    exact absurd H dq28
   rw [if_pos c32] at H
   have LMc32 := Aside0.mk c32
   clear c32
   obtain ⟨y404, hy404⟩ : ∃ y_ : List (S46), y_ = (([] : List (S46)) ++ [(⟨(⟨#[97]⟩ : ByteArray), rdOf ByteArray.empty y398 t401⟩ : S46)]) := ⟨_, rfl⟩
   replace H : (spec_l1Rd_flat.j3 kj7 x3_1 x4_1 s0_0 t402 x5_7 (rdOf ByteArray.empty y389 t392) (⟨#[]⟩ : ByteArray) y404) = some (r1, r2) := by first | (rw [hy404]; with_reducible exact H) | (have H2_ := (Option.bind_some _ _).symm.trans H; rw [hy404]; with_reducible exact H2_) | (have H2_ := (Option.bind_some _ _).symm.trans H; with_reducible exact H2_) | with_reducible exact H | (rw [hy404]; exact H) | exact H
   have Ny404 := Aside0.mk hy404
   clear hy404
   have H' := Aside0.mk H
   clear H
   try go_wp2
   have pi403 : (0 ≤ (t401 : Int)) = True := eq_true (of_decide_eq_true dq26)
   have qi403 : (t401 < (y398.length : Int)) = True := eq_true (of_decide_eq_true dq26)
   have n0_ := Aside0.mk (Kd.S_drew HO_3.out)
   have n1_ := Aside0.mk (Kd.R_drew HO391.out)
   have n2_ := Aside0.mk (blk_drew BK395.out)
   have n3_ := Aside0.mk (IsS99.drew HI0.out)
   have n4_ := Aside0.mk (keep_drew HK.out)
   have n5_ := Aside0.mk (below_drew1 HB.out)
   clear HO_3
   clear HO391
   clear BK395
   clear HI0
   clear HK
   clear HB
   have HO_3 := n0_
   have HO391 := n1_
   have BK395 := n2_
   have HI0 := n3_
   have HK := n4_
   have HB := n5_
   clear n0_ n1_ n2_ n3_ n4_ n5_
   refine start_ (n := 12) (S := fun w' => w'.cell? ⟨gb395, 0, none⟩ = some (.int .i64 x5_7) ∧ w'.cell? ⟨gb395, 1, none⟩ = some (.string (rdOf ByteArray.empty y389 t392)) ∧ w'.cell? ⟨gb395, 2, none⟩ = some (.string (⟨#[]⟩ : ByteArray)) ∧ w'.cell? ⟨gb395, 3, none⟩ = some (.slice none 0 0)) (ds := [11]) #[false, false, false, false, false, false, false, false, false, false, false, false] dq30 rfl rfl ⟨(blk_cell BK395.out 0).trans rfl, (blk_cell BK395.out 1).trans rfl, (blk_cell BK395.out 2).trans rfl, (blk_cell BK395.out 3).trans rfl⟩ (fun hHeld => ?_); refine with_tabW spec_l1Rd_flat.tab12 spec_l1Rd_flat.bits12 (fun HT_ HW_ => ?_)
   generalize w27.drew = w33 at HO_3 HO391 BK395 HI0 HK HB hHeld ⊢
   refine pureA (i := 0) (N := some 42) #[true, false, false, false, false, false, false, false, false, false, false, false] ?_
   refine pureA (i := 3) (N := some 45) #[true, false, false, true, false, false, false, false, false, false, false, false] ?_
   refine takeA4 (i := 1) (N := some 43) #[true, true, false, true, false, false, false, false, false, false, false, false] ?_
   refine join_ (σ := Value × Addr) 7 #[true, true, true, true, true, false, false, false, false, false, false, false] (fun s_ => [(44, s_.1), (46, .int .i64 t401)]) (fun s_ w' => (w'.cell? ⟨gb395, 0, none⟩ = some (.int .i64 x5_7) ∧ w'.cell? ⟨gb395, 1, none⟩ = some (.string (rdOf ByteArray.empty y389 t392)) ∧ w'.cell? ⟨gb395, 2, none⟩ = some (.string (⟨#[]⟩ : ByteArray)) ∧ w'.cell? ⟨gb395, 3, none⟩ = some (.slice none 0 0)) ∧ (Kd.R Kd.string 9 w' w.heap.size (fun k_ => some k_ ≠ (s_.1 : Value).ownBlock) (.slice (some ad394) y389.length co23) y389) ∧ (Kd.R Kd.string 9 w' w.heap.size (fun k_ => some k_ ≠ (.slice (some ad394) y389.length co23 : Value).ownBlock) s_.1 y398) ∧ (Kd.S k39 39 w' w.heap.size (fun k_ => k_ ≠ gb395) u3 x3_1) ∧ (∃ c_, (s_.1 : Value) = .slice (some s_.2) y398.length c_) ∧ (w'.heap[gb395]? = some (.cells #[.int .i64 x5_7, .string (rdOf ByteArray.empty y389 t392), .string (⟨#[]⟩ : ByteArray), .slice none 0 0] 39 (0, 0))) ∧ (IsS99 w0 w' g s0_0 t402) ∧ (KeepBut w w' g none) ∧ (Below w0.heap.size w0 w')) ?_ ?_
   rotate_left
   ·intro hCont
    refine two_ (i := 2) (j := 4) (Ni := some 44) (Nj := some 46) #[true, true, true, true, false, false, false, false, false, false, false, false] #[true, true, false, true, true, false, false, false, false, false, false, false] rfl rfl rfl rfl (two_of HT_.out dq30) dq37 dq37 (fun K hK => ?_) (fun K hK => ?_)
    ·skip
     refine Kd.R_lit_step Kd.string _ 9 ?hg (N := 44) ?hd (xs := ([(⟨#[49]⟩ : ByteArray), (⟨#[50]⟩ : ByteArray), (⟨#[32, 49]⟩ : ByteArray), (⟨#[51]⟩ : ByteArray)] : List ByteArray)) (inner := [.string (⟨#[49]⟩ : ByteArray), .string (⟨#[50]⟩ : ByteArray), .string (⟨#[32, 49]⟩ : ByteArray), .string (⟨#[51]⟩ : ByteArray)]) (ok := fun _ => True) (okp := fun _ => True) ?hr ?hp (fun _ hk => hk) trivial (Below.refl _ _) (Nat.le_refl _) dq28 ?_; (case hd => rfl); (case hg => rfl); (case hr => exact dq0); (case hp => exact (Reps.one (show Kd.M Kd.string _ _ _ (⟨#[49]⟩ : ByteArray) [.string (⟨#[49]⟩ : ByteArray)] from rfl) (Reps.one (show Kd.M Kd.string _ _ _ (⟨#[50]⟩ : ByteArray) [.string (⟨#[50]⟩ : ByteArray)] from rfl) (Reps.one (show Kd.M Kd.string _ _ _ (⟨#[32, 49]⟩ : ByteArray) [.string (⟨#[32, 49]⟩ : ByteArray)] from rfl) (Reps.one (show Kd.M Kd.string _ _ _ (⟨#[51]⟩ : ByteArray) [.string (⟨#[51]⟩ : ByteArray)] from rfl) (Reps.none _ _))))))
     intro v399 w34 ho35 hb hg_ hnew_
     clear hg_ hnew_
     (first | rw [← Ny398.out] at ho35 | (simp only [Int.reduceToNat] at ho35; rw [← Ny398.out] at ho35))
     have n0_ := Aside0.mk (Kd.S_below dq100 hb)
     have n1_ := Aside0.mk (Kd.R_elder' dq104 (Kd.R_base ho35) hb)
     have n2_ := Aside0.mk (Kd.R_lower (Kd.R_new' ho35 (Kd.R_lt dq104)) (keep_size (w := w) (g := g) (row := none) dq102))
     have n3_ := Aside0.mk (IsS99.below dq106 hb)
     have n4_ := Aside0.mk (blk_below (g := gb395) (o := .cells #[.int .i64 x5_7, .string (rdOf ByteArray.empty y389 t392), .string (⟨#[]⟩ : ByteArray), .slice none 0 0] 39 (0, 0)) dq107 hb)
     have n5_ := Aside0.mk (KeepBut.trans dq102 (KeepBut.of_below hb g none) (.inl rfl))
     have n6_ := Aside0.mk (below_step dq105 hb)
     clear HO_3
     clear HO391
     clear HI0
     clear BK395
     clear HK
     clear HB
     have HO_3 := n0_
     have HO391 := n1_
     have HO400 := n2_
     have HI0 := n3_
     have BK395 := n4_
     have HK := n5_
     have HB := n6_
     clear n0_ n1_ n2_ n3_ n4_ n5_ n6_
     clear hb ho35
     obtain ⟨Ao36, co36, eo36⟩ := Kd.R_slice HO400.out
     subst eo36
     obtain ⟨ado36, fo36, _⟩ := Kd.at_string (Kd.R_reads' HO400.out).2.2 0 dq37 (by rw [Ny398.out]; simp)
     cases fo36
     refine hK.out _ _ ⟨(blk_cell BK395.out 0).trans rfl, (blk_cell BK395.out 1).trans rfl, (blk_cell BK395.out 2).trans rfl, (blk_cell BK395.out 3).trans rfl⟩ (fun hHeld => ?_)
     clear hK K
     refine norm_ (a' := ?_) ?_ ?_
     rotate_left
     ·show Act.put _ (some 44) _ = _
      simp only [Act.put, List.setIfInBounds_toArray, List.set_cons_zero, List.set_cons_succ, i64_w, i32_w]
      rfl
     refine one_ (i := 4) (N := some 46) #[true, true, true, true, true, false, false, false, false, false, false, false] rfl rfl (one_of HT_.out dq30) dq37 (fun K hK => ?_)
     refine goes_ Tryd.func63 dq30 rfl #[.pointer (some ⟨g, 0, none⟩), .int .i64 4] (by rfl) rfl rfl dq29 ?_
     with_reducible refine (spec_l1Rd_below.calls g s0_0 t397 4 t401 t402 w0 _ ?side1 ?side2 A29.out).mono ?_
     (case side1 => exact dq9)
     (case side2 => exact dq10)
     rintro e w37 ⟨rfl, hi, hb, hk⟩
     refine ⟨_, rfl, ?_⟩
     have n0_ := Aside0.mk (Kd.S_mono (Kd.S_keep (IsS99.apartS (show IsS99 w0 _ g s0_0 t397 from by repeat (first | (with_reducible first | exact HI0.out | apply IsS99.alloc | apply IsS99.drewN | apply IsS99.drew | apply IsS99.set_1 | refine IsS99.far ?_ NB0_395.out _) | exact HI0.out)) dq100 dq37) hk (fun _ h => h.2)) (fun _ h => h.1))
     have n1_ := Aside0.mk (Kd.R_mono (Kd.R_keep (IsS99.apart (show IsS99 w0 _ g s0_0 t397 from by repeat (first | (with_reducible first | exact HI0.out | apply IsS99.alloc | apply IsS99.drewN | apply IsS99.drew | apply IsS99.set_1 | refine IsS99.far ?_ NB0_395.out _) | exact HI0.out)) dq104 dq37) hk (fun _ h => h.2)) (fun _ h => h.1))
     have n2_ := Aside0.mk (KeepBut.blk hk (g' := gb395) (o := .cells #[.int .i64 x5_7, .string (rdOf ByteArray.empty y389 t392), .string (⟨#[]⟩ : ByteArray), .slice none 0 0] 39 (0, 0)) dq107 NB395_0.out dq28)
     have n3_ := Aside0.mk (Kd.R_mono (Kd.R_keep (IsS99.apart (show IsS99 w0 _ g s0_0 t397 from by repeat (first | (with_reducible first | exact HI0.out | apply IsS99.alloc | apply IsS99.drewN | apply IsS99.drew | apply IsS99.set_1 | refine IsS99.far ?_ NB0_395.out _) | exact HI0.out)) (by (with_reducible repeat (first | apply Kd.R_alloc | apply Kd.R_drewN | apply Kd.R_drew)); exact HO400.out) dq37) hk (fun _ h => h.2)) (fun _ h => h.1))
     have n4_ := Aside0.mk (KeepBut.trans dq102 hk (.inl rfl))
     have n5_ := Aside0.mk (hb)
     have n6_ := Aside0.mk (hi)
     clear HO_3
     clear HO391
     clear BK395
     clear HO400
     clear HK
     clear HB
     clear HI0
     have HO_3 := n0_
     have HO391 := n1_
     have BK395 := n2_
     have HO400 := n3_
     have HK := n4_
     have HB := n5_
     have HI0 := n6_
     clear n0_ n1_ n2_ n3_ n4_ n5_ n6_
     (try clear hb)
     (try clear hb2)
     (try clear hk)
     (try clear hi)
     refine hK.out _ _ ⟨(blk_cell BK395.out 0).trans rfl, (blk_cell BK395.out 1).trans rfl, (blk_cell BK395.out 2).trans rfl, (blk_cell BK395.out 3).trans rfl⟩ (fun hHeld => ?_)
     clear hK K
     refine norm_ (a' := ?_) ?_ ?_
     rotate_left
     ·show Act.put _ (some 46) _ = _
      simp only [Act.put, List.setIfInBounds_toArray, List.set_cons_zero, List.set_cons_succ, i64_w, i32_w]
      rfl
     exact norm_ (by simp only [putAll, Act.put, List.setIfInBounds_toArray, List.set_cons_zero, List.set_cons_succ]) (hCont (.slice (some ado36) y398.length co36, ado36) _ ⟨hHeld, dq110, dq109, dq108, ⟨_, rfl⟩, dq107, dq106, dq102, dq105⟩)
    skip
    refine goes_ Tryd.func63 dq30 rfl #[.pointer (some ⟨g, 0, none⟩), .int .i64 4] (by rfl) rfl rfl dq29 ?_
    with_reducible refine (spec_l1Rd_below.calls g s0_0 t397 4 t401 t402 w0 _ ?side1 ?side2 A29.out).mono ?_
    (case side1 => exact dq9)
    (case side2 => exact dq10)
    rintro e w34 ⟨rfl, hi, hb, hk⟩
    refine ⟨_, rfl, ?_⟩
    have n0_ := Aside0.mk (Kd.S_mono (Kd.S_keep (IsS99.apartS (show IsS99 w0 _ g s0_0 t397 from by repeat (first | (with_reducible first | exact HI0.out | apply IsS99.alloc | apply IsS99.drewN | apply IsS99.drew | apply IsS99.set_1 | refine IsS99.far ?_ NB0_395.out _) | exact HI0.out)) dq100 dq37) hk (fun _ h => h.2)) (fun _ h => h.1))
    have n1_ := Aside0.mk (Kd.R_mono (Kd.R_keep (IsS99.apart (show IsS99 w0 _ g s0_0 t397 from by repeat (first | (with_reducible first | exact HI0.out | apply IsS99.alloc | apply IsS99.drewN | apply IsS99.drew | apply IsS99.set_1 | refine IsS99.far ?_ NB0_395.out _) | exact HI0.out)) dq104 dq37) hk (fun _ h => h.2)) (fun _ h => h.1))
    have n2_ := Aside0.mk (KeepBut.blk hk (g' := gb395) (o := .cells #[.int .i64 x5_7, .string (rdOf ByteArray.empty y389 t392), .string (⟨#[]⟩ : ByteArray), .slice none 0 0] 39 (0, 0)) dq107 NB395_0.out dq28)
    have n3_ := Aside0.mk (KeepBut.trans dq102 hk (.inl rfl))
    have n4_ := Aside0.mk (hb)
    have n5_ := Aside0.mk (hi)
    clear HO_3
    clear HO391
    clear BK395
    clear HK
    clear HB
    clear HI0
    have HO_3 := n0_
    have HO391 := n1_
    have BK395 := n2_
    have HK := n3_
    have HB := n4_
    have HI0 := n5_
    clear n0_ n1_ n2_ n3_ n4_ n5_
    (try clear hb)
    (try clear hb2)
    (try clear hk)
    (try clear hi)
    refine hK.out _ _ ⟨(blk_cell BK395.out 0).trans rfl, (blk_cell BK395.out 1).trans rfl, (blk_cell BK395.out 2).trans rfl, (blk_cell BK395.out 3).trans rfl⟩ (fun hHeld => ?_)
    clear hK K
    refine norm_ (a' := ?_) ?_ ?_
    rotate_left
    ·show Act.put _ (some 46) _ = _
     simp only [Act.put, List.setIfInBounds_toArray, List.set_cons_zero, List.set_cons_succ, i64_w, i32_w]
     rfl
    refine one_ (i := 2) (N := some 44) #[true, true, true, true, true, false, false, false, false, false, false, false] rfl rfl (one_of HT_.out dq30) dq37 (fun K hK => ?_)
    refine Kd.R_lit_step Kd.string _ 9 ?hg (N := 44) ?hd (xs := ([(⟨#[49]⟩ : ByteArray), (⟨#[50]⟩ : ByteArray), (⟨#[32, 49]⟩ : ByteArray), (⟨#[51]⟩ : ByteArray)] : List ByteArray)) (inner := [.string (⟨#[49]⟩ : ByteArray), .string (⟨#[50]⟩ : ByteArray), .string (⟨#[32, 49]⟩ : ByteArray), .string (⟨#[51]⟩ : ByteArray)]) (ok := fun _ => True) (okp := fun _ => True) ?hr ?hp (fun _ hk => hk) trivial (Below.refl _ _) (Nat.le_refl _) dq28 ?_; (case hd => rfl); (case hg => rfl); (case hr => exact dq0); (case hp => exact (Reps.one (show Kd.M Kd.string _ _ _ (⟨#[49]⟩ : ByteArray) [.string (⟨#[49]⟩ : ByteArray)] from rfl) (Reps.one (show Kd.M Kd.string _ _ _ (⟨#[50]⟩ : ByteArray) [.string (⟨#[50]⟩ : ByteArray)] from rfl) (Reps.one (show Kd.M Kd.string _ _ _ (⟨#[32, 49]⟩ : ByteArray) [.string (⟨#[32, 49]⟩ : ByteArray)] from rfl) (Reps.one (show Kd.M Kd.string _ _ _ (⟨#[51]⟩ : ByteArray) [.string (⟨#[51]⟩ : ByteArray)] from rfl) (Reps.none _ _))))))
    intro v399 w35 ho36 hb hg_ hnew_
    clear hg_ hnew_
    (first | rw [← Ny398.out] at ho36 | (simp only [Int.reduceToNat] at ho36; rw [← Ny398.out] at ho36))
    have n0_ := Aside0.mk (Kd.S_below dq100 hb)
    have n1_ := Aside0.mk (Kd.R_elder' dq104 (Kd.R_base ho36) hb)
    have n2_ := Aside0.mk (Kd.R_lower (Kd.R_new' ho36 (Kd.R_lt dq104)) (keep_size (w := w) (g := g) (row := none) dq102))
    have n3_ := Aside0.mk (IsS99.below dq106 hb)
    have n4_ := Aside0.mk (blk_below (g := gb395) (o := .cells #[.int .i64 x5_7, .string (rdOf ByteArray.empty y389 t392), .string (⟨#[]⟩ : ByteArray), .slice none 0 0] 39 (0, 0)) dq107 hb)
    have n5_ := Aside0.mk (KeepBut.trans dq102 (KeepBut.of_below hb g none) (.inl rfl))
    have n6_ := Aside0.mk (below_step dq105 hb)
    clear HO_3
    clear HO391
    clear HI0
    clear BK395
    clear HK
    clear HB
    have HO_3 := n0_
    have HO391 := n1_
    have HO400 := n2_
    have HI0 := n3_
    have BK395 := n4_
    have HK := n5_
    have HB := n6_
    clear n0_ n1_ n2_ n3_ n4_ n5_ n6_
    clear hb ho36
    obtain ⟨Ao37, co37, eo37⟩ := Kd.R_slice HO400.out
    subst eo37
    obtain ⟨ado37, fo37, _⟩ := Kd.at_string (Kd.R_reads' HO400.out).2.2 0 dq37 (by rw [Ny398.out]; simp)
    cases fo37
    refine hK.out _ _ ⟨(blk_cell BK395.out 0).trans rfl, (blk_cell BK395.out 1).trans rfl, (blk_cell BK395.out 2).trans rfl, (blk_cell BK395.out 3).trans rfl⟩ (fun hHeld => ?_)
    clear hK K
    refine norm_ (a' := ?_) ?_ ?_
    rotate_left
    ·show Act.put _ (some 44) _ = _
     simp only [Act.put, List.setIfInBounds_toArray, List.set_cons_zero, List.set_cons_succ, i64_w, i32_w]
     rfl
    exact norm_ (by simp only [putAll, Act.put, List.setIfInBounds_toArray, List.set_cons_zero, List.set_cons_succ]) (hCont (.slice (some ado37) y398.length co37, ado37) _ ⟨hHeld, dq110, dq109, dq108, ⟨_, rfl⟩, dq107, dq106, dq102, dq105⟩)
   rintro ⟨v399, adz_v399⟩ w38 ⟨hS_, h0_, h1_, h2_, h3_, h4_, h5_, h6_, h7_⟩
   have n0_ : Aside0 (Kd.R Kd.string 9 w38 w.heap.size (fun k_ => some k_ ≠ (v399 : Value).ownBlock) (.slice (some ad394) y389.length co23) y389) := ⟨h0_⟩
   have n1_ : Aside0 (Kd.R Kd.string 9 w38 w.heap.size (fun k_ => some k_ ≠ (.slice (some ad394) y389.length co23 : Value).ownBlock) v399 y398) := ⟨h1_⟩
   have n2_ : Aside0 (Kd.S k39 39 w38 w.heap.size (fun k_ => k_ ≠ gb395) u3 x3_1) := ⟨h2_⟩
   have n3_ : Aside0 (∃ c_, (v399 : Value) = .slice (some adz_v399) y398.length c_) := ⟨h3_⟩
   have n4_ : Aside0 (w38.heap[gb395]? = some (.cells #[.int .i64 x5_7, .string (rdOf ByteArray.empty y389 t392), .string (⟨#[]⟩ : ByteArray), .slice none 0 0] 39 (0, 0))) := ⟨h4_⟩
   have n5_ : Aside0 (IsS99 w0 w38 g s0_0 t402) := ⟨h5_⟩
   have n6_ : Aside0 (KeepBut w w38 g none) := ⟨h6_⟩
   have n7_ : Aside0 (Below w0.heap.size w0 w38) := ⟨h7_⟩
   clear HO_3
   clear HO391
   clear BK395
   clear HI0
   clear HK
   clear HB
   clear h0_ h1_ h2_ h3_ h4_ h5_ h6_ h7_
   have HO391 := n0_
   have HO400 := n1_
   have HO_3 := n2_
   have HA_HO400 := n3_
   have BK395 := n4_
   have HI0 := n5_
   have HK := n6_
   have HB := n7_
   clear n0_ n1_ n2_ n3_ n4_ n5_ n6_ n7_
   have hHeld : w38.cell? ⟨gb395, 0, none⟩ = some (.int .i64 x5_7) ∧ w38.cell? ⟨gb395, 1, none⟩ = some (.string (rdOf ByteArray.empty y389 t392)) ∧ w38.cell? ⟨gb395, 2, none⟩ = some (.string (⟨#[]⟩ : ByteArray)) ∧ w38.cell? ⟨gb395, 3, none⟩ = some (.slice none 0 0) := hS_
   obtain ⟨co39, eo39⟩ := HA_HO400.out
   clear HA_HO400
   subst eo39
   refine norm_ (a' := ?_) ?_ ?_
   rotate_left
   ·simp only [putAll, Act.put, List.setIfInBounds_toArray, List.set_cons_zero, List.set_cons_succ]
    rfl
   refine pureA (i := 5) (N := some 47) #[true, true, true, true, true, true, false, false, false, false, false, false] ?_
   refine one_ (i := 6) (N := some 48) #[true, true, true, true, true, true, true, false, false, false, false, false] rfl rfl (one_of HT_.out dq30) dq37 (fun K hK => ?_)
   (have p403 : 0 ≤ (t401 : Int) := of_decide_eq_true dq26; have q403 : t401 < (y398.length : Int) := of_decide_eq_true dq26; obtain ⟨ad403, e403, hx403_0⟩ := Kd.at_string (Kd.R_reads' HO400.out).2.2 t401 p403 q403; obtain rfl : adz_v399 = ad403 := (by injection e403))
   refine value_ (w1 := ?_) (v := ?_) (by rfl) rfl ?_ ?_
   rotate_left 2
   ·go_simp
    constructor
    ·rfl
    rfl
   clear hx403_0
   refine hK.out _ _ ⟨(blk_cell BK395.out 0).trans rfl, (blk_cell BK395.out 1).trans rfl, (blk_cell BK395.out 2).trans rfl, (blk_cell BK395.out 3).trans rfl⟩ (fun hHeld => ?_)
   clear hK K
   refine norm_ (a' := ?_) ?_ ?_
   rotate_left
   ·show Act.put _ (some 48) _ = _
    simp only [Act.put, List.setIfInBounds_toArray, List.set_cons_zero, List.set_cons_succ, i64_w, i32_w]
    rfl
   refine pureA (i := 7) (N := some 49) #[true, true, true, true, true, true, true, true, false, false, false, false] ?_
   refine one_ (i := 8) (N := some 50) #[true, true, true, true, true, true, true, true, true, false, false, false] rfl rfl (one_of HT_.out dq30) dq37 (fun K hK => ?_)
   refine value_ (w1 := ?_) (v := ?_) (by rfl) rfl ?_ ?_
   rotate_left 2
   ·go_simp
    constructor
    ·rfl
    rfl
   refine hK.out _ _ ⟨(blk_cell (blk_alloc BK395.out _) 0).trans rfl, (blk_cell (blk_alloc BK395.out _) 1).trans rfl, (blk_cell (blk_alloc BK395.out _) 2).trans rfl, (blk_cell (blk_alloc BK395.out _) 3).trans rfl⟩ (fun hHeld => ?_)
   clear hK K
   refine norm_ (a' := ?_) ?_ ?_
   rotate_left
   ·show Act.put _ (some 50) _ = _
    simp only [Act.put, List.setIfInBounds_toArray, List.set_cons_zero, List.set_cons_succ, i64_w, i32_w]
    rfl
   refine one_ (i := 9) (N := some 51) #[true, true, true, true, true, true, true, true, true, true, false, false] rfl rfl (one_of HT_.out dq30) dq37 (fun K hK => ?_)
   refine Kd.R_append_step k46 w.heap.size (by rfl) (.tmp 43) (.tmp 50) 37 46 (.agg #[(.string ⟨#[]⟩), (.string ⟨#[]⟩)]) 32 rfl Tryd.underlying37 info46 rfl dq37 dq31 (.slice none 0 0) ([] : List (S46)) (⟨(⟨#[97]⟩ : ByteArray), rdOf ByteArray.empty y398 t401⟩ : S46) [.string (⟨#[97]⟩ : ByteArray), .string (rdOf ByteArray.empty y398 t401)] (fun _ => True) (fun _ => False) rfl rfl ?aP (fun _ hk => hk.elim) ?aF ?aO (Below.refl _ _) ?aS ?aL ?_
   (case aP => exact k46_mkM _ _ _ (⟨(⟨#[97]⟩ : ByteArray), rdOf ByteArray.empty y398 t401⟩ : S46))
   (case aF => exact (fun _ _ => trivial))
   (case aO => exact ((Kd.R_nil _ _ _ _ (fun _ => True))))
   (case aS => exact (keep_size (w := w) (g := g) (row := none) dq102))
   (case aL => have := LMc32.out; omega)
   intro v405 w40 ho hb hg hat
   rw [← Ny404.out] at ho
   have n0_ := Aside0.mk (Kd.S_after (Kd.S_apart_nil dq100) hg hat)
   have n1_ := Aside0.mk (IsS99.grown dq106 hg (by simp [Value.ownBlock]))
   have n2_ := Aside0.mk (Kd.R_grown dq104 hg (fun _ _ => by simp [Value.ownBlock]))
   have n3_ := Aside0.mk (blk_grown (g := gb395) (o := .cells #[.int .i64 x5_7, .string (rdOf ByteArray.empty y389 t392), .string (⟨#[]⟩ : ByteArray), .slice none 0 0] 39 (0, 0)) dq107 hg (by simp [Value.ownBlock]))
   have n4_ := Aside0.mk (Kd.R_grown (by (with_reducible repeat (first | apply Kd.R_alloc | apply Kd.R_drewN | apply Kd.R_drew)); exact HO400.out) hg (fun _ _ => by simp [Value.ownBlock]))
   have n5_ := Aside0.mk (below_weaken dq105 HL.out hb)
   have n6_ := Aside0.mk (KeepBut.trans dq102 (KeepBut.of_grown hg g) (.inl (by simp [Value.ownBlock])))
   have n7_ := Aside0.mk (ho)
   clear HO_3
   clear HI0
   clear HO391
   clear BK395
   clear HO400
   clear HB
   clear HK
   have HO_3 := n0_
   have HI0 := n1_
   have HO391 := n2_
   have BK395 := n3_
   have HO400 := n4_
   have HB := n5_
   have HK := n6_
   have HO406 := n7_
   clear n0_ n1_ n2_ n3_ n4_ n5_ n6_ n7_
   clear ho hb hg hat
   obtain ⟨Ao41, co41, eo41⟩ := Kd.R_slice HO406.out
   (first | subst eo41 | (injection eo41 with f1_ f2_ f3_; have f4_ := f1_.symm; have f5_ := f3_.symm; clear f1_ f2_ f3_; subst f4_; subst f5_))
   refine hK.out _ _ ⟨(blk_cell BK395.out 0).trans rfl, (blk_cell BK395.out 1).trans rfl, (blk_cell BK395.out 2).trans rfl, (blk_cell BK395.out 3).trans rfl⟩ (fun hHeld => ?_)
   clear hK K
   refine norm_ (a' := ?_) ?_ ?_
   rotate_left
   ·show Act.put _ (some 51) _ = _
    simp only [Act.put, List.setIfInBounds_toArray, List.set_cons_zero, List.set_cons_succ, i64_w, i32_w]
    rfl
   refine pureA (i := 10) (N := some 52) #[true, true, true, true, true, true, true, true, true, true, true, false] ?_
   refine last_ (i := 11) (N := none) #[true, true, true, true, true, true, true, true, true, true, true, true] rfl rfl (one_of HT_.out dq30) dq37 (fun K hK => ?_)
   have hs42 : w40.cell? ⟨gb395, 3, none⟩ = some (.slice none 0 0) := (blk_cell BK395.out 3).trans rfl
   have hfs42 := blk_frozen BK395.out 3
   refine skip_ (w1 := ?_) (by rfl) rfl ?_ ?_
   rotate_left
   ·go_simp
    rfl
   refine hK.out _ _ ?_
   clear hK K
   refine done_ (done_of HT_.out dq30) ?_
   try go_wp2
   go_meet
   case rel => exact ⟨_, (t402), (y404), (.slice Ao41 y404.length co41), H', ⟨by have := HK1.out; have := HJ7.out; first | omega | exact Nat.le_refl _⟩, ⟨by (with_reducible repeat (first | apply Kd.S_alloc | apply Kd.S_drewN | apply Kd.S_drew)); exact Kd.S_mono (Kd.S_far (p := ⟨gb395, 3, none⟩) (Kd.S_mono HO_3.out (fun k_ hk => (⟨hk, hk.1⟩ : _ ∧ k_ ≠ gb395))) (fun _ hk => hk.2) (.slice Ao41 y404.length co41)) (fun _ hk => ⟨hk.1.2, hk.1.1⟩)⟩, ⟨by (with_reducible repeat (first | apply Kd.R_alloc | apply Kd.R_drewN | apply Kd.R_drew)); exact Kd.R_mono (Kd.R_far (p := ⟨gb395, 3, none⟩) (Kd.R_types HO406.out BK395.out dq37) (fun _ hk => hk.2) (.slice Ao41 y404.length co41)) (fun _ hk => trivial)⟩, ⟨by refine blk_up ?_; refine blk_put (cs := #[.int .i64 x5_7, .string (rdOf ByteArray.empty y389 t392), .string (⟨#[]⟩ : ByteArray), .slice none 0 0]) ?_ 3 _ rfl; refine blk_up ?_; exact BK395.out⟩, ⟨dq106⟩, ⟨dq102⟩, ⟨dq105⟩⟩

/-! ### spec_l1Rd_word: function 107 -/
def spec_l1Rd_word.l0 : Nat → Int → Int → List Int → Int → Option (Int × Int)
 | 0, _, _, _, _ => none
 | k + 1, x3, x4, x1000, x1001 => if x4 < 8 then ((spec_l1Rd_next.f x1000 x1001).bind fun bt421 => (spec_l1Rd_word.l0 k (Go.bits .or .u64 (IntKind.u64.wrap (x3 * 256)) (IntKind.u64.wrap (bt421.1))) (wrap64 (x4 + 1)) x1000 bt421.2)) else (some (x3, x1001))
def spec_l1Rd_word.f (k : Nat) (s0_0 : List Int) (s0_1 : Int) : Option (Int × Int) := spec_l1Rd_word.l0 k 0 0 s0_0 s0_1
set_option maxHeartbeats 8000000 in
set_option maxRecDepth 100000 in
theorem spec_l1Rd_word.calls (k : Nat) (g : Nat) (s0_0 : List Int) (s0_1 : Int) (r1 : Int) (r2 : Int) (w0 w : World) (hI : IsS99 w0 w g s0_0 s0_1) (hB : Below w0.heap.size w0 w) (h : spec_l1Rd_word.f k s0_0 s0_1 = some (r1, r2)) :
  Calls Tryd.prog 107 #[.pointer (some ⟨g, 0, none⟩)] w fun e w' => e = .returned (.int .u64 r1) ∧ IsS99 w0 w' g s0_0 r2 ∧ Below w0.heap.size w0 w' ∧ KeepBut w w' g none := by
 have HI0 := Aside0.mk hI
 have HK := Aside0.mk (KeepBut.refl w g none)
 have HL := Aside0.mk hB.size
 clear hI
 have HW0 := Aside0.mk hB.size
 have HB := Aside0.mk hB
 clear hB
 have H : (spec_l1Rd_word.l0 k 0 0 s0_0 s0_1) = some (r1, r2) := h
 clear h
 have H' := Aside0.mk H
 clear H
 go_enter Tryd.func107, Tryd.ntmps107
 go_wp2
 go_loopg [3, 4] k (fun kq v3 v4 w' => ∃ (x3_1 : Int) (x4_1 : Int) (x1001_1 : Int), v3 = .int .u64 x3_1 ∧ v4 = .int .i64 x4_1 ∧ Aside0 (spec_l1Rd_word.l0 kq x3_1 x4_1 s0_0 x1001_1 = some (r1, r2)) ∧ Aside0 (kq ≤ k) ∧ Aside0 (IsS99 w0 w' g s0_0 x1001_1) ∧ Aside0 (KeepBut w w' g none) ∧ Aside0 (Below w0.heap.size w0 w'))
 case atStart => exact ⟨(0), (0), (s0_1), dq25, dq25, H', ⟨Nat.le_refl _⟩, ⟨dq99⟩, ⟨dq97⟩, ⟨dq98⟩⟩
 clear H'
 try clear c1
 obtain ⟨x3_1, x4_1, x1001_1, rfl, rfl, HA, HK1, HI0, HK, HB⟩ := hrel
 cases gk with
 | zero => exact absurd HA.out (by simp [spec_l1Rd_word.l0])
 | succ k1 =>
  have H := HA.out
  clear HA
  simp only [spec_l1Rd_word.l0] at H
  by_cases c2 : x4_1 < 8
  rotate_left
  ·rw [if_neg c2] at H
   have c2b0 := decide_eq_false c2
   clear c2
   simp only [Option.some.injEq, Prod.mk.injEq] at H
   obtain ⟨rfl, rfl⟩ := H
   go_wp2
   go_ret
   exact ⟨dq35, dq99, dq98, dq97⟩
  rw [if_pos c2] at H
  have c2b0 := decide_eq_true c2
  clear c2
  replace H := Option.bind_eq_some_iff.mp H
  obtain ⟨⟨t421, t422⟩, A30, H⟩ := H
  replace H : (spec_l1Rd_word.l0 k1 (Go.bits .or .u64 (IntKind.u64.wrap (x3_1 * 256)) (IntKind.u64.wrap (t421))) (wrap64 (x4_1 + 1)) s0_0 t422) = some (r1, r2) := H
  have A3 := Aside0.mk A30
  clear A30
  have H' := Aside0.mk H
  clear H
  go_wp2_with (first | ((with_reducible refine gate_callee (f := 93) rfl ?_); refine goesL_ (some 12) rfl rfl Tryd.func93 dq30 rfl #[.pointer (some ⟨g, 0, none⟩)] rfl dq29 ?_; (with_reducible refine (spec_l1Rd_next.calls g s0_0 x1001_1 t421 t422 w0 _ ?side1 ?side2 A3.out).mono ?_); (case side1 => exact dq7); (case side2 => exact dq8); rintro e w4 ⟨rfl, hi, hb, hk⟩; refine ⟨_, rfl, ?_⟩; have n0_ := Aside0.mk (KeepBut.trans dq97 hk (.inl rfl)); have n1_ := Aside0.mk (hb); have n2_ := Aside0.mk (hi); clear HK; clear HB; clear HI0; have HK := n0_; have HB := n1_; have HI0 := n2_; clear n0_ n1_ n2_; (try clear hb); (try clear hb2); (try clear hk); (try clear hi)))
  go_roundg k1
  case measure => have := HK1.out; omega
  case rel => exact ⟨(Go.bits .or .u64 (IntKind.u64.wrap (x3_1 * 256)) (IntKind.u64.wrap (t421))), (wrap64 (x4_1 + 1)), (t422), dq25, dq25, H', ⟨dq27⟩, ⟨dq99⟩, ⟨dq97⟩, ⟨dq98⟩⟩

/-! ### spec_l1Rd_near: function 89 -/
def spec_l1Rd_near.f (k : Nat) (s0_0 : List Int) (s0_1 : Int) (a1 : Int) (a2 : Int) : Option (Int × Int) := (spec_l1Rd_below.f s0_0 s0_1 8).bind fun bt423 => (if bt423.1 = 0 then (some (a1, bt423.2)) else (if bt423.1 = 1 then (some (a2, bt423.2)) else (if a2 < a1 then (some (a1, bt423.2)) else ((spec_l1Rd_word.f k s0_0 bt423.2).bind fun bt425 => (if (IntKind.u64.wrap (wrap64 ((wrap64 (a2 - a1)) + 1))) = 0 then (none) else (some (wrap64 (a1 + (wrap64 (Int.tmod (bt425.1 / 2) (IntKind.u64.wrap (wrap64 ((wrap64 (a2 - a1)) + 1)))))), bt425.2)))))))
set_option maxHeartbeats 8000000 in
set_option maxRecDepth 100000 in
theorem spec_l1Rd_near.calls (k : Nat) (g : Nat) (s0_0 : List Int) (s0_1 : Int) (a1 : Int) (a2 : Int) (r1 : Int) (r2 : Int) (w0 w : World) (hI : IsS99 w0 w g s0_0 s0_1) (hB : Below w0.heap.size w0 w) (h : spec_l1Rd_near.f k s0_0 s0_1 a1 a2 = some (r1, r2)) :
  Calls Tryd.prog 89 #[.pointer (some ⟨g, 0, none⟩), .int .i64 a1, .int .i64 a2] w fun e w' => e = .returned (.int .i64 r1) ∧ IsS99 w0 w' g s0_0 r2 ∧ Below w0.heap.size w0 w' ∧ KeepBut w w' g none := by
 have HI0 := Aside0.mk hI
 have HK := Aside0.mk (KeepBut.refl w g none)
 have HL := Aside0.mk hB.size
 clear hI
 have HW0 := Aside0.mk hB.size
 have HB := Aside0.mk hB
 clear hB
 have H : ((spec_l1Rd_below.f s0_0 s0_1 8).bind fun bt423 => (if bt423.1 = 0 then (some (a1, bt423.2)) else (if bt423.1 = 1 then (some (a2, bt423.2)) else (if a2 < a1 then (some (a1, bt423.2)) else ((spec_l1Rd_word.f k s0_0 bt423.2).bind fun bt425 => (if (IntKind.u64.wrap (wrap64 ((wrap64 (a2 - a1)) + 1))) = 0 then (none) else (some (wrap64 (a1 + (wrap64 (Int.tmod (bt425.1 / 2) (IntKind.u64.wrap (wrap64 ((wrap64 (a2 - a1)) + 1)))))), bt425.2)))))))) = some (r1, r2) := h
 clear h
 replace H := Option.bind_eq_some_iff.mp H
 obtain ⟨⟨t423, t424⟩, A40, H⟩ := H
 replace H : (if t423 = 0 then (some (a1, t424)) else (if t423 = 1 then (some (a2, t424)) else (if a2 < a1 then (some (a1, t424)) else ((spec_l1Rd_word.f k s0_0 t424).bind fun bt425 => (if (IntKind.u64.wrap (wrap64 ((wrap64 (a2 - a1)) + 1))) = 0 then (none) else (some (wrap64 (a1 + (wrap64 (Int.tmod (bt425.1 / 2) (IntKind.u64.wrap (wrap64 ((wrap64 (a2 - a1)) + 1)))))), bt425.2))))))) = some (r1, r2) := H
 have A4 := Aside0.mk A40
 clear A40
 by_cases c5 : t423 = 0
 ·rw [if_pos c5] at H
  have c5b0 := beq_iff_eq.mpr c5
  have c5b1 := bne_eq_false_iff_eq.mpr c5
  clear c5
  simp only [Option.some.injEq, Prod.mk.injEq] at H
  obtain ⟨rfl, rfl⟩ := H
  go_enter Tryd.func89, Tryd.ntmps89
  go_wp2_with (first | ((with_reducible refine gate_callee (f := 63) rfl ?_); refine goesL_ (some 8) rfl rfl Tryd.func63 dq30 rfl #[.pointer (some ⟨g, 0, none⟩), .int .i64 8] rfl dq29 ?_; (with_reducible refine (spec_l1Rd_below.calls g s0_0 s0_1 8 t423 t424 w0 _ ?side1 ?side2 A4.out).mono ?_); (case side1 => exact dq7); (case side2 => exact dq8); rintro e w6 ⟨rfl, hi, hb, hk⟩; refine ⟨_, rfl, ?_⟩; have n0_ := Aside0.mk (KeepBut.trans dq97 hk (.inl rfl)); have n1_ := Aside0.mk (hb); have n2_ := Aside0.mk (hi); clear HK; clear HB; clear HI0; have HK := n0_; have HB := n1_; have HI0 := n2_; clear n0_ n1_ n2_; (try clear hb); (try clear hb2); (try clear hk); (try clear hi)))
  go_ret
  exact ⟨dq35, dq99, dq98, dq97⟩
 rw [if_neg c5] at H
 have c5b0 := beq_eq_false_iff_ne.mpr c5
 have c5b1 := bne_iff_ne.mpr c5
 by_cases c7 : t423 = 1
 ·rw [if_pos c7] at H
  have c7b0 := beq_iff_eq.mpr c7
  have c7b1 := bne_eq_false_iff_eq.mpr c7
  clear c7
  simp only [Option.some.injEq, Prod.mk.injEq] at H
  obtain ⟨rfl, rfl⟩ := H
  go_enter Tryd.func89, Tryd.ntmps89
  go_wp2_with (first | ((with_reducible refine gate_callee (f := 63) rfl ?_); refine goesL_ (some 8) rfl rfl Tryd.func63 dq30 rfl #[.pointer (some ⟨g, 0, none⟩), .int .i64 8] rfl dq29 ?_; (with_reducible refine (spec_l1Rd_below.calls g s0_0 s0_1 8 t423 t424 w0 _ ?side1 ?side2 A4.out).mono ?_); (case side1 => exact dq7); (case side2 => exact dq8); rintro e w8 ⟨rfl, hi, hb, hk⟩; refine ⟨_, rfl, ?_⟩; have n0_ := Aside0.mk (KeepBut.trans dq97 hk (.inl rfl)); have n1_ := Aside0.mk (hb); have n2_ := Aside0.mk (hi); clear HK; clear HB; clear HI0; have HK := n0_; have HB := n1_; have HI0 := n2_; clear n0_ n1_ n2_; (try clear hb); (try clear hb2); (try clear hk); (try clear hi)))
  go_ret
  exact ⟨dq35, dq99, dq98, dq97⟩
 rw [if_neg c7] at H
 have c7b0 := beq_eq_false_iff_ne.mpr c7
 have c7b1 := bne_iff_ne.mpr c7
 by_cases c9 : a2 < a1
 ·rw [if_pos c9] at H
  have c9b0 := decide_eq_true c9
  clear c9
  simp only [Option.some.injEq, Prod.mk.injEq] at H
  obtain ⟨rfl, rfl⟩ := H
  go_enter Tryd.func89, Tryd.ntmps89
  go_wp2_with (first | ((with_reducible refine gate_callee (f := 63) rfl ?_); refine goesL_ (some 8) rfl rfl Tryd.func63 dq30 rfl #[.pointer (some ⟨g, 0, none⟩), .int .i64 8] rfl dq29 ?_; (with_reducible refine (spec_l1Rd_below.calls g s0_0 s0_1 8 t423 t424 w0 _ ?side1 ?side2 A4.out).mono ?_); (case side1 => exact dq7); (case side2 => exact dq8); rintro e w10 ⟨rfl, hi, hb, hk⟩; refine ⟨_, rfl, ?_⟩; have n0_ := Aside0.mk (KeepBut.trans dq97 hk (.inl rfl)); have n1_ := Aside0.mk (hb); have n2_ := Aside0.mk (hi); clear HK; clear HB; clear HI0; have HK := n0_; have HB := n1_; have HI0 := n2_; clear n0_ n1_ n2_; (try clear hb); (try clear hb2); (try clear hk); (try clear hi)))
  go_ret
  exact ⟨dq35, dq99, dq98, dq97⟩
 rw [if_neg c9] at H
 have c9b0 := decide_eq_false c9
 clear c9
 replace H := Option.bind_eq_some_iff.mp H
 obtain ⟨⟨t425, t426⟩, A110, H⟩ := H
 replace H : (if (IntKind.u64.wrap (wrap64 ((wrap64 (a2 - a1)) + 1))) = 0 then (none) else (some (wrap64 (a1 + (wrap64 (Int.tmod (t425 / 2) (IntKind.u64.wrap (wrap64 ((wrap64 (a2 - a1)) + 1)))))), t426))) = some (r1, r2) := H
 have A11 := Aside0.mk A110
 clear A110
 by_cases c12 : (IntKind.u64.wrap (wrap64 ((wrap64 (a2 - a1)) + 1))) = 0
 ·rw [if_pos c12] at H
  exact absurd H dq28
 rw [if_neg c12] at H
 have c12b0 := beq_eq_false_iff_ne.mpr c12
 have c12b1 := bne_iff_ne.mpr c12
 simp only [Option.some.injEq, Prod.mk.injEq] at H
 obtain ⟨rfl, rfl⟩ := H
 go_enter Tryd.func89, Tryd.ntmps89
 go_wp2_with (first | ((with_reducible refine gate_callee (f := 63) rfl ?_); refine goesL_ (some 8) rfl rfl Tryd.func63 dq30 rfl #[.pointer (some ⟨g, 0, none⟩), .int .i64 8] rfl dq29 ?_; (with_reducible refine (spec_l1Rd_below.calls g s0_0 s0_1 8 t423 t424 w0 _ ?side1 ?side2 A4.out).mono ?_); (case side1 => exact dq7); (case side2 => exact dq8); rintro e w13 ⟨rfl, hi, hb, hk⟩; refine ⟨_, rfl, ?_⟩; have n0_ := Aside0.mk (KeepBut.trans dq97 hk (.inl rfl)); have n1_ := Aside0.mk (hb); have n2_ := Aside0.mk (hi); clear HK; clear HB; clear HI0; have HK := n0_; have HB := n1_; have HI0 := n2_; clear n0_ n1_ n2_; (try clear hb); (try clear hb2); (try clear hk); (try clear hi)) | ((with_reducible refine gate_callee (f := 107) rfl ?_); refine goesL_ (some 21) rfl rfl Tryd.func107 dq30 rfl #[.pointer (some ⟨g, 0, none⟩)] rfl dq29 ?_; (with_reducible refine (spec_l1Rd_word.calls k g s0_0 t424 t425 t426 w0 _ ?side1 ?side2 A11.out).mono ?_); (case side1 => exact dq7); (case side2 => exact dq8); rintro e w14 ⟨rfl, hi, hb, hk⟩; refine ⟨_, rfl, ?_⟩; have n0_ := Aside0.mk (KeepBut.trans dq97 hk (.inl rfl)); have n1_ := Aside0.mk (hb); have n2_ := Aside0.mk (hi); clear HK; clear HB; clear HI0; have HK := n0_; have HB := n1_; have HI0 := n2_; clear n0_ n1_ n2_; (try clear hb); (try clear hb2); (try clear hk); (try clear hi)))
 go_ret
 exact ⟨dq35, dq99, dq98, dq97⟩

/-! ### spec_l1Rd_off: function 54 -/
def spec_l1Rd_off.f (k : Nat) (s0_0 : List Int) (s0_1 : Int) (a1 : Int) (a2 : Int) : Option (Int × Int) := (spec_l1Rd_once.f s0_0 s0_1 24).bind fun bt427 => (if bt427.1 = true then ((some (([wrap64 (a1 - 1), wrap64 (a2 + 1), (-9223372036854775808), 9223372036854775807] : List Int) : List Int)).bind fun y429 => ((spec_l1Rd_below.f s0_0 bt427.2 4).bind fun bt432 => (if 0 ≤ bt432.1 then (if bt432.1 < (y429.length : Int) then (some (rd y429 bt432.1, bt432.2)) else (none)) else (none)))) else ((spec_l1Rd_near.f k s0_0 bt427.2 a1 a2).bind fun bt435 => (some (bt435.1, bt435.2))))
set_option maxHeartbeats 8000000 in
set_option maxRecDepth 100000 in
theorem spec_l1Rd_off.calls (k : Nat) (g : Nat) (s0_0 : List Int) (s0_1 : Int) (a1 : Int) (a2 : Int) (r1 : Int) (r2 : Int) (w0 w : World) (hI : IsS99 w0 w g s0_0 s0_1) (hB : Below w0.heap.size w0 w) (h : spec_l1Rd_off.f k s0_0 s0_1 a1 a2 = some (r1, r2)) :
  Calls Tryd.prog 54 #[.pointer (some ⟨g, 0, none⟩), .int .i64 a1, .int .i64 a2] w fun e w' => e = .returned (.int .i64 r1) ∧ IsS99 w0 w' g s0_0 r2 ∧ Below w0.heap.size w0 w' ∧ KeepBut w w' g none := by
 have HI0 := Aside0.mk hI
 have HK := Aside0.mk (KeepBut.refl w g none)
 have HL := Aside0.mk hB.size
 clear hI
 have HW0 := Aside0.mk hB.size
 have HB := Aside0.mk hB
 clear hB
 have H : ((spec_l1Rd_once.f s0_0 s0_1 24).bind fun bt427 => (if bt427.1 = true then ((some (([wrap64 (a1 - 1), wrap64 (a2 + 1), (-9223372036854775808), 9223372036854775807] : List Int) : List Int)).bind fun y429 => ((spec_l1Rd_below.f s0_0 bt427.2 4).bind fun bt432 => (if 0 ≤ bt432.1 then (if bt432.1 < (y429.length : Int) then (some (rd y429 bt432.1, bt432.2)) else (none)) else (none)))) else ((spec_l1Rd_near.f k s0_0 bt427.2 a1 a2).bind fun bt435 => (some (bt435.1, bt435.2))))) = some (r1, r2) := h
 clear h
 replace H := Option.bind_eq_some_iff.mp H
 obtain ⟨⟨t427, t428⟩, A40, H⟩ := H
 replace H : (if t427 = true then ((some (([wrap64 (a1 - 1), wrap64 (a2 + 1), (-9223372036854775808), 9223372036854775807] : List Int) : List Int)).bind fun y429 => ((spec_l1Rd_below.f s0_0 t428 4).bind fun bt432 => (if 0 ≤ bt432.1 then (if bt432.1 < (y429.length : Int) then (some (rd y429 bt432.1, bt432.2)) else (none)) else (none)))) else ((spec_l1Rd_near.f k s0_0 t428 a1 a2).bind fun bt435 => (some (bt435.1, bt435.2)))) = some (r1, r2) := H
 have A4 := Aside0.mk A40
 clear A40
 by_cases c5 : t427 = true
 rotate_left
 ·replace c5 := Bool.eq_false_iff.mpr c5
  subst c5
  have H1 : ((spec_l1Rd_near.f k s0_0 t428 a1 a2).bind fun bt435 => (some (bt435.1, bt435.2))) = some (r1, r2) := by rw [if_neg (show ¬ (false = true) by decide)] at H; exact H
  clear H
  have H := H1
  clear H1
  replace H := Option.bind_eq_some_iff.mp H
  obtain ⟨⟨t435, t436⟩, A140, H⟩ := H
  replace H : (some (t435, t436)) = some (r1, r2) := H
  have A14 := Aside0.mk A140
  clear A140
  simp only [Option.some.injEq, Prod.mk.injEq] at H
  obtain ⟨rfl, rfl⟩ := H
  go_enter Tryd.func54, Tryd.ntmps54
  go_wp2_with (first | ((with_reducible refine gate_callee (f := 52) rfl ?_); refine goesL_ (some 8) rfl rfl Tryd.func52 dq30 rfl #[.pointer (some ⟨g, 0, none⟩), .int .i64 24] rfl dq29 ?_; (with_reducible refine (spec_l1Rd_once.calls g s0_0 s0_1 24 false t428 w0 _ ?side1 ?side2 A4.out).mono ?_); (case side1 => exact dq7); (case side2 => exact dq8); rintro e w15 ⟨rfl, hi, hb, hk⟩; refine ⟨_, rfl, ?_⟩; have n0_ := Aside0.mk (KeepBut.trans dq97 hk (.inl rfl)); have n1_ := Aside0.mk (hb); have n2_ := Aside0.mk (hi); clear HK; clear HB; clear HI0; have HK := n0_; have HB := n1_; have HI0 := n2_; clear n0_ n1_ n2_; (try clear hb); (try clear hb2); (try clear hk); (try clear hi)) | ((with_reducible refine gate_callee (f := 89) rfl ?_); refine goesL_ (some 21) rfl rfl Tryd.func89 dq30 rfl #[.pointer (some ⟨g, 0, none⟩), .int .i64 a1, .int .i64 a2] rfl dq29 ?_; (with_reducible refine (spec_l1Rd_near.calls k g s0_0 t428 a1 a2 t435 t436 w0 _ ?side1 ?side2 A14.out).mono ?_); (case side1 => exact dq7); (case side2 => exact dq8); rintro e w16 ⟨rfl, hi, hb, hk⟩; refine ⟨_, rfl, ?_⟩; have n0_ := Aside0.mk (KeepBut.trans dq97 hk (.inl rfl)); have n1_ := Aside0.mk (hb); have n2_ := Aside0.mk (hi); clear HK; clear HB; clear HI0; have HK := n0_; have HB := n1_; have HI0 := n2_; clear n0_ n1_ n2_; (try clear hb); (try clear hb2); (try clear hk); (try clear hi)))
  go_ret
  exact ⟨dq35, dq99, dq98, dq97⟩
 subst c5
 have H1 : ((some (([wrap64 (a1 - 1), wrap64 (a2 + 1), (-9223372036854775808), 9223372036854775807] : List Int) : List Int)).bind fun y429 => ((spec_l1Rd_below.f s0_0 t428 4).bind fun bt432 => (if 0 ≤ bt432.1 then (if bt432.1 < (y429.length : Int) then (some (rd y429 bt432.1, bt432.2)) else (none)) else (none)))) = some (r1, r2) := by rw [if_pos rfl] at H; exact H
 clear H
 have H := H1
 clear H1
 obtain ⟨y429, hy429⟩ : ∃ y_ : List Int, y_ = (([wrap64 (a1 - 1), wrap64 (a2 + 1), (-9223372036854775808), 9223372036854775807] : List Int)) := ⟨_, rfl⟩
 replace H : ((spec_l1Rd_below.f s0_0 t428 4).bind fun bt432 => (if 0 ≤ bt432.1 then (if bt432.1 < (y429.length : Int) then (some (rd y429 bt432.1, bt432.2)) else (none)) else (none))) = some (r1, r2) := by first | (rw [hy429]; with_reducible exact H) | (have H2_ := (Option.bind_some _ _).symm.trans H; rw [hy429]; with_reducible exact H2_) | (have H2_ := (Option.bind_some _ _).symm.trans H; with_reducible exact H2_) | with_reducible exact H | (rw [hy429]; exact H) | exact H
 have Ny429 := Aside0.mk hy429
 clear hy429
 replace H := Option.bind_eq_some_iff.mp H
 obtain ⟨⟨t432, t433⟩, A60, H⟩ := H
 replace H : (if 0 ≤ t432 then (if t432 < (y429.length : Int) then (some (rd y429 t432, t433)) else (none)) else (none)) = some (r1, r2) := H
 have A6 := Aside0.mk A60
 clear A60
 by_cases c7 : 0 ≤ t432
 rotate_left
 ·rw [if_neg c7] at H
  exact absurd H dq28
 rw [if_pos c7] at H
 have c7b0 := decide_eq_true c7
 clear c7
 by_cases c8 : t432 < (y429.length : Int)
 rotate_left
 ·rw [if_neg c8] at H
  exact absurd H dq28
 rw [if_pos c8] at H
 have c8b0 := decide_eq_true c8
 clear c8
 simp only [Option.some.injEq, Prod.mk.injEq] at H
 obtain ⟨rfl, rfl⟩ := H
 go_enter Tryd.func54, Tryd.ntmps54
 go_wp2_with (first | ((with_reducible refine gate_callee (f := 52) rfl ?_); refine goesL_ (some 8) rfl rfl Tryd.func52 dq30 rfl #[.pointer (some ⟨g, 0, none⟩), .int .i64 24] rfl dq29 ?_; (with_reducible refine (spec_l1Rd_once.calls g s0_0 s0_1 24 true t428 w0 _ ?side1 ?side2 A4.out).mono ?_); (case side1 => exact dq7); (case side2 => exact dq8); rintro e w9 ⟨rfl, hi, hb, hk⟩; refine ⟨_, rfl, ?_⟩; have n0_ := Aside0.mk (KeepBut.trans dq97 hk (.inl rfl)); have n1_ := Aside0.mk (hb); have n2_ := Aside0.mk (hi); clear HK; clear HB; clear HI0; have HK := n0_; have HB := n1_; have HI0 := n2_; clear n0_ n1_ n2_; (try clear hb); (try clear hb2); (try clear hk); (try clear hi)) | ((with_reducible refine gate_dst (N := 13) rfl ?_); refine Kd.R_lit (Kd.int .i64) _ 2 ?hg (N := 13) ?hd (xs := ([wrap64 (a1 - 1), wrap64 (a2 + 1), (-9223372036854775808), 9223372036854775807] : List Int)) (inner := [.int .i64 (wrap64 (a1 - 1)), .int .i64 (wrap64 (a2 + 1)), .int .i64 (-9223372036854775808), .int .i64 9223372036854775807]) (ok := fun _ => True) (okp := fun _ => True) ?hr ?hp (fun _ hk => hk) trivial (Below.refl _ _) (Nat.le_refl _) dq28 ?_; (case hd => rfl); (case hg => rfl); (case hr => exact dq0); (case hp => exact (Reps.one (show Kd.M (Kd.int .i64) _ _ _ (wrap64 (a1 - 1)) [.int .i64 (wrap64 (a1 - 1))] from rfl) (Reps.one (show Kd.M (Kd.int .i64) _ _ _ (wrap64 (a2 + 1)) [.int .i64 (wrap64 (a2 + 1))] from rfl) (Reps.one (show Kd.M (Kd.int .i64) _ _ _ (-9223372036854775808) [.int .i64 (-9223372036854775808)] from rfl) (Reps.one (show Kd.M (Kd.int .i64) _ _ _ 9223372036854775807 [.int .i64 9223372036854775807] from rfl) (Reps.none _ _)))))); intro v430 w10 ho11 hb hg_ hnew_; clear hg_ hnew_; (first | rw [← Ny429.out] at ho11 | (simp only [Int.reduceToNat] at ho11; rw [← Ny429.out] at ho11)); have n0_ := Aside0.mk (Kd.R_lower ho11 (keep_size (w := w) (g := g) (row := none) dq97)); have n1_ := Aside0.mk (IsS99.below dq99 hb); have n2_ := Aside0.mk (KeepBut.trans dq97 (KeepBut.of_below hb g none) (.inl rfl)); have n3_ := Aside0.mk (below_step dq98 hb); clear HI0; clear HK; clear HB; have HO431 := n0_; have HI0 := n1_; have HK := n2_; have HB := n3_; clear n0_ n1_ n2_ n3_; clear hb ho11) | ((with_reducible refine gate_callee (f := 63) rfl ?_); refine goesL_ (some 15) rfl rfl Tryd.func63 dq30 rfl #[.pointer (some ⟨g, 0, none⟩), .int .i64 4] rfl dq29 ?_; (with_reducible refine (spec_l1Rd_below.calls g s0_0 t428 4 t432 t433 w0 _ ?side1 ?side2 A6.out).mono ?_); (case side1 => exact dq7); (case side2 => exact dq8); rintro e w12 ⟨rfl, hi, hb, hk⟩; refine ⟨_, rfl, ?_⟩; have n0_ := Aside0.mk (Kd.R_mono (Kd.R_keep (IsS99.apart (show IsS99 w0 _ g s0_0 t428 from by repeat (first | (with_reducible first | exact HI0.out | apply IsS99.alloc | apply IsS99.drewN | apply IsS99.drew | apply IsS99.set_1) | exact HI0.out)) (by (with_reducible repeat (first | apply Kd.R_alloc | apply Kd.R_drewN | apply Kd.R_drew)); exact HO431.out) dq37) hk (fun _ h => h.2)) (fun _ h => h.1)); have n1_ := Aside0.mk (KeepBut.trans dq97 hk (.inl rfl)); have n2_ := Aside0.mk (hb); have n3_ := Aside0.mk (hi); clear HO431; clear HK; clear HB; clear HI0; have HO431 := n0_; have HK := n1_; have HB := n2_; have HI0 := n3_; clear n0_ n1_ n2_ n3_; (try clear hb); (try clear hb2); (try clear hk); (try clear hi); obtain ⟨Ao13, co13, eo13⟩ := Kd.R_slice HO431.out; subst eo13; have p434 : 0 ≤ (t432 : Int) := of_decide_eq_true dq26; have q434 : t432 < (y429.length : Int) := of_decide_eq_true dq26; obtain ⟨ad434, e434, hx434_0⟩ := Kd.at_int (Kd.R_reads' HO431.out).2.2 t432 p434 q434; cases e434; replace p434 := eq_true p434; replace q434 := eq_true q434))
 go_ret
 exact ⟨dq35, dq99, dq98, dq97⟩

/-! ### spec_l1Rd_name: function 87 -/
def spec_l1Rd_name.f (s0_0 : List Int) (s0_1 : Int) : Option (ByteArray × Int) := (some (([(⟨#[97]⟩ : ByteArray), (⟨#[98]⟩ : ByteArray), (⟨#[99]⟩ : ByteArray), (⟨#[100]⟩ : ByteArray), (⟨#[120, 49]⟩ : ByteArray), (⟨#[95, 121]⟩ : ByteArray), (⟨#[97, 46, 98, 45, 99]⟩ : ByteArray)] : List ByteArray) : List ByteArray)).bind fun y437 => ((spec_l1Rd_below.f s0_0 s0_1 7).bind fun bt440 => (if 0 ≤ bt440.1 then (if bt440.1 < (y437.length : Int) then (some (rdOf ByteArray.empty y437 bt440.1, bt440.2)) else (none)) else (none)))
set_option maxHeartbeats 8000000 in
set_option maxRecDepth 100000 in
theorem spec_l1Rd_name.calls (g : Nat) (s0_0 : List Int) (s0_1 : Int) (r1 : ByteArray) (r2 : Int) (w0 w : World) (hI : IsS99 w0 w g s0_0 s0_1) (hB : Below w0.heap.size w0 w) (h : spec_l1Rd_name.f s0_0 s0_1 = some (r1, r2)) :
  Calls Tryd.prog 87 #[.pointer (some ⟨g, 0, none⟩)] w fun e w' => e = .returned (.string r1) ∧ IsS99 w0 w' g s0_0 r2 ∧ Below w0.heap.size w0 w' ∧ KeepBut w w' g none := by
 have HI0 := Aside0.mk hI
 have HK := Aside0.mk (KeepBut.refl w g none)
 have HL := Aside0.mk hB.size
 clear hI
 have HW0 := Aside0.mk hB.size
 have HB := Aside0.mk hB
 clear hB
 have H : ((some (([(⟨#[97]⟩ : ByteArray), (⟨#[98]⟩ : ByteArray), (⟨#[99]⟩ : ByteArray), (⟨#[100]⟩ : ByteArray), (⟨#[120, 49]⟩ : ByteArray), (⟨#[95, 121]⟩ : ByteArray), (⟨#[97, 46, 98, 45, 99]⟩ : ByteArray)] : List ByteArray) : List ByteArray)).bind fun y437 => ((spec_l1Rd_below.f s0_0 s0_1 7).bind fun bt440 => (if 0 ≤ bt440.1 then (if bt440.1 < (y437.length : Int) then (some (rdOf ByteArray.empty y437 bt440.1, bt440.2)) else (none)) else (none)))) = some (r1, r2) := h
 clear h
 obtain ⟨y437, hy437⟩ : ∃ y_ : List ByteArray, y_ = (([(⟨#[97]⟩ : ByteArray), (⟨#[98]⟩ : ByteArray), (⟨#[99]⟩ : ByteArray), (⟨#[100]⟩ : ByteArray), (⟨#[120, 49]⟩ : ByteArray), (⟨#[95, 121]⟩ : ByteArray), (⟨#[97, 46, 98, 45, 99]⟩ : ByteArray)] : List ByteArray)) := ⟨_, rfl⟩
 replace H : ((spec_l1Rd_below.f s0_0 s0_1 7).bind fun bt440 => (if 0 ≤ bt440.1 then (if bt440.1 < (y437.length : Int) then (some (rdOf ByteArray.empty y437 bt440.1, bt440.2)) else (none)) else (none))) = some (r1, r2) := by first | (rw [hy437]; with_reducible exact H) | (have H2_ := (Option.bind_some _ _).symm.trans H; rw [hy437]; with_reducible exact H2_) | (have H2_ := (Option.bind_some _ _).symm.trans H; with_reducible exact H2_) | with_reducible exact H | (rw [hy437]; exact H) | exact H
 have Ny437 := Aside0.mk hy437
 clear hy437
 replace H := Option.bind_eq_some_iff.mp H
 obtain ⟨⟨t440, t441⟩, A20, H⟩ := H
 replace H : (if 0 ≤ t440 then (if t440 < (y437.length : Int) then (some (rdOf ByteArray.empty y437 t440, t441)) else (none)) else (none)) = some (r1, r2) := H
 have A2 := Aside0.mk A20
 clear A20
 by_cases c3 : 0 ≤ t440
 rotate_left
 ·rw [if_neg c3] at H
  exact absurd H dq28
 rw [if_pos c3] at H
 have c3b0 := decide_eq_true c3
 clear c3
 by_cases c4 : t440 < (y437.length : Int)
 rotate_left
 ·rw [if_neg c4] at H
  exact absurd H dq28
 rw [if_pos c4] at H
 have c4b0 := decide_eq_true c4
 clear c4
 simp only [Option.some.injEq, Prod.mk.injEq] at H
 obtain ⟨rfl, rfl⟩ := H
 go_enter Tryd.func87, Tryd.ntmps87
 go_wp2_with (first | ((with_reducible refine gate_dst (N := 3) rfl ?_); refine Kd.R_lit Kd.string _ 9 ?hg (N := 3) ?hd (xs := ([(⟨#[97]⟩ : ByteArray), (⟨#[98]⟩ : ByteArray), (⟨#[99]⟩ : ByteArray), (⟨#[100]⟩ : ByteArray), (⟨#[120, 49]⟩ : ByteArray), (⟨#[95, 121]⟩ : ByteArray), (⟨#[97, 46, 98, 45, 99]⟩ : ByteArray)] : List ByteArray)) (inner := [.string (⟨#[97]⟩ : ByteArray), .string (⟨#[98]⟩ : ByteArray), .string (⟨#[99]⟩ : ByteArray), .string (⟨#[100]⟩ : ByteArray), .string (⟨#[120, 49]⟩ : ByteArray), .string (⟨#[95, 121]⟩ : ByteArray), .string (⟨#[97, 46, 98, 45, 99]⟩ : ByteArray)]) (ok := fun _ => True) (okp := fun _ => True) ?hr ?hp (fun _ hk => hk) trivial (Below.refl _ _) (Nat.le_refl _) dq28 ?_; (case hd => rfl); (case hg => rfl); (case hr => exact dq0); (case hp => exact (Reps.one (show Kd.M Kd.string _ _ _ (⟨#[97]⟩ : ByteArray) [.string (⟨#[97]⟩ : ByteArray)] from rfl) (Reps.one (show Kd.M Kd.string _ _ _ (⟨#[98]⟩ : ByteArray) [.string (⟨#[98]⟩ : ByteArray)] from rfl) (Reps.one (show Kd.M Kd.string _ _ _ (⟨#[99]⟩ : ByteArray) [.string (⟨#[99]⟩ : ByteArray)] from rfl) (Reps.one (show Kd.M Kd.string _ _ _ (⟨#[100]⟩ : ByteArray) [.string (⟨#[100]⟩ : ByteArray)] from rfl) (Reps.one (show Kd.M Kd.string _ _ _ (⟨#[120, 49]⟩ : ByteArray) [.string (⟨#[120, 49]⟩ : ByteArray)] from rfl) (Reps.one (show Kd.M Kd.string _ _ _ (⟨#[95, 121]⟩ : ByteArray) [.string (⟨#[95, 121]⟩ : ByteArray)] from rfl) (Reps.one (show Kd.M Kd.string _ _ _ (⟨#[97, 46, 98, 45, 99]⟩ : ByteArray) [.string (⟨#[97, 46, 98, 45, 99]⟩ : ByteArray)] from rfl) (Reps.none _ _))))))))); intro v438 w5 ho6 hb hg_ hnew_; clear hg_ hnew_; (first | rw [← Ny437.out] at ho6 | (simp only [Int.reduceToNat] at ho6; rw [← Ny437.out] at ho6)); have n0_ := Aside0.mk (Kd.R_lower ho6 (keep_size (w := w) (g := g) (row := none) dq97)); have n1_ := Aside0.mk (IsS99.below dq99 hb); have n2_ := Aside0.mk (KeepBut.trans dq97 (KeepBut.of_below hb g none) (.inl rfl)); have n3_ := Aside0.mk (below_step dq98 hb); clear HI0; clear HK; clear HB; have HO439 := n0_; have HI0 := n1_; have HK := n2_; have HB := n3_; clear n0_ n1_ n2_ n3_; clear hb ho6) | ((with_reducible refine gate_callee (f := 63) rfl ?_); refine goesL_ (some 5) rfl rfl Tryd.func63 dq30 rfl #[.pointer (some ⟨g, 0, none⟩), .int .i64 7] rfl dq29 ?_; (with_reducible refine (spec_l1Rd_below.calls g s0_0 s0_1 7 t440 t441 w0 _ ?side1 ?side2 A2.out).mono ?_); (case side1 => exact dq7); (case side2 => exact dq8); rintro e w7 ⟨rfl, hi, hb, hk⟩; refine ⟨_, rfl, ?_⟩; have n0_ := Aside0.mk (Kd.R_mono (Kd.R_keep (IsS99.apart (show IsS99 w0 _ g s0_0 s0_1 from by repeat (first | (with_reducible first | exact HI0.out | apply IsS99.alloc | apply IsS99.drewN | apply IsS99.drew | apply IsS99.set_1) | exact HI0.out)) (by (with_reducible repeat (first | apply Kd.R_alloc | apply Kd.R_drewN | apply Kd.R_drew)); exact HO439.out) dq37) hk (fun _ h => h.2)) (fun _ h => h.1)); have n1_ := Aside0.mk (KeepBut.trans dq97 hk (.inl rfl)); have n2_ := Aside0.mk (hb); have n3_ := Aside0.mk (hi); clear HO439; clear HK; clear HB; clear HI0; have HO439 := n0_; have HK := n1_; have HB := n2_; have HI0 := n3_; clear n0_ n1_ n2_ n3_; (try clear hb); (try clear hb2); (try clear hk); (try clear hi); obtain ⟨Ao8, co8, eo8⟩ := Kd.R_slice HO439.out; subst eo8; have p442 : 0 ≤ (t440 : Int) := of_decide_eq_true dq26; have q442 : t440 < (y437.length : Int) := of_decide_eq_true dq26; obtain ⟨ad442, e442, hx442_0⟩ := Kd.at_string (Kd.R_reads' HO439.out).2.2 t440 p442 q442; cases e442; replace p442 := eq_true p442; replace q442 := eq_true q442))
 go_ret
 exact ⟨dq35, dq99, dq98, dq97⟩

/-! ### spec_l1Rd_text: function 88 -/
def spec_l1Rd_text.f (s0_0 : List Int) (s0_1 : Int) : Option (ByteArray × Int) := (some (([(⟨#[]⟩ : ByteArray), (⟨#[97]⟩ : ByteArray), (⟨#[98]⟩ : ByteArray), (⟨#[120, 32, 121]⟩ : ByteArray), (⟨#[60, 38, 62]⟩ : ByteArray), (⟨#[34, 39]⟩ : ByteArray), (⟨#[195, 169]⟩ : ByteArray), (⟨#[226, 130, 172]⟩ : ByteArray), (⟨#[240, 159, 152, 128]⟩ : ByteArray), (⟨#[9, 10]⟩ : ByteArray), (⟨#[13, 10]⟩ : ByteArray), (⟨#[49, 50]⟩ : ByteArray), (⟨#[32, 32, 122, 32]⟩ : ByteArray), (⟨#[93, 93, 62]⟩ : ByteArray)] : List ByteArray) : List ByteArray)).bind fun y443 => ((spec_l1Rd_below.f s0_0 s0_1 14).bind fun bt446 => (if 0 ≤ bt446.1 then (if bt446.1 < (y443.length : Int) then (some (rdOf ByteArray.empty y443 bt446.1, bt446.2)) else (none)) else (none)))
set_option maxHeartbeats 8000000 in
set_option maxRecDepth 100000 in
theorem spec_l1Rd_text.calls (g : Nat) (s0_0 : List Int) (s0_1 : Int) (r1 : ByteArray) (r2 : Int) (w0 w : World) (hI : IsS99 w0 w g s0_0 s0_1) (hB : Below w0.heap.size w0 w) (h : spec_l1Rd_text.f s0_0 s0_1 = some (r1, r2)) :
  Calls Tryd.prog 88 #[.pointer (some ⟨g, 0, none⟩)] w fun e w' => e = .returned (.string r1) ∧ IsS99 w0 w' g s0_0 r2 ∧ Below w0.heap.size w0 w' ∧ KeepBut w w' g none := by
 have HI0 := Aside0.mk hI
 have HK := Aside0.mk (KeepBut.refl w g none)
 have HL := Aside0.mk hB.size
 clear hI
 have HW0 := Aside0.mk hB.size
 have HB := Aside0.mk hB
 clear hB
 have H : ((some (([(⟨#[]⟩ : ByteArray), (⟨#[97]⟩ : ByteArray), (⟨#[98]⟩ : ByteArray), (⟨#[120, 32, 121]⟩ : ByteArray), (⟨#[60, 38, 62]⟩ : ByteArray), (⟨#[34, 39]⟩ : ByteArray), (⟨#[195, 169]⟩ : ByteArray), (⟨#[226, 130, 172]⟩ : ByteArray), (⟨#[240, 159, 152, 128]⟩ : ByteArray), (⟨#[9, 10]⟩ : ByteArray), (⟨#[13, 10]⟩ : ByteArray), (⟨#[49, 50]⟩ : ByteArray), (⟨#[32, 32, 122, 32]⟩ : ByteArray), (⟨#[93, 93, 62]⟩ : ByteArray)] : List ByteArray) : List ByteArray)).bind fun y443 => ((spec_l1Rd_below.f s0_0 s0_1 14).bind fun bt446 => (if 0 ≤ bt446.1 then (if bt446.1 < (y443.length : Int) then (some (rdOf ByteArray.empty y443 bt446.1, bt446.2)) else (none)) else (none)))) = some (r1, r2) := h
 clear h
 obtain ⟨y443, hy443⟩ : ∃ y_ : List ByteArray, y_ = (([(⟨#[]⟩ : ByteArray), (⟨#[97]⟩ : ByteArray), (⟨#[98]⟩ : ByteArray), (⟨#[120, 32, 121]⟩ : ByteArray), (⟨#[60, 38, 62]⟩ : ByteArray), (⟨#[34, 39]⟩ : ByteArray), (⟨#[195, 169]⟩ : ByteArray), (⟨#[226, 130, 172]⟩ : ByteArray), (⟨#[240, 159, 152, 128]⟩ : ByteArray), (⟨#[9, 10]⟩ : ByteArray), (⟨#[13, 10]⟩ : ByteArray), (⟨#[49, 50]⟩ : ByteArray), (⟨#[32, 32, 122, 32]⟩ : ByteArray), (⟨#[93, 93, 62]⟩ : ByteArray)] : List ByteArray)) := ⟨_, rfl⟩
 replace H : ((spec_l1Rd_below.f s0_0 s0_1 14).bind fun bt446 => (if 0 ≤ bt446.1 then (if bt446.1 < (y443.length : Int) then (some (rdOf ByteArray.empty y443 bt446.1, bt446.2)) else (none)) else (none))) = some (r1, r2) := by first | (rw [hy443]; with_reducible exact H) | (have H2_ := (Option.bind_some _ _).symm.trans H; rw [hy443]; with_reducible exact H2_) | (have H2_ := (Option.bind_some _ _).symm.trans H; with_reducible exact H2_) | with_reducible exact H | (rw [hy443]; exact H) | exact H
 have Ny443 := Aside0.mk hy443
 clear hy443
 replace H := Option.bind_eq_some_iff.mp H
 obtain ⟨⟨t446, t447⟩, A20, H⟩ := H
 replace H : (if 0 ≤ t446 then (if t446 < (y443.length : Int) then (some (rdOf ByteArray.empty y443 t446, t447)) else (none)) else (none)) = some (r1, r2) := H
 have A2 := Aside0.mk A20
 clear A20
 by_cases c3 : 0 ≤ t446
 rotate_left
 ·rw [if_neg c3] at H
  exact absurd H dq28
 rw [if_pos c3] at H
 have c3b0 := decide_eq_true c3
 clear c3
 by_cases c4 : t446 < (y443.length : Int)
 rotate_left
 ·rw [if_neg c4] at H
  exact absurd H dq28
 rw [if_pos c4] at H
 have c4b0 := decide_eq_true c4
 clear c4
 simp only [Option.some.injEq, Prod.mk.injEq] at H
 obtain ⟨rfl, rfl⟩ := H
 go_enter Tryd.func88, Tryd.ntmps88
 go_wp2_with (first | ((with_reducible refine gate_dst (N := 3) rfl ?_); refine Kd.R_lit Kd.string _ 9 ?hg (N := 3) ?hd (xs := ([(⟨#[]⟩ : ByteArray), (⟨#[97]⟩ : ByteArray), (⟨#[98]⟩ : ByteArray), (⟨#[120, 32, 121]⟩ : ByteArray), (⟨#[60, 38, 62]⟩ : ByteArray), (⟨#[34, 39]⟩ : ByteArray), (⟨#[195, 169]⟩ : ByteArray), (⟨#[226, 130, 172]⟩ : ByteArray), (⟨#[240, 159, 152, 128]⟩ : ByteArray), (⟨#[9, 10]⟩ : ByteArray), (⟨#[13, 10]⟩ : ByteArray), (⟨#[49, 50]⟩ : ByteArray), (⟨#[32, 32, 122, 32]⟩ : ByteArray), (⟨#[93, 93, 62]⟩ : ByteArray)] : List ByteArray)) (inner := [.string (⟨#[]⟩ : ByteArray), .string (⟨#[97]⟩ : ByteArray), .string (⟨#[98]⟩ : ByteArray), .string (⟨#[120, 32, 121]⟩ : ByteArray), .string (⟨#[60, 38, 62]⟩ : ByteArray), .string (⟨#[34, 39]⟩ : ByteArray), .string (⟨#[195, 169]⟩ : ByteArray), .string (⟨#[226, 130, 172]⟩ : ByteArray), .string (⟨#[240, 159, 152, 128]⟩ : ByteArray), .string (⟨#[9, 10]⟩ : ByteArray), .string (⟨#[13, 10]⟩ : ByteArray), .string (⟨#[49, 50]⟩ : ByteArray), .string (⟨#[32, 32, 122, 32]⟩ : ByteArray), .string (⟨#[93, 93, 62]⟩ : ByteArray)]) (ok := fun _ => True) (okp := fun _ => True) ?hr ?hp (fun _ hk => hk) trivial (Below.refl _ _) (Nat.le_refl _) dq28 ?_; (case hd => rfl); (case hg => rfl); (case hr => exact dq0); (case hp => exact (Reps.one (show Kd.M Kd.string _ _ _ (⟨#[]⟩ : ByteArray) [.string (⟨#[]⟩ : ByteArray)] from rfl) (Reps.one (show Kd.M Kd.string _ _ _ (⟨#[97]⟩ : ByteArray) [.string (⟨#[97]⟩ : ByteArray)] from rfl) (Reps.one (show Kd.M Kd.string _ _ _ (⟨#[98]⟩ : ByteArray) [.string (⟨#[98]⟩ : ByteArray)] from rfl) (Reps.one (show Kd.M Kd.string _ _ _ (⟨#[120, 32, 121]⟩ : ByteArray) [.string (⟨#[120, 32, 121]⟩ : ByteArray)] from rfl) (Reps.one (show Kd.M Kd.string _ _ _ (⟨#[60, 38, 62]⟩ : ByteArray) [.string (⟨#[60, 38, 62]⟩ : ByteArray)] from rfl) (Reps.one (show Kd.M Kd.string _ _ _ (⟨#[34, 39]⟩ : ByteArray) [.string (⟨#[34, 39]⟩ : ByteArray)] from rfl) (Reps.one (show Kd.M Kd.string _ _ _ (⟨#[195, 169]⟩ : ByteArray) [.string (⟨#[195, 169]⟩ : ByteArray)] from rfl) (Reps.one (show Kd.M Kd.string _ _ _ (⟨#[226, 130, 172]⟩ : ByteArray) [.string (⟨#[226, 130, 172]⟩ : ByteArray)] from rfl) (Reps.one (show Kd.M Kd.string _ _ _ (⟨#[240, 159, 152, 128]⟩ : ByteArray) [.string (⟨#[240, 159, 152, 128]⟩ : ByteArray)] from rfl) (Reps.one (show Kd.M Kd.string _ _ _ (⟨#[9, 10]⟩ : ByteArray) [.string (⟨#[9, 10]⟩ : ByteArray)] from rfl) (Reps.one (show Kd.M Kd.string _ _ _ (⟨#[13, 10]⟩ : ByteArray) [.string (⟨#[13, 10]⟩ : ByteArray)] from rfl) (Reps.one (show Kd.M Kd.string _ _ _ (⟨#[49, 50]⟩ : ByteArray) [.string (⟨#[49, 50]⟩ : ByteArray)] from rfl) (Reps.one (show Kd.M Kd.string _ _ _ (⟨#[32, 32, 122, 32]⟩ : ByteArray) [.string (⟨#[32, 32, 122, 32]⟩ : ByteArray)] from rfl) (Reps.one (show Kd.M Kd.string _ _ _ (⟨#[93, 93, 62]⟩ : ByteArray) [.string (⟨#[93, 93, 62]⟩ : ByteArray)] from rfl) (Reps.none _ _)))))))))))))))); intro v444 w5 ho6 hb hg_ hnew_; clear hg_ hnew_; (first | rw [← Ny443.out] at ho6 | (simp only [Int.reduceToNat] at ho6; rw [← Ny443.out] at ho6)); have n0_ := Aside0.mk (Kd.R_lower ho6 (keep_size (w := w) (g := g) (row := none) dq97)); have n1_ := Aside0.mk (IsS99.below dq99 hb); have n2_ := Aside0.mk (KeepBut.trans dq97 (KeepBut.of_below hb g none) (.inl rfl)); have n3_ := Aside0.mk (below_step dq98 hb); clear HI0; clear HK; clear HB; have HO445 := n0_; have HI0 := n1_; have HK := n2_; have HB := n3_; clear n0_ n1_ n2_ n3_; clear hb ho6) | ((with_reducible refine gate_callee (f := 63) rfl ?_); refine goesL_ (some 5) rfl rfl Tryd.func63 dq30 rfl #[.pointer (some ⟨g, 0, none⟩), .int .i64 14] rfl dq29 ?_; (with_reducible refine (spec_l1Rd_below.calls g s0_0 s0_1 14 t446 t447 w0 _ ?side1 ?side2 A2.out).mono ?_); (case side1 => exact dq7); (case side2 => exact dq8); rintro e w7 ⟨rfl, hi, hb, hk⟩; refine ⟨_, rfl, ?_⟩; have n0_ := Aside0.mk (Kd.R_mono (Kd.R_keep (IsS99.apart (show IsS99 w0 _ g s0_0 s0_1 from by repeat (first | (with_reducible first | exact HI0.out | apply IsS99.alloc | apply IsS99.drewN | apply IsS99.drew | apply IsS99.set_1) | exact HI0.out)) (by (with_reducible repeat (first | apply Kd.R_alloc | apply Kd.R_drewN | apply Kd.R_drew)); exact HO445.out) dq37) hk (fun _ h => h.2)) (fun _ h => h.1)); have n1_ := Aside0.mk (KeepBut.trans dq97 hk (.inl rfl)); have n2_ := Aside0.mk (hb); have n3_ := Aside0.mk (hi); clear HO445; clear HK; clear HB; clear HI0; have HO445 := n0_; have HK := n1_; have HB := n2_; have HI0 := n3_; clear n0_ n1_ n2_ n3_; (try clear hb); (try clear hb2); (try clear hk); (try clear hi); obtain ⟨Ao8, co8, eo8⟩ := Kd.R_slice HO445.out; subst eo8; have p448 : 0 ≤ (t446 : Int) := of_decide_eq_true dq26; have q448 : t446 < (y443.length : Int) := of_decide_eq_true dq26; obtain ⟨ad448, e448, hx448_0⟩ := Kd.at_string (Kd.R_reads' HO445.out).2.2 t446 p448 q448; cases e448; replace p448 := eq_true p448; replace q448 := eq_true q448))
 go_ret
 exact ⟨dq35, dq99, dq98, dq97⟩

end Go.Proofs.YtpmjpbaeecnpiaaDoor.L
