/- Words and contracts for the row RowFnFields: what the Go functions answer that it calls; printed by programs of the kit and of this session, and merged. -/
import Derived.Test.YtpmjpbaeecnpiaaGreatDoorQg7
namespace Go.Proofs.YtpmjpbaeecnpiaaGreatDoor.L
open Go.RowKit Go.Proofs.YtpmjpbaeecnpiaaGreatDoorW.PrintWords Go.Proofs.YtpmjpbaeecnpiaaGreatDoorW.PrintLast Go.Proofs.YtpmjpbaeecnpiaaGreatDoorW.PrintMore
attribute [local go_sem] max2_int min2_int max_two min_two max_three min_three max_four min_four
set_option linter.unusedVariables false
set_option linter.unusedSimpArgs false

/-! ### spec_l1Rd_flat: function 69 -/
mutual
def spec_l1Rd_flat.l0 : Nat → List (S65) → Int → List Int → Int → Option ((List (S65)) × Int)
 | 0, _, _, _, _ => none
 | k + 1, x3, x4, x1000, x1001 => if x4 > 0 then ((spec_l1Rd_once.f x1000 x1001 3).bind fun bt442 => (if bt442.1 = true then (spec_l1Rd_flat.l1 k x3 x4 (wrap64 ((x3.length : Int) - 1)) x1000 bt442.2) else (spec_l1Rd_flat.j2 k x3 x4 0 x1000 bt442.2))) else ((spec_l1Rd_once.f x1000 x1001 24).bind fun bt439 => (if bt439.1 = true then (if 0 < (x3.length : Int) then (some ((x3.set (0 : Int).toNat (⟨(rd_T65 x3 0).f0, (⟨#[]⟩ : ByteArray), (rd_T65 x3 0).f2, (rd_T65 x3 0).f3⟩ : S65)), bt439.2)) else (none)) else (some (x3, bt439.2))))
def spec_l1Rd_flat.j2 : Nat → List (S65) → Int → Int → List Int → Int → Option ((List (S65)) × Int)
 | 0, _, _, _, _, _ => none
 | k + 1, x3, x4, x5, x1000, x1001 => (some (([(⟨#[97]⟩ : ByteArray), (⟨#[98]⟩ : ByteArray)] : List ByteArray) : List ByteArray)).bind fun y446 => ((spec_l1Rd_below.f x1000 x1001 2).bind fun bt449 => (if 0 ≤ bt449.1 then (if bt449.1 < (y446.length : Int) then ((spec_l1Rd_once.f x1000 bt449.2 3).bind fun bt453 => (if bt453.1 = true then (spec_l1Rd_flat.j3 k x3 x4 x1000 bt453.2 x5 (rdOf ByteArray.empty y446 bt449.1) (⟨#[]⟩ : ByteArray) ([] : List (S67))) else ((some (([(⟨#[49]⟩ : ByteArray), (⟨#[50]⟩ : ByteArray), (⟨#[32, 49]⟩ : ByteArray), (⟨#[51]⟩ : ByteArray)] : List ByteArray) : List ByteArray)).bind fun y455 => ((spec_l1Rd_below.f x1000 bt453.2 4).bind fun bt458 => (if 0 ≤ bt458.1 then (if bt458.1 < (y455.length : Int) then (if ([] : List (S67)).length < 4398046511104 then (spec_l1Rd_flat.j3 k x3 x4 x1000 bt458.2 x5 (rdOf ByteArray.empty y446 bt449.1) (⟨#[]⟩ : ByteArray) (([] : List (S67)) ++ [(⟨(⟨#[97]⟩ : ByteArray), rdOf ByteArray.empty y455 bt458.1⟩ : S67)])) else (none)) else (none)) else (none)))))) else (none)) else (none)))
def spec_l1Rd_flat.j3 : Nat → List (S65) → Int → List Int → Int → Int → ByteArray → ByteArray → List (S67) → Option ((List (S65)) × Int)
 | 0, _, _, _, _, _, _, _, _ => none
 | k + 1, x3, x4, x1000, x1001, x453000, x453001, x453002, x453003 => if x3.length < 2199023255552 then ((some (x3 ++ [(⟨x453000, x453001, x453002, x453003⟩ : S65)] : List (S65))).bind fun y464 => ((spec_l1Rd_once.f x1000 x1001 3).bind fun bt467 => (if bt467.1 = true then ((some (([(⟨#[117]⟩ : ByteArray), (⟨#[118]⟩ : ByteArray), (⟨#[32, 117, 32]⟩ : ByteArray)] : List ByteArray) : List ByteArray)).bind fun y469 => ((spec_l1Rd_below.f x1000 bt467.2 3).bind fun bt472 => (if 0 ≤ bt472.1 then (if bt472.1 < (y469.length : Int) then (if y464.length < 2199023255552 then (spec_l1Rd_flat.l0 k (y464 ++ [(⟨(x3.length : Int), (⟨#[]⟩ : ByteArray), rdOf ByteArray.empty y469 bt472.1, ([] : List (S67))⟩ : S65)]) (wrap64 (x4 - 1)) x1000 bt472.2) else (none)) else (none)) else (none)))) else (spec_l1Rd_flat.l0 k y464 (wrap64 (x4 - 1)) x1000 bt467.2)))) else (none)
def spec_l1Rd_flat.l1 : Nat → List (S65) → Int → Int → List Int → Int → Option ((List (S65)) × Int)
 | 0, _, _, _, _, _ => none
 | k + 1, x3, x4, x5, x1000, x1001 => if 0 ≤ x5 then (if x5 < (x3.length : Int) then (if ((rd_T65 x3 x5).f1).toList = ([] : List UInt8) then (spec_l1Rd_flat.l1 k x3 x4 ((rd_T65 x3 x5).f0) x1000 x1001) else (spec_l1Rd_flat.j2 k x3 x4 x5 x1000 x1001)) else (none)) else (none)
end
def spec_l1Rd_flat.f (k : Nat) (s0_0 : List Int) (s0_1 : Int) : Option ((List (S65)) × Int) := (spec_l1Rd_below.f s0_0 s0_1 8).bind fun bt437 => (spec_l1Rd_flat.l0 k (([(⟨(-1), (⟨#[97]⟩ : ByteArray), (⟨#[]⟩ : ByteArray), ([] : List (S67))⟩ : S65)] : List (S65))) bt437.1 s0_0 bt437.2)
def spec_l1Rd_flat.T12 : Bool × List (List Nat × List Nat) := (true, [([], []), ([0], [0]), ([], []), ([], []), ([3], [3]), ([2, 4], [2, 4]), ([5], [5]), ([6], [6]), ([7], [7]), ([1, 8, 4], [1, 8]), ([0, 1, 2, 3, 4, 5, 6, 7, 8, 9], []), ([10, 9, 9, 0, 1, 2, 3, 4, 5, 6, 7, 8, 9], [9, 10])])
def spec_l1Rd_flat.B12 : List Nat := [0, 1, 0, 0, 8, 28, 60, 124, 252, 511, 1023, 2047]
theorem spec_l1Rd_flat.tab12 : rtab .any (opsOf Tryz.f69 12) = spec_l1Rd_flat.T12 := by kernel_rfl
theorem spec_l1Rd_flat.bits12 : waitsOk spec_l1Rd_flat.T12.2 spec_l1Rd_flat.B12 = true := by kernel_rfl
set_option maxHeartbeats 8000000 in
set_option maxRecDepth 100000 in
theorem spec_l1Rd_flat.calls (k : Nat) (g : Nat) (s0_0 : List Int) (s0_1 : Int) (r1 : List (S65)) (r2 : Int) (w0 w : World) (hI : IsS127 w0 w g s0_0 s0_1) (hB : Below w0.heap.size w0 w) (h : spec_l1Rd_flat.f k s0_0 s0_1 = some (r1, r2)) :
  Calls Tryz.prog 69 #[.pointer (some ⟨g, 0, none⟩)] w fun e w' => ∃ v0_ : Value, e = .returned (v0_) ∧ Kd.S k65 65 w' w.heap.size (fun _ => True) v0_ r1 ∧ IsS127 w0 w' g s0_0 r2 ∧ Below w0.heap.size w0 w' ∧ KeepBut w w' g none := by
 have hu65 := Tryz.underlying65
 have hu67 := Tryz.underlying67
 have HI0 := Aside0.mk hI
 have HK := Aside0.mk (KeepBut.refl w g none)
 have HL := Aside0.mk hB.size
 clear hI
 have HW0 := Aside0.mk hB.size
 have HB := Aside0.mk hB
 clear hB
 have H : ((spec_l1Rd_below.f s0_0 s0_1 8).bind fun bt437 => (spec_l1Rd_flat.l0 k (([(⟨(-1), (⟨#[97]⟩ : ByteArray), (⟨#[]⟩ : ByteArray), ([] : List (S67))⟩ : S65)] : List (S65))) bt437.1 s0_0 bt437.2)) = some (r1, r2) := h
 clear h
 obtain ⟨y434, hy434⟩ : ∃ y_ : List (S65), y_ = (([(⟨(-1), (⟨#[97]⟩ : ByteArray), (⟨#[]⟩ : ByteArray), ([] : List (S67))⟩ : S65)] : List (S65))) := ⟨_, rfl⟩
 replace H : ((spec_l1Rd_below.f s0_0 s0_1 8).bind fun bt437 => (spec_l1Rd_flat.l0 k y434 bt437.1 s0_0 bt437.2)) = some (r1, r2) := by first | (rw [hy434]; with_reducible exact H) | (have H2_ := (Option.bind_some _ _).symm.trans H; rw [hy434]; with_reducible exact H2_) | (have H2_ := (Option.bind_some _ _).symm.trans H; with_reducible exact H2_) | with_reducible exact H | (rw [hy434]; exact H) | exact H
 have Ny434 := Aside0.mk hy434
 clear hy434
 replace H := Option.bind_eq_some_iff.mp H
 obtain ⟨⟨t437, t438⟩, A20, H⟩ := H
 replace H : (spec_l1Rd_flat.l0 k y434 t437 s0_0 t438) = some (r1, r2) := H
 have A2 := Aside0.mk A20
 clear A20
 have H' := Aside0.mk H
 clear H
 go_enter Tryz.func69, Tryz.ntmps69
 go_wp2_with (first | ((with_reducible refine gate_dst (N := 9) rfl ?_); refine Kd.S_lit k65 _ 65 ?hg (N := 9) ?hd (xs := ([(⟨(-1), (⟨#[97]⟩ : ByteArray), (⟨#[]⟩ : ByteArray), ([] : List (S67))⟩ : S65)] : List (S65))) (inner := [.int .i64 (-1), .string (⟨#[97]⟩ : ByteArray), .string (⟨#[]⟩ : ByteArray), .slice none 0 0]) (ok := fun _ => True) (okp := fun _ => True) ?hr ?hp (fun _ hk => hk) trivial (Below.refl _ _) (Nat.le_refl _) dq20 ?_; (case hd => rfl); (case hg => rfl); (case hr => exact dq0); (case hp => exact (Reps.c4 (show Kd.M k65 _ _ _ (⟨(-1), (⟨#[97]⟩ : ByteArray), (⟨#[]⟩ : ByteArray), ([] : List (S67))⟩ : S65) [.int .i64 (-1), .string (⟨#[97]⟩ : ByteArray), .string (⟨#[]⟩ : ByteArray), .slice none 0 0] from (k65_mkM _ _ _ (⟨(-1), (⟨#[97]⟩ : ByteArray), (⟨#[]⟩ : ByteArray), ([] : List (S67))⟩ : S65) (Kd.R_nil _ _ _ _ _))) (Reps.none _ _))); intro v435 w3 ho4 hb hg_ hnew_; clear hg_ hnew_; (first | rw [← Ny434.out] at ho4 | (simp only [Int.reduceToNat] at ho4; rw [← Ny434.out] at ho4)); have n0_ := Aside0.mk (Kd.S_lower ho4 (keep_size (w := w) (g := g) (row := none) dq99)); have n1_ := Aside0.mk (IsS127.below dq101 hb); have n2_ := Aside0.mk (KeepBut.trans dq99 (KeepBut.of_below hb g none) (.inl rfl)); have n3_ := Aside0.mk (below_step dq100 hb); clear HI0; clear HK; clear HB; have HO436 := n0_; have HI0 := n1_; have HK := n2_; have HB := n3_; clear n0_ n1_ n2_ n3_; clear hb ho4) | ((with_reducible refine gate_callee (f := 111) rfl ?_); refine goesL_ (some 11) rfl rfl Tryz.func111 dq22 rfl #[.pointer (some ⟨g, 0, none⟩), .int .i64 8] rfl dq21 ?_; (with_reducible refine (spec_l1Rd_below.calls g s0_0 s0_1 8 t437 t438 w0 _ ?side1 ?side2 A2.out).mono ?_); (case side1 => exact dq7); (case side2 => exact dq8); rintro e w5 ⟨rfl, hi, hb, hk⟩; refine ⟨_, rfl, ?_⟩; have n0_ := Aside0.mk (Kd.S_mono (Kd.S_keep (IsS127.apartS (show IsS127 w0 _ g s0_0 s0_1 from by repeat (first | (with_reducible first | exact HI0.out | apply IsS127.alloc | apply IsS127.drewN | apply IsS127.drew | apply IsS127.set_1) | exact HI0.out)) (by (with_reducible repeat (first | apply Kd.S_alloc | apply Kd.S_drewN | apply Kd.S_drew)); exact HO436.out) dq29) hk (fun _ h => h.2)) (fun _ h => h.1)); have n1_ := Aside0.mk (KeepBut.trans dq99 hk (.inl rfl)); have n2_ := Aside0.mk (hb); have n3_ := Aside0.mk (hi); clear HO436; clear HK; clear HB; clear HI0; have HO436 := n0_; have HK := n1_; have HB := n2_; have HI0 := n3_; clear n0_ n1_ n2_ n3_; (try clear hb); (try clear hb2); (try clear hk); (try clear hi)))
 go_loopg [3, 4] k (fun kq v3 v4 w' => ∃ (x3_1 : List (S65)) (x4_1 : Int) (x1001_1 : Int), v4 = .int .i64 x4_1 ∧ Aside0 (spec_l1Rd_flat.l0 kq x3_1 x4_1 s0_0 x1001_1 = some (r1, r2)) ∧ Aside0 (kq ≤ k) ∧ Aside0 (Kd.S k65 65 w' w.heap.size (fun _ => True) v3 x3_1) ∧ Aside0 (IsS127 w0 w' g s0_0 x1001_1) ∧ Aside0 (KeepBut w w' g none) ∧ Aside0 (Below w0.heap.size w0 w'))
 case atStart => exact ⟨(y434), (t437), (t438), dq17, H', ⟨Nat.le_refl _⟩, ⟨by (with_reducible repeat (first | apply Kd.S_alloc | apply Kd.S_drewN | apply Kd.S_drew)); exact HO436.out⟩, ⟨dq101⟩, ⟨dq99⟩, ⟨dq100⟩⟩
 clear H'
 obtain ⟨x3_1, x4_1, x1001_1, rfl, HA, HK1, HO_3, HI0, HK, HB⟩ := hrel
 cases gk with
 | zero => exact absurd HA.out (by simp [spec_l1Rd_flat.l0])
 | succ k1 =>
  have H := HA.out
  clear HA
  simp only [spec_l1Rd_flat.l0] at H
  by_cases c6 : x4_1 > 0
  rotate_left
  ·rw [if_neg c6] at H
   have c6b0 : decide (0 < x4_1) = false := decide_eq_false c6
   clear c6
   replace H := Option.bind_eq_some_iff.mp H
   obtain ⟨⟨t439, t440⟩, A670, H⟩ := H
   replace H : (if t439 = true then (if 0 < (x3_1.length : Int) then (some ((x3_1.set (0 : Int).toNat (⟨(rd_T65 x3_1 0).f0, (⟨#[]⟩ : ByteArray), (rd_T65 x3_1 0).f2, (rd_T65 x3_1 0).f3⟩ : S65)), t440)) else (none)) else (some (x3_1, t440))) = some (r1, r2) := H
   have A67 := Aside0.mk A670
   clear A670
   by_cases c68 : t439 = true
   rotate_left
   ·replace c68 := Bool.eq_false_iff.mpr c68
    subst c68
    have H1 : (some (x3_1, t440)) = some (r1, r2) := by rw [if_neg (show ¬ (false = true) by decide)] at H; exact H
    clear H
    have H := H1
    clear H1
    simp only [Option.some.injEq, Prod.mk.injEq] at H
    obtain ⟨rfl, rfl⟩ := H
    go_wp2_with (first | ((with_reducible refine gate_callee (f := 78) rfl ?_); refine goesL_ (some 72) rfl rfl Tryz.func78 dq22 rfl #[.pointer (some ⟨g, 0, none⟩), .int .i64 24] rfl dq21 ?_; (with_reducible refine (spec_l1Rd_once.calls g s0_0 x1001_1 24 false t440 w0 _ ?side1 ?side2 A67.out).mono ?_); (case side1 => exact dq7); (case side2 => exact dq8); rintro e w74 ⟨rfl, hi, hb, hk⟩; refine ⟨_, rfl, ?_⟩; have n0_ := Aside0.mk (Kd.S_mono (Kd.S_keep (IsS127.apartS (show IsS127 w0 _ g s0_0 x1001_1 from by repeat (first | (with_reducible first | exact HI0.out | apply IsS127.alloc | apply IsS127.drewN | apply IsS127.drew | apply IsS127.set_1) | exact HI0.out)) dq102 dq29) hk (fun _ h => h.2)) (fun _ h => h.1)); have n1_ := Aside0.mk (KeepBut.trans dq99 hk (.inl rfl)); have n2_ := Aside0.mk (hb); have n3_ := Aside0.mk (hi); clear HO_3; clear HK; clear HB; clear HI0; have HO_3 := n0_; have HK := n1_; have HB := n2_; have HI0 := n3_; clear n0_ n1_ n2_ n3_; (try clear hb); (try clear hb2); (try clear hk); (try clear hi)))
    go_ret
    exact ⟨_, dq27, dq102, dq101, dq100, dq99⟩
   subst c68
   have H1 : (if 0 < (x3_1.length : Int) then (some ((x3_1.set (0 : Int).toNat (⟨(rd_T65 x3_1 0).f0, (⟨#[]⟩ : ByteArray), (rd_T65 x3_1 0).f2, (rd_T65 x3_1 0).f3⟩ : S65)), t440)) else (none)) = some (r1, r2) := by rw [if_pos rfl] at H; exact H
   clear H
   have H := H1
   clear H1
   by_cases c69 : 0 < (x3_1.length : Int)
   rotate_left
   ·rw [if_neg c69] at H
    exact absurd H dq20
   rw [if_pos c69] at H
   have c69b0 := decide_eq_true c69
   have c69b1 : decide (0 < x3_1.length) = true := decide_eq_true dq23
   clear c69
   obtain ⟨y441, hy441⟩ : ∃ y_ : List (S65), y_ = (x3_1.set (0 : Int).toNat (⟨(rd_T65 x3_1 0).f0, (⟨#[]⟩ : ByteArray), (rd_T65 x3_1 0).f2, (rd_T65 x3_1 0).f3⟩ : S65)) := ⟨_, rfl⟩
   replace H : (some (y441, t440)) = some (r1, r2) := by first | (rw [hy441]; with_reducible exact H) | (have H2_ := (Option.bind_some _ _).symm.trans H; rw [hy441]; with_reducible exact H2_) | (have H2_ := (Option.bind_some _ _).symm.trans H; with_reducible exact H2_) | with_reducible exact H | (rw [hy441]; exact H) | exact H
   have Ny441 := Aside0.mk hy441
   clear hy441
   simp only [Option.some.injEq, Prod.mk.injEq] at H
   obtain ⟨rfl, rfl⟩ := H
   go_wp2_with (first | ((with_reducible refine gate_callee (f := 78) rfl ?_); refine goesL_ (some 72) rfl rfl Tryz.func78 dq22 rfl #[.pointer (some ⟨g, 0, none⟩), .int .i64 24] rfl dq21 ?_; (with_reducible refine (spec_l1Rd_once.calls g s0_0 x1001_1 24 true t440 w0 _ ?side1 ?side2 A67.out).mono ?_); (case side1 => exact dq7); (case side2 => exact dq8); rintro e w71 ⟨rfl, hi, hb, hk⟩; refine ⟨_, rfl, ?_⟩; have n0_ := Aside0.mk (Kd.S_mono (Kd.S_keep (IsS127.apartS (show IsS127 w0 _ g s0_0 x1001_1 from by repeat (first | (with_reducible first | exact HI0.out | apply IsS127.alloc | apply IsS127.drewN | apply IsS127.drew | apply IsS127.set_1) | exact HI0.out)) dq102 dq29) hk (fun _ h => h.2)) (fun _ h => h.1)); have n1_ := Aside0.mk (KeepBut.trans dq99 hk (.inl rfl)); have n2_ := Aside0.mk (hb); have n3_ := Aside0.mk (hi); clear HO_3; clear HK; clear HB; clear HI0; have HO_3 := n0_; have HK := n1_; have HB := n2_; have HI0 := n3_; clear n0_ n1_ n2_ n3_; (try clear hb); (try clear hb2); (try clear hk); (try clear hi); have p70 : 0 ≤ (0 : Int) := dq23; have q70 : (0 : Int) < ((x3_1.length : Int) : Int) := of_decide_eq_true dq18; have qi70 : (0 < x3_1.length) = True := eq_true dq23; obtain ⟨go70, co70, eo70, gb70, gl70, cl70, HG70⟩ := Kd.S_form HO_3.out dq23; (first | cases eo70 | (injection eo70 with ea_ en_ ec_; (first | subst ea_ | (injection ea_ with ea_; subst ea_)); subst ec_; clear en_)); have GB70 := Aside0.mk gb70; have GG70 := Aside0.mk HG70; clear gb70 gl70 HG70; obtain ⟨_, ce70, hcl70, hM70, hcc70, hfr70, _, _⟩ := Kd.S_elem HO_3.out z65 (0 : Int) p70 q70; obtain ⟨ve70_3, rfl, ge70_3⟩ := k65_openM hM70; have hx70_0 : w71.cell? ⟨go70, (0 : Int).toNat * 4, none⟩ = some (.int .i64 ((rd_T65 x3_1 0).f0)) := hcc70 0 _ rfl; have hx70_1 : w71.cell? ⟨go70, (0 : Int).toNat * 4 + 1, none⟩ = some (.string ((rd_T65 x3_1 0).f1)) := hcc70 1 _ rfl; have hx70_2 : w71.cell? ⟨go70, (0 : Int).toNat * 4 + 2, none⟩ = some (.string ((rd_T65 x3_1 0).f2)) := hcc70 2 _ rfl; have hx70_3 : w71.cell? ⟨go70, (0 : Int).toNat * 4 + 3, none⟩ = some (ve70_3) := hcc70 3 _ rfl; have hf70_0 : w71.frozen? ⟨go70, (0 : Int).toNat * 4, none⟩ = false := hfr70 0; have hf70_1 : w71.frozen? ⟨go70, (0 : Int).toNat * 4 + 1, none⟩ = false := hfr70 1; have hf70_2 : w71.frozen? ⟨go70, (0 : Int).toNat * 4 + 2, none⟩ = false := hfr70 2; have hf70_3 : w71.frozen? ⟨go70, (0 : Int).toNat * 4 + 3, none⟩ = false := hfr70 3; clear hcl70 hcc70 hfr70 hM70; (try rw [show ((0 : Int)).toNat = 0 from rfl] at hx70_0); (try simp only [Nat.reduceMul, Nat.zero_mul, Nat.zero_add, Nat.reduceAdd] at hx70_0); (try rw [show ((0 : Int)).toNat = 0 from rfl] at hf70_0); (try simp only [Nat.reduceMul, Nat.zero_mul, Nat.zero_add, Nat.reduceAdd] at hf70_0); (try rw [show ((0 : Int)).toNat = 0 from rfl] at hx70_1); (try simp only [Nat.reduceMul, Nat.zero_mul, Nat.zero_add, Nat.reduceAdd] at hx70_1); (try rw [show ((0 : Int)).toNat = 0 from rfl] at hf70_1); (try simp only [Nat.reduceMul, Nat.zero_mul, Nat.zero_add, Nat.reduceAdd] at hf70_1); (try rw [show ((0 : Int)).toNat = 0 from rfl] at hx70_2); (try simp only [Nat.reduceMul, Nat.zero_mul, Nat.zero_add, Nat.reduceAdd] at hx70_2); (try rw [show ((0 : Int)).toNat = 0 from rfl] at hf70_2); (try simp only [Nat.reduceMul, Nat.zero_mul, Nat.zero_add, Nat.reduceAdd] at hf70_2); (try rw [show ((0 : Int)).toNat = 0 from rfl] at hx70_3); (try simp only [Nat.reduceMul, Nat.zero_mul, Nat.zero_add, Nat.reduceAdd] at hx70_3); (try rw [show ((0 : Int)).toNat = 0 from rfl] at hf70_3); (try simp only [Nat.reduceMul, Nat.zero_mul, Nat.zero_add, Nat.reduceAdd] at hf70_3); replace p70 := eq_true p70; replace q70 := eq_true q70; have HX72 := Aside0.mk (show Kd.S k65 65 w71 w.heap.size (fun k_ => ((fun _ => True)) k_ ∧ ¬ ((fun _ => False)) k_) (.slice (some ⟨go70, 0, none⟩) x3_1.length co70) x3_1 from (by (with_reducible repeat (first | apply Kd.S_alloc | apply Kd.S_drewN | apply Kd.S_drew)); exact Kd.S_mono HO_3.out (fun k_ hk => ⟨trivial, fun e_ => e_⟩))); obtain ⟨oki72, ce72, hcl72, hM72, hcc72, hfr72, hoki72, hH72⟩ := Kd.S_elem HX72.out z65 (0 : Int) dq23 (by have h_ : (0 : Int) < ((x3_1.length : Int) : Int) := of_decide_eq_true dq18; first | exact h_ | (have e_ := (Kd.S_reads' HO_3.out).1; omega) | simpa using h_); obtain ⟨ve72_3, rfl, ge72_3⟩ := k65_openM hM72; have HP72 := Kd.S_seg hH72 dq23 (by have h_ : (0 : Int) < ((x3_1.length : Int) : Int) := of_decide_eq_true dq18; first | exact h_ | (have e_ := (Kd.S_reads' HO_3.out).1; omega) | simpa using h_) (seg := [.string (⟨#[]⟩ : ByteArray)]) (j := 1) (show 2 ≤ 4 from by decide) (x' := (⟨(rd_T65 x3_1 0).f0, (⟨#[]⟩ : ByteArray), (rd_T65 x3_1 0).f2, (rd_T65 x3_1 0).f3⟩ : S65)) (k65_mkM _ _ _ (⟨(rd_T65 x3_1 0).f0, (⟨#[]⟩ : ByteArray), (rd_T65 x3_1 0).f2, (rd_T65 x3_1 0).f3⟩ : S65) (Kd.R_mono ge72_3 (fun _ h_ => Or.inl h_))) (fun _ hk => hk) (fun k_ hk_ => hk_.elim); have hx72_1 := hcc72 1 _ rfl; (try simp only [show (k65).sz = 4 from rfl, Nat.mul_one, Nat.add_zero] at hx72_1); (try rw [show ((0 : Int)).toNat = 0 from rfl] at hx72_1); (try simp only [Nat.reduceMul, Nat.zero_mul, Nat.zero_add, Nat.reduceAdd] at hx72_1); have hf72_1 := hfr72 1; (try simp only [show (k65).sz = 4 from rfl, Nat.mul_one, Nat.add_zero] at hf72_1); (try rw [show ((0 : Int)).toNat = 0 from rfl] at hf72_1); (try simp only [Nat.reduceMul, Nat.zero_mul, Nat.zero_add, Nat.reduceAdd] at hf72_1); clear hcl72 hcc72 hfr72 hM72 hoki72 hH72) | ((with_reducible refine gate_store (t := 9) (p := 75) rfl ?_); refine store_event (t := 9) (p := 75) (v := ?vo_w73) (w1 := (w71.setCell ⟨go70, 1, none⟩ (.string (⟨#[]⟩ : ByteArray)))) ?hg ?ho ?hn ?hr ?_; (case ho => rfl); (case hg => rfl); (case hn => rfl); (case hr => exact dq0); intro w73 hw; have hg : w71.grownBy w73 (some go70) := (by rw [hw]; exact HP72.2); have hp_ : Kd.S k65 65 w73 w.heap.size (fun _ => True) (.slice (some ⟨go70, 0, none⟩) x3_1.length co70) y441 := (by rw [hw, Ny441.out]; exact HP72.1); clear HP72; have n0_ := Aside0.mk (hp_); have n1_ := Aside0.mk (IsS127.grown dq101 hg (IsS127.own_neS HI0.out HO_3.out dq29)); have n2_ := Aside0.mk ((by rw [hw]; exact below_set (HB.out) (Nat.le_trans HL.out GB70.out) : Below w0.heap.size w0 w73)); have n3_ := Aside0.mk (KeepBut.trans dq99 (KeepBut.of_grown hg g) (Kd.S_base2 HO_3.out)); clear HO_3; clear HI0; clear HB; clear HK; have HO_3 := n0_; have HI0 := n1_; have HB := n2_; have HK := n3_; clear n0_ n1_ n2_ n3_; clear hg hw hp_))
   go_ret
   exact ⟨_, dq27, dq102, dq101, dq100, dq99⟩
  rw [if_pos c6] at H
  have c6b0 : decide (0 < x4_1) = true := decide_eq_true c6
  clear c6
  replace H := Option.bind_eq_some_iff.mp H
  obtain ⟨⟨t442, t443⟩, A70, H⟩ := H
  replace H : (if t442 = true then (spec_l1Rd_flat.l1 k1 x3_1 x4_1 (wrap64 ((x3_1.length : Int) - 1)) s0_0 t443) else (spec_l1Rd_flat.j2 k1 x3_1 x4_1 0 s0_0 t443)) = some (r1, r2) := H
  have A7 := Aside0.mk A70
  clear A70
  have HC8 := Aside0.mk H
  clear H
  go_upto_if 17 with (first | ((with_reducible refine gate_callee (f := 78) rfl ?_); refine goesL_ (some 17) rfl rfl Tryz.func78 dq22 rfl #[.pointer (some ⟨g, 0, none⟩), .int .i64 3] rfl dq21 ?_; (with_reducible refine (spec_l1Rd_once.calls g s0_0 x1001_1 3 t442 t443 w0 _ ?side1 ?side2 A7.out).mono ?_); (case side1 => exact dq7); (case side2 => exact dq8); rintro e w9 ⟨rfl, hi, hb, hk⟩; refine ⟨_, rfl, ?_⟩; have n0_ := Aside0.mk (Kd.S_mono (Kd.S_keep (IsS127.apartS (show IsS127 w0 _ g s0_0 x1001_1 from by repeat (first | (with_reducible first | exact HI0.out | apply IsS127.alloc | apply IsS127.drewN | apply IsS127.drew | apply IsS127.set_1) | exact HI0.out)) dq102 dq29) hk (fun _ h => h.2)) (fun _ h => h.1)); have n1_ := Aside0.mk (KeepBut.trans dq99 hk (.inl rfl)); have n2_ := Aside0.mk (hb); have n3_ := Aside0.mk (hi); clear HO_3; clear HK; clear HB; clear HI0; have HO_3 := n0_; have HK := n1_; have HB := n2_; have HI0 := n3_; clear n0_ n1_ n2_ n3_; (try clear hb); (try clear hb2); (try clear hk); (try clear hi)))
  (try simp only [Act.put, List.setIfInBounds_toArray, List.set_cons_zero, List.set_cons_succ])
  go_cut [5] (fun v5 wc => ∃ (kq : Nat) (x5_7 : Int), v5 = .int .i64 x5_7 ∧ Aside0 (spec_l1Rd_flat.j2 kq x3_1 x4_1 x5_7 s0_0 t443 = some (r1, r2)) ∧ Aside0 (kq ≤ k1) ∧ Aside0 (Kd.S k65 65 wc w.heap.size (fun _ => True) u3 x3_1) ∧ Aside0 (IsS127 w0 wc g s0_0 t443) ∧ Aside0 (KeepBut w wc g none) ∧ Aside0 (Below w0.heap.size w0 wc))
  case first =>
   have H := HC8.out
   clear HC8
   by_cases c10 : t442 = true
   rotate_left
   ·replace c10 := Bool.eq_false_iff.mpr c10
    subst c10
    have H1 : (spec_l1Rd_flat.j2 k1 x3_1 x4_1 0 s0_0 t443) = some (r1, r2) := by rw [if_neg (show ¬ (false = true) by decide)] at H; exact H
    clear H
    have H := H1
    clear H1
    have H' := Aside0.mk H
    clear H
    go_wp2
    go_meet
    case rel => exact ⟨_, (0), dq17, H', ⟨dq31⟩, ⟨dq102⟩, ⟨dq101⟩, ⟨dq99⟩, ⟨dq100⟩⟩
   subst c10
   have H1 : (spec_l1Rd_flat.l1 k1 x3_1 x4_1 (wrap64 ((x3_1.length : Int) - 1)) s0_0 t443) = some (r1, r2) := by rw [if_pos rfl] at H; exact H
   clear H
   have H := H1
   clear H1
   have H' := Aside0.mk H
   clear H
   obtain ⟨Ao11, co11, eo11⟩ := Kd.S_slice HO_3.out
   subst eo11
   go_wp2
   go_loopg [5] k1 (fun kq v5 w' => ∃ (x5_2 : Int), v5 = .int .i64 x5_2 ∧ Aside0 (spec_l1Rd_flat.l1 kq x3_1 x4_1 x5_2 s0_0 t443 = some (r1, r2)) ∧ Aside0 (kq ≤ k1) ∧ Aside0 (Kd.S k65 65 w' w.heap.size (fun _ => True) (.slice Ao11 x3_1.length co11) x3_1) ∧ Aside0 (IsS127 w0 w' g s0_0 t443) ∧ Aside0 (KeepBut w w' g none) ∧ Aside0 (Below w0.heap.size w0 w'))
   case atStart => exact ⟨(wrap64 ((x3_1.length : Int) - 1)), dq17, H', ⟨Nat.le_refl _⟩, ⟨dq102⟩, ⟨dq101⟩, ⟨dq99⟩, ⟨dq100⟩⟩
   clear H'
   try clear c6b0
   obtain ⟨x5_2, rfl, HA, HK2, HO_3, HI0, HK, HB⟩ := hrel
   cases gk with
   | zero => exact absurd HA.out (by simp [spec_l1Rd_flat.l1])
   | succ k2 =>
    have H := HA.out
    clear HA
    simp only [spec_l1Rd_flat.l1] at H
    by_cases c12 : 0 ≤ x5_2
    rotate_left
    ·rw [if_neg c12] at H
     exact absurd H dq20
    rw [if_pos c12] at H
    have c12b0 := decide_eq_true c12
    clear c12
    (first | rw [c12b0] | (simp only [i64_w, i32_w]; rw [c12b0]) | skip)
    by_cases c13 : x5_2 < (x3_1.length : Int)
    rotate_left
    ·rw [if_neg c13] at H
     exact absurd H dq20
    rw [if_pos c13] at H
    have c13b0 := decide_eq_true c13
    clear c13
    by_cases c14 : ((rd_T65 x3_1 x5_2).f1).toList = ([] : List UInt8)
    rotate_left
    ·rw [if_neg c14] at H
     have c14b0 := beq_eq_false_iff_ne.mpr c14
     have c14b1 := bne_iff_ne.mpr c14
     have H' := Aside0.mk H
     clear H
     have p444 : 0 ≤ (x5_2 : Int) := of_decide_eq_true dq18
     have q444 : x5_2 < (x3_1.length : Int) := of_decide_eq_true dq18
     obtain ⟨ad444, A444_3, c444_3, e444, hx444_0, hx444_1, hx444_2, hx444_3, hl444_3, hi444_3⟩ := at_T65 (Kd.S_reads' HO_3.out).2.2 x5_2 p444 q444
     cases e444
     obtain ⟨ce444, hce444, hMe444, hcc444⟩ := Kd.S_get HO_3.out z65 x5_2 p444 dq103
     obtain ⟨ve444_3, rfl, ge444_3⟩ := k65_openM hMe444
     have hv444_3 := hcc444 3 _ rfl
     rw [add_field _ _ 3 dq23] at hv444_3
     replace hv444_3 := Option.some.inj (hv444_3.symm.trans hx444_3)
     rw [hv444_3] at ge444_3
     have HL444_3 := Aside0.mk (show Kd.R k67 67 _ _ _ _ ((rd_T65 x3_1 x5_2).f3) from ge444_3)
     clear hv444_3 ge444_3
     clear hcc444 hce444
     have HR444_3 := Aside0.mk hi444_3
     have HC444_3 := Aside0.mk hl444_3
     clear hi444_3 hl444_3
     replace p444 := eq_true p444
     replace q444 := eq_true q444
     go_wp2
     go_meet
     case rel => exact ⟨_, (x5_2), dq17, H', ⟨by have := HK1.out; have := HK2.out; first | omega | exact Nat.le_refl _⟩, ⟨dq102⟩, ⟨dq101⟩, ⟨dq99⟩, ⟨dq100⟩⟩
    rw [if_pos c14] at H
    have c14b0 := beq_iff_eq.mpr c14
    have c14b1 := bne_eq_false_iff_eq.mpr c14
    clear c14
    have H' := Aside0.mk H
    clear H
    have p444 : 0 ≤ (x5_2 : Int) := of_decide_eq_true dq18
    have q444 : x5_2 < (x3_1.length : Int) := of_decide_eq_true dq18
    obtain ⟨ad444, A444_3, c444_3, e444, hx444_0, hx444_1, hx444_2, hx444_3, hl444_3, hi444_3⟩ := at_T65 (Kd.S_reads' HO_3.out).2.2 x5_2 p444 q444
    cases e444
    obtain ⟨ce444, hce444, hMe444, hcc444⟩ := Kd.S_get HO_3.out z65 x5_2 p444 dq103
    obtain ⟨ve444_3, rfl, ge444_3⟩ := k65_openM hMe444
    have hv444_3 := hcc444 3 _ rfl
    rw [add_field _ _ 3 dq23] at hv444_3
    replace hv444_3 := Option.some.inj (hv444_3.symm.trans hx444_3)
    rw [hv444_3] at ge444_3
    have HL444_3 := Aside0.mk (show Kd.R k67 67 _ _ _ _ ((rd_T65 x3_1 x5_2).f3) from ge444_3)
    clear hv444_3 ge444_3
    clear hcc444 hce444
    have HR444_3 := Aside0.mk hi444_3
    have HC444_3 := Aside0.mk hl444_3
    clear hi444_3 hl444_3
    replace p444 := eq_true p444
    replace q444 := eq_true q444
    have p445 : 0 ≤ (x5_2 : Int) := of_decide_eq_true dq18
    have q445 : x5_2 < (x3_1.length : Int) := of_decide_eq_true dq18
    obtain ⟨ad445, A445_3, c445_3, e445, hx445_0, hx445_1, hx445_2, hx445_3, hl445_3, hi445_3⟩ := at_T65 (Kd.S_reads' HO_3.out).2.2 x5_2 p445 q445
    obtain rfl : ad444 = ad445 := (by injection e445)
    obtain ⟨ce445, hce445, hMe445, hcc445⟩ := Kd.S_get HO_3.out z65 x5_2 p445 (by first | exact q445 | exact of_decide_eq_true dq18 | (have e_ := (Kd.S_reads' HO_3.out).1; omega))
    obtain ⟨ve445_3, rfl, ge445_3⟩ := k65_openM hMe445
    have hv445_3 := hcc445 3 _ rfl
    rw [add_field _ _ 3 dq23] at hv445_3
    replace hv445_3 := Option.some.inj (hv445_3.symm.trans hx445_3)
    rw [hv445_3] at ge445_3
    have HL445_3 := Aside0.mk (show Kd.R k67 67 _ _ _ _ ((rd_T65 x3_1 x5_2).f3) from ge445_3)
    clear hv445_3 ge445_3
    clear hcc445 hce445
    have HR445_3 := Aside0.mk hi445_3
    have HC445_3 := Aside0.mk hl445_3
    clear hi445_3 hl445_3
    replace p445 := eq_true p445
    replace q445 := eq_true q445
    have ea_ := Option.some.inj (hx444_3.symm.trans hx445_3)
    injection ea_ with ea_ en_ ec_
    subst ea_
    subst ec_
    clear en_
    go_wp2
    go_roundg k2
    case measure => have := HK1.out; have := HK2.out; omega
    case rel => exact ⟨((rd_T65 x3_1 x5_2).f0), dq17, H', ⟨dq43⟩, ⟨dq102⟩, ⟨dq101⟩, ⟨dq99⟩, ⟨dq100⟩⟩
  clear HC8
  try clear c6b0
  obtain ⟨kq, x5_7, rfl, HA, HJ7, HO_3, HI0, HK, HB⟩ := hcut
  cases kq with
  | zero => exact absurd HA.out (by simp [spec_l1Rd_flat.j2])
  | succ kj7 =>
   have H := HA.out
   clear HA
   simp only [spec_l1Rd_flat.j2] at H
   obtain ⟨y446, hy446⟩ : ∃ y_ : List ByteArray, y_ = (([(⟨#[97]⟩ : ByteArray), (⟨#[98]⟩ : ByteArray)] : List ByteArray)) := ⟨_, rfl⟩
   replace H : ((spec_l1Rd_below.f s0_0 t443 2).bind fun bt449 => (if 0 ≤ bt449.1 then (if bt449.1 < (y446.length : Int) then ((spec_l1Rd_once.f s0_0 bt449.2 3).bind fun bt453 => (if bt453.1 = true then (spec_l1Rd_flat.j3 kj7 x3_1 x4_1 s0_0 bt453.2 x5_7 (rdOf ByteArray.empty y446 bt449.1) (⟨#[]⟩ : ByteArray) ([] : List (S67))) else ((some (([(⟨#[49]⟩ : ByteArray), (⟨#[50]⟩ : ByteArray), (⟨#[32, 49]⟩ : ByteArray), (⟨#[51]⟩ : ByteArray)] : List ByteArray) : List ByteArray)).bind fun y455 => ((spec_l1Rd_below.f s0_0 bt453.2 4).bind fun bt458 => (if 0 ≤ bt458.1 then (if bt458.1 < (y455.length : Int) then (if ([] : List (S67)).length < 4398046511104 then (spec_l1Rd_flat.j3 kj7 x3_1 x4_1 s0_0 bt458.2 x5_7 (rdOf ByteArray.empty y446 bt449.1) (⟨#[]⟩ : ByteArray) (([] : List (S67)) ++ [(⟨(⟨#[97]⟩ : ByteArray), rdOf ByteArray.empty y455 bt458.1⟩ : S67)])) else (none)) else (none)) else (none)))))) else (none)) else (none))) = some (r1, r2) := by first | (rw [hy446]; with_reducible exact H) | (have H2_ := (Option.bind_some _ _).symm.trans H; rw [hy446]; with_reducible exact H2_) | (have H2_ := (Option.bind_some _ _).symm.trans H; with_reducible exact H2_) | with_reducible exact H | (rw [hy446]; exact H) | exact H
   have Ny446 := Aside0.mk hy446
   clear hy446
   replace H := Option.bind_eq_some_iff.mp H
   obtain ⟨⟨t449, t450⟩, A150, H⟩ := H
   replace H : (if 0 ≤ t449 then (if t449 < (y446.length : Int) then ((spec_l1Rd_once.f s0_0 t450 3).bind fun bt453 => (if bt453.1 = true then (spec_l1Rd_flat.j3 kj7 x3_1 x4_1 s0_0 bt453.2 x5_7 (rdOf ByteArray.empty y446 t449) (⟨#[]⟩ : ByteArray) ([] : List (S67))) else ((some (([(⟨#[49]⟩ : ByteArray), (⟨#[50]⟩ : ByteArray), (⟨#[32, 49]⟩ : ByteArray), (⟨#[51]⟩ : ByteArray)] : List ByteArray) : List ByteArray)).bind fun y455 => ((spec_l1Rd_below.f s0_0 bt453.2 4).bind fun bt458 => (if 0 ≤ bt458.1 then (if bt458.1 < (y455.length : Int) then (if ([] : List (S67)).length < 4398046511104 then (spec_l1Rd_flat.j3 kj7 x3_1 x4_1 s0_0 bt458.2 x5_7 (rdOf ByteArray.empty y446 t449) (⟨#[]⟩ : ByteArray) (([] : List (S67)) ++ [(⟨(⟨#[97]⟩ : ByteArray), rdOf ByteArray.empty y455 bt458.1⟩ : S67)])) else (none)) else (none)) else (none)))))) else (none)) else (none)) = some (r1, r2) := H
   have A15 := Aside0.mk A150
   clear A150
   by_cases c16 : 0 ≤ t449
   rotate_left
   ·rw [if_neg c16] at H
    exact absurd H dq20
   rw [if_pos c16] at H
   have c16b0 := decide_eq_true c16
   clear c16
   by_cases c17 : t449 < (y446.length : Int)
   rotate_left
   ·rw [if_neg c17] at H
    exact absurd H dq20
   rw [if_pos c17] at H
   have c17b0 := decide_eq_true c17
   clear c17
   replace H := Option.bind_eq_some_iff.mp H
   obtain ⟨⟨t453, t454⟩, A180, H⟩ := H
   replace H : (if t453 = true then (spec_l1Rd_flat.j3 kj7 x3_1 x4_1 s0_0 t454 x5_7 (rdOf ByteArray.empty y446 t449) (⟨#[]⟩ : ByteArray) ([] : List (S67))) else ((some (([(⟨#[49]⟩ : ByteArray), (⟨#[50]⟩ : ByteArray), (⟨#[32, 49]⟩ : ByteArray), (⟨#[51]⟩ : ByteArray)] : List ByteArray) : List ByteArray)).bind fun y455 => ((spec_l1Rd_below.f s0_0 t454 4).bind fun bt458 => (if 0 ≤ bt458.1 then (if bt458.1 < (y455.length : Int) then (if ([] : List (S67)).length < 4398046511104 then (spec_l1Rd_flat.j3 kj7 x3_1 x4_1 s0_0 bt458.2 x5_7 (rdOf ByteArray.empty y446 t449) (⟨#[]⟩ : ByteArray) (([] : List (S67)) ++ [(⟨(⟨#[97]⟩ : ByteArray), rdOf ByteArray.empty y455 bt458.1⟩ : S67)])) else (none)) else (none)) else (none))))) = some (r1, r2) := H
   have A18 := Aside0.mk A180
   clear A180
   have HC19 := Aside0.mk H
   clear H
   go_upto_if 41 with (first | ((with_reducible refine gate_dst (N := 33) rfl ?_); refine Kd.R_lit Kd.string _ 9 ?hg (N := 33) ?hd (xs := ([(⟨#[97]⟩ : ByteArray), (⟨#[98]⟩ : ByteArray)] : List ByteArray)) (inner := [.string (⟨#[97]⟩ : ByteArray), .string (⟨#[98]⟩ : ByteArray)]) (ok := fun _ => True) (okp := fun _ => True) ?hr ?hp (fun _ hk => hk) trivial (Below.refl _ _) (Nat.le_refl _) dq20 ?_; (case hd => rfl); (case hg => rfl); (case hr => exact dq0); (case hp => exact (Reps.one (show Kd.M Kd.string _ _ _ (⟨#[97]⟩ : ByteArray) [.string (⟨#[97]⟩ : ByteArray)] from rfl) (Reps.one (show Kd.M Kd.string _ _ _ (⟨#[98]⟩ : ByteArray) [.string (⟨#[98]⟩ : ByteArray)] from rfl) (Reps.none _ _)))); intro v447 w20 ho21 hb hg_ hnew_; clear hg_ hnew_; (first | rw [← Ny446.out] at ho21 | (simp only [Int.reduceToNat] at ho21; rw [← Ny446.out] at ho21)); have n0_ := Aside0.mk (Kd.S_below dq102 hb); have n1_ := Aside0.mk (Kd.R_lower ho21 (keep_size (w := w) (g := g) (row := none) dq99)); have n2_ := Aside0.mk (IsS127.below dq101 hb); have n3_ := Aside0.mk (KeepBut.trans dq99 (KeepBut.of_below hb g none) (.inl rfl)); have n4_ := Aside0.mk (below_step dq100 hb); clear HO_3; clear HI0; clear HK; clear HB; have HO_3 := n0_; have HO448 := n1_; have HI0 := n2_; have HK := n3_; have HB := n4_; clear n0_ n1_ n2_ n3_ n4_; clear hb ho21) | ((with_reducible refine gate_callee (f := 111) rfl ?_); refine goesL_ (some 35) rfl rfl Tryz.func111 dq22 rfl #[.pointer (some ⟨g, 0, none⟩), .int .i64 2] rfl dq21 ?_; (with_reducible refine (spec_l1Rd_below.calls g s0_0 t443 2 t449 t450 w0 _ ?side1 ?side2 A15.out).mono ?_); (case side1 => exact dq7); (case side2 => exact dq8); rintro e w22 ⟨rfl, hi, hb, hk⟩; refine ⟨_, rfl, ?_⟩; have n0_ := Aside0.mk (Kd.S_mono (Kd.S_keep (IsS127.apartS (show IsS127 w0 _ g s0_0 t443 from by repeat (first | (with_reducible first | exact HI0.out | apply IsS127.alloc | apply IsS127.drewN | apply IsS127.drew | apply IsS127.set_1) | exact HI0.out)) dq102 dq29) hk (fun _ h => h.2)) (fun _ h => h.1)); have n1_ := Aside0.mk (Kd.R_mono (Kd.R_keep (IsS127.apart (show IsS127 w0 _ g s0_0 t443 from by repeat (first | (with_reducible first | exact HI0.out | apply IsS127.alloc | apply IsS127.drewN | apply IsS127.drew | apply IsS127.set_1) | exact HI0.out)) dq106 dq29) hk (fun _ h => h.2)) (fun _ h => h.1)); have n2_ := Aside0.mk (KeepBut.trans dq99 hk (.inl rfl)); have n3_ := Aside0.mk (hb); have n4_ := Aside0.mk (hi); clear HO_3; clear HO448; clear HK; clear HB; clear HI0; have HO_3 := n0_; have HO448 := n1_; have HK := n2_; have HB := n3_; have HI0 := n4_; clear n0_ n1_ n2_ n3_ n4_; (try clear hb); (try clear hb2); (try clear hk); (try clear hi); obtain ⟨Ao23, co23, eo23⟩ := Kd.R_slice HO448.out; subst eo23; have p451 : 0 ≤ (t449 : Int) := of_decide_eq_true dq18; have q451 : t449 < (y446.length : Int) := of_decide_eq_true dq18; obtain ⟨ad451, e451, hx451_0⟩ := Kd.at_string (Kd.R_reads' HO448.out).2.2 t449 p451 q451; cases e451; replace p451 := eq_true p451; replace q451 := eq_true q451) | ((with_reducible refine gate_dst (N := 6) rfl ?_); refine box_event ?hg (N := 6) ?hd (cs := #[.int .i64 0, .string (⟨#[]⟩ : ByteArray), .string (⟨#[]⟩ : ByteArray), .slice none 0 0]) (t := 65) ?hr ?_; (case hd => rfl); (case hg => rfl); (case hr => exact dq0); intro gb452 hg w24 hbox hb; have n0_ := Aside0.mk (Kd.S_below (Kd.S_elderB dq102 gb452 (Nat.le_of_eq hg.symm)) hb); have n1_ := Aside0.mk (Kd.R_below dq106 hb); have n2_ := Aside0.mk (IsS127.below dq101 hb); have n3_ := Aside0.mk (KeepBut.trans dq99 (KeepBut.of_below hb g none) (.inl rfl)); have n4_ := Aside0.mk (below_step dq100 hb); have n5_ := Aside0.mk (hbox); have n6_ := Aside0.mk ((dq105 : w.heap.size ≤ gb452)); have n7_ := Aside0.mk ((Nat.le_trans HW0.out (dq105 : w.heap.size ≤ gb452) : w0.heap.size ≤ gb452)); have n8_ := Aside0.mk ((by rw [hg]; exact Nat.ne_of_lt (IsS127.lt (show IsS127 w0 _ g s0_0 t450 from by repeat (first | (with_reducible first | exact HI0.out | apply IsS127.alloc | apply IsS127.drewN | apply IsS127.drew | apply IsS127.set_1) | exact HI0.out))) : g ≠ gb452)); have n9_ := Aside0.mk ((by rw [hg]; exact Nat.ne_of_gt (IsS127.lt (show IsS127 w0 _ g s0_0 t450 from by repeat (first | (with_reducible first | exact HI0.out | apply IsS127.alloc | apply IsS127.drewN | apply IsS127.drew | apply IsS127.set_1) | exact HI0.out))) : gb452 ≠ g)); clear HO_3; clear HO448; clear HI0; clear HK; clear HB; have HO_3 := n0_; have HO448 := n1_; have HI0 := n2_; have HK := n3_; have HB := n4_; have BK452 := n5_; have GW452 := n6_; have GE452 := n7_; have NB0_452 := n8_; have NB452_0 := n9_; clear n0_ n1_ n2_ n3_ n4_ n5_ n6_ n7_ n8_ n9_; clear hb hbox hg; have hnb25 := NB452_0.out; have hnc25 := NB0_452.out; obtain ⟨⟨hcz26_0, hcz26_1, hcz26_2, hcz26_3⟩, hfz26_0, hfz26_1, hfz26_2, hfz26_3⟩ := blkC4 BK452.out) | ((with_reducible refine gate_callee (f := 78) rfl ?_); refine goesL_ (some 40) rfl rfl Tryz.func78 dq22 rfl #[.pointer (some ⟨g, 0, none⟩), .int .i64 3] rfl dq21 ?_; (with_reducible refine (spec_l1Rd_once.calls g s0_0 t450 3 t453 t454 w0 _ ?side1 ?side2 A18.out).mono ?_); (case side1 => exact dq9); (case side2 => exact dq10); rintro e w27 ⟨rfl, hi, hb, hk⟩; refine ⟨_, rfl, ?_⟩; have n0_ := Aside0.mk (Kd.S_mono (Kd.S_keep (IsS127.apartS (show IsS127 w0 _ g s0_0 t450 from by repeat (first | (with_reducible first | exact HI0.out | apply IsS127.alloc | apply IsS127.drewN | apply IsS127.drew | apply IsS127.set_1 | refine IsS127.far ?_ NB0_452.out _) | exact HI0.out)) (by (with_reducible repeat (first | apply Kd.S_alloc | apply Kd.S_drewN | apply Kd.S_drew)); exact (Kd.S_mono (Kd.S_far (p := ⟨gb452, 3, none⟩) (Kd.S_far (p := ⟨gb452, 2, none⟩) (Kd.S_far (p := ⟨gb452, 1, none⟩) (Kd.S_far (p := ⟨gb452, 0, none⟩) (Kd.S_mono HO_3.out (fun k_ hk => (⟨hk, hk.2⟩ : _ ∧ k_ ≠ gb452))) (fun _ hk => hk.2) (.int .i64 x5_7)) (fun _ hk => hk.2) (.string (rdOf ByteArray.empty y446 t449))) (fun _ hk => hk.2) (.string (⟨#[]⟩ : ByteArray))) (fun _ hk => hk.2) (.slice none 0 0)) (fun _ h_ => h_.1))) dq29) hk (fun _ h => h.2)) (fun _ h => h.1)); have n1_ := Aside0.mk (Kd.R_mono (Kd.R_keep (IsS127.apart (show IsS127 w0 _ g s0_0 t450 from by repeat (first | (with_reducible first | exact HI0.out | apply IsS127.alloc | apply IsS127.drewN | apply IsS127.drew | apply IsS127.set_1 | refine IsS127.far ?_ NB0_452.out _) | exact HI0.out)) (by (with_reducible repeat (first | apply Kd.R_alloc | apply Kd.R_drewN | apply Kd.R_drew)); exact (Kd.R_mono (Kd.R_far (p := ⟨gb452, 3, none⟩) (Kd.R_far (p := ⟨gb452, 2, none⟩) (Kd.R_far (p := ⟨gb452, 1, none⟩) (Kd.R_far (p := ⟨gb452, 0, none⟩) (Kd.R_types HO448.out BK452.out dq29) (fun _ hk => hk.2) (.int .i64 x5_7)) (fun _ hk => hk.2) (.string (rdOf ByteArray.empty y446 t449))) (fun _ hk => hk.2) (.string (⟨#[]⟩ : ByteArray))) (fun _ hk => hk.2) (.slice none 0 0)) (fun _ h_ => h_.1))) dq29) hk (fun _ h => h.2)) (fun _ h => h.1)); have n2_ := Aside0.mk (KeepBut.blk hk (g' := gb452) (o := .cells #[.int .i64 x5_7, .string (rdOf ByteArray.empty y446 t449), .string (⟨#[]⟩ : ByteArray), .slice none 0 0] 65 (0, 0)) (by refine blk_up ?_; refine blk_put (cs := #[.int .i64 x5_7, .string (rdOf ByteArray.empty y446 t449), .string (⟨#[]⟩ : ByteArray), .slice none 0 0]) ?_ 3 _ rfl; refine blk_up ?_; refine blk_put (cs := #[.int .i64 x5_7, .string (rdOf ByteArray.empty y446 t449), .string (⟨#[]⟩ : ByteArray), .slice none 0 0]) ?_ 2 _ rfl; refine blk_up ?_; refine blk_put (cs := #[.int .i64 x5_7, .string (⟨#[]⟩ : ByteArray), .string (⟨#[]⟩ : ByteArray), .slice none 0 0]) ?_ 1 _ rfl; refine blk_up ?_; refine blk_put (cs := #[.int .i64 0, .string (⟨#[]⟩ : ByteArray), .string (⟨#[]⟩ : ByteArray), .slice none 0 0]) ?_ 0 _ rfl; refine blk_up ?_; exact BK452.out) NB452_0.out dq20); have n3_ := Aside0.mk (KeepBut.trans dq104 hk (.inl rfl)); have n4_ := Aside0.mk (hb); have n5_ := Aside0.mk (hi); clear HO_3; clear HO448; clear BK452; clear HK; clear HB; clear HI0; have HO_3 := n0_; have HO448 := n1_; have BK452 := n2_; have HK := n3_; have HB := n4_; have HI0 := n5_; clear n0_ n1_ n2_ n3_ n4_ n5_; (try clear hb); (try clear hb2); (try clear hk); (try clear hi)))
   (try simp only [Act.put, List.setIfInBounds_toArray, List.set_cons_zero, List.set_cons_succ])
   go_cut [] (fun wc => ∃ (kq : Nat) (x1001_18 : Int) (x453003_18 : List (S67)) (u453003 : Value), Aside0 (spec_l1Rd_flat.j3 kq x3_1 x4_1 s0_0 x1001_18 x5_7 (rdOf ByteArray.empty y446 t449) (⟨#[]⟩ : ByteArray) x453003_18 = some (r1, r2)) ∧ Aside0 (kq ≤ kj7) ∧ Aside0 (Kd.S k65 65 wc w.heap.size (fun k_ => some k_ ≠ (u453003 : Value).ownBlock ∧ k_ ≠ gb452) u3 x3_1) ∧ Aside0 (Kd.R k67 67 wc w.heap.size (fun _ => True) u453003 x453003_18) ∧ Aside0 (wc.heap[gb452]? = some (.cells #[.int .i64 x5_7, .string (rdOf ByteArray.empty y446 t449), .string (⟨#[]⟩ : ByteArray), u453003] 65 (0, 0))) ∧ Aside0 (IsS127 w0 wc g s0_0 x1001_18) ∧ Aside0 (KeepBut w wc g none) ∧ Aside0 (Below w0.heap.size w0 wc))
   case rest =>
    clear HC19
    try clear c16b0
    try clear c17b0
    try clear hcz26_0
    try clear hcz26_1
    try clear hcz26_2
    try clear hcz26_3
    try clear hfz26_0
    try clear hfz26_1
    try clear hfz26_2
    try clear hfz26_3
    try clear hx451_0
    try clear p451
    try clear q451
    obtain ⟨kq, x1001_18, x453003_18, u453003, HA, HJ18, HO_3, HO_453003, BK452, HI0, HK, HB⟩ := hcut
    cases kq with
    | zero => exact absurd HA.out (by simp [spec_l1Rd_flat.j3])
    | succ kj18 =>
     have H := HA.out
     clear HA
     simp only [spec_l1Rd_flat.j3] at H
     by_cases c43 : x3_1.length < 2199023255552
     rotate_left
     ·rw [if_neg c43] at H
      exact absurd H dq20
     rw [if_pos c43] at H
     have LMc43 := Aside0.mk c43
     clear c43
     obtain ⟨y464, hy464⟩ : ∃ y_ : List (S65), y_ = (x3_1 ++ [(⟨x5_7, (rdOf ByteArray.empty y446 t449), (⟨#[]⟩ : ByteArray), x453003_18⟩ : S65)]) := ⟨_, rfl⟩
     replace H : ((spec_l1Rd_once.f s0_0 x1001_18 3).bind fun bt467 => (if bt467.1 = true then ((some (([(⟨#[117]⟩ : ByteArray), (⟨#[118]⟩ : ByteArray), (⟨#[32, 117, 32]⟩ : ByteArray)] : List ByteArray) : List ByteArray)).bind fun y469 => ((spec_l1Rd_below.f s0_0 bt467.2 3).bind fun bt472 => (if 0 ≤ bt472.1 then (if bt472.1 < (y469.length : Int) then (if y464.length < 2199023255552 then (spec_l1Rd_flat.l0 kj18 (y464 ++ [(⟨(x3_1.length : Int), (⟨#[]⟩ : ByteArray), rdOf ByteArray.empty y469 bt472.1, ([] : List (S67))⟩ : S65)]) (wrap64 (x4_1 - 1)) s0_0 bt472.2) else (none)) else (none)) else (none)))) else (spec_l1Rd_flat.l0 kj18 y464 (wrap64 (x4_1 - 1)) s0_0 bt467.2))) = some (r1, r2) := by first | (rw [hy464]; with_reducible exact H) | (have H2_ := (Option.bind_some _ _).symm.trans H; rw [hy464]; with_reducible exact H2_) | (have H2_ := (Option.bind_some _ _).symm.trans H; with_reducible exact H2_) | with_reducible exact H | (rw [hy464]; exact H) | exact H
     have Ny464 := Aside0.mk hy464
     clear hy464
     replace H := Option.bind_eq_some_iff.mp H
     obtain ⟨⟨t467, t468⟩, A440, H⟩ := H
     replace H : (if t467 = true then ((some (([(⟨#[117]⟩ : ByteArray), (⟨#[118]⟩ : ByteArray), (⟨#[32, 117, 32]⟩ : ByteArray)] : List ByteArray) : List ByteArray)).bind fun y469 => ((spec_l1Rd_below.f s0_0 t468 3).bind fun bt472 => (if 0 ≤ bt472.1 then (if bt472.1 < (y469.length : Int) then (if y464.length < 2199023255552 then (spec_l1Rd_flat.l0 kj18 (y464 ++ [(⟨(x3_1.length : Int), (⟨#[]⟩ : ByteArray), rdOf ByteArray.empty y469 bt472.1, ([] : List (S67))⟩ : S65)]) (wrap64 (x4_1 - 1)) s0_0 bt472.2) else (none)) else (none)) else (none)))) else (spec_l1Rd_flat.l0 kj18 y464 (wrap64 (x4_1 - 1)) s0_0 t468)) = some (r1, r2) := H
     have A44 := Aside0.mk A440
     clear A440
     by_cases c45 : t467 = true
     rotate_left
     ·replace c45 := Bool.eq_false_iff.mpr c45
      subst c45
      have H1 : (spec_l1Rd_flat.l0 kj18 y464 (wrap64 (x4_1 - 1)) s0_0 t468) = some (r1, r2) := by rw [if_neg (show ¬ (false = true) by decide)] at H; exact H
      clear H
      have H := H1
      clear H1
      have H' := Aside0.mk H
      clear H
      obtain ⟨Ao61, co61, eo61⟩ := Kd.S_slice HO_3.out
      subst eo61
      have hnb62 := NB452_0.out
      have hnc62 := NB0_452.out
      obtain ⟨⟨hcz63_0, hcz63_1, hcz63_2, hcz63_3⟩, hfz63_0, hfz63_1, hfz63_2, hfz63_3⟩ := blkC4 BK452.out
      obtain ⟨Ao65, co65, eo65⟩ := Kd.R_slice HO_453003.out
      subst eo65
      go_wp2_with (first | ((with_reducible refine gate_builtin (b := .append) (xs := #[.tmp 55, .tmp 57]) rfl ?_); at_builtin; refine Kd.S_append k65 w.heap.size rfl (.tmp 55) (.tmp 57) 26 65 (.agg #[(.int .i64 0), (.string ⟨#[]⟩), (.string ⟨#[]⟩), (.slice none 0 0)]) 64 rfl Tryz.underlying26 info65 rfl dq29 dq23 (.slice Ao61 x3_1.length co61) x3_1 (⟨x5_7, (rdOf ByteArray.empty y446 t449), (⟨#[]⟩ : ByteArray), x453003_18⟩ : S65) [.int .i64 x5_7, .string (rdOf ByteArray.empty y446 t449), .string (⟨#[]⟩ : ByteArray), .slice Ao65 x453003_18.length co65] (fun k_ => k_ ≠ gb452) (fun k_ => some k_ = (.slice Ao65 x453003_18.length co65 : Value).ownBlock) rfl rfl ?aP (fun k_ hk_ => ((Kd.R_mono (ok' := fun k_ => ((fun k_ => k_ ≠ gb452)) k_ ∧ some k_ ≠ (.slice Ao61 x3_1.length co61 : Value).ownBlock) (Kd.R_types (Kd.R_apart' (HO_453003.out) (Kd.S_typed HO_3.out) dq29) BK452.out dq29) (fun k_ hk => ⟨hk.2, hk.1.2⟩))).1 k_ hk_.symm) ?aF ?aO (Below.refl _ _) ?aS ?aL ?_; (case aP => exact k65_mkM _ _ _ (⟨x5_7, (rdOf ByteArray.empty y446 t449), (⟨#[]⟩ : ByteArray), x453003_18⟩ : S65) (Kd.R_mono (Kd.R_tight rfl (Kd.R_mono (ok' := fun k_ => ((fun k_ => k_ ≠ gb452)) k_ ∧ some k_ ≠ (.slice Ao61 x3_1.length co61 : Value).ownBlock) (Kd.R_types (Kd.R_apart' (HO_453003.out) (Kd.S_typed HO_3.out) dq29) BK452.out dq29) (fun k_ hk => ⟨hk.2, hk.1.2⟩))) (fun _ h_ => h_))); (case aF => exact (fun k_ hk => Kd.freshB (g := gb452) (o := .cells #[.int .i64 x5_7, .string (rdOf ByteArray.empty y446 t449), .string (⟨#[]⟩ : ByteArray), .slice Ao65 x453003_18.length co65] 65 (0, 0)) dq109 k_ hk)); (case aO => exact dq114); (case aS => exact (keep_size (w := w) (g := g) (row := none) dq104)); (case aL => have := LMc43.out; omega); intro v465 w64 ho hb hg hat; rw [← Ny464.out] at ho; have n0_ := Aside0.mk (blk_grown (g := gb452) (o := .cells #[.int .i64 x5_7, .string (rdOf ByteArray.empty y446 t449), .string (⟨#[]⟩ : ByteArray), .slice Ao65 x453003_18.length co65] 65 (0, 0)) dq109 hg (Kd.S_away HO_3.out (fun _ hk => hk.2))); have n1_ := Aside0.mk (IsS127.grown dq108 hg (IsS127.own_neS HI0.out HO_3.out dq29)); have n2_ := Aside0.mk (below_weaken dq107 HL.out hb); have n3_ := Aside0.mk (KeepBut.trans dq104 (KeepBut.of_grown hg g) (Kd.S_base2 HO_3.out)); have n4_ := Aside0.mk (ho); clear BK452; clear HI0; clear HB; clear HK; clear HO_3; clear HO_453003; have BK452 := n0_; have HI0 := n1_; have HB := n2_; have HK := n3_; have HO466 := n4_; clear n0_ n1_ n2_ n3_ n4_; clear ho hb hg hat) | ((with_reducible refine gate_callee (f := 78) rfl ?_); refine goesL_ (some 60) rfl rfl Tryz.func78 dq22 rfl #[.pointer (some ⟨g, 0, none⟩), .int .i64 3] rfl dq21 ?_; (with_reducible refine (spec_l1Rd_once.calls g s0_0 x1001_18 3 false t468 w0 _ ?side1 ?side2 A44.out).mono ?_); (case side1 => exact dq9); (case side2 => exact dq10); rintro e w66 ⟨rfl, hi, hb, hk⟩; refine ⟨_, rfl, ?_⟩; have n0_ := Aside0.mk (KeepBut.blk hk (g' := gb452) (o := .cells #[.int .i64 x5_7, .string (rdOf ByteArray.empty y446 t449), .string (⟨#[]⟩ : ByteArray), .slice Ao65 x453003_18.length co65] 65 (0, 0)) dq109 NB452_0.out dq20); have n1_ := Aside0.mk (Kd.S_mono (Kd.S_keep (IsS127.apartS (show IsS127 w0 _ g s0_0 x1001_18 from by repeat (first | (with_reducible first | exact HI0.out | apply IsS127.alloc | apply IsS127.drewN | apply IsS127.drew | apply IsS127.set_1 | refine IsS127.far ?_ NB0_452.out _) | exact HI0.out)) dq113 dq29) hk (fun _ h => h.2)) (fun _ h => h.1)); have n2_ := Aside0.mk (KeepBut.trans dq104 hk (.inl rfl)); have n3_ := Aside0.mk (hb); have n4_ := Aside0.mk (hi); clear BK452; clear HO466; clear HK; clear HB; clear HI0; have BK452 := n0_; have HO466 := n1_; have HK := n2_; have HB := n3_; have HI0 := n4_; clear n0_ n1_ n2_ n3_ n4_; (try clear hb); (try clear hb2); (try clear hk); (try clear hi)))
      go_roundg kj18
      case measure => have := HK1.out; have := HJ7.out; have := HJ18.out; omega
      case rel => exact ⟨(y464), (wrap64 (x4_1 - 1)), (t468), dq17, H', ⟨by have := HK1.out; have := HJ7.out; have := HJ18.out; omega⟩, ⟨by (with_reducible repeat (first | apply Kd.S_alloc | apply Kd.S_drewN | apply Kd.S_drew)); exact Kd.S_mono HO466.out (fun _ hk => trivial)⟩, ⟨dq108⟩, ⟨dq104⟩, ⟨dq107⟩⟩
     subst c45
     have H1 : ((some (([(⟨#[117]⟩ : ByteArray), (⟨#[118]⟩ : ByteArray), (⟨#[32, 117, 32]⟩ : ByteArray)] : List ByteArray) : List ByteArray)).bind fun y469 => ((spec_l1Rd_below.f s0_0 t468 3).bind fun bt472 => (if 0 ≤ bt472.1 then (if bt472.1 < (y469.length : Int) then (if y464.length < 2199023255552 then (spec_l1Rd_flat.l0 kj18 (y464 ++ [(⟨(x3_1.length : Int), (⟨#[]⟩ : ByteArray), rdOf ByteArray.empty y469 bt472.1, ([] : List (S67))⟩ : S65)]) (wrap64 (x4_1 - 1)) s0_0 bt472.2) else (none)) else (none)) else (none)))) = some (r1, r2) := by rw [if_pos rfl] at H; exact H
     clear H
     have H := H1
     clear H1
     obtain ⟨y469, hy469⟩ : ∃ y_ : List ByteArray, y_ = (([(⟨#[117]⟩ : ByteArray), (⟨#[118]⟩ : ByteArray), (⟨#[32, 117, 32]⟩ : ByteArray)] : List ByteArray)) := ⟨_, rfl⟩
     replace H : ((spec_l1Rd_below.f s0_0 t468 3).bind fun bt472 => (if 0 ≤ bt472.1 then (if bt472.1 < (y469.length : Int) then (if y464.length < 2199023255552 then (spec_l1Rd_flat.l0 kj18 (y464 ++ [(⟨(x3_1.length : Int), (⟨#[]⟩ : ByteArray), rdOf ByteArray.empty y469 bt472.1, ([] : List (S67))⟩ : S65)]) (wrap64 (x4_1 - 1)) s0_0 bt472.2) else (none)) else (none)) else (none))) = some (r1, r2) := by first | (rw [hy469]; with_reducible exact H) | (have H2_ := (Option.bind_some _ _).symm.trans H; rw [hy469]; with_reducible exact H2_) | (have H2_ := (Option.bind_some _ _).symm.trans H; with_reducible exact H2_) | with_reducible exact H | (rw [hy469]; exact H) | exact H
     have Ny469 := Aside0.mk hy469
     clear hy469
     replace H := Option.bind_eq_some_iff.mp H
     obtain ⟨⟨t472, t473⟩, A460, H⟩ := H
     replace H : (if 0 ≤ t472 then (if t472 < (y469.length : Int) then (if y464.length < 2199023255552 then (spec_l1Rd_flat.l0 kj18 (y464 ++ [(⟨(x3_1.length : Int), (⟨#[]⟩ : ByteArray), rdOf ByteArray.empty y469 t472, ([] : List (S67))⟩ : S65)]) (wrap64 (x4_1 - 1)) s0_0 t473) else (none)) else (none)) else (none)) = some (r1, r2) := H
     have A46 := Aside0.mk A460
     clear A460
     by_cases c47 : 0 ≤ t472
     rotate_left
     ·rw [if_neg c47] at H
      exact absurd H dq20
     rw [if_pos c47] at H
     have c47b0 := decide_eq_true c47
     clear c47
     by_cases c48 : t472 < (y469.length : Int)
     rotate_left
     ·rw [if_neg c48] at H
      exact absurd H dq20
     rw [if_pos c48] at H
     have c48b0 := decide_eq_true c48
     clear c48
     by_cases c49 : y464.length < 2199023255552
     rotate_left
     ·rw [if_neg c49] at H
      exact absurd H dq20
     rw [if_pos c49] at H
     have LMc49 := Aside0.mk c49
     clear c49
     obtain ⟨y475, hy475⟩ : ∃ y_ : List (S65), y_ = (y464 ++ [(⟨(x3_1.length : Int), (⟨#[]⟩ : ByteArray), rdOf ByteArray.empty y469 t472, ([] : List (S67))⟩ : S65)]) := ⟨_, rfl⟩
     replace H : (spec_l1Rd_flat.l0 kj18 y475 (wrap64 (x4_1 - 1)) s0_0 t473) = some (r1, r2) := by first | (rw [hy475]; with_reducible exact H) | (have H2_ := (Option.bind_some _ _).symm.trans H; rw [hy475]; with_reducible exact H2_) | (have H2_ := (Option.bind_some _ _).symm.trans H; with_reducible exact H2_) | with_reducible exact H | (rw [hy475]; exact H) | exact H
     have Ny475 := Aside0.mk hy475
     clear hy475
     have H' := Aside0.mk H
     clear H
     obtain ⟨Ao50, co50, eo50⟩ := Kd.S_slice HO_3.out
     subst eo50
     have hnb51 := NB452_0.out
     have hnc51 := NB0_452.out
     obtain ⟨⟨hcz52_0, hcz52_1, hcz52_2, hcz52_3⟩, hfz52_0, hfz52_1, hfz52_2, hfz52_3⟩ := blkC4 BK452.out
     obtain ⟨Ao54, co54, eo54⟩ := Kd.R_slice HO_453003.out
     subst eo54
     go_wp2_with (first | ((with_reducible refine gate_builtin (b := .append) (xs := #[.tmp 55, .tmp 57]) rfl ?_); at_builtin; refine Kd.S_append k65 w.heap.size rfl (.tmp 55) (.tmp 57) 26 65 (.agg #[(.int .i64 0), (.string ⟨#[]⟩), (.string ⟨#[]⟩), (.slice none 0 0)]) 64 rfl Tryz.underlying26 info65 rfl dq29 dq23 (.slice Ao50 x3_1.length co50) x3_1 (⟨x5_7, (rdOf ByteArray.empty y446 t449), (⟨#[]⟩ : ByteArray), x453003_18⟩ : S65) [.int .i64 x5_7, .string (rdOf ByteArray.empty y446 t449), .string (⟨#[]⟩ : ByteArray), .slice Ao54 x453003_18.length co54] (fun k_ => k_ ≠ gb452) (fun k_ => some k_ = (.slice Ao54 x453003_18.length co54 : Value).ownBlock) rfl rfl ?aP (fun k_ hk_ => ((Kd.R_mono (ok' := fun k_ => ((fun k_ => k_ ≠ gb452)) k_ ∧ some k_ ≠ (.slice Ao50 x3_1.length co50 : Value).ownBlock) (Kd.R_types (Kd.R_apart' (HO_453003.out) (Kd.S_typed HO_3.out) dq29) BK452.out dq29) (fun k_ hk => ⟨hk.2, hk.1.2⟩))).1 k_ hk_.symm) ?aF ?aO (Below.refl _ _) ?aS ?aL ?_; (case aP => exact k65_mkM _ _ _ (⟨x5_7, (rdOf ByteArray.empty y446 t449), (⟨#[]⟩ : ByteArray), x453003_18⟩ : S65) (Kd.R_mono (Kd.R_tight rfl (Kd.R_mono (ok' := fun k_ => ((fun k_ => k_ ≠ gb452)) k_ ∧ some k_ ≠ (.slice Ao50 x3_1.length co50 : Value).ownBlock) (Kd.R_types (Kd.R_apart' (HO_453003.out) (Kd.S_typed HO_3.out) dq29) BK452.out dq29) (fun k_ hk => ⟨hk.2, hk.1.2⟩))) (fun _ h_ => h_))); (case aF => exact (fun k_ hk => Kd.freshB (g := gb452) (o := .cells #[.int .i64 x5_7, .string (rdOf ByteArray.empty y446 t449), .string (⟨#[]⟩ : ByteArray), .slice Ao54 x453003_18.length co54] 65 (0, 0)) dq109 k_ hk)); (case aO => exact dq114); (case aS => exact (keep_size (w := w) (g := g) (row := none) dq104)); (case aL => have := LMc43.out; omega); intro v465 w53 ho hb hg hat; rw [← Ny464.out] at ho; have n0_ := Aside0.mk (blk_grown (g := gb452) (o := .cells #[.int .i64 x5_7, .string (rdOf ByteArray.empty y446 t449), .string (⟨#[]⟩ : ByteArray), .slice Ao54 x453003_18.length co54] 65 (0, 0)) dq109 hg (Kd.S_away HO_3.out (fun _ hk => hk.2))); have n1_ := Aside0.mk (IsS127.grown dq108 hg (IsS127.own_neS HI0.out HO_3.out dq29)); have n2_ := Aside0.mk (below_weaken dq107 HL.out hb); have n3_ := Aside0.mk (KeepBut.trans dq104 (KeepBut.of_grown hg g) (Kd.S_base2 HO_3.out)); have n4_ := Aside0.mk (ho); clear BK452; clear HI0; clear HB; clear HK; clear HO_3; clear HO_453003; have BK452 := n0_; have HI0 := n1_; have HB := n2_; have HK := n3_; have HO466 := n4_; clear n0_ n1_ n2_ n3_ n4_; clear ho hb hg hat) | ((with_reducible refine gate_callee (f := 78) rfl ?_); refine goesL_ (some 60) rfl rfl Tryz.func78 dq22 rfl #[.pointer (some ⟨g, 0, none⟩), .int .i64 3] rfl dq21 ?_; (with_reducible refine (spec_l1Rd_once.calls g s0_0 x1001_18 3 true t468 w0 _ ?side1 ?side2 A44.out).mono ?_); (case side1 => exact dq9); (case side2 => exact dq10); rintro e w55 ⟨rfl, hi, hb, hk⟩; refine ⟨_, rfl, ?_⟩; have n0_ := Aside0.mk (KeepBut.blk hk (g' := gb452) (o := .cells #[.int .i64 x5_7, .string (rdOf ByteArray.empty y446 t449), .string (⟨#[]⟩ : ByteArray), .slice Ao54 x453003_18.length co54] 65 (0, 0)) dq109 NB452_0.out dq20); have n1_ := Aside0.mk (Kd.S_mono (Kd.S_keep (IsS127.apartS (show IsS127 w0 _ g s0_0 x1001_18 from by repeat (first | (with_reducible first | exact HI0.out | apply IsS127.alloc | apply IsS127.drewN | apply IsS127.drew | apply IsS127.set_1 | refine IsS127.far ?_ NB0_452.out _) | exact HI0.out)) dq113 dq29) hk (fun _ h => h.2)) (fun _ h => h.1)); have n2_ := Aside0.mk (KeepBut.trans dq104 hk (.inl rfl)); have n3_ := Aside0.mk (hb); have n4_ := Aside0.mk (hi); clear BK452; clear HO466; clear HK; clear HB; clear HI0; have BK452 := n0_; have HO466 := n1_; have HK := n2_; have HB := n3_; have HI0 := n4_; clear n0_ n1_ n2_ n3_ n4_; (try clear hb); (try clear hb2); (try clear hk); (try clear hi)) | ((with_reducible refine gate_dst (N := 63) rfl ?_); refine Kd.R_lit Kd.string _ 9 ?hg (N := 63) ?hd (xs := ([(⟨#[117]⟩ : ByteArray), (⟨#[118]⟩ : ByteArray), (⟨#[32, 117, 32]⟩ : ByteArray)] : List ByteArray)) (inner := [.string (⟨#[117]⟩ : ByteArray), .string (⟨#[118]⟩ : ByteArray), .string (⟨#[32, 117, 32]⟩ : ByteArray)]) (ok := fun _ => True) (okp := fun _ => True) ?hr ?hp (fun _ hk => hk) trivial (Below.refl _ _) (Nat.le_refl _) dq20 ?_; (case hd => rfl); (case hg => rfl); (case hr => exact dq0); (case hp => exact (Reps.one (show Kd.M Kd.string _ _ _ (⟨#[117]⟩ : ByteArray) [.string (⟨#[117]⟩ : ByteArray)] from rfl) (Reps.one (show Kd.M Kd.string _ _ _ (⟨#[118]⟩ : ByteArray) [.string (⟨#[118]⟩ : ByteArray)] from rfl) (Reps.one (show Kd.M Kd.string _ _ _ (⟨#[32, 117, 32]⟩ : ByteArray) [.string (⟨#[32, 117, 32]⟩ : ByteArray)] from rfl) (Reps.none _ _))))); intro v470 w56 ho57 hb hg_ hnew_; clear hg_ hnew_; (first | rw [← Ny469.out] at ho57 | (simp only [Int.reduceToNat] at ho57; rw [← Ny469.out] at ho57)); have n0_ := Aside0.mk (Kd.S_below dq113 hb); have n1_ := Aside0.mk (Kd.R_lower ho57 (keep_size (w := w) (g := g) (row := none) dq104)); have n2_ := Aside0.mk (blk_below (g := gb452) (o := .cells #[.int .i64 x5_7, .string (rdOf ByteArray.empty y446 t449), .string (⟨#[]⟩ : ByteArray), .slice Ao54 x453003_18.length co54] 65 (0, 0)) dq109 hb); have n3_ := Aside0.mk (IsS127.below dq108 hb); have n4_ := Aside0.mk (KeepBut.trans dq104 (KeepBut.of_below hb g none) (.inl rfl)); have n5_ := Aside0.mk (below_step dq107 hb); clear HO466; clear BK452; clear HI0; clear HK; clear HB; have HO466 := n0_; have HO471 := n1_; have BK452 := n2_; have HI0 := n3_; have HK := n4_; have HB := n5_; clear n0_ n1_ n2_ n3_ n4_ n5_; clear hb ho57) | ((with_reducible refine gate_callee (f := 111) rfl ?_); refine goesL_ (some 65) rfl rfl Tryz.func111 dq22 rfl #[.pointer (some ⟨g, 0, none⟩), .int .i64 3] rfl dq21 ?_; (with_reducible refine (spec_l1Rd_below.calls g s0_0 t468 3 t472 t473 w0 _ ?side1 ?side2 A46.out).mono ?_); (case side1 => exact dq9); (case side2 => exact dq10); rintro e w58 ⟨rfl, hi, hb, hk⟩; refine ⟨_, rfl, ?_⟩; have n0_ := Aside0.mk (KeepBut.blk hk (g' := gb452) (o := .cells #[.int .i64 x5_7, .string (rdOf ByteArray.empty y446 t449), .string (⟨#[]⟩ : ByteArray), .slice Ao54 x453003_18.length co54] 65 (0, 0)) dq109 NB452_0.out dq20); have n1_ := Aside0.mk (Kd.S_mono (Kd.S_keep (IsS127.apartS (show IsS127 w0 _ g s0_0 t468 from by repeat (first | (with_reducible first | exact HI0.out | apply IsS127.alloc | apply IsS127.drewN | apply IsS127.drew | apply IsS127.set_1 | refine IsS127.far ?_ NB0_452.out _) | exact HI0.out)) dq113 dq29) hk (fun _ h => h.2)) (fun _ h => h.1)); have n2_ := Aside0.mk (Kd.R_mono (Kd.R_keep (IsS127.apart (show IsS127 w0 _ g s0_0 t468 from by repeat (first | (with_reducible first | exact HI0.out | apply IsS127.alloc | apply IsS127.drewN | apply IsS127.drew | apply IsS127.set_1 | refine IsS127.far ?_ NB0_452.out _) | exact HI0.out)) (by (with_reducible repeat (first | apply Kd.R_alloc | apply Kd.R_drewN | apply Kd.R_drew)); exact HO471.out) dq29) hk (fun _ h => h.2)) (fun _ h => h.1)); have n3_ := Aside0.mk (KeepBut.trans dq104 hk (.inl rfl)); have n4_ := Aside0.mk (hb); have n5_ := Aside0.mk (hi); clear BK452; clear HO466; clear HO471; clear HK; clear HB; clear HI0; have BK452 := n0_; have HO466 := n1_; have HO471 := n2_; have HK := n3_; have HB := n4_; have HI0 := n5_; clear n0_ n1_ n2_ n3_ n4_ n5_; (try clear hb); (try clear hb2); (try clear hk); (try clear hi); obtain ⟨Ao59, co59, eo59⟩ := Kd.R_slice HO471.out; subst eo59; have p474 : 0 ≤ (t472 : Int) := of_decide_eq_true dq18; have q474 : t472 < (y469.length : Int) := of_decide_eq_true dq18; obtain ⟨ad474, e474, hx474_0⟩ := Kd.at_string (Kd.R_reads' HO471.out).2.2 t472 p474 q474; cases e474; replace p474 := eq_true p474; replace q474 := eq_true q474) | ((with_reducible refine gate_builtin (b := .append) (xs := #[.tmp 61, .tmp 69]) rfl ?_); at_builtin; refine Kd.S_append k65 w.heap.size rfl (.tmp 61) (.tmp 69) 26 65 (.agg #[(.int .i64 0), (.string ⟨#[]⟩), (.string ⟨#[]⟩), (.slice none 0 0)]) 64 rfl Tryz.underlying26 info65 rfl dq29 dq23 v465 y464 (⟨(x3_1.length : Int), (⟨#[]⟩ : ByteArray), rdOf ByteArray.empty y469 t472, ([] : List (S67))⟩ : S65) [.int .i64 (x3_1.length : Int), .string (⟨#[]⟩ : ByteArray), .string (rdOf ByteArray.empty y469 t472), .slice none 0 0] (fun k_ => k_ ≠ gb452) (fun _ => False) rfl rfl ?aP (fun k_ hk_ => hk_.elim) ?aF ?aO (Below.refl _ _) ?aS ?aL ?_; (case aP => exact k65_mkM _ _ _ (⟨(x3_1.length : Int), (⟨#[]⟩ : ByteArray), rdOf ByteArray.empty y469 t472, ([] : List (S67))⟩ : S65) (Kd.R_nil _ _ _ _ _)); (case aF => exact (fun k_ hk => Kd.freshB (g := gb452) (o := .cells #[.int .i64 x5_7, .string (rdOf ByteArray.empty y446 t449), .string (⟨#[]⟩ : ByteArray), .slice Ao54 x453003_18.length co54] 65 (0, 0)) dq109 k_ hk)); (case aO => exact (by (with_reducible repeat (first | apply Kd.S_alloc | apply Kd.S_drewN | apply Kd.S_drew)); exact Kd.S_mono HO466.out (fun k_ hk => ⟨hk, fun e_ => e_⟩))); (case aS => exact (keep_size (w := w) (g := g) (row := none) dq104)); (case aL => have := LMc49.out; omega); intro v476 w60 ho hb hg hat; rw [← Ny475.out] at ho; have n0_ := Aside0.mk (blk_grown (g := gb452) (o := .cells #[.int .i64 x5_7, .string (rdOf ByteArray.empty y446 t449), .string (⟨#[]⟩ : ByteArray), .slice Ao54 x453003_18.length co54] 65 (0, 0)) dq109 hg (Kd.S_away HO466.out (fun _ hk => hk))); have n1_ := Aside0.mk (IsS127.grown dq108 hg (IsS127.own_neS HI0.out HO466.out dq29)); have n2_ := Aside0.mk (Kd.R_over' (by (with_reducible repeat (first | apply Kd.R_alloc | apply Kd.R_drewN | apply Kd.R_drew)); exact HO471.out) (Kd.S_typed dq113) dq29 hg); have n3_ := Aside0.mk (below_weaken dq107 HL.out hb); have n4_ := Aside0.mk (KeepBut.trans dq104 (KeepBut.of_grown hg g) (Kd.S_base2 HO466.out)); have n5_ := Aside0.mk (ho); clear BK452; clear HI0; clear HO471; clear HB; clear HK; clear HO466; have BK452 := n0_; have HI0 := n1_; have HO471 := n2_; have HB := n3_; have HK := n4_; have HO477 := n5_; clear n0_ n1_ n2_ n3_ n4_ n5_; clear ho hb hg hat))
     go_roundg kj18
     case measure => have := HK1.out; have := HJ7.out; have := HJ18.out; omega
     case rel => exact ⟨(y475), (wrap64 (x4_1 - 1)), (t473), dq17, H', ⟨by have := HK1.out; have := HJ7.out; have := HJ18.out; omega⟩, ⟨by (with_reducible repeat (first | apply Kd.S_alloc | apply Kd.S_drewN | apply Kd.S_drew)); exact Kd.S_mono HO477.out (fun _ hk => trivial)⟩, ⟨dq108⟩, ⟨dq104⟩, ⟨dq107⟩⟩
   have H := HC19.out
   clear HC19
   by_cases c28 : t453 = true
   ·subst c28
    have H1 : (spec_l1Rd_flat.j3 kj7 x3_1 x4_1 s0_0 t454 x5_7 (rdOf ByteArray.empty y446 t449) (⟨#[]⟩ : ByteArray) ([] : List (S67))) = some (r1, r2) := by rw [if_pos rfl] at H; exact H
    clear H
    have H := H1
    clear H1
    have H' := Aside0.mk H
    clear H
    go_wp2
    go_meet
    case rel => exact ⟨_, (t454), (([] : List (S67))), (.slice none 0 0), H', ⟨by have := HK1.out; have := HJ7.out; first | omega | exact Nat.le_refl _⟩, ⟨by (with_reducible repeat (first | apply Kd.S_alloc | apply Kd.S_drewN | apply Kd.S_drew)); exact Kd.S_mono HO_3.out (fun _ hk => ⟨(by simp [Value.ownBlock]), hk.2⟩)⟩, ⟨dq26⟩, ⟨dq109⟩, ⟨dq108⟩, ⟨dq104⟩, ⟨dq107⟩⟩
   replace c28 := Bool.eq_false_iff.mpr c28
   subst c28
   have H1 : ((some (([(⟨#[49]⟩ : ByteArray), (⟨#[50]⟩ : ByteArray), (⟨#[32, 49]⟩ : ByteArray), (⟨#[51]⟩ : ByteArray)] : List ByteArray) : List ByteArray)).bind fun y455 => ((spec_l1Rd_below.f s0_0 t454 4).bind fun bt458 => (if 0 ≤ bt458.1 then (if bt458.1 < (y455.length : Int) then (if ([] : List (S67)).length < 4398046511104 then (spec_l1Rd_flat.j3 kj7 x3_1 x4_1 s0_0 bt458.2 x5_7 (rdOf ByteArray.empty y446 t449) (⟨#[]⟩ : ByteArray) (([] : List (S67)) ++ [(⟨(⟨#[97]⟩ : ByteArray), rdOf ByteArray.empty y455 bt458.1⟩ : S67)])) else (none)) else (none)) else (none)))) = some (r1, r2) := by rw [if_neg (show ¬ (false = true) by decide)] at H; exact H
   clear H
   have H := H1
   clear H1
   obtain ⟨y455, hy455⟩ : ∃ y_ : List ByteArray, y_ = (([(⟨#[49]⟩ : ByteArray), (⟨#[50]⟩ : ByteArray), (⟨#[32, 49]⟩ : ByteArray), (⟨#[51]⟩ : ByteArray)] : List ByteArray)) := ⟨_, rfl⟩
   replace H : ((spec_l1Rd_below.f s0_0 t454 4).bind fun bt458 => (if 0 ≤ bt458.1 then (if bt458.1 < (y455.length : Int) then (if ([] : List (S67)).length < 4398046511104 then (spec_l1Rd_flat.j3 kj7 x3_1 x4_1 s0_0 bt458.2 x5_7 (rdOf ByteArray.empty y446 t449) (⟨#[]⟩ : ByteArray) (([] : List (S67)) ++ [(⟨(⟨#[97]⟩ : ByteArray), rdOf ByteArray.empty y455 bt458.1⟩ : S67)])) else (none)) else (none)) else (none))) = some (r1, r2) := by first | (rw [hy455]; with_reducible exact H) | (have H2_ := (Option.bind_some _ _).symm.trans H; rw [hy455]; with_reducible exact H2_) | (have H2_ := (Option.bind_some _ _).symm.trans H; with_reducible exact H2_) | with_reducible exact H | (rw [hy455]; exact H) | exact H
   have Ny455 := Aside0.mk hy455
   clear hy455
   replace H := Option.bind_eq_some_iff.mp H
   obtain ⟨⟨t458, t459⟩, A290, H⟩ := H
   replace H : (if 0 ≤ t458 then (if t458 < (y455.length : Int) then (if ([] : List (S67)).length < 4398046511104 then (spec_l1Rd_flat.j3 kj7 x3_1 x4_1 s0_0 t459 x5_7 (rdOf ByteArray.empty y446 t449) (⟨#[]⟩ : ByteArray) (([] : List (S67)) ++ [(⟨(⟨#[97]⟩ : ByteArray), rdOf ByteArray.empty y455 t458⟩ : S67)])) else (none)) else (none)) else (none)) = some (r1, r2) := H
   have A29 := Aside0.mk A290
   clear A290
   by_cases c30 : 0 ≤ t458
   rotate_left
   ·rw [if_neg c30] at H
    exact absurd H dq20
   rw [if_pos c30] at H
   have c30b0 := decide_eq_true c30
   clear c30
   (first | rw [c30b0] | (simp only [i64_w, i32_w]; rw [c30b0]) | skip)
   by_cases c31 : t458 < (y455.length : Int)
   rotate_left
   ·rw [if_neg c31] at H
    exact absurd H dq20
   rw [if_pos c31] at H
   have c31b0 := decide_eq_true c31
   clear c31
   by_cases c32 : ([] : List (S67)).length < 4398046511104
   rotate_left
   ·rw [if_neg c32] at H
    exact absurd H dq20
   rw [if_pos c32] at H
   have LMc32 := Aside0.mk c32
   clear c32
   obtain ⟨y461, hy461⟩ : ∃ y_ : List (S67), y_ = (([] : List (S67)) ++ [(⟨(⟨#[97]⟩ : ByteArray), rdOf ByteArray.empty y455 t458⟩ : S67)]) := ⟨_, rfl⟩
   replace H : (spec_l1Rd_flat.j3 kj7 x3_1 x4_1 s0_0 t459 x5_7 (rdOf ByteArray.empty y446 t449) (⟨#[]⟩ : ByteArray) y461) = some (r1, r2) := by first | (rw [hy461]; with_reducible exact H) | (have H2_ := (Option.bind_some _ _).symm.trans H; rw [hy461]; with_reducible exact H2_) | (have H2_ := (Option.bind_some _ _).symm.trans H; with_reducible exact H2_) | with_reducible exact H | (rw [hy461]; exact H) | exact H
   have Ny461 := Aside0.mk hy461
   clear hy461
   have H' := Aside0.mk H
   clear H
   try go_wp2
   have pi460 : (0 ≤ (t458 : Int)) = True := eq_true (of_decide_eq_true dq18)
   have qi460 : (t458 < (y455.length : Int)) = True := eq_true (of_decide_eq_true dq18)
   have n0_ := Aside0.mk (Kd.S_drew HO_3.out)
   have n1_ := Aside0.mk (Kd.R_drew HO448.out)
   have n2_ := Aside0.mk (blk_drew BK452.out)
   have n3_ := Aside0.mk (IsS127.drew HI0.out)
   have n4_ := Aside0.mk (keep_drew HK.out)
   have n5_ := Aside0.mk (below_drew1 HB.out)
   clear HO_3
   clear HO448
   clear BK452
   clear HI0
   clear HK
   clear HB
   have HO_3 := n0_
   have HO448 := n1_
   have BK452 := n2_
   have HI0 := n3_
   have HK := n4_
   have HB := n5_
   clear n0_ n1_ n2_ n3_ n4_ n5_
   refine start_ (n := 12) (S := fun w' => w'.cell? ⟨gb452, 0, none⟩ = some (.int .i64 x5_7) ∧ w'.cell? ⟨gb452, 1, none⟩ = some (.string (rdOf ByteArray.empty y446 t449)) ∧ w'.cell? ⟨gb452, 2, none⟩ = some (.string (⟨#[]⟩ : ByteArray)) ∧ w'.cell? ⟨gb452, 3, none⟩ = some (.slice none 0 0)) (ds := [11]) #[false, false, false, false, false, false, false, false, false, false, false, false] dq22 rfl rfl ⟨(blk_cell BK452.out 0).trans rfl, (blk_cell BK452.out 1).trans rfl, (blk_cell BK452.out 2).trans rfl, (blk_cell BK452.out 3).trans rfl⟩ (fun hHeld => ?_); refine with_tabW spec_l1Rd_flat.tab12 spec_l1Rd_flat.bits12 (fun HT_ HW_ => ?_)
   generalize w27.drew = w33 at HO_3 HO448 BK452 HI0 HK HB hHeld ⊢
   refine pureA (i := 0) (N := some 42) #[true, false, false, false, false, false, false, false, false, false, false, false] ?_
   refine pureA (i := 3) (N := some 45) #[true, false, false, true, false, false, false, false, false, false, false, false] ?_
   refine takeA4 (i := 1) (N := some 43) #[true, true, false, true, false, false, false, false, false, false, false, false] ?_
   refine join_ (σ := Value × Addr) 7 #[true, true, true, true, true, false, false, false, false, false, false, false] (fun s_ => [(44, s_.1), (46, .int .i64 t458)]) (fun s_ w' => (w'.cell? ⟨gb452, 0, none⟩ = some (.int .i64 x5_7) ∧ w'.cell? ⟨gb452, 1, none⟩ = some (.string (rdOf ByteArray.empty y446 t449)) ∧ w'.cell? ⟨gb452, 2, none⟩ = some (.string (⟨#[]⟩ : ByteArray)) ∧ w'.cell? ⟨gb452, 3, none⟩ = some (.slice none 0 0)) ∧ (Kd.R Kd.string 9 w' w.heap.size (fun k_ => some k_ ≠ (s_.1 : Value).ownBlock) (.slice (some ad451) y446.length co23) y446) ∧ (Kd.R Kd.string 9 w' w.heap.size (fun k_ => some k_ ≠ (.slice (some ad451) y446.length co23 : Value).ownBlock) s_.1 y455) ∧ (Kd.S k65 65 w' w.heap.size (fun k_ => k_ ≠ gb452) u3 x3_1) ∧ (∃ c_, (s_.1 : Value) = .slice (some s_.2) y455.length c_) ∧ (w'.heap[gb452]? = some (.cells #[.int .i64 x5_7, .string (rdOf ByteArray.empty y446 t449), .string (⟨#[]⟩ : ByteArray), .slice none 0 0] 65 (0, 0))) ∧ (IsS127 w0 w' g s0_0 t459) ∧ (KeepBut w w' g none) ∧ (Below w0.heap.size w0 w')) ?_ ?_
   rotate_left
   ·intro hCont
    refine two_ (i := 2) (j := 4) (Ni := some 44) (Nj := some 46) #[true, true, true, true, false, false, false, false, false, false, false, false] #[true, true, false, true, true, false, false, false, false, false, false, false] rfl rfl rfl rfl (two_of HT_.out dq22) dq29 dq29 (fun K hK => ?_) (fun K hK => ?_)
    ·skip
     refine Kd.R_lit_step Kd.string _ 9 ?hg (N := 44) ?hd (xs := ([(⟨#[49]⟩ : ByteArray), (⟨#[50]⟩ : ByteArray), (⟨#[32, 49]⟩ : ByteArray), (⟨#[51]⟩ : ByteArray)] : List ByteArray)) (inner := [.string (⟨#[49]⟩ : ByteArray), .string (⟨#[50]⟩ : ByteArray), .string (⟨#[32, 49]⟩ : ByteArray), .string (⟨#[51]⟩ : ByteArray)]) (ok := fun _ => True) (okp := fun _ => True) ?hr ?hp (fun _ hk => hk) trivial (Below.refl _ _) (Nat.le_refl _) dq20 ?_; (case hd => rfl); (case hg => rfl); (case hr => exact dq0); (case hp => exact (Reps.one (show Kd.M Kd.string _ _ _ (⟨#[49]⟩ : ByteArray) [.string (⟨#[49]⟩ : ByteArray)] from rfl) (Reps.one (show Kd.M Kd.string _ _ _ (⟨#[50]⟩ : ByteArray) [.string (⟨#[50]⟩ : ByteArray)] from rfl) (Reps.one (show Kd.M Kd.string _ _ _ (⟨#[32, 49]⟩ : ByteArray) [.string (⟨#[32, 49]⟩ : ByteArray)] from rfl) (Reps.one (show Kd.M Kd.string _ _ _ (⟨#[51]⟩ : ByteArray) [.string (⟨#[51]⟩ : ByteArray)] from rfl) (Reps.none _ _))))))
     intro v456 w34 ho35 hb hg_ hnew_
     clear hg_ hnew_
     (first | rw [← Ny455.out] at ho35 | (simp only [Int.reduceToNat] at ho35; rw [← Ny455.out] at ho35))
     have n0_ := Aside0.mk (Kd.S_below dq102 hb)
     have n1_ := Aside0.mk (Kd.R_elder' dq106 (Kd.R_base ho35) hb)
     have n2_ := Aside0.mk (Kd.R_lower (Kd.R_new' ho35 (Kd.R_lt dq106)) (keep_size (w := w) (g := g) (row := none) dq104))
     have n3_ := Aside0.mk (IsS127.below dq108 hb)
     have n4_ := Aside0.mk (blk_below (g := gb452) (o := .cells #[.int .i64 x5_7, .string (rdOf ByteArray.empty y446 t449), .string (⟨#[]⟩ : ByteArray), .slice none 0 0] 65 (0, 0)) dq109 hb)
     have n5_ := Aside0.mk (KeepBut.trans dq104 (KeepBut.of_below hb g none) (.inl rfl))
     have n6_ := Aside0.mk (below_step dq107 hb)
     clear HO_3
     clear HO448
     clear HI0
     clear BK452
     clear HK
     clear HB
     have HO_3 := n0_
     have HO448 := n1_
     have HO457 := n2_
     have HI0 := n3_
     have BK452 := n4_
     have HK := n5_
     have HB := n6_
     clear n0_ n1_ n2_ n3_ n4_ n5_ n6_
     clear hb ho35
     obtain ⟨Ao36, co36, eo36⟩ := Kd.R_slice HO457.out
     subst eo36
     obtain ⟨ado36, fo36, _⟩ := Kd.at_string (Kd.R_reads' HO457.out).2.2 0 dq29 (by rw [Ny455.out]; simp)
     cases fo36
     refine hK.out _ _ ⟨(blk_cell BK452.out 0).trans rfl, (blk_cell BK452.out 1).trans rfl, (blk_cell BK452.out 2).trans rfl, (blk_cell BK452.out 3).trans rfl⟩ (fun hHeld => ?_)
     clear hK K
     refine norm_ (a' := ?_) ?_ ?_
     rotate_left
     ·show Act.put _ (some 44) _ = _
      simp only [Act.put, List.setIfInBounds_toArray, List.set_cons_zero, List.set_cons_succ, i64_w, i32_w]
      rfl
     refine one_ (i := 4) (N := some 46) #[true, true, true, true, true, false, false, false, false, false, false, false] rfl rfl (one_of HT_.out dq22) dq29 (fun K hK => ?_)
     refine goes_ Tryz.func111 dq22 rfl #[.pointer (some ⟨g, 0, none⟩), .int .i64 4] (by rfl) rfl rfl dq21 ?_
     with_reducible refine (spec_l1Rd_below.calls g s0_0 t454 4 t458 t459 w0 _ ?side1 ?side2 A29.out).mono ?_
     (case side1 => exact dq9)
     (case side2 => exact dq10)
     rintro e w37 ⟨rfl, hi, hb, hk⟩
     refine ⟨_, rfl, ?_⟩
     have n0_ := Aside0.mk (Kd.S_mono (Kd.S_keep (IsS127.apartS (show IsS127 w0 _ g s0_0 t454 from by repeat (first | (with_reducible first | exact HI0.out | apply IsS127.alloc | apply IsS127.drewN | apply IsS127.drew | apply IsS127.set_1 | refine IsS127.far ?_ NB0_452.out _) | exact HI0.out)) dq102 dq29) hk (fun _ h => h.2)) (fun _ h => h.1))
     have n1_ := Aside0.mk (Kd.R_mono (Kd.R_keep (IsS127.apart (show IsS127 w0 _ g s0_0 t454 from by repeat (first | (with_reducible first | exact HI0.out | apply IsS127.alloc | apply IsS127.drewN | apply IsS127.drew | apply IsS127.set_1 | refine IsS127.far ?_ NB0_452.out _) | exact HI0.out)) dq106 dq29) hk (fun _ h => h.2)) (fun _ h => h.1))
     have n2_ := Aside0.mk (KeepBut.blk hk (g' := gb452) (o := .cells #[.int .i64 x5_7, .string (rdOf ByteArray.empty y446 t449), .string (⟨#[]⟩ : ByteArray), .slice none 0 0] 65 (0, 0)) dq109 NB452_0.out dq20)
     have n3_ := Aside0.mk (Kd.R_mono (Kd.R_keep (IsS127.apart (show IsS127 w0 _ g s0_0 t454 from by repeat (first | (with_reducible first | exact HI0.out | apply IsS127.alloc | apply IsS127.drewN | apply IsS127.drew | apply IsS127.set_1 | refine IsS127.far ?_ NB0_452.out _) | exact HI0.out)) (by (with_reducible repeat (first | apply Kd.R_alloc | apply Kd.R_drewN | apply Kd.R_drew)); exact HO457.out) dq29) hk (fun _ h => h.2)) (fun _ h => h.1))
     have n4_ := Aside0.mk (KeepBut.trans dq104 hk (.inl rfl))
     have n5_ := Aside0.mk (hb)
     have n6_ := Aside0.mk (hi)
     clear HO_3
     clear HO448
     clear BK452
     clear HO457
     clear HK
     clear HB
     clear HI0
     have HO_3 := n0_
     have HO448 := n1_
     have BK452 := n2_
     have HO457 := n3_
     have HK := n4_
     have HB := n5_
     have HI0 := n6_
     clear n0_ n1_ n2_ n3_ n4_ n5_ n6_
     (try clear hb)
     (try clear hb2)
     (try clear hk)
     (try clear hi)
     refine hK.out _ _ ⟨(blk_cell BK452.out 0).trans rfl, (blk_cell BK452.out 1).trans rfl, (blk_cell BK452.out 2).trans rfl, (blk_cell BK452.out 3).trans rfl⟩ (fun hHeld => ?_)
     clear hK K
     refine norm_ (a' := ?_) ?_ ?_
     rotate_left
     ·show Act.put _ (some 46) _ = _
      simp only [Act.put, List.setIfInBounds_toArray, List.set_cons_zero, List.set_cons_succ, i64_w, i32_w]
      rfl
     exact norm_ (by simp only [putAll, Act.put, List.setIfInBounds_toArray, List.set_cons_zero, List.set_cons_succ]) (hCont (.slice (some ado36) y455.length co36, ado36) _ ⟨hHeld, dq112, dq111, dq110, ⟨_, rfl⟩, dq109, dq108, dq104, dq107⟩)
    skip
    refine goes_ Tryz.func111 dq22 rfl #[.pointer (some ⟨g, 0, none⟩), .int .i64 4] (by rfl) rfl rfl dq21 ?_
    with_reducible refine (spec_l1Rd_below.calls g s0_0 t454 4 t458 t459 w0 _ ?side1 ?side2 A29.out).mono ?_
    (case side1 => exact dq9)
    (case side2 => exact dq10)
    rintro e w34 ⟨rfl, hi, hb, hk⟩
    refine ⟨_, rfl, ?_⟩
    have n0_ := Aside0.mk (Kd.S_mono (Kd.S_keep (IsS127.apartS (show IsS127 w0 _ g s0_0 t454 from by repeat (first | (with_reducible first | exact HI0.out | apply IsS127.alloc | apply IsS127.drewN | apply IsS127.drew | apply IsS127.set_1 | refine IsS127.far ?_ NB0_452.out _) | exact HI0.out)) dq102 dq29) hk (fun _ h => h.2)) (fun _ h => h.1))
    have n1_ := Aside0.mk (Kd.R_mono (Kd.R_keep (IsS127.apart (show IsS127 w0 _ g s0_0 t454 from by repeat (first | (with_reducible first | exact HI0.out | apply IsS127.alloc | apply IsS127.drewN | apply IsS127.drew | apply IsS127.set_1 | refine IsS127.far ?_ NB0_452.out _) | exact HI0.out)) dq106 dq29) hk (fun _ h => h.2)) (fun _ h => h.1))
    have n2_ := Aside0.mk (KeepBut.blk hk (g' := gb452) (o := .cells #[.int .i64 x5_7, .string (rdOf ByteArray.empty y446 t449), .string (⟨#[]⟩ : ByteArray), .slice none 0 0] 65 (0, 0)) dq109 NB452_0.out dq20)
    have n3_ := Aside0.mk (KeepBut.trans dq104 hk (.inl rfl))
    have n4_ := Aside0.mk (hb)
    have n5_ := Aside0.mk (hi)
    clear HO_3
    clear HO448
    clear BK452
    clear HK
    clear HB
    clear HI0
    have HO_3 := n0_
    have HO448 := n1_
    have BK452 := n2_
    have HK := n3_
    have HB := n4_
    have HI0 := n5_
    clear n0_ n1_ n2_ n3_ n4_ n5_
    (try clear hb)
    (try clear hb2)
    (try clear hk)
    (try clear hi)
    refine hK.out _ _ ⟨(blk_cell BK452.out 0).trans rfl, (blk_cell BK452.out 1).trans rfl, (blk_cell BK452.out 2).trans rfl, (blk_cell BK452.out 3).trans rfl⟩ (fun hHeld => ?_)
    clear hK K
    refine norm_ (a' := ?_) ?_ ?_
    rotate_left
    ·show Act.put _ (some 46) _ = _
     simp only [Act.put, List.setIfInBounds_toArray, List.set_cons_zero, List.set_cons_succ, i64_w, i32_w]
     rfl
    refine one_ (i := 2) (N := some 44) #[true, true, true, true, true, false, false, false, false, false, false, false] rfl rfl (one_of HT_.out dq22) dq29 (fun K hK => ?_)
    refine Kd.R_lit_step Kd.string _ 9 ?hg (N := 44) ?hd (xs := ([(⟨#[49]⟩ : ByteArray), (⟨#[50]⟩ : ByteArray), (⟨#[32, 49]⟩ : ByteArray), (⟨#[51]⟩ : ByteArray)] : List ByteArray)) (inner := [.string (⟨#[49]⟩ : ByteArray), .string (⟨#[50]⟩ : ByteArray), .string (⟨#[32, 49]⟩ : ByteArray), .string (⟨#[51]⟩ : ByteArray)]) (ok := fun _ => True) (okp := fun _ => True) ?hr ?hp (fun _ hk => hk) trivial (Below.refl _ _) (Nat.le_refl _) dq20 ?_; (case hd => rfl); (case hg => rfl); (case hr => exact dq0); (case hp => exact (Reps.one (show Kd.M Kd.string _ _ _ (⟨#[49]⟩ : ByteArray) [.string (⟨#[49]⟩ : ByteArray)] from rfl) (Reps.one (show Kd.M Kd.string _ _ _ (⟨#[50]⟩ : ByteArray) [.string (⟨#[50]⟩ : ByteArray)] from rfl) (Reps.one (show Kd.M Kd.string _ _ _ (⟨#[32, 49]⟩ : ByteArray) [.string (⟨#[32, 49]⟩ : ByteArray)] from rfl) (Reps.one (show Kd.M Kd.string _ _ _ (⟨#[51]⟩ : ByteArray) [.string (⟨#[51]⟩ : ByteArray)] from rfl) (Reps.none _ _))))))
    intro v456 w35 ho36 hb hg_ hnew_
    clear hg_ hnew_
    (first | rw [← Ny455.out] at ho36 | (simp only [Int.reduceToNat] at ho36; rw [← Ny455.out] at ho36))
    have n0_ := Aside0.mk (Kd.S_below dq102 hb)
    have n1_ := Aside0.mk (Kd.R_elder' dq106 (Kd.R_base ho36) hb)
    have n2_ := Aside0.mk (Kd.R_lower (Kd.R_new' ho36 (Kd.R_lt dq106)) (keep_size (w := w) (g := g) (row := none) dq104))
    have n3_ := Aside0.mk (IsS127.below dq108 hb)
    have n4_ := Aside0.mk (blk_below (g := gb452) (o := .cells #[.int .i64 x5_7, .string (rdOf ByteArray.empty y446 t449), .string (⟨#[]⟩ : ByteArray), .slice none 0 0] 65 (0, 0)) dq109 hb)
    have n5_ := Aside0.mk (KeepBut.trans dq104 (KeepBut.of_below hb g none) (.inl rfl))
    have n6_ := Aside0.mk (below_step dq107 hb)
    clear HO_3
    clear HO448
    clear HI0
    clear BK452
    clear HK
    clear HB
    have HO_3 := n0_
    have HO448 := n1_
    have HO457 := n2_
    have HI0 := n3_
    have BK452 := n4_
    have HK := n5_
    have HB := n6_
    clear n0_ n1_ n2_ n3_ n4_ n5_ n6_
    clear hb ho36
    obtain ⟨Ao37, co37, eo37⟩ := Kd.R_slice HO457.out
    subst eo37
    obtain ⟨ado37, fo37, _⟩ := Kd.at_string (Kd.R_reads' HO457.out).2.2 0 dq29 (by rw [Ny455.out]; simp)
    cases fo37
    refine hK.out _ _ ⟨(blk_cell BK452.out 0).trans rfl, (blk_cell BK452.out 1).trans rfl, (blk_cell BK452.out 2).trans rfl, (blk_cell BK452.out 3).trans rfl⟩ (fun hHeld => ?_)
    clear hK K
    refine norm_ (a' := ?_) ?_ ?_
    rotate_left
    ·show Act.put _ (some 44) _ = _
     simp only [Act.put, List.setIfInBounds_toArray, List.set_cons_zero, List.set_cons_succ, i64_w, i32_w]
     rfl
    exact norm_ (by simp only [putAll, Act.put, List.setIfInBounds_toArray, List.set_cons_zero, List.set_cons_succ]) (hCont (.slice (some ado37) y455.length co37, ado37) _ ⟨hHeld, dq112, dq111, dq110, ⟨_, rfl⟩, dq109, dq108, dq104, dq107⟩)
   rintro ⟨v456, adz_v456⟩ w38 ⟨hS_, h0_, h1_, h2_, h3_, h4_, h5_, h6_, h7_⟩
   have n0_ : Aside0 (Kd.R Kd.string 9 w38 w.heap.size (fun k_ => some k_ ≠ (v456 : Value).ownBlock) (.slice (some ad451) y446.length co23) y446) := ⟨h0_⟩
   have n1_ : Aside0 (Kd.R Kd.string 9 w38 w.heap.size (fun k_ => some k_ ≠ (.slice (some ad451) y446.length co23 : Value).ownBlock) v456 y455) := ⟨h1_⟩
   have n2_ : Aside0 (Kd.S k65 65 w38 w.heap.size (fun k_ => k_ ≠ gb452) u3 x3_1) := ⟨h2_⟩
   have n3_ : Aside0 (∃ c_, (v456 : Value) = .slice (some adz_v456) y455.length c_) := ⟨h3_⟩
   have n4_ : Aside0 (w38.heap[gb452]? = some (.cells #[.int .i64 x5_7, .string (rdOf ByteArray.empty y446 t449), .string (⟨#[]⟩ : ByteArray), .slice none 0 0] 65 (0, 0))) := ⟨h4_⟩
   have n5_ : Aside0 (IsS127 w0 w38 g s0_0 t459) := ⟨h5_⟩
   have n6_ : Aside0 (KeepBut w w38 g none) := ⟨h6_⟩
   have n7_ : Aside0 (Below w0.heap.size w0 w38) := ⟨h7_⟩
   clear HO_3
   clear HO448
   clear BK452
   clear HI0
   clear HK
   clear HB
   clear h0_ h1_ h2_ h3_ h4_ h5_ h6_ h7_
   have HO448 := n0_
   have HO457 := n1_
   have HO_3 := n2_
   have HA_HO457 := n3_
   have BK452 := n4_
   have HI0 := n5_
   have HK := n6_
   have HB := n7_
   clear n0_ n1_ n2_ n3_ n4_ n5_ n6_ n7_
   have hHeld : w38.cell? ⟨gb452, 0, none⟩ = some (.int .i64 x5_7) ∧ w38.cell? ⟨gb452, 1, none⟩ = some (.string (rdOf ByteArray.empty y446 t449)) ∧ w38.cell? ⟨gb452, 2, none⟩ = some (.string (⟨#[]⟩ : ByteArray)) ∧ w38.cell? ⟨gb452, 3, none⟩ = some (.slice none 0 0) := hS_
   obtain ⟨co39, eo39⟩ := HA_HO457.out
   clear HA_HO457
   subst eo39
   refine norm_ (a' := ?_) ?_ ?_
   rotate_left
   ·simp only [putAll, Act.put, List.setIfInBounds_toArray, List.set_cons_zero, List.set_cons_succ]
    rfl
   refine pureA (i := 5) (N := some 47) #[true, true, true, true, true, true, false, false, false, false, false, false] ?_
   refine one_ (i := 6) (N := some 48) #[true, true, true, true, true, true, true, false, false, false, false, false] rfl rfl (one_of HT_.out dq22) dq29 (fun K hK => ?_)
   (have p460 : 0 ≤ (t458 : Int) := of_decide_eq_true dq18; have q460 : t458 < (y455.length : Int) := of_decide_eq_true dq18; obtain ⟨ad460, e460, hx460_0⟩ := Kd.at_string (Kd.R_reads' HO457.out).2.2 t458 p460 q460; obtain rfl : adz_v456 = ad460 := (by injection e460))
   refine value_ (w1 := ?_) (v := ?_) (by rfl) rfl ?_ ?_
   rotate_left 2
   ·go_simp
    constructor
    ·rfl
    rfl
   clear hx460_0
   refine hK.out _ _ ⟨(blk_cell BK452.out 0).trans rfl, (blk_cell BK452.out 1).trans rfl, (blk_cell BK452.out 2).trans rfl, (blk_cell BK452.out 3).trans rfl⟩ (fun hHeld => ?_)
   clear hK K
   refine norm_ (a' := ?_) ?_ ?_
   rotate_left
   ·show Act.put _ (some 48) _ = _
    simp only [Act.put, List.setIfInBounds_toArray, List.set_cons_zero, List.set_cons_succ, i64_w, i32_w]
    rfl
   refine pureA (i := 7) (N := some 49) #[true, true, true, true, true, true, true, true, false, false, false, false] ?_
   refine one_ (i := 8) (N := some 50) #[true, true, true, true, true, true, true, true, true, false, false, false] rfl rfl (one_of HT_.out dq22) dq29 (fun K hK => ?_)
   refine value_ (w1 := ?_) (v := ?_) (by rfl) rfl ?_ ?_
   rotate_left 2
   ·go_simp
    constructor
    ·rfl
    rfl
   refine hK.out _ _ ⟨(blk_cell (blk_alloc BK452.out _) 0).trans rfl, (blk_cell (blk_alloc BK452.out _) 1).trans rfl, (blk_cell (blk_alloc BK452.out _) 2).trans rfl, (blk_cell (blk_alloc BK452.out _) 3).trans rfl⟩ (fun hHeld => ?_)
   clear hK K
   refine norm_ (a' := ?_) ?_ ?_
   rotate_left
   ·show Act.put _ (some 50) _ = _
    simp only [Act.put, List.setIfInBounds_toArray, List.set_cons_zero, List.set_cons_succ, i64_w, i32_w]
    rfl
   refine one_ (i := 9) (N := some 51) #[true, true, true, true, true, true, true, true, true, true, false, false] rfl rfl (one_of HT_.out dq22) dq29 (fun K hK => ?_)
   refine Kd.R_append_step k67 w.heap.size (by rfl) (.tmp 43) (.tmp 50) 63 67 (.agg #[(.string ⟨#[]⟩), (.string ⟨#[]⟩)]) 32 rfl Tryz.underlying63 info67 rfl dq29 dq23 (.slice none 0 0) ([] : List (S67)) (⟨(⟨#[97]⟩ : ByteArray), rdOf ByteArray.empty y455 t458⟩ : S67) [.string (⟨#[97]⟩ : ByteArray), .string (rdOf ByteArray.empty y455 t458)] (fun _ => True) (fun _ => False) rfl rfl ?aP (fun _ hk => hk.elim) ?aF ?aO (Below.refl _ _) ?aS ?aL ?_
   (case aP => exact k67_mkM _ _ _ (⟨(⟨#[97]⟩ : ByteArray), rdOf ByteArray.empty y455 t458⟩ : S67))
   (case aF => exact (fun _ _ => trivial))
   (case aO => exact ((Kd.R_nil _ _ _ _ (fun _ => True))))
   (case aS => exact (keep_size (w := w) (g := g) (row := none) dq104))
   (case aL => have := LMc32.out; omega)
   intro v462 w40 ho hb hg hat
   rw [← Ny461.out] at ho
   have n0_ := Aside0.mk (Kd.S_after (Kd.S_apart_nil dq102) hg hat)
   have n1_ := Aside0.mk (IsS127.grown dq108 hg (by simp [Value.ownBlock]))
   have n2_ := Aside0.mk (Kd.R_grown dq106 hg (fun _ _ => by simp [Value.ownBlock]))
   have n3_ := Aside0.mk (blk_grown (g := gb452) (o := .cells #[.int .i64 x5_7, .string (rdOf ByteArray.empty y446 t449), .string (⟨#[]⟩ : ByteArray), .slice none 0 0] 65 (0, 0)) dq109 hg (by simp [Value.ownBlock]))
   have n4_ := Aside0.mk (Kd.R_grown (by (with_reducible repeat (first | apply Kd.R_alloc | apply Kd.R_drewN | apply Kd.R_drew)); exact HO457.out) hg (fun _ _ => by simp [Value.ownBlock]))
   have n5_ := Aside0.mk (below_weaken dq107 HL.out hb)
   have n6_ := Aside0.mk (KeepBut.trans dq104 (KeepBut.of_grown hg g) (.inl (by simp [Value.ownBlock])))
   have n7_ := Aside0.mk (ho)
   clear HO_3
   clear HI0
   clear HO448
   clear BK452
   clear HO457
   clear HB
   clear HK
   have HO_3 := n0_
   have HI0 := n1_
   have HO448 := n2_
   have BK452 := n3_
   have HO457 := n4_
   have HB := n5_
   have HK := n6_
   have HO463 := n7_
   clear n0_ n1_ n2_ n3_ n4_ n5_ n6_ n7_
   clear ho hb hg hat
   obtain ⟨Ao41, co41, eo41⟩ := Kd.R_slice HO463.out
   (first | subst eo41 | (injection eo41 with f1_ f2_ f3_; have f4_ := f1_.symm; have f5_ := f3_.symm; clear f1_ f2_ f3_; subst f4_; subst f5_))
   refine hK.out _ _ ⟨(blk_cell BK452.out 0).trans rfl, (blk_cell BK452.out 1).trans rfl, (blk_cell BK452.out 2).trans rfl, (blk_cell BK452.out 3).trans rfl⟩ (fun hHeld => ?_)
   clear hK K
   refine norm_ (a' := ?_) ?_ ?_
   rotate_left
   ·show Act.put _ (some 51) _ = _
    simp only [Act.put, List.setIfInBounds_toArray, List.set_cons_zero, List.set_cons_succ, i64_w, i32_w]
    rfl
   refine pureA (i := 10) (N := some 52) #[true, true, true, true, true, true, true, true, true, true, true, false] ?_
   refine last_ (i := 11) (N := none) #[true, true, true, true, true, true, true, true, true, true, true, true] rfl rfl (one_of HT_.out dq22) dq29 (fun K hK => ?_)
   have hs42 : w40.cell? ⟨gb452, 3, none⟩ = some (.slice none 0 0) := (blk_cell BK452.out 3).trans rfl
   have hfs42 := blk_frozen BK452.out 3
   refine skip_ (w1 := ?_) (by rfl) rfl ?_ ?_
   rotate_left
   ·go_simp
    rfl
   refine hK.out _ _ ?_
   clear hK K
   refine done_ (done_of HT_.out dq22) ?_
   try go_wp2
   go_meet
   case rel => exact ⟨_, (t459), (y461), (.slice Ao41 y461.length co41), H', ⟨by have := HK1.out; have := HJ7.out; first | omega | exact Nat.le_refl _⟩, ⟨by (with_reducible repeat (first | apply Kd.S_alloc | apply Kd.S_drewN | apply Kd.S_drew)); exact Kd.S_mono (Kd.S_far (p := ⟨gb452, 3, none⟩) (Kd.S_mono HO_3.out (fun k_ hk => (⟨hk, hk.1⟩ : _ ∧ k_ ≠ gb452))) (fun _ hk => hk.2) (.slice Ao41 y461.length co41)) (fun _ hk => ⟨hk.1.2, hk.1.1⟩)⟩, ⟨by (with_reducible repeat (first | apply Kd.R_alloc | apply Kd.R_drewN | apply Kd.R_drew)); exact Kd.R_mono (Kd.R_far (p := ⟨gb452, 3, none⟩) (Kd.R_types HO463.out BK452.out dq29) (fun _ hk => hk.2) (.slice Ao41 y461.length co41)) (fun _ hk => trivial)⟩, ⟨by refine blk_up ?_; refine blk_put (cs := #[.int .i64 x5_7, .string (rdOf ByteArray.empty y446 t449), .string (⟨#[]⟩ : ByteArray), .slice none 0 0]) ?_ 3 _ rfl; refine blk_up ?_; exact BK452.out⟩, ⟨dq108⟩, ⟨dq104⟩, ⟨dq107⟩⟩

/-! ### spec_l1Rd_word: function 150 -/
def spec_l1Rd_word.l0 : Nat → Int → Int → List Int → Int → Option (Int × Int)
 | 0, _, _, _, _ => none
 | k + 1, x3, x4, x1000, x1001 => if x4 < 8 then ((spec_l1Rd_next.f x1000 x1001).bind fun bt478 => (spec_l1Rd_word.l0 k (Go.bits .or .u64 (IntKind.u64.wrap (x3 * 256)) (IntKind.u64.wrap (bt478.1))) (wrap64 (x4 + 1)) x1000 bt478.2)) else (some (x3, x1001))
def spec_l1Rd_word.f (k : Nat) (s0_0 : List Int) (s0_1 : Int) : Option (Int × Int) := spec_l1Rd_word.l0 k 0 0 s0_0 s0_1
set_option maxHeartbeats 8000000 in
set_option maxRecDepth 100000 in
theorem spec_l1Rd_word.calls (k : Nat) (g : Nat) (s0_0 : List Int) (s0_1 : Int) (r1 : Int) (r2 : Int) (w0 w : World) (hI : IsS127 w0 w g s0_0 s0_1) (hB : Below w0.heap.size w0 w) (h : spec_l1Rd_word.f k s0_0 s0_1 = some (r1, r2)) :
  Calls Tryz.prog 150 #[.pointer (some ⟨g, 0, none⟩)] w fun e w' => e = .returned (.int .u64 r1) ∧ IsS127 w0 w' g s0_0 r2 ∧ Below w0.heap.size w0 w' ∧ KeepBut w w' g none := by
 have HI0 := Aside0.mk hI
 have HK := Aside0.mk (KeepBut.refl w g none)
 have HL := Aside0.mk hB.size
 clear hI
 have HW0 := Aside0.mk hB.size
 have HB := Aside0.mk hB
 clear hB
 have H : (spec_l1Rd_word.l0 k 0 0 s0_0 s0_1) = some (r1, r2) := h
 clear h
 have H' := Aside0.mk H
 clear H
 go_enter Tryz.func150, Tryz.ntmps150
 go_wp2
 go_loopg [3, 4] k (fun kq v3 v4 w' => ∃ (x3_1 : Int) (x4_1 : Int) (x1001_1 : Int), v3 = .int .u64 x3_1 ∧ v4 = .int .i64 x4_1 ∧ Aside0 (spec_l1Rd_word.l0 kq x3_1 x4_1 s0_0 x1001_1 = some (r1, r2)) ∧ Aside0 (kq ≤ k) ∧ Aside0 (IsS127 w0 w' g s0_0 x1001_1) ∧ Aside0 (KeepBut w w' g none) ∧ Aside0 (Below w0.heap.size w0 w'))
 case atStart => exact ⟨(0), (0), (s0_1), dq17, dq17, H', ⟨Nat.le_refl _⟩, ⟨dq101⟩, ⟨dq99⟩, ⟨dq100⟩⟩
 clear H'
 try clear c1
 obtain ⟨x3_1, x4_1, x1001_1, rfl, rfl, HA, HK1, HI0, HK, HB⟩ := hrel
 cases gk with
 | zero => exact absurd HA.out (by simp [spec_l1Rd_word.l0])
 | succ k1 =>
  have H := HA.out
  clear HA
  simp only [spec_l1Rd_word.l0] at H
  by_cases c2 : x4_1 < 8
  rotate_left
  ·rw [if_neg c2] at H
   have c2b0 := decide_eq_false c2
   clear c2
   simp only [Option.some.injEq, Prod.mk.injEq] at H
   obtain ⟨rfl, rfl⟩ := H
   go_wp2
   go_ret
   exact ⟨dq27, dq101, dq100, dq99⟩
  rw [if_pos c2] at H
  have c2b0 := decide_eq_true c2
  clear c2
  replace H := Option.bind_eq_some_iff.mp H
  obtain ⟨⟨t478, t479⟩, A30, H⟩ := H
  replace H : (spec_l1Rd_word.l0 k1 (Go.bits .or .u64 (IntKind.u64.wrap (x3_1 * 256)) (IntKind.u64.wrap (t478))) (wrap64 (x4_1 + 1)) s0_0 t479) = some (r1, r2) := H
  have A3 := Aside0.mk A30
  clear A30
  have H' := Aside0.mk H
  clear H
  go_wp2_with (first | ((with_reducible refine gate_callee (f := 149) rfl ?_); refine goesL_ (some 12) rfl rfl Tryz.func149 dq22 rfl #[.pointer (some ⟨g, 0, none⟩)] rfl dq21 ?_; (with_reducible refine (spec_l1Rd_next.calls g s0_0 x1001_1 t478 t479 w0 _ ?side1 ?side2 A3.out).mono ?_); (case side1 => exact dq7); (case side2 => exact dq8); rintro e w4 ⟨rfl, hi, hb, hk⟩; refine ⟨_, rfl, ?_⟩; have n0_ := Aside0.mk (KeepBut.trans dq99 hk (.inl rfl)); have n1_ := Aside0.mk (hb); have n2_ := Aside0.mk (hi); clear HK; clear HB; clear HI0; have HK := n0_; have HB := n1_; have HI0 := n2_; clear n0_ n1_ n2_; (try clear hb); (try clear hb2); (try clear hk); (try clear hi)))
  go_roundg k1
  case measure => have := HK1.out; omega
  case rel => exact ⟨(Go.bits .or .u64 (IntKind.u64.wrap (x3_1 * 256)) (IntKind.u64.wrap (t478))), (wrap64 (x4_1 + 1)), (t479), dq17, dq17, H', ⟨dq19⟩, ⟨dq101⟩, ⟨dq99⟩, ⟨dq100⟩⟩

/-! ### spec_l1Rd_near: function 112 -/
def spec_l1Rd_near.f (k : Nat) (s0_0 : List Int) (s0_1 : Int) (a1 : Int) (a2 : Int) : Option (Int × Int) := (spec_l1Rd_below.f s0_0 s0_1 8).bind fun bt480 => (if bt480.1 = 0 then (some (a1, bt480.2)) else (if bt480.1 = 1 then (some (a2, bt480.2)) else (if a2 < a1 then (some (a1, bt480.2)) else ((spec_l1Rd_word.f k s0_0 bt480.2).bind fun bt482 => (if (IntKind.u64.wrap (wrap64 ((wrap64 (a2 - a1)) + 1))) = 0 then (none) else (some (wrap64 (a1 + (wrap64 (Int.tmod (bt482.1 / 2) (IntKind.u64.wrap (wrap64 ((wrap64 (a2 - a1)) + 1)))))), bt482.2)))))))
set_option maxHeartbeats 8000000 in
set_option maxRecDepth 100000 in
theorem spec_l1Rd_near.calls (k : Nat) (g : Nat) (s0_0 : List Int) (s0_1 : Int) (a1 : Int) (a2 : Int) (r1 : Int) (r2 : Int) (w0 w : World) (hI : IsS127 w0 w g s0_0 s0_1) (hB : Below w0.heap.size w0 w) (h : spec_l1Rd_near.f k s0_0 s0_1 a1 a2 = some (r1, r2)) :
  Calls Tryz.prog 112 #[.pointer (some ⟨g, 0, none⟩), .int .i64 a1, .int .i64 a2] w fun e w' => e = .returned (.int .i64 r1) ∧ IsS127 w0 w' g s0_0 r2 ∧ Below w0.heap.size w0 w' ∧ KeepBut w w' g none := by
 have HI0 := Aside0.mk hI
 have HK := Aside0.mk (KeepBut.refl w g none)
 have HL := Aside0.mk hB.size
 clear hI
 have HW0 := Aside0.mk hB.size
 have HB := Aside0.mk hB
 clear hB
 have H : ((spec_l1Rd_below.f s0_0 s0_1 8).bind fun bt480 => (if bt480.1 = 0 then (some (a1, bt480.2)) else (if bt480.1 = 1 then (some (a2, bt480.2)) else (if a2 < a1 then (some (a1, bt480.2)) else ((spec_l1Rd_word.f k s0_0 bt480.2).bind fun bt482 => (if (IntKind.u64.wrap (wrap64 ((wrap64 (a2 - a1)) + 1))) = 0 then (none) else (some (wrap64 (a1 + (wrap64 (Int.tmod (bt482.1 / 2) (IntKind.u64.wrap (wrap64 ((wrap64 (a2 - a1)) + 1)))))), bt482.2)))))))) = some (r1, r2) := h
 clear h
 replace H := Option.bind_eq_some_iff.mp H
 obtain ⟨⟨t480, t481⟩, A40, H⟩ := H
 replace H : (if t480 = 0 then (some (a1, t481)) else (if t480 = 1 then (some (a2, t481)) else (if a2 < a1 then (some (a1, t481)) else ((spec_l1Rd_word.f k s0_0 t481).bind fun bt482 => (if (IntKind.u64.wrap (wrap64 ((wrap64 (a2 - a1)) + 1))) = 0 then (none) else (some (wrap64 (a1 + (wrap64 (Int.tmod (bt482.1 / 2) (IntKind.u64.wrap (wrap64 ((wrap64 (a2 - a1)) + 1)))))), bt482.2))))))) = some (r1, r2) := H
 have A4 := Aside0.mk A40
 clear A40
 by_cases c5 : t480 = 0
 ·rw [if_pos c5] at H
  have c5b0 := beq_iff_eq.mpr c5
  have c5b1 := bne_eq_false_iff_eq.mpr c5
  clear c5
  simp only [Option.some.injEq, Prod.mk.injEq] at H
  obtain ⟨rfl, rfl⟩ := H
  go_enter Tryz.func112, Tryz.ntmps112
  go_wp2_with (first | ((with_reducible refine gate_callee (f := 111) rfl ?_); refine goesL_ (some 8) rfl rfl Tryz.func111 dq22 rfl #[.pointer (some ⟨g, 0, none⟩), .int .i64 8] rfl dq21 ?_; (with_reducible refine (spec_l1Rd_below.calls g s0_0 s0_1 8 t480 t481 w0 _ ?side1 ?side2 A4.out).mono ?_); (case side1 => exact dq7); (case side2 => exact dq8); rintro e w6 ⟨rfl, hi, hb, hk⟩; refine ⟨_, rfl, ?_⟩; have n0_ := Aside0.mk (KeepBut.trans dq99 hk (.inl rfl)); have n1_ := Aside0.mk (hb); have n2_ := Aside0.mk (hi); clear HK; clear HB; clear HI0; have HK := n0_; have HB := n1_; have HI0 := n2_; clear n0_ n1_ n2_; (try clear hb); (try clear hb2); (try clear hk); (try clear hi)))
  go_ret
  exact ⟨dq27, dq101, dq100, dq99⟩
 rw [if_neg c5] at H
 have c5b0 := beq_eq_false_iff_ne.mpr c5
 have c5b1 := bne_iff_ne.mpr c5
 by_cases c7 : t480 = 1
 ·rw [if_pos c7] at H
  have c7b0 := beq_iff_eq.mpr c7
  have c7b1 := bne_eq_false_iff_eq.mpr c7
  clear c7
  simp only [Option.some.injEq, Prod.mk.injEq] at H
  obtain ⟨rfl, rfl⟩ := H
  go_enter Tryz.func112, Tryz.ntmps112
  go_wp2_with (first | ((with_reducible refine gate_callee (f := 111) rfl ?_); refine goesL_ (some 8) rfl rfl Tryz.func111 dq22 rfl #[.pointer (some ⟨g, 0, none⟩), .int .i64 8] rfl dq21 ?_; (with_reducible refine (spec_l1Rd_below.calls g s0_0 s0_1 8 t480 t481 w0 _ ?side1 ?side2 A4.out).mono ?_); (case side1 => exact dq7); (case side2 => exact dq8); rintro e w8 ⟨rfl, hi, hb, hk⟩; refine ⟨_, rfl, ?_⟩; have n0_ := Aside0.mk (KeepBut.trans dq99 hk (.inl rfl)); have n1_ := Aside0.mk (hb); have n2_ := Aside0.mk (hi); clear HK; clear HB; clear HI0; have HK := n0_; have HB := n1_; have HI0 := n2_; clear n0_ n1_ n2_; (try clear hb); (try clear hb2); (try clear hk); (try clear hi)))
  go_ret
  exact ⟨dq27, dq101, dq100, dq99⟩
 rw [if_neg c7] at H
 have c7b0 := beq_eq_false_iff_ne.mpr c7
 have c7b1 := bne_iff_ne.mpr c7
 by_cases c9 : a2 < a1
 ·rw [if_pos c9] at H
  have c9b0 := decide_eq_true c9
  clear c9
  simp only [Option.some.injEq, Prod.mk.injEq] at H
  obtain ⟨rfl, rfl⟩ := H
  go_enter Tryz.func112, Tryz.ntmps112
  go_wp2_with (first | ((with_reducible refine gate_callee (f := 111) rfl ?_); refine goesL_ (some 8) rfl rfl Tryz.func111 dq22 rfl #[.pointer (some ⟨g, 0, none⟩), .int .i64 8] rfl dq21 ?_; (with_reducible refine (spec_l1Rd_below.calls g s0_0 s0_1 8 t480 t481 w0 _ ?side1 ?side2 A4.out).mono ?_); (case side1 => exact dq7); (case side2 => exact dq8); rintro e w10 ⟨rfl, hi, hb, hk⟩; refine ⟨_, rfl, ?_⟩; have n0_ := Aside0.mk (KeepBut.trans dq99 hk (.inl rfl)); have n1_ := Aside0.mk (hb); have n2_ := Aside0.mk (hi); clear HK; clear HB; clear HI0; have HK := n0_; have HB := n1_; have HI0 := n2_; clear n0_ n1_ n2_; (try clear hb); (try clear hb2); (try clear hk); (try clear hi)))
  go_ret
  exact ⟨dq27, dq101, dq100, dq99⟩
 rw [if_neg c9] at H
 have c9b0 := decide_eq_false c9
 clear c9
 replace H := Option.bind_eq_some_iff.mp H
 obtain ⟨⟨t482, t483⟩, A110, H⟩ := H
 replace H : (if (IntKind.u64.wrap (wrap64 ((wrap64 (a2 - a1)) + 1))) = 0 then (none) else (some (wrap64 (a1 + (wrap64 (Int.tmod (t482 / 2) (IntKind.u64.wrap (wrap64 ((wrap64 (a2 - a1)) + 1)))))), t483))) = some (r1, r2) := H
 have A11 := Aside0.mk A110
 clear A110
 by_cases c12 : (IntKind.u64.wrap (wrap64 ((wrap64 (a2 - a1)) + 1))) = 0
 ·rw [if_pos c12] at H
  exact absurd H dq20
 rw [if_neg c12] at H
 have c12b0 := beq_eq_false_iff_ne.mpr c12
 have c12b1 := bne_iff_ne.mpr c12
 simp only [Option.some.injEq, Prod.mk.injEq] at H
 obtain ⟨rfl, rfl⟩ := H
 go_enter Tryz.func112, Tryz.ntmps112
 go_wp2_with (first | ((with_reducible refine gate_callee (f := 111) rfl ?_); refine goesL_ (some 8) rfl rfl Tryz.func111 dq22 rfl #[.pointer (some ⟨g, 0, none⟩), .int .i64 8] rfl dq21 ?_; (with_reducible refine (spec_l1Rd_below.calls g s0_0 s0_1 8 t480 t481 w0 _ ?side1 ?side2 A4.out).mono ?_); (case side1 => exact dq7); (case side2 => exact dq8); rintro e w13 ⟨rfl, hi, hb, hk⟩; refine ⟨_, rfl, ?_⟩; have n0_ := Aside0.mk (KeepBut.trans dq99 hk (.inl rfl)); have n1_ := Aside0.mk (hb); have n2_ := Aside0.mk (hi); clear HK; clear HB; clear HI0; have HK := n0_; have HB := n1_; have HI0 := n2_; clear n0_ n1_ n2_; (try clear hb); (try clear hb2); (try clear hk); (try clear hi)) | ((with_reducible refine gate_callee (f := 150) rfl ?_); refine goesL_ (some 21) rfl rfl Tryz.func150 dq22 rfl #[.pointer (some ⟨g, 0, none⟩)] rfl dq21 ?_; (with_reducible refine (spec_l1Rd_word.calls k g s0_0 t481 t482 t483 w0 _ ?side1 ?side2 A11.out).mono ?_); (case side1 => exact dq7); (case side2 => exact dq8); rintro e w14 ⟨rfl, hi, hb, hk⟩; refine ⟨_, rfl, ?_⟩; have n0_ := Aside0.mk (KeepBut.trans dq99 hk (.inl rfl)); have n1_ := Aside0.mk (hb); have n2_ := Aside0.mk (hi); clear HK; clear HB; clear HI0; have HK := n0_; have HB := n1_; have HI0 := n2_; clear n0_ n1_ n2_; (try clear hb); (try clear hb2); (try clear hk); (try clear hi)))
 go_ret
 exact ⟨dq27, dq101, dq100, dq99⟩

/-! ### spec_l1Rd_off: function 70 -/
def spec_l1Rd_off.f (k : Nat) (s0_0 : List Int) (s0_1 : Int) (a1 : Int) (a2 : Int) : Option (Int × Int) := (spec_l1Rd_once.f s0_0 s0_1 24).bind fun bt484 => (if bt484.1 = true then ((some (([wrap64 (a1 - 1), wrap64 (a2 + 1), (-9223372036854775808), 9223372036854775807] : List Int) : List Int)).bind fun y486 => ((spec_l1Rd_below.f s0_0 bt484.2 4).bind fun bt489 => (if 0 ≤ bt489.1 then (if bt489.1 < (y486.length : Int) then (some (rd y486 bt489.1, bt489.2)) else (none)) else (none)))) else ((spec_l1Rd_near.f k s0_0 bt484.2 a1 a2).bind fun bt492 => (some (bt492.1, bt492.2))))
set_option maxHeartbeats 8000000 in
set_option maxRecDepth 100000 in
theorem spec_l1Rd_off.calls (k : Nat) (g : Nat) (s0_0 : List Int) (s0_1 : Int) (a1 : Int) (a2 : Int) (r1 : Int) (r2 : Int) (w0 w : World) (hI : IsS127 w0 w g s0_0 s0_1) (hB : Below w0.heap.size w0 w) (h : spec_l1Rd_off.f k s0_0 s0_1 a1 a2 = some (r1, r2)) :
  Calls Tryz.prog 70 #[.pointer (some ⟨g, 0, none⟩), .int .i64 a1, .int .i64 a2] w fun e w' => e = .returned (.int .i64 r1) ∧ IsS127 w0 w' g s0_0 r2 ∧ Below w0.heap.size w0 w' ∧ KeepBut w w' g none := by
 have HI0 := Aside0.mk hI
 have HK := Aside0.mk (KeepBut.refl w g none)
 have HL := Aside0.mk hB.size
 clear hI
 have HW0 := Aside0.mk hB.size
 have HB := Aside0.mk hB
 clear hB
 have H : ((spec_l1Rd_once.f s0_0 s0_1 24).bind fun bt484 => (if bt484.1 = true then ((some (([wrap64 (a1 - 1), wrap64 (a2 + 1), (-9223372036854775808), 9223372036854775807] : List Int) : List Int)).bind fun y486 => ((spec_l1Rd_below.f s0_0 bt484.2 4).bind fun bt489 => (if 0 ≤ bt489.1 then (if bt489.1 < (y486.length : Int) then (some (rd y486 bt489.1, bt489.2)) else (none)) else (none)))) else ((spec_l1Rd_near.f k s0_0 bt484.2 a1 a2).bind fun bt492 => (some (bt492.1, bt492.2))))) = some (r1, r2) := h
 clear h
 replace H := Option.bind_eq_some_iff.mp H
 obtain ⟨⟨t484, t485⟩, A40, H⟩ := H
 replace H : (if t484 = true then ((some (([wrap64 (a1 - 1), wrap64 (a2 + 1), (-9223372036854775808), 9223372036854775807] : List Int) : List Int)).bind fun y486 => ((spec_l1Rd_below.f s0_0 t485 4).bind fun bt489 => (if 0 ≤ bt489.1 then (if bt489.1 < (y486.length : Int) then (some (rd y486 bt489.1, bt489.2)) else (none)) else (none)))) else ((spec_l1Rd_near.f k s0_0 t485 a1 a2).bind fun bt492 => (some (bt492.1, bt492.2)))) = some (r1, r2) := H
 have A4 := Aside0.mk A40
 clear A40
 by_cases c5 : t484 = true
 rotate_left
 ·replace c5 := Bool.eq_false_iff.mpr c5
  subst c5
  have H1 : ((spec_l1Rd_near.f k s0_0 t485 a1 a2).bind fun bt492 => (some (bt492.1, bt492.2))) = some (r1, r2) := by rw [if_neg (show ¬ (false = true) by decide)] at H; exact H
  clear H
  have H := H1
  clear H1
  replace H := Option.bind_eq_some_iff.mp H
  obtain ⟨⟨t492, t493⟩, A140, H⟩ := H
  replace H : (some (t492, t493)) = some (r1, r2) := H
  have A14 := Aside0.mk A140
  clear A140
  simp only [Option.some.injEq, Prod.mk.injEq] at H
  obtain ⟨rfl, rfl⟩ := H
  go_enter Tryz.func70, Tryz.ntmps70
  go_wp2_with (first | ((with_reducible refine gate_callee (f := 78) rfl ?_); refine goesL_ (some 8) rfl rfl Tryz.func78 dq22 rfl #[.pointer (some ⟨g, 0, none⟩), .int .i64 24] rfl dq21 ?_; (with_reducible refine (spec_l1Rd_once.calls g s0_0 s0_1 24 false t485 w0 _ ?side1 ?side2 A4.out).mono ?_); (case side1 => exact dq7); (case side2 => exact dq8); rintro e w15 ⟨rfl, hi, hb, hk⟩; refine ⟨_, rfl, ?_⟩; have n0_ := Aside0.mk (KeepBut.trans dq99 hk (.inl rfl)); have n1_ := Aside0.mk (hb); have n2_ := Aside0.mk (hi); clear HK; clear HB; clear HI0; have HK := n0_; have HB := n1_; have HI0 := n2_; clear n0_ n1_ n2_; (try clear hb); (try clear hb2); (try clear hk); (try clear hi)) | ((with_reducible refine gate_callee (f := 112) rfl ?_); refine goesL_ (some 21) rfl rfl Tryz.func112 dq22 rfl #[.pointer (some ⟨g, 0, none⟩), .int .i64 a1, .int .i64 a2] rfl dq21 ?_; (with_reducible refine (spec_l1Rd_near.calls k g s0_0 t485 a1 a2 t492 t493 w0 _ ?side1 ?side2 A14.out).mono ?_); (case side1 => exact dq7); (case side2 => exact dq8); rintro e w16 ⟨rfl, hi, hb, hk⟩; refine ⟨_, rfl, ?_⟩; have n0_ := Aside0.mk (KeepBut.trans dq99 hk (.inl rfl)); have n1_ := Aside0.mk (hb); have n2_ := Aside0.mk (hi); clear HK; clear HB; clear HI0; have HK := n0_; have HB := n1_; have HI0 := n2_; clear n0_ n1_ n2_; (try clear hb); (try clear hb2); (try clear hk); (try clear hi)))
  go_ret
  exact ⟨dq27, dq101, dq100, dq99⟩
 subst c5
 have H1 : ((some (([wrap64 (a1 - 1), wrap64 (a2 + 1), (-9223372036854775808), 9223372036854775807] : List Int) : List Int)).bind fun y486 => ((spec_l1Rd_below.f s0_0 t485 4).bind fun bt489 => (if 0 ≤ bt489.1 then (if bt489.1 < (y486.length : Int) then (some (rd y486 bt489.1, bt489.2)) else (none)) else (none)))) = some (r1, r2) := by rw [if_pos rfl] at H; exact H
 clear H
 have H := H1
 clear H1
 obtain ⟨y486, hy486⟩ : ∃ y_ : List Int, y_ = (([wrap64 (a1 - 1), wrap64 (a2 + 1), (-9223372036854775808), 9223372036854775807] : List Int)) := ⟨_, rfl⟩
 replace H : ((spec_l1Rd_below.f s0_0 t485 4).bind fun bt489 => (if 0 ≤ bt489.1 then (if bt489.1 < (y486.length : Int) then (some (rd y486 bt489.1, bt489.2)) else (none)) else (none))) = some (r1, r2) := by first | (rw [hy486]; with_reducible exact H) | (have H2_ := (Option.bind_some _ _).symm.trans H; rw [hy486]; with_reducible exact H2_) | (have H2_ := (Option.bind_some _ _).symm.trans H; with_reducible exact H2_) | with_reducible exact H | (rw [hy486]; exact H) | exact H
 have Ny486 := Aside0.mk hy486
 clear hy486
 replace H := Option.bind_eq_some_iff.mp H
 obtain ⟨⟨t489, t490⟩, A60, H⟩ := H
 replace H : (if 0 ≤ t489 then (if t489 < (y486.length : Int) then (some (rd y486 t489, t490)) else (none)) else (none)) = some (r1, r2) := H
 have A6 := Aside0.mk A60
 clear A60
 by_cases c7 : 0 ≤ t489
 rotate_left
 ·rw [if_neg c7] at H
  exact absurd H dq20
 rw [if_pos c7] at H
 have c7b0 := decide_eq_true c7
 clear c7
 by_cases c8 : t489 < (y486.length : Int)
 rotate_left
 ·rw [if_neg c8] at H
  exact absurd H dq20
 rw [if_pos c8] at H
 have c8b0 := decide_eq_true c8
 clear c8
 simp only [Option.some.injEq, Prod.mk.injEq] at H
 obtain ⟨rfl, rfl⟩ := H
 go_enter Tryz.func70, Tryz.ntmps70
 go_wp2_with (first | ((with_reducible refine gate_callee (f := 78) rfl ?_); refine goesL_ (some 8) rfl rfl Tryz.func78 dq22 rfl #[.pointer (some ⟨g, 0, none⟩), .int .i64 24] rfl dq21 ?_; (with_reducible refine (spec_l1Rd_once.calls g s0_0 s0_1 24 true t485 w0 _ ?side1 ?side2 A4.out).mono ?_); (case side1 => exact dq7); (case side2 => exact dq8); rintro e w9 ⟨rfl, hi, hb, hk⟩; refine ⟨_, rfl, ?_⟩; have n0_ := Aside0.mk (KeepBut.trans dq99 hk (.inl rfl)); have n1_ := Aside0.mk (hb); have n2_ := Aside0.mk (hi); clear HK; clear HB; clear HI0; have HK := n0_; have HB := n1_; have HI0 := n2_; clear n0_ n1_ n2_; (try clear hb); (try clear hb2); (try clear hk); (try clear hi)) | ((with_reducible refine gate_dst (N := 13) rfl ?_); refine Kd.R_lit (Kd.int .i64) _ 2 ?hg (N := 13) ?hd (xs := ([wrap64 (a1 - 1), wrap64 (a2 + 1), (-9223372036854775808), 9223372036854775807] : List Int)) (inner := [.int .i64 (wrap64 (a1 - 1)), .int .i64 (wrap64 (a2 + 1)), .int .i64 (-9223372036854775808), .int .i64 9223372036854775807]) (ok := fun _ => True) (okp := fun _ => True) ?hr ?hp (fun _ hk => hk) trivial (Below.refl _ _) (Nat.le_refl _) dq20 ?_; (case hd => rfl); (case hg => rfl); (case hr => exact dq0); (case hp => exact (Reps.one (show Kd.M (Kd.int .i64) _ _ _ (wrap64 (a1 - 1)) [.int .i64 (wrap64 (a1 - 1))] from rfl) (Reps.one (show Kd.M (Kd.int .i64) _ _ _ (wrap64 (a2 + 1)) [.int .i64 (wrap64 (a2 + 1))] from rfl) (Reps.one (show Kd.M (Kd.int .i64) _ _ _ (-9223372036854775808) [.int .i64 (-9223372036854775808)] from rfl) (Reps.one (show Kd.M (Kd.int .i64) _ _ _ 9223372036854775807 [.int .i64 9223372036854775807] from rfl) (Reps.none _ _)))))); intro v487 w10 ho11 hb hg_ hnew_; clear hg_ hnew_; (first | rw [← Ny486.out] at ho11 | (simp only [Int.reduceToNat] at ho11; rw [← Ny486.out] at ho11)); have n0_ := Aside0.mk (Kd.R_lower ho11 (keep_size (w := w) (g := g) (row := none) dq99)); have n1_ := Aside0.mk (IsS127.below dq101 hb); have n2_ := Aside0.mk (KeepBut.trans dq99 (KeepBut.of_below hb g none) (.inl rfl)); have n3_ := Aside0.mk (below_step dq100 hb); clear HI0; clear HK; clear HB; have HO488 := n0_; have HI0 := n1_; have HK := n2_; have HB := n3_; clear n0_ n1_ n2_ n3_; clear hb ho11) | ((with_reducible refine gate_callee (f := 111) rfl ?_); refine goesL_ (some 15) rfl rfl Tryz.func111 dq22 rfl #[.pointer (some ⟨g, 0, none⟩), .int .i64 4] rfl dq21 ?_; (with_reducible refine (spec_l1Rd_below.calls g s0_0 t485 4 t489 t490 w0 _ ?side1 ?side2 A6.out).mono ?_); (case side1 => exact dq7); (case side2 => exact dq8); rintro e w12 ⟨rfl, hi, hb, hk⟩; refine ⟨_, rfl, ?_⟩; have n0_ := Aside0.mk (Kd.R_mono (Kd.R_keep (IsS127.apart (show IsS127 w0 _ g s0_0 t485 from by repeat (first | (with_reducible first | exact HI0.out | apply IsS127.alloc | apply IsS127.drewN | apply IsS127.drew | apply IsS127.set_1) | exact HI0.out)) (by (with_reducible repeat (first | apply Kd.R_alloc | apply Kd.R_drewN | apply Kd.R_drew)); exact HO488.out) dq29) hk (fun _ h => h.2)) (fun _ h => h.1)); have n1_ := Aside0.mk (KeepBut.trans dq99 hk (.inl rfl)); have n2_ := Aside0.mk (hb); have n3_ := Aside0.mk (hi); clear HO488; clear HK; clear HB; clear HI0; have HO488 := n0_; have HK := n1_; have HB := n2_; have HI0 := n3_; clear n0_ n1_ n2_ n3_; (try clear hb); (try clear hb2); (try clear hk); (try clear hi); obtain ⟨Ao13, co13, eo13⟩ := Kd.R_slice HO488.out; subst eo13; have p491 : 0 ≤ (t489 : Int) := of_decide_eq_true dq18; have q491 : t489 < (y486.length : Int) := of_decide_eq_true dq18; obtain ⟨ad491, e491, hx491_0⟩ := Kd.at_int (Kd.R_reads' HO488.out).2.2 t489 p491 q491; cases e491; replace p491 := eq_true p491; replace q491 := eq_true q491))
 go_ret
 exact ⟨dq27, dq101, dq100, dq99⟩

/-! ### spec_l1Rd_field: function 71 -/
def spec_l1Rd_field.f (s0_0 : List Int) (s0_1 : Int) : Option (ByteArray × Int) := (some (([(⟨#[46]⟩ : ByteArray), (⟨#[64, 97]⟩ : ByteArray), (⟨#[64, 98]⟩ : ByteArray), (⟨#[98]⟩ : ByteArray), (⟨#[98, 47, 64, 97]⟩ : ByteArray), (⟨#[97, 47, 98]⟩ : ByteArray), (⟨#[64, 120, 49]⟩ : ByteArray), (⟨#[47, 47, 97]⟩ : ByteArray), (⟨#[64]⟩ : ByteArray), (⟨#[97, 64, 98]⟩ : ByteArray), (⟨#[64, 97]⟩ : ByteArray)] : List ByteArray) : List ByteArray)).bind fun y494 => ((spec_l1Rd_below.f s0_0 s0_1 11).bind fun bt497 => (if 0 ≤ bt497.1 then (if bt497.1 < (y494.length : Int) then (some (rdOf ByteArray.empty y494 bt497.1, bt497.2)) else (none)) else (none)))
set_option maxHeartbeats 8000000 in
set_option maxRecDepth 100000 in
theorem spec_l1Rd_field.calls (g : Nat) (s0_0 : List Int) (s0_1 : Int) (r1 : ByteArray) (r2 : Int) (w0 w : World) (hI : IsS127 w0 w g s0_0 s0_1) (hB : Below w0.heap.size w0 w) (h : spec_l1Rd_field.f s0_0 s0_1 = some (r1, r2)) :
  Calls Tryz.prog 71 #[.pointer (some ⟨g, 0, none⟩)] w fun e w' => e = .returned (.string r1) ∧ IsS127 w0 w' g s0_0 r2 ∧ Below w0.heap.size w0 w' ∧ KeepBut w w' g none := by
 have HI0 := Aside0.mk hI
 have HK := Aside0.mk (KeepBut.refl w g none)
 have HL := Aside0.mk hB.size
 clear hI
 have HW0 := Aside0.mk hB.size
 have HB := Aside0.mk hB
 clear hB
 have H : ((some (([(⟨#[46]⟩ : ByteArray), (⟨#[64, 97]⟩ : ByteArray), (⟨#[64, 98]⟩ : ByteArray), (⟨#[98]⟩ : ByteArray), (⟨#[98, 47, 64, 97]⟩ : ByteArray), (⟨#[97, 47, 98]⟩ : ByteArray), (⟨#[64, 120, 49]⟩ : ByteArray), (⟨#[47, 47, 97]⟩ : ByteArray), (⟨#[64]⟩ : ByteArray), (⟨#[97, 64, 98]⟩ : ByteArray), (⟨#[64, 97]⟩ : ByteArray)] : List ByteArray) : List ByteArray)).bind fun y494 => ((spec_l1Rd_below.f s0_0 s0_1 11).bind fun bt497 => (if 0 ≤ bt497.1 then (if bt497.1 < (y494.length : Int) then (some (rdOf ByteArray.empty y494 bt497.1, bt497.2)) else (none)) else (none)))) = some (r1, r2) := h
 clear h
 obtain ⟨y494, hy494⟩ : ∃ y_ : List ByteArray, y_ = (([(⟨#[46]⟩ : ByteArray), (⟨#[64, 97]⟩ : ByteArray), (⟨#[64, 98]⟩ : ByteArray), (⟨#[98]⟩ : ByteArray), (⟨#[98, 47, 64, 97]⟩ : ByteArray), (⟨#[97, 47, 98]⟩ : ByteArray), (⟨#[64, 120, 49]⟩ : ByteArray), (⟨#[47, 47, 97]⟩ : ByteArray), (⟨#[64]⟩ : ByteArray), (⟨#[97, 64, 98]⟩ : ByteArray), (⟨#[64, 97]⟩ : ByteArray)] : List ByteArray)) := ⟨_, rfl⟩
 replace H : ((spec_l1Rd_below.f s0_0 s0_1 11).bind fun bt497 => (if 0 ≤ bt497.1 then (if bt497.1 < (y494.length : Int) then (some (rdOf ByteArray.empty y494 bt497.1, bt497.2)) else (none)) else (none))) = some (r1, r2) := by first | (rw [hy494]; with_reducible exact H) | (have H2_ := (Option.bind_some _ _).symm.trans H; rw [hy494]; with_reducible exact H2_) | (have H2_ := (Option.bind_some _ _).symm.trans H; with_reducible exact H2_) | with_reducible exact H | (rw [hy494]; exact H) | exact H
 have Ny494 := Aside0.mk hy494
 clear hy494
 replace H := Option.bind_eq_some_iff.mp H
 obtain ⟨⟨t497, t498⟩, A20, H⟩ := H
 replace H : (if 0 ≤ t497 then (if t497 < (y494.length : Int) then (some (rdOf ByteArray.empty y494 t497, t498)) else (none)) else (none)) = some (r1, r2) := H
 have A2 := Aside0.mk A20
 clear A20
 by_cases c3 : 0 ≤ t497
 rotate_left
 ·rw [if_neg c3] at H
  exact absurd H dq20
 rw [if_pos c3] at H
 have c3b0 := decide_eq_true c3
 clear c3
 by_cases c4 : t497 < (y494.length : Int)
 rotate_left
 ·rw [if_neg c4] at H
  exact absurd H dq20
 rw [if_pos c4] at H
 have c4b0 := decide_eq_true c4
 clear c4
 simp only [Option.some.injEq, Prod.mk.injEq] at H
 obtain ⟨rfl, rfl⟩ := H
 go_enter Tryz.func71, Tryz.ntmps71
 go_wp2_with (first | ((with_reducible refine gate_dst (N := 3) rfl ?_); refine Kd.R_lit Kd.string _ 9 ?hg (N := 3) ?hd (xs := ([(⟨#[46]⟩ : ByteArray), (⟨#[64, 97]⟩ : ByteArray), (⟨#[64, 98]⟩ : ByteArray), (⟨#[98]⟩ : ByteArray), (⟨#[98, 47, 64, 97]⟩ : ByteArray), (⟨#[97, 47, 98]⟩ : ByteArray), (⟨#[64, 120, 49]⟩ : ByteArray), (⟨#[47, 47, 97]⟩ : ByteArray), (⟨#[64]⟩ : ByteArray), (⟨#[97, 64, 98]⟩ : ByteArray), (⟨#[64, 97]⟩ : ByteArray)] : List ByteArray)) (inner := [.string (⟨#[46]⟩ : ByteArray), .string (⟨#[64, 97]⟩ : ByteArray), .string (⟨#[64, 98]⟩ : ByteArray), .string (⟨#[98]⟩ : ByteArray), .string (⟨#[98, 47, 64, 97]⟩ : ByteArray), .string (⟨#[97, 47, 98]⟩ : ByteArray), .string (⟨#[64, 120, 49]⟩ : ByteArray), .string (⟨#[47, 47, 97]⟩ : ByteArray), .string (⟨#[64]⟩ : ByteArray), .string (⟨#[97, 64, 98]⟩ : ByteArray), .string (⟨#[64, 97]⟩ : ByteArray)]) (ok := fun _ => True) (okp := fun _ => True) ?hr ?hp (fun _ hk => hk) trivial (Below.refl _ _) (Nat.le_refl _) dq20 ?_; (case hd => rfl); (case hg => rfl); (case hr => exact dq0); (case hp => exact (Reps.one (show Kd.M Kd.string _ _ _ (⟨#[46]⟩ : ByteArray) [.string (⟨#[46]⟩ : ByteArray)] from rfl) (Reps.one (show Kd.M Kd.string _ _ _ (⟨#[64, 97]⟩ : ByteArray) [.string (⟨#[64, 97]⟩ : ByteArray)] from rfl) (Reps.one (show Kd.M Kd.string _ _ _ (⟨#[64, 98]⟩ : ByteArray) [.string (⟨#[64, 98]⟩ : ByteArray)] from rfl) (Reps.one (show Kd.M Kd.string _ _ _ (⟨#[98]⟩ : ByteArray) [.string (⟨#[98]⟩ : ByteArray)] from rfl) (Reps.one (show Kd.M Kd.string _ _ _ (⟨#[98, 47, 64, 97]⟩ : ByteArray) [.string (⟨#[98, 47, 64, 97]⟩ : ByteArray)] from rfl) (Reps.one (show Kd.M Kd.string _ _ _ (⟨#[97, 47, 98]⟩ : ByteArray) [.string (⟨#[97, 47, 98]⟩ : ByteArray)] from rfl) (Reps.one (show Kd.M Kd.string _ _ _ (⟨#[64, 120, 49]⟩ : ByteArray) [.string (⟨#[64, 120, 49]⟩ : ByteArray)] from rfl) (Reps.one (show Kd.M Kd.string _ _ _ (⟨#[47, 47, 97]⟩ : ByteArray) [.string (⟨#[47, 47, 97]⟩ : ByteArray)] from rfl) (Reps.one (show Kd.M Kd.string _ _ _ (⟨#[64]⟩ : ByteArray) [.string (⟨#[64]⟩ : ByteArray)] from rfl) (Reps.one (show Kd.M Kd.string _ _ _ (⟨#[97, 64, 98]⟩ : ByteArray) [.string (⟨#[97, 64, 98]⟩ : ByteArray)] from rfl) (Reps.one (show Kd.M Kd.string _ _ _ (⟨#[64, 97]⟩ : ByteArray) [.string (⟨#[64, 97]⟩ : ByteArray)] from rfl) (Reps.none _ _))))))))))))); intro v495 w5 ho6 hb hg_ hnew_; clear hg_ hnew_; (first | rw [← Ny494.out] at ho6 | (simp only [Int.reduceToNat] at ho6; rw [← Ny494.out] at ho6)); have n0_ := Aside0.mk (Kd.R_lower ho6 (keep_size (w := w) (g := g) (row := none) dq99)); have n1_ := Aside0.mk (IsS127.below dq101 hb); have n2_ := Aside0.mk (KeepBut.trans dq99 (KeepBut.of_below hb g none) (.inl rfl)); have n3_ := Aside0.mk (below_step dq100 hb); clear HI0; clear HK; clear HB; have HO496 := n0_; have HI0 := n1_; have HK := n2_; have HB := n3_; clear n0_ n1_ n2_ n3_; clear hb ho6) | ((with_reducible refine gate_callee (f := 111) rfl ?_); refine goesL_ (some 5) rfl rfl Tryz.func111 dq22 rfl #[.pointer (some ⟨g, 0, none⟩), .int .i64 11] rfl dq21 ?_; (with_reducible refine (spec_l1Rd_below.calls g s0_0 s0_1 11 t497 t498 w0 _ ?side1 ?side2 A2.out).mono ?_); (case side1 => exact dq7); (case side2 => exact dq8); rintro e w7 ⟨rfl, hi, hb, hk⟩; refine ⟨_, rfl, ?_⟩; have n0_ := Aside0.mk (Kd.R_mono (Kd.R_keep (IsS127.apart (show IsS127 w0 _ g s0_0 s0_1 from by repeat (first | (with_reducible first | exact HI0.out | apply IsS127.alloc | apply IsS127.drewN | apply IsS127.drew | apply IsS127.set_1) | exact HI0.out)) (by (with_reducible repeat (first | apply Kd.R_alloc | apply Kd.R_drewN | apply Kd.R_drew)); exact HO496.out) dq29) hk (fun _ h => h.2)) (fun _ h => h.1)); have n1_ := Aside0.mk (KeepBut.trans dq99 hk (.inl rfl)); have n2_ := Aside0.mk (hb); have n3_ := Aside0.mk (hi); clear HO496; clear HK; clear HB; clear HI0; have HO496 := n0_; have HK := n1_; have HB := n2_; have HI0 := n3_; clear n0_ n1_ n2_ n3_; (try clear hb); (try clear hb2); (try clear hk); (try clear hi); obtain ⟨Ao8, co8, eo8⟩ := Kd.R_slice HO496.out; subst eo8; have p499 : 0 ≤ (t497 : Int) := of_decide_eq_true dq18; have q499 : t497 < (y494.length : Int) := of_decide_eq_true dq18; obtain ⟨ad499, e499, hx499_0⟩ := Kd.at_string (Kd.R_reads' HO496.out).2.2 t497 p499 q499; cases e499; replace p499 := eq_true p499; replace q499 := eq_true q499))
 go_ret
 exact ⟨dq27, dq101, dq100, dq99⟩

/-! ### spec_DrawFieldOf: function 34 -/
def spec_DrawFieldOf.f (k : Nat) (l0 : List Int) : Option ((List (S65)) × Int × ByteArray) := (spec_l1Open.f l0).bind fun bt500 => ((spec_l1Rd_flat.f k bt500.1 bt500.2).bind fun bt503 => ((spec_l1Rd_off.f k bt500.1 bt503.2 0 (wrap64 ((bt503.1.length : Int) - 1))).bind fun bt507 => ((spec_l1Rd_field.f bt500.1 bt507.2).bind fun bt509 => (some (bt503.1, bt507.1, bt509.1)))))
set_option maxHeartbeats 8000000 in
set_option maxRecDepth 100000 in
theorem spec_DrawFieldOf.calls (k : Nat) (A0 : Option Addr) (c0 : Nat) (l0 : List Int) (r1 : List (S65)) (r2 : Int) (r3 : ByteArray) (w : World) (hr0 : Kd.C (Kd.int .u8) w A0 l0.length l0) (hc0 : l0.length ≤ c0) (h : spec_DrawFieldOf.f k l0 = some (r1, r2, r3)) :
  Calls Tryz.prog 34 #[.slice A0 l0.length c0] w fun e w' => ∃ v0_ : Value, e = .returned (.tuple #[v0_, .int .i64 r2, .string r3]) ∧ Kd.S k65 65 w' w.heap.size (fun _ => True) v0_ r1 ∧ Below w.heap.size w w' := by
 have HR0 := Aside0.mk hr0
 have HC0 := Aside0.mk hc0
 clear hr0 hc0
 have HB := Aside0.mk (Below.refl w.heap.size w)
 have H : ((spec_l1Open.f l0).bind fun bt500 => ((spec_l1Rd_flat.f k bt500.1 bt500.2).bind fun bt503 => ((spec_l1Rd_off.f k bt500.1 bt503.2 0 (wrap64 ((bt503.1.length : Int) - 1))).bind fun bt507 => ((spec_l1Rd_field.f bt500.1 bt507.2).bind fun bt509 => (some (bt503.1, bt507.1, bt509.1)))))) = some (r1, r2, r3) := h
 clear h
 replace H := Option.bind_eq_some_iff.mp H
 obtain ⟨⟨t500, t501⟩, A20, H⟩ := H
 replace H : ((spec_l1Rd_flat.f k t500 t501).bind fun bt503 => ((spec_l1Rd_off.f k t500 bt503.2 0 (wrap64 ((bt503.1.length : Int) - 1))).bind fun bt507 => ((spec_l1Rd_field.f t500 bt507.2).bind fun bt509 => (some (bt503.1, bt507.1, bt509.1))))) = some (r1, r2, r3) := H
 have A2 := Aside0.mk A20
 clear A20
 replace H := Option.bind_eq_some_iff.mp H
 obtain ⟨⟨t503, t506⟩, A30, H⟩ := H
 replace H : ((spec_l1Rd_off.f k t500 t506 0 (wrap64 ((t503.length : Int) - 1))).bind fun bt507 => ((spec_l1Rd_field.f t500 bt507.2).bind fun bt509 => (some (t503, bt507.1, bt509.1)))) = some (r1, r2, r3) := H
 have A3 := Aside0.mk A30
 clear A30
 replace H := Option.bind_eq_some_iff.mp H
 obtain ⟨⟨t507, t508⟩, A40, H⟩ := H
 replace H : ((spec_l1Rd_field.f t500 t508).bind fun bt509 => (some (t503, t507, bt509.1))) = some (r1, r2, r3) := H
 have A4 := Aside0.mk A40
 clear A40
 replace H := Option.bind_eq_some_iff.mp H
 obtain ⟨⟨t509, t510⟩, A50, H⟩ := H
 replace H : (some (t503, t507, t509)) = some (r1, r2, r3) := H
 have A5 := Aside0.mk A50
 clear A50
 simp only [Option.some.injEq, Prod.mk.injEq] at H
 obtain ⟨rfl, rfl, rfl⟩ := H
 go_enter Tryz.func34, Tryz.ntmps34
 go_wp2_with (first | ((with_reducible refine gate_callee (f := 68) rfl ?_); refine goesL_ (some 8) rfl rfl Tryz.func68 dq22 rfl #[.slice A0 l0.length c0] rfl dq21 ?_; (with_reducible refine (spec_l1Open.calls _ _ l0 t500 t501 w _ ?side1 ?side2 ?side3 A2.out).mono ?_); (case side1 => repeat (first | (with_reducible first | exact HB.out | apply below_alloc | apply pw_below_drewN | apply below_drew1) | exact HB.out)); (case side2 => exact HR0.out); (case side3 => exact HC0.out); rintro e w6 ⟨g502, rfl, hi, hb, hb2⟩; refine ⟨_, rfl, ?_⟩; have n0_ := Aside0.mk (hb); have n1_ := Aside0.mk (hi); clear HB; have HB := n0_; have HI502 := n1_; clear n0_ n1_; (try clear hb); (try clear hb2); (try clear hk); (try clear hi)) | ((with_reducible refine gate_callee (f := 69) rfl ?_); refine goesL_ (some 10) rfl rfl Tryz.func69 dq22 rfl #[.pointer (some ⟨g502, 0, none⟩)] rfl dq21 ?_; (with_reducible refine (spec_l1Rd_flat.calls k g502 t500 t501 t503 t506 w _ ?side1 ?side2 A3.out).mono ?_); (case side1 => exact dq11); (case side2 => exact dq12); rintro e w7 ⟨v504, rfl, ho0, hi, hb, hk⟩; refine ⟨_, rfl, ?_⟩; have n0_ := Aside0.mk (Kd.S_lower ho0 (below_size dq116)); have n1_ := Aside0.mk (hb); have n2_ := Aside0.mk (hi); clear HB; clear HI502; have HO505 := n0_; have HB := n1_; have HI502 := n2_; clear n0_ n1_ n2_; (try clear hb); (try clear hb2); (try clear hk); (try clear hi); (try clear ho0); obtain ⟨Ao8, co8, eo8⟩ := Kd.S_slice HO505.out; subst eo8) | ((with_reducible refine gate_callee (f := 70) rfl ?_); refine goesL_ (some 16) rfl rfl Tryz.func70 dq22 rfl #[.pointer (some ⟨g502, 0, none⟩), .int .i64 0, .int .i64 (wrap64 ((t503.length : Int) - 1))] rfl dq21 ?_; (with_reducible refine (spec_l1Rd_off.calls k g502 t500 t506 0 (wrap64 ((t503.length : Int) - 1)) t507 t508 w _ ?side1 ?side2 A4.out).mono ?_); (case side1 => exact dq11); (case side2 => exact dq12); rintro e w9 ⟨rfl, hi, hb, hk⟩; refine ⟨_, rfl, ?_⟩; have n0_ := Aside0.mk (Kd.S_mono (Kd.S_keep (IsS127.apartS (show IsS127 w _ g502 t500 t506 from by repeat (first | (with_reducible first | exact HI502.out | apply IsS127.alloc | apply IsS127.drewN | apply IsS127.drew | apply IsS127.set_1) | exact HI502.out)) dq115 dq29) hk (fun _ h => h.2)) (fun _ h => h.1)); have n1_ := Aside0.mk (hb); have n2_ := Aside0.mk (hi); clear HO505; clear HB; clear HI502; have HO505 := n0_; have HB := n1_; have HI502 := n2_; clear n0_ n1_ n2_; (try clear hb); (try clear hb2); (try clear hk); (try clear hi)) | ((with_reducible refine gate_callee (f := 71) rfl ?_); refine goesL_ (some 18) rfl rfl Tryz.func71 dq22 rfl #[.pointer (some ⟨g502, 0, none⟩)] rfl dq21 ?_; (with_reducible refine (spec_l1Rd_field.calls g502 t500 t508 t509 t510 w _ ?side1 ?side2 A5.out).mono ?_); (case side1 => exact dq11); (case side2 => exact dq12); rintro e w10 ⟨rfl, hi, hb, hk⟩; refine ⟨_, rfl, ?_⟩; have n0_ := Aside0.mk (Kd.S_mono (Kd.S_keep (IsS127.apartS (show IsS127 w _ g502 t500 t508 from by repeat (first | (with_reducible first | exact HI502.out | apply IsS127.alloc | apply IsS127.drewN | apply IsS127.drew | apply IsS127.set_1) | exact HI502.out)) dq115 dq29) hk (fun _ h => h.2)) (fun _ h => h.1)); have n1_ := Aside0.mk (hb); have n2_ := Aside0.mk (hi); clear HO505; clear HB; clear HI502; have HO505 := n0_; have HB := n1_; have HI502 := n2_; clear n0_ n1_ n2_; (try clear hb); (try clear hb2); (try clear hk); (try clear hi)))
 go_ret3
 exact ⟨_, dq27, dq115, dq116⟩

/-! ### impl_TextOf: function 35 -/
def impl_TextOf.f (k : Nat) (l0 : List (S65)) (a1 : Int) : Option (ByteArray × Bool) := (impl_has.f k l0 a1).bind fun t511 => (if t511 = true then (if 0 ≤ a1 then (if a1 < (l0.length : Int) then (if ((rd_T65 l0 a1).f1).toList = ([] : List UInt8) then (some ((⟨#[]⟩ : ByteArray), false)) else ((impl_textBelow.f l0 a1).bind fun t513 => (some (t513, true)))) else (none)) else (none)) else (some ((⟨#[]⟩ : ByteArray), false)))
set_option maxHeartbeats 8000000 in
set_option maxRecDepth 100000 in
theorem impl_TextOf.calls (k : Nat) (A0 : Option Addr) (c0 : Nat) (l0 : List (S65)) (a1 : Int) (r1 : ByteArray) (r2 : Bool) (w : World) (hT : Gl w) (hr0 : Kd.C k65 w A0 l0.length l0) (hc0 : l0.length ≤ c0) (h : impl_TextOf.f k l0 a1 = some (r1, r2)) :
  Calls Tryz.prog 35 #[.slice A0 l0.length c0, .int .i64 a1] w fun e w' => e = .returned (.tuple #[.string r1, .bool r2]) ∧ Below w.heap.size w w' := by
 have HR0 := Aside0.mk hr0
 have HC0 := Aside0.mk hc0
 clear hr0 hc0
 have HT := Aside0.mk hT
 clear hT
 have HB := Aside0.mk (Below.refl w.heap.size w)
 have H : ((impl_has.f k l0 a1).bind fun t511 => (if t511 = true then (if 0 ≤ a1 then (if a1 < (l0.length : Int) then (if ((rd_T65 l0 a1).f1).toList = ([] : List UInt8) then (some ((⟨#[]⟩ : ByteArray), false)) else ((impl_textBelow.f l0 a1).bind fun t513 => (some (t513, true)))) else (none)) else (none)) else (some ((⟨#[]⟩ : ByteArray), false)))) = some (r1, r2) := h
 clear h
 replace H := Option.bind_eq_some_iff.mp H
 obtain ⟨t511, A30, H⟩ := H
 replace H : (if t511 = true then (if 0 ≤ a1 then (if a1 < (l0.length : Int) then (if ((rd_T65 l0 a1).f1).toList = ([] : List UInt8) then (some ((⟨#[]⟩ : ByteArray), false)) else ((impl_textBelow.f l0 a1).bind fun t513 => (some (t513, true)))) else (none)) else (none)) else (some ((⟨#[]⟩ : ByteArray), false))) = some (r1, r2) := H
 have A3 := Aside0.mk A30
 clear A30
 by_cases c4 : t511 = true
 rotate_left
 ·replace c4 := Bool.eq_false_iff.mpr c4
  subst c4
  have H1 : (some ((⟨#[]⟩ : ByteArray), false)) = some (r1, r2) := by rw [if_neg (show ¬ (false = true) by decide)] at H; exact H
  clear H
  have H := H1
  clear H1
  simp only [Option.some.injEq, Prod.mk.injEq] at H
  obtain ⟨rfl, rfl⟩ := H
  go_enter Tryz.func35, Tryz.ntmps35
  go_wp2_with (first | ((with_reducible refine gate_callee (f := 72) rfl ?_); refine goesL_ (some 8) rfl rfl Tryz.func72 dq22 rfl #[.slice A0 l0.length c0, .int .i64 a1] rfl dq21 ?_; (with_reducible refine (impl_has.calls k _ _ l0 a1 false _ ?side3 ?side1 ?side2 A3.out).mono ?_); (case side1 => exact dq2); (case side2 => exact HC0.out); (case side3 => exact dq3); rintro e w12 ⟨rfl, hb⟩; refine ⟨_, rfl, ?_⟩; have n0_ := Aside0.mk (below_step dq25 hb); clear HB; have HB := n0_; clear n0_; (try clear hb); (try clear hb2); (try clear hk); (try clear hi)))
  go_ret2
  exact ⟨dq27, dq25⟩
 subst c4
 have H1 : (if 0 ≤ a1 then (if a1 < (l0.length : Int) then (if ((rd_T65 l0 a1).f1).toList = ([] : List UInt8) then (some ((⟨#[]⟩ : ByteArray), false)) else ((impl_textBelow.f l0 a1).bind fun t513 => (some (t513, true)))) else (none)) else (none)) = some (r1, r2) := by rw [if_pos rfl] at H; exact H
 clear H
 have H := H1
 clear H1
 by_cases c5 : 0 ≤ a1
 rotate_left
 ·rw [if_neg c5] at H
  exact absurd H dq20
 rw [if_pos c5] at H
 have c5b0 := decide_eq_true c5
 clear c5
 by_cases c6 : a1 < (l0.length : Int)
 rotate_left
 ·rw [if_neg c6] at H
  exact absurd H dq20
 rw [if_pos c6] at H
 have c6b0 := decide_eq_true c6
 clear c6
 by_cases c7 : ((rd_T65 l0 a1).f1).toList = ([] : List UInt8)
 ·rw [if_pos c7] at H
  have c7b0 := beq_iff_eq.mpr c7
  have c7b1 := bne_eq_false_iff_eq.mpr c7
  clear c7
  simp only [Option.some.injEq, Prod.mk.injEq] at H
  obtain ⟨rfl, rfl⟩ := H
  go_enter Tryz.func35, Tryz.ntmps35
  go_wp2_with (first | ((with_reducible refine gate_callee (f := 72) rfl ?_); refine goesL_ (some 8) rfl rfl Tryz.func72 dq22 rfl #[.slice A0 l0.length c0, .int .i64 a1] rfl dq21 ?_; (with_reducible refine (impl_has.calls k _ _ l0 a1 true _ ?side3 ?side1 ?side2 A3.out).mono ?_); (case side1 => exact dq2); (case side2 => exact HC0.out); (case side3 => exact dq3); rintro e w8 ⟨rfl, hb⟩; refine ⟨_, rfl, ?_⟩; have n0_ := Aside0.mk (below_step dq25 hb); clear HB; have HB := n0_; clear n0_; (try clear hb); (try clear hb2); (try clear hk); (try clear hi); have p512 : 0 ≤ (a1 : Int) := of_decide_eq_true dq18; have q512 : a1 < (l0.length : Int) := of_decide_eq_true dq18; obtain ⟨ad512, A512_3, c512_3, e512, hx512_0, hx512_1, hx512_2, hx512_3, hl512_3, hi512_3⟩ := at_T65 HR0.out a1 p512 q512; cases e512; replace hx512_0 := (HB.out.cell (World.block_lt_of_cell? w _ hx512_0)).trans hx512_0; replace hx512_1 := (HB.out.cell (World.block_lt_of_cell? w _ hx512_1)).trans hx512_1; replace hx512_2 := (HB.out.cell (World.block_lt_of_cell? w _ hx512_2)).trans hx512_2; replace hx512_3 := (HB.out.cell (World.block_lt_of_cell? w _ hx512_3)).trans hx512_3; have HR512_3 := Aside0.mk hi512_3; have HC512_3 := Aside0.mk hl512_3; clear hi512_3 hl512_3; replace p512 := eq_true p512; replace q512 := eq_true q512))
  go_ret2
  exact ⟨dq27, dq25⟩
 rw [if_neg c7] at H
 have c7b0 := beq_eq_false_iff_ne.mpr c7
 have c7b1 := bne_iff_ne.mpr c7
 replace H := Option.bind_eq_some_iff.mp H
 obtain ⟨t513, A90, H⟩ := H
 replace H : (some (t513, true)) = some (r1, r2) := H
 have A9 := Aside0.mk A90
 clear A90
 simp only [Option.some.injEq, Prod.mk.injEq] at H
 obtain ⟨rfl, rfl⟩ := H
 go_enter Tryz.func35, Tryz.ntmps35
 go_wp2_with (first | ((with_reducible refine gate_callee (f := 72) rfl ?_); refine goesL_ (some 8) rfl rfl Tryz.func72 dq22 rfl #[.slice A0 l0.length c0, .int .i64 a1] rfl dq21 ?_; (with_reducible refine (impl_has.calls k _ _ l0 a1 true _ ?side3 ?side1 ?side2 A3.out).mono ?_); (case side1 => exact dq2); (case side2 => exact HC0.out); (case side3 => exact dq3); rintro e w10 ⟨rfl, hb⟩; refine ⟨_, rfl, ?_⟩; have n0_ := Aside0.mk (below_step dq25 hb); clear HB; have HB := n0_; clear n0_; (try clear hb); (try clear hb2); (try clear hk); (try clear hi); have p512 : 0 ≤ (a1 : Int) := of_decide_eq_true dq18; have q512 : a1 < (l0.length : Int) := of_decide_eq_true dq18; obtain ⟨ad512, A512_3, c512_3, e512, hx512_0, hx512_1, hx512_2, hx512_3, hl512_3, hi512_3⟩ := at_T65 HR0.out a1 p512 q512; cases e512; replace hx512_0 := (HB.out.cell (World.block_lt_of_cell? w _ hx512_0)).trans hx512_0; replace hx512_1 := (HB.out.cell (World.block_lt_of_cell? w _ hx512_1)).trans hx512_1; replace hx512_2 := (HB.out.cell (World.block_lt_of_cell? w _ hx512_2)).trans hx512_2; replace hx512_3 := (HB.out.cell (World.block_lt_of_cell? w _ hx512_3)).trans hx512_3; have HR512_3 := Aside0.mk hi512_3; have HC512_3 := Aside0.mk hl512_3; clear hi512_3 hl512_3; replace p512 := eq_true p512; replace q512 := eq_true q512) | ((with_reducible refine gate_callee (f := 73) rfl ?_); refine goesL_ (some 20) rfl rfl Tryz.func73 dq22 rfl #[.slice (some ad512) l0.length c0, .int .i64 a1] rfl dq21 ?_; (with_reducible refine (impl_textBelow.calls _ _ l0 a1 t513 _ ?side1 ?side2 A9.out).mono ?_); (case side1 => exact dq1); (case side2 => exact HC0.out); rintro e w11 ⟨rfl, hb⟩; refine ⟨_, rfl, ?_⟩; have n0_ := Aside0.mk (below_step dq25 hb); clear HB; have HB := n0_; clear n0_; (try clear hb); (try clear hb2); (try clear hk); (try clear hi)))
 go_ret2
 exact ⟨dq27, dq25⟩

end Go.Proofs.YtpmjpbaeecnpiaaGreatDoor.L
