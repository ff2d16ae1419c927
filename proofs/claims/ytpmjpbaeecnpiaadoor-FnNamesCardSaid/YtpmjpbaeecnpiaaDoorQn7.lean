/- Words and contracts for the row RowFnNames: what the Go functions answer that it calls; printed by programs of the kit and of this session, and merged. -/
import Derived.Test.YtpmjpbaeecnpiaaDoorQn6
namespace Go.Proofs.YtpmjpbaeecnpiaaDoor.L
open Go.RowKit Go.Proofs.YtpmjpbaeecnpiaaDoorW.PrintWords Go.Proofs.YtpmjpbaeecnpiaaDoorW.PrintLast Go.Proofs.YtpmjpbaeecnpiaaDoorW.PrintMore
attribute [local go_sem] max2_int min2_int max_two min_two max_three min_three max_four min_four
set_option linter.unusedVariables false
set_option linter.unusedSimpArgs false

/-! ### spec_l1Rd_spaces: function 62 -/
mutual
def spec_l1Rd_spaces.l0 : Nat → List (S39) → Int → List Int → Int → Option ((List (S39)) × Int)
 | 0, _, _, _, _ => none
 | k + 1, x3, x4, x1000, x1001 => if x4 < (x3.length : Int) then (if 0 ≤ x4 then (if ((rd_T39 x3 x4).f1).toList = ([] : List UInt8) then (spec_l1Rd_spaces.l0 k x3 (wrap64 (x4 + 1)) x1000 x1001) else ((spec_l1Rd_once.f x1000 x1001 3).bind fun bt592 => (if bt592.1 = true then ((spec_l1Qual.f k ((rd_T39 x3 x4).f1)).bind fun t595 => (spec_l1Rd_spaces.j1 k x3 x4 t595 x1000 bt592.2)) else (spec_l1Rd_spaces.j1 k x3 x4 false x1000 bt592.2)))) else (none)) else (some (x3, x1001))
def spec_l1Rd_spaces.j1 : Nat → List (S39) → Int → Bool → List Int → Int → Option ((List (S39)) × Int)
 | 0, _, _, _, _, _ => none
 | k + 1, x3, x4, x30, x1000, x1001 => if x30 = true then ((some (([(⟨#[112, 58, 97]⟩ : ByteArray), (⟨#[113, 58, 98]⟩ : ByteArray), (⟨#[97]⟩ : ByteArray), (⟨#[120, 109, 108, 58, 99]⟩ : ByteArray)] : List ByteArray) : List ByteArray)).bind fun y596 => ((spec_l1Rd_below.f x1000 x1001 4).bind fun bt599 => (if 0 ≤ bt599.1 then (if bt599.1 < (y596.length : Int) then (if 0 ≤ x4 then (if x4 < (x3.length : Int) then (spec_l1Rd_spaces.j2 k (x3.set (x4 : Int).toNat (⟨(rd_T39 x3 x4).f0, rdOf ByteArray.empty y596 bt599.1, (rd_T39 x3 x4).f2, (rd_T39 x3 x4).f3⟩ : S39)) x4 x1000 bt599.2) else (none)) else (none)) else (none)) else (none)))) else (spec_l1Rd_spaces.j2 k x3 x4 x1000 x1001)
def spec_l1Rd_spaces.j2 : Nat → List (S39) → Int → List Int → Int → Option ((List (S39)) × Int)
 | 0, _, _, _, _ => none
 | k + 1, x3, x4, x1000, x1001 => if x4 = 0 then (spec_l1Rd_spaces.j3 k x3 x4 true x1000 x1001) else ((spec_l1Rd_once.f x1000 x1001 4).bind fun bt603 => (spec_l1Rd_spaces.j3 k x3 x4 bt603.1 x1000 bt603.2))
def spec_l1Rd_spaces.j3 : Nat → List (S39) → Int → Bool → List Int → Int → Option ((List (S39)) × Int)
 | 0, _, _, _, _, _ => none
 | k + 1, x3, x4, x45, x1000, x1001 => if x45 = true then ((some (([(⟨#[117, 49]⟩ : ByteArray), (⟨#[117, 50]⟩ : ByteArray), (⟨#[]⟩ : ByteArray)] : List ByteArray) : List ByteArray)).bind fun y605 => ((spec_l1Rd_below.f x1000 x1001 3).bind fun bt608 => (if 0 ≤ bt608.1 then (if bt608.1 < (y605.length : Int) then ((some (([(⟨#[117, 49]⟩ : ByteArray), (⟨#[]⟩ : ByteArray), (⟨#[117, 51]⟩ : ByteArray)] : List ByteArray) : List ByteArray)).bind fun y611 => ((spec_l1Rd_below.f x1000 bt608.2 3).bind fun bt614 => (if 0 ≤ bt614.1 then (if bt614.1 < (y611.length : Int) then ((some (([(⟨(⟨#[120, 109, 108, 110, 115, 58, 112]⟩ : ByteArray), rdOf ByteArray.empty y605 bt608.1⟩ : S46), (⟨(⟨#[120, 109, 108, 110, 115]⟩ : ByteArray), rdOf ByteArray.empty y611 bt614.1⟩ : S46), (⟨(⟨#[120, 109, 108, 110, 115, 58, 113]⟩ : ByteArray), (⟨#[117, 49]⟩ : ByteArray)⟩ : S46)] : List (S46)) : List (S46))).bind fun y617 => ((spec_l1Rd_below.f x1000 bt614.2 4).bind fun bt620 => ((some (([] : List (S46)) : List (S46))).bind fun y622 => (if 0 ≤ bt620.1 then (if bt620.1 ≤ (y617.length : Int) then ((some (y617.take (bt620.1 : Int).toNat : List (S46))).bind fun y625 => (if y622.length + y625.length < 4398046511104 then ((some (y622 ++ y625 : List (S46))).bind fun y629 => (if 0 ≤ x4 then (if x4 < (x3.length : Int) then (if y629.length + ((rd_T39 x3 x4).f3).length < 4398046511104 then ((some (x3.set (x4 : Int).toNat (⟨(rd_T39 x3 x4).f0, (rd_T39 x3 x4).f1, (rd_T39 x3 x4).f2, (y629 ++ ((rd_T39 x3 x4).f3))⟩ : S39) : List (S39))).bind fun y636 => ((spec_l1Rd_once.f x1000 bt620.2 4).bind fun bt637 => (if bt637.1 = true then ((some (([(⟨(⟨#[113, 58, 122]⟩ : ByteArray), (⟨#[49]⟩ : ByteArray)⟩ : S46), (⟨(⟨#[112, 58, 122]⟩ : ByteArray), (⟨#[50]⟩ : ByteArray)⟩ : S46)] : List (S46)) : List (S46))).bind fun y640 => (if ((rd_T39 y636 x4).f3).length + y640.length < 4398046511104 then (spec_l1Rd_spaces.l0 k (y636.set (x4 : Int).toNat (⟨(rd_T39 y636 x4).f0, (rd_T39 y636 x4).f1, (rd_T39 y636 x4).f2, (((rd_T39 y636 x4).f3) ++ y640)⟩ : S39)) (wrap64 (x4 + 1)) x1000 bt637.2) else (none))) else (spec_l1Rd_spaces.l0 k y636 (wrap64 (x4 + 1)) x1000 bt637.2)))) else (none)) else (none)) else (none))) else (none))) else (none)) else (none))))) else (none)) else (none)))) else (none)) else (none)))) else (spec_l1Rd_spaces.l0 k x3 (wrap64 (x4 + 1)) x1000 x1001)
end
def spec_l1Rd_spaces.f (k : Nat) (s0_0 : List Int) (s0_1 : Int) : Option ((List (S39)) × Int) := (spec_l1Rd_doc.f k s0_0 s0_1).bind fun bt587 => (spec_l1Rd_spaces.l0 k bt587.1 0 s0_0 bt587.2)
def spec_l1Rd_spaces.T11 : Bool × List (List Nat × List Nat) := (true, [([], []), ([], []), ([], []), ([], []), ([], []), ([3, 4], [3, 4]), ([2, 5], [2, 5]), ([], []), ([], []), ([7, 8], [7, 8]), ([9], [9]), ([10], [10]), ([6, 11, 6], [6, 11]), ([0, 1, 0, 1, 2, 3, 4, 5, 6, 7, 8, 9, 10, 11, 12], [0, 1]), ([13, 0, 1, 2, 3, 4, 5, 6, 7, 8, 9, 10, 11, 12], [13]), ([14, 12, 12, 0, 1, 2, 3, 4, 5, 6, 7, 8, 9, 10, 11, 12], [12, 14])])
def spec_l1Rd_spaces.B11 : List Nat := [0, 0, 0, 0, 0, 24, 60, 0, 0, 384, 896, 1920, 4092, 8191, 16383, 32767]
theorem spec_l1Rd_spaces.tab11 : rtab .any (opsOf Tryd.f62 11) = spec_l1Rd_spaces.T11 := by kernel_rfl
theorem spec_l1Rd_spaces.bits11 : waitsOk spec_l1Rd_spaces.T11.2 spec_l1Rd_spaces.B11 = true := by kernel_rfl
def spec_l1Rd_spaces.T9 : Bool × List (List Nat × List Nat) := (true, [([], []), ([], []), ([1], [1]), ([0, 2], [0, 2]), ([3], [3]), ([4], [4]), ([], []), ([], []), ([7, 2], [7]), ([6, 8], [6, 8]), ([9], [9]), ([10], [10]), ([], []), ([5, 11, 12], [5, 11, 12]), ([13, 8, 0, 1, 2, 3, 4, 5, 6, 7, 8, 9, 10, 11, 12, 13], [13])])
def spec_l1Rd_spaces.B9 : List Nat := [0, 0, 2, 7, 15, 31, 0, 0, 134, 454, 966, 1990, 0, 8191, 16383]
theorem spec_l1Rd_spaces.tab9 : rtab .any (opsOf Tryd.f62 9) = spec_l1Rd_spaces.T9 := by kernel_rfl
theorem spec_l1Rd_spaces.bits9 : waitsOk spec_l1Rd_spaces.T9.2 spec_l1Rd_spaces.B9 = true := by kernel_rfl
set_option maxHeartbeats 8000000 in
set_option maxRecDepth 100000 in
theorem spec_l1Rd_spaces.calls (k : Nat) (g : Nat) (s0_0 : List Int) (s0_1 : Int) (r1 : List (S39)) (r2 : Int) (w0 w : World) (hI : IsS99 w0 w g s0_0 s0_1) (hB : Below w0.heap.size w0 w) (h : spec_l1Rd_spaces.f k s0_0 s0_1 = some (r1, r2)) :
  Calls Tryd.prog 62 #[.pointer (some ⟨g, 0, none⟩)] w fun e w' => ∃ v0_ : Value, e = .returned (v0_) ∧ Kd.S k39 39 w' w.heap.size (fun _ => True) v0_ r1 ∧ IsS99 w0 w' g s0_0 r2 ∧ Below w0.heap.size w0 w' ∧ KeepBut w w' g none := by
 have hu46 := Tryd.underlying46
 have HI0 := Aside0.mk hI
 have HK := Aside0.mk (KeepBut.refl w g none)
 have HL := Aside0.mk hB.size
 clear hI
 have HW0 := Aside0.mk hB.size
 have HB := Aside0.mk hB
 clear hB
 have H : ((spec_l1Rd_doc.f k s0_0 s0_1).bind fun bt587 => (spec_l1Rd_spaces.l0 k bt587.1 0 s0_0 bt587.2)) = some (r1, r2) := h
 clear h
 replace H := Option.bind_eq_some_iff.mp H
 obtain ⟨⟨t587, t590⟩, A20, H⟩ := H
 replace H : (spec_l1Rd_spaces.l0 k t587 0 s0_0 t590) = some (r1, r2) := H
 have A2 := Aside0.mk A20
 clear A20
 have H' := Aside0.mk H
 clear H
 go_enter Tryd.func62, Tryd.ntmps62
 go_wp2_with (first | ((with_reducible refine gate_callee (f := 53) rfl ?_); refine goesL_ (some 8) rfl rfl Tryd.func53 dq23 rfl #[.pointer (some ⟨g, 0, none⟩)] rfl dq22 ?_; (with_reducible refine (spec_l1Rd_doc.calls k g s0_0 s0_1 t587 t590 w0 _ ?side1 ?side2 A2.out).mono ?_); (case side1 => exact dq7); (case side2 => exact dq8); rintro e w3 ⟨v588, rfl, ho0, hi, hb, hk⟩; refine ⟨_, rfl, ?_⟩; have n0_ := Aside0.mk (Kd.S_lower ho0 (keep_size (w := w) (g := g) (row := none) dq57)); have n1_ := Aside0.mk (KeepBut.trans dq57 hk (.inl rfl)); have n2_ := Aside0.mk (hb); have n3_ := Aside0.mk (hi); clear HK; clear HB; clear HI0; have HO589 := n0_; have HK := n1_; have HB := n2_; have HI0 := n3_; clear n0_ n1_ n2_ n3_; (try clear hb); (try clear hb2); (try clear hk); (try clear hi); (try clear ho0)))
 go_loopg [4] k (fun kq v4 w' => ∃ (x3_1 : List (S39)) (x4_1 : Int) (x1001_1 : Int), v4 = .int .i64 x4_1 ∧ Aside0 (spec_l1Rd_spaces.l0 kq x3_1 x4_1 s0_0 x1001_1 = some (r1, r2)) ∧ Aside0 (kq ≤ k) ∧ Aside0 (Kd.S k39 39 w' w.heap.size (fun _ => True) v588 x3_1) ∧ Aside0 (IsS99 w0 w' g s0_0 x1001_1) ∧ Aside0 (KeepBut w w' g none) ∧ Aside0 (Below w0.heap.size w0 w'))
 case atStart => exact ⟨(t587), (0), (t590), dq18, H', ⟨Nat.le_refl _⟩, ⟨by (with_reducible repeat (first | apply Kd.S_alloc | apply Kd.S_drewN | apply Kd.S_drew)); exact HO589.out⟩, ⟨dq59⟩, ⟨dq57⟩, ⟨dq58⟩⟩
 clear H'
 obtain ⟨x3_1, x4_1, x1001_1, rfl, HA, HK1, HO_3, HI0, HK, HB⟩ := hrel
 cases gk with
 | zero => exact absurd HA.out (by simp [spec_l1Rd_spaces.l0])
 | succ k1 =>
  have H := HA.out
  clear HA
  simp only [spec_l1Rd_spaces.l0] at H
  by_cases c4 : x4_1 < (x3_1.length : Int)
  rotate_left
  ·rw [if_neg c4] at H
   have c4b0 := decide_eq_false c4
   clear c4
   simp only [Option.some.injEq, Prod.mk.injEq] at H
   obtain ⟨rfl, rfl⟩ := H
   obtain ⟨Ao108, co108, eo108⟩ := Kd.S_slice HO_3.out
   subst eo108
   go_wp2
   go_ret
   exact ⟨_, dq26, dq85, dq59, dq58, dq57⟩
  rw [if_pos c4] at H
  have c4b0 := decide_eq_true c4
  clear c4
  by_cases c5 : 0 ≤ x4_1
  rotate_left
  ·rw [if_neg c5] at H
   exact absurd H dq21
  rw [if_pos c5] at H
  have c5b0 := decide_eq_true c5
  clear c5
  by_cases c6 : ((rd_T39 x3_1 x4_1).f1).toList = ([] : List UInt8)
  ·rw [if_pos c6] at H
   have c6b0 := beq_iff_eq.mpr c6
   have c6b1 := bne_eq_false_iff_eq.mpr c6
   clear c6
   have H' := Aside0.mk H
   clear H
   obtain ⟨Ao7, co7, eo7⟩ := Kd.S_slice HO_3.out
   subst eo7
   have p591 : 0 ≤ (x4_1 : Int) := of_decide_eq_true dq19
   have q591 : x4_1 < (x3_1.length : Int) := of_decide_eq_true dq19
   obtain ⟨ad591, A591_3, c591_3, e591, hx591_0, hx591_1, hx591_2, hx591_3, hl591_3, hi591_3⟩ := at_T39 (Kd.S_reads' HO_3.out).2.2 x4_1 p591 q591
   cases e591
   obtain ⟨ce591, hce591, hMe591, hcc591⟩ := Kd.S_get HO_3.out z39 x4_1 p591 dq84
   obtain ⟨ve591_3, rfl, ge591_3⟩ := k39_openM hMe591
   have hv591_3 := hcc591 3 _ rfl
   rw [add_field _ _ 3 dq37] at hv591_3
   replace hv591_3 := Option.some.inj (hv591_3.symm.trans hx591_3)
   rw [hv591_3] at ge591_3
   have HL591_3 := Aside0.mk (show Kd.R k46 46 _ _ _ _ ((rd_T39 x3_1 x4_1).f3) from ge591_3)
   clear hv591_3 ge591_3
   have HX591_3 := Aside0.mk hx591_3
   clear hcc591 hce591
   have HR591_3 := Aside0.mk hi591_3
   have HC591_3 := Aside0.mk hl591_3
   clear hi591_3 hl591_3
   replace p591 := eq_true p591
   replace q591 := eq_true q591
   go_wp2
   go_roundg k1
   case measure => have := HK1.out; omega
   case rel => exact ⟨(x3_1), (wrap64 (x4_1 + 1)), (x1001_1), dq18, H', ⟨dq20⟩, ⟨dq85⟩, ⟨dq59⟩, ⟨dq57⟩, ⟨dq58⟩⟩
  rw [if_neg c6] at H
  have c6b0 := beq_eq_false_iff_ne.mpr c6
  have c6b1 := bne_iff_ne.mpr c6
  have HC8 := Aside0.mk H
  clear H
  obtain ⟨Ao9, co9, eo9⟩ := Kd.S_slice HO_3.out
  subst eo9
  have p591 : 0 ≤ (x4_1 : Int) := of_decide_eq_true dq19
  have q591 : x4_1 < (x3_1.length : Int) := of_decide_eq_true dq19
  obtain ⟨ad591, A591_3, c591_3, e591, hx591_0, hx591_1, hx591_2, hx591_3, hl591_3, hi591_3⟩ := at_T39 (Kd.S_reads' HO_3.out).2.2 x4_1 p591 q591
  cases e591
  obtain ⟨ce591, hce591, hMe591, hcc591⟩ := Kd.S_get HO_3.out z39 x4_1 p591 dq84
  obtain ⟨ve591_3, rfl, ge591_3⟩ := k39_openM hMe591
  have hv591_3 := hcc591 3 _ rfl
  rw [add_field _ _ 3 dq37] at hv591_3
  replace hv591_3 := Option.some.inj (hv591_3.symm.trans hx591_3)
  rw [hv591_3] at ge591_3
  have HL591_3 := Aside0.mk (show Kd.R k46 46 _ _ _ _ ((rd_T39 x3_1 x4_1).f3) from ge591_3)
  clear hv591_3 ge591_3
  have HX591_3 := Aside0.mk hx591_3
  clear hcc591 hce591
  have HR591_3 := Aside0.mk hi591_3
  have HC591_3 := Aside0.mk hl591_3
  clear hi591_3 hl591_3
  replace p591 := eq_true p591
  replace q591 := eq_true q591
  go_upto_region 6 with (fail)
  go_cut [30] (fun v30 wc => ∃ (kq : Nat) (x30_7 : Bool) (x1001_7 : Int), v30 = .bool x30_7 ∧ Aside0 (spec_l1Rd_spaces.j1 kq x3_1 x4_1 x30_7 s0_0 x1001_7 = some (r1, r2)) ∧ Aside0 (kq ≤ k1) ∧ Aside0 (Kd.S k39 39 wc w.heap.size (fun _ => True) (.slice (some ad591) x3_1.length co9) x3_1) ∧ Aside0 (IsS99 w0 wc g s0_0 x1001_7) ∧ Aside0 (KeepBut w wc g none) ∧ Aside0 (Below w0.heap.size w0 wc))
  case first =>
   have H := HC8.out
   clear HC8
   replace H := Option.bind_eq_some_iff.mp H
   obtain ⟨⟨t592, t593⟩, A100, H⟩ := H
   replace H : (if t592 = true then ((spec_l1Qual.f k1 ((rd_T39 x3_1 x4_1).f1)).bind fun t595 => (spec_l1Rd_spaces.j1 k1 x3_1 x4_1 t595 s0_0 t593)) else (spec_l1Rd_spaces.j1 k1 x3_1 x4_1 false s0_0 t593)) = some (r1, r2) := H
   have A10 := Aside0.mk A100
   clear A100
   by_cases c11 : t592 = true
   rotate_left
   ·replace c11 := Bool.eq_false_iff.mpr c11
    subst c11
    have H1 : (spec_l1Rd_spaces.j1 k1 x3_1 x4_1 false s0_0 t593) = some (r1, r2) := by rw [if_neg (show ¬ (false = true) by decide)] at H; exact H
    clear H
    have H := H1
    clear H1
    have H' := Aside0.mk H
    clear H
    go_wp2_with (first | ((with_reducible refine gate_callee (f := 52) rfl ?_); refine goesL_ (some 22) rfl rfl Tryd.func52 dq23 rfl #[.pointer (some ⟨g, 0, none⟩), .int .i64 3] rfl dq22 ?_; (with_reducible refine (spec_l1Rd_once.calls g s0_0 x1001_1 3 false t593 w0 _ ?side1 ?side2 A10.out).mono ?_); (case side1 => exact dq7); (case side2 => exact dq8); rintro e w14 ⟨rfl, hi, hb, hk⟩; refine ⟨_, rfl, ?_⟩; have n0_ := Aside0.mk (Kd.S_mono (Kd.S_keep (IsS99.apartS (show IsS99 w0 _ g s0_0 x1001_1 from by repeat (first | (with_reducible first | exact HI0.out | apply IsS99.alloc | apply IsS99.drewN | apply IsS99.drew | apply IsS99.set_1) | exact HI0.out)) dq85 dq52) hk (fun _ h => h.2)) (fun _ h => h.1)); have n1_ := Aside0.mk (Kd.R_mono (Kd.R_keep (IsS99.apart (show IsS99 w0 _ g s0_0 x1001_1 from by repeat (first | (with_reducible first | exact HI0.out | apply IsS99.alloc | apply IsS99.drewN | apply IsS99.drew | apply IsS99.set_1) | exact HI0.out)) (by (with_reducible repeat (first | apply Kd.R_alloc | apply Kd.R_drewN | apply Kd.R_drew)); exact HL591_3.out) dq52) hk (fun _ h => h.2)) (fun _ h => h.1)); have n2_ := Aside0.mk (keep_cell hk HX591_3.out dq86); have n3_ := Aside0.mk (KeepBut.trans dq57 hk (.inl rfl)); have n4_ := Aside0.mk (hb); have n5_ := Aside0.mk (hi); clear HO_3; clear HL591_3; clear HX591_3; clear HK; clear HB; clear HI0; have HO_3 := n0_; have HL591_3 := n1_; have HX591_3 := n2_; have HK := n3_; have HB := n4_; have HI0 := n5_; clear n0_ n1_ n2_ n3_ n4_ n5_; (try clear hb); (try clear hb2); (try clear hk); (try clear hi)))
    go_meet
    case rel => exact ⟨_, (false), (t593), dq18, H', ⟨dq56⟩, ⟨dq85⟩, ⟨dq59⟩, ⟨dq57⟩, ⟨dq58⟩⟩
   subst c11
   have H1 : ((spec_l1Qual.f k1 ((rd_T39 x3_1 x4_1).f1)).bind fun t595 => (spec_l1Rd_spaces.j1 k1 x3_1 x4_1 t595 s0_0 t593)) = some (r1, r2) := by rw [if_pos rfl] at H; exact H
   clear H
   have H := H1
   clear H1
   replace H := Option.bind_eq_some_iff.mp H
   obtain ⟨t595, A120, H⟩ := H
   replace H : (spec_l1Rd_spaces.j1 k1 x3_1 x4_1 t595 s0_0 t593) = some (r1, r2) := H
   have A12 := Aside0.mk A120
   clear A120
   have H' := Aside0.mk H
   clear H
   go_wp2_with (first | ((with_reducible refine gate_callee (f := 52) rfl ?_); refine goesL_ (some 22) rfl rfl Tryd.func52 dq23 rfl #[.pointer (some ⟨g, 0, none⟩), .int .i64 3] rfl dq22 ?_; (with_reducible refine (spec_l1Rd_once.calls g s0_0 x1001_1 3 true t593 w0 _ ?side1 ?side2 A10.out).mono ?_); (case side1 => exact dq7); (case side2 => exact dq8); rintro e w13 ⟨rfl, hi, hb, hk⟩; refine ⟨_, rfl, ?_⟩; have n0_ := Aside0.mk (Kd.S_mono (Kd.S_keep (IsS99.apartS (show IsS99 w0 _ g s0_0 x1001_1 from by repeat (first | (with_reducible first | exact HI0.out | apply IsS99.alloc | apply IsS99.drewN | apply IsS99.drew | apply IsS99.set_1) | exact HI0.out)) dq85 dq52) hk (fun _ h => h.2)) (fun _ h => h.1)); have n1_ := Aside0.mk (Kd.R_mono (Kd.R_keep (IsS99.apart (show IsS99 w0 _ g s0_0 x1001_1 from by repeat (first | (with_reducible first | exact HI0.out | apply IsS99.alloc | apply IsS99.drewN | apply IsS99.drew | apply IsS99.set_1) | exact HI0.out)) (by (with_reducible repeat (first | apply Kd.R_alloc | apply Kd.R_drewN | apply Kd.R_drew)); exact HL591_3.out) dq52) hk (fun _ h => h.2)) (fun _ h => h.1)); have n2_ := Aside0.mk (keep_cell hk HX591_3.out dq86); have n3_ := Aside0.mk (KeepBut.trans dq57 hk (.inl rfl)); have n4_ := Aside0.mk (hb); have n5_ := Aside0.mk (hi); clear HO_3; clear HL591_3; clear HX591_3; clear HK; clear HB; clear HI0; have HO_3 := n0_; have HL591_3 := n1_; have HX591_3 := n2_; have HK := n3_; have HB := n4_; have HI0 := n5_; clear n0_ n1_ n2_ n3_ n4_ n5_; (try clear hb); (try clear hb2); (try clear hk); (try clear hi); have p594 : 0 ≤ (x4_1 : Int) := of_decide_eq_true dq19; have q594 : x4_1 < (x3_1.length : Int) := of_decide_eq_true dq19; obtain ⟨ad594, A594_3, c594_3, e594, hx594_0, hx594_1, hx594_2, hx594_3, hl594_3, hi594_3⟩ := at_T39 (Kd.S_reads' HO_3.out).2.2 x4_1 p594 q594; obtain rfl : ad591 = ad594 := (by injection e594); obtain ⟨ce594, hce594, hMe594, hcc594⟩ := Kd.S_get HO_3.out z39 x4_1 p594 (by first | exact q594 | exact of_decide_eq_true dq19 | (have e_ := (Kd.S_reads' HO_3.out).1; omega)); obtain ⟨ve594_3, rfl, ge594_3⟩ := k39_openM hMe594; have hv594_3 := hcc594 3 _ rfl; rw [add_field _ _ 3 dq37] at hv594_3; replace hv594_3 := Option.some.inj (hv594_3.symm.trans hx594_3); rw [hv594_3] at ge594_3; have HL594_3 := Aside0.mk (show Kd.R k46 46 _ _ _ _ ((rd_T39 x3_1 x4_1).f3) from ge594_3); clear hv594_3 ge594_3; have HX594_3 := Aside0.mk hx594_3; clear hcc594 hce594; have HR594_3 := Aside0.mk hi594_3; have HC594_3 := Aside0.mk hl594_3; clear hi594_3 hl594_3; replace p594 := eq_true p594; replace q594 := eq_true q594) | (go_at_call 59; (with_reducible refine (spec_l1Qual.calls k1 ((rd_T39 x3_1 x4_1).f1) t595 _ A12.out).mono ?_); rintro e w' ⟨rfl, ⟨nd, rfl⟩⟩))
   go_meet
   case rel => exact ⟨_, (t595), (t593), dq18, H', ⟨dq56⟩, ⟨dq85⟩, ⟨dq59⟩, ⟨dq57⟩, ⟨dq58⟩⟩
  clear HC8
  try clear c4b0
  try clear c5b0
  try clear c6
  try clear c6b0
  try clear c6b1
  try clear hx591_0
  try clear hx591_1
  try clear hx591_2
  try clear hx591_3
  try clear p591
  try clear q591
  obtain ⟨kq, x30_7, x1001_7, rfl, HA, HJ7, HO_3, HI0, HK, HB⟩ := hcut
  cases kq with
  | zero => exact absurd HA.out (by simp [spec_l1Rd_spaces.j1])
  | succ kj7 =>
   have H := HA.out
   clear HA
   simp only [spec_l1Rd_spaces.j1] at H
   have HC15 := Aside0.mk H
   clear H
   go_upto_if 30 with (fail)
   go_cut [] (fun wc => ∃ (kq : Nat) (x3_14 : List (S39)) (x1001_14 : Int), Aside0 (spec_l1Rd_spaces.j2 kq x3_14 x4_1 s0_0 x1001_14 = some (r1, r2)) ∧ Aside0 (kq ≤ kj7) ∧ Aside0 (Kd.S k39 39 wc w.heap.size (fun _ => True) (.slice (some ad591) x3_1.length co9) x3_14) ∧ Aside0 (IsS99 w0 wc g s0_0 x1001_14) ∧ Aside0 (KeepBut w wc g none) ∧ Aside0 (Below w0.heap.size w0 wc))
   case first =>
    have H := HC15.out
    clear HC15
    by_cases c16 : x30_7 = true
    rotate_left
    ·replace c16 := Bool.eq_false_iff.mpr c16
     subst c16
     have H1 : (spec_l1Rd_spaces.j2 kj7 x3_1 x4_1 s0_0 x1001_7) = some (r1, r2) := by rw [if_neg (show ¬ (false = true) by decide)] at H; exact H
     clear H
     have H := H1
     clear H1
     have H' := Aside0.mk H
     clear H
     go_wp2
     go_meet
     case rel => exact ⟨_, (x3_1), (x1001_7), H', ⟨by have := HK1.out; have := HJ7.out; first | omega | exact Nat.le_refl _⟩, ⟨dq85⟩, ⟨dq59⟩, ⟨dq57⟩, ⟨dq58⟩⟩
    subst c16
    have H1 : ((some (([(⟨#[112, 58, 97]⟩ : ByteArray), (⟨#[113, 58, 98]⟩ : ByteArray), (⟨#[97]⟩ : ByteArray), (⟨#[120, 109, 108, 58, 99]⟩ : ByteArray)] : List ByteArray) : List ByteArray)).bind fun y596 => ((spec_l1Rd_below.f s0_0 x1001_7 4).bind fun bt599 => (if 0 ≤ bt599.1 then (if bt599.1 < (y596.length : Int) then (if 0 ≤ x4_1 then (if x4_1 < (x3_1.length : Int) then (spec_l1Rd_spaces.j2 kj7 (x3_1.set (x4_1 : Int).toNat (⟨(rd_T39 x3_1 x4_1).f0, rdOf ByteArray.empty y596 bt599.1, (rd_T39 x3_1 x4_1).f2, (rd_T39 x3_1 x4_1).f3⟩ : S39)) x4_1 s0_0 bt599.2) else (none)) else (none)) else (none)) else (none)))) = some (r1, r2) := by rw [if_pos rfl] at H; exact H
    clear H
    have H := H1
    clear H1
    obtain ⟨y596, hy596⟩ : ∃ y_ : List ByteArray, y_ = (([(⟨#[112, 58, 97]⟩ : ByteArray), (⟨#[113, 58, 98]⟩ : ByteArray), (⟨#[97]⟩ : ByteArray), (⟨#[120, 109, 108, 58, 99]⟩ : ByteArray)] : List ByteArray)) := ⟨_, rfl⟩
    replace H : ((spec_l1Rd_below.f s0_0 x1001_7 4).bind fun bt599 => (if 0 ≤ bt599.1 then (if bt599.1 < (y596.length : Int) then (if 0 ≤ x4_1 then (if x4_1 < (x3_1.length : Int) then (spec_l1Rd_spaces.j2 kj7 (x3_1.set (x4_1 : Int).toNat (⟨(rd_T39 x3_1 x4_1).f0, rdOf ByteArray.empty y596 bt599.1, (rd_T39 x3_1 x4_1).f2, (rd_T39 x3_1 x4_1).f3⟩ : S39)) x4_1 s0_0 bt599.2) else (none)) else (none)) else (none)) else (none))) = some (r1, r2) := by first | (rw [hy596]; with_reducible exact H) | (have H2_ := (Option.bind_some _ _).symm.trans H; rw [hy596]; with_reducible exact H2_) | (have H2_ := (Option.bind_some _ _).symm.trans H; with_reducible exact H2_) | with_reducible exact H | (rw [hy596]; exact H) | exact H
    have Ny596 := Aside0.mk hy596
    clear hy596
    replace H := Option.bind_eq_some_iff.mp H
    obtain ⟨⟨t599, t600⟩, A170, H⟩ := H
    replace H : (if 0 ≤ t599 then (if t599 < (y596.length : Int) then (if 0 ≤ x4_1 then (if x4_1 < (x3_1.length : Int) then (spec_l1Rd_spaces.j2 kj7 (x3_1.set (x4_1 : Int).toNat (⟨(rd_T39 x3_1 x4_1).f0, rdOf ByteArray.empty y596 t599, (rd_T39 x3_1 x4_1).f2, (rd_T39 x3_1 x4_1).f3⟩ : S39)) x4_1 s0_0 t600) else (none)) else (none)) else (none)) else (none)) = some (r1, r2) := H
    have A17 := Aside0.mk A170
    clear A170
    by_cases c18 : 0 ≤ t599
    rotate_left
    ·rw [if_neg c18] at H
     exact absurd H dq21
    rw [if_pos c18] at H
    have c18b0 := decide_eq_true c18
    clear c18
    (first | rw [c18b0] | (simp only [i64_w, i32_w]; rw [c18b0]) | skip)
    by_cases c19 : t599 < (y596.length : Int)
    rotate_left
    ·rw [if_neg c19] at H
     exact absurd H dq21
    rw [if_pos c19] at H
    have c19b0 := decide_eq_true c19
    clear c19
    by_cases c20 : 0 ≤ x4_1
    rotate_left
    ·rw [if_neg c20] at H
     exact absurd H dq21
    rw [if_pos c20] at H
    have c20b0 := decide_eq_true c20
    clear c20
    by_cases c21 : x4_1 < (x3_1.length : Int)
    rotate_left
    ·rw [if_neg c21] at H
     exact absurd H dq21
    rw [if_pos c21] at H
    have c21b0 := decide_eq_true c21
    clear c21
    obtain ⟨y602, hy602⟩ : ∃ y_ : List (S39), y_ = (x3_1.set (x4_1 : Int).toNat (⟨(rd_T39 x3_1 x4_1).f0, rdOf ByteArray.empty y596 t599, (rd_T39 x3_1 x4_1).f2, (rd_T39 x3_1 x4_1).f3⟩ : S39)) := ⟨_, rfl⟩
    replace H : (spec_l1Rd_spaces.j2 kj7 y602 x4_1 s0_0 t600) = some (r1, r2) := by first | (rw [hy602]; with_reducible exact H) | (have H2_ := (Option.bind_some _ _).symm.trans H; rw [hy602]; with_reducible exact H2_) | (have H2_ := (Option.bind_some _ _).symm.trans H; with_reducible exact H2_) | with_reducible exact H | (rw [hy602]; exact H) | exact H
    have Ny602 := Aside0.mk hy602
    clear hy602
    have H' := Aside0.mk H
    clear H
    go_wp2_with (first | ((with_reducible refine gate_dst (N := 33) rfl ?_); refine Kd.R_lit Kd.string _ 9 ?hg (N := 33) ?hd (xs := ([(⟨#[112, 58, 97]⟩ : ByteArray), (⟨#[113, 58, 98]⟩ : ByteArray), (⟨#[97]⟩ : ByteArray), (⟨#[120, 109, 108, 58, 99]⟩ : ByteArray)] : List ByteArray)) (inner := [.string (⟨#[112, 58, 97]⟩ : ByteArray), .string (⟨#[113, 58, 98]⟩ : ByteArray), .string (⟨#[97]⟩ : ByteArray), .string (⟨#[120, 109, 108, 58, 99]⟩ : ByteArray)]) (ok := fun _ => True) (okp := fun _ => True) ?hr ?hp (fun _ hk => hk) trivial (Below.refl _ _) (Nat.le_refl _) dq21 ?_; (case hd => rfl); (case hg => rfl); (case hr => exact dq1); (case hp => exact (Reps.one (show Kd.M Kd.string _ _ _ (⟨#[112, 58, 97]⟩ : ByteArray) [.string (⟨#[112, 58, 97]⟩ : ByteArray)] from rfl) (Reps.one (show Kd.M Kd.string _ _ _ (⟨#[113, 58, 98]⟩ : ByteArray) [.string (⟨#[113, 58, 98]⟩ : ByteArray)] from rfl) (Reps.one (show Kd.M Kd.string _ _ _ (⟨#[97]⟩ : ByteArray) [.string (⟨#[97]⟩ : ByteArray)] from rfl) (Reps.one (show Kd.M Kd.string _ _ _ (⟨#[120, 109, 108, 58, 99]⟩ : ByteArray) [.string (⟨#[120, 109, 108, 58, 99]⟩ : ByteArray)] from rfl) (Reps.none _ _)))))); intro v597 w23 ho24 hb hg_ hnew_; clear hg_ hnew_; (first | rw [← Ny596.out] at ho24 | (simp only [Int.reduceToNat] at ho24; rw [← Ny596.out] at ho24)); have n0_ := Aside0.mk (Kd.S_below dq85 hb); have n1_ := Aside0.mk (Kd.R_lower ho24 (keep_size (w := w) (g := g) (row := none) dq57)); have n2_ := Aside0.mk (IsS99.below dq59 hb); have n3_ := Aside0.mk (KeepBut.trans dq57 (KeepBut.of_below hb g none) (.inl rfl)); have n4_ := Aside0.mk (below_step dq58 hb); clear HO_3; clear HI0; clear HK; clear HB; have HO_3 := n0_; have HO598 := n1_; have HI0 := n2_; have HK := n3_; have HB := n4_; clear n0_ n1_ n2_ n3_ n4_; clear hb ho24) | ((with_reducible refine gate_callee (f := 63) rfl ?_); refine goesL_ (some 35) rfl rfl Tryd.func63 dq23 rfl #[.pointer (some ⟨g, 0, none⟩), .int .i64 4] rfl dq22 ?_; (with_reducible refine (spec_l1Rd_below.calls g s0_0 x1001_7 4 t599 t600 w0 _ ?side1 ?side2 A17.out).mono ?_); (case side1 => exact dq7); (case side2 => exact dq8); rintro e w25 ⟨rfl, hi, hb, hk⟩; refine ⟨_, rfl, ?_⟩; have n0_ := Aside0.mk (Kd.S_mono (Kd.S_keep (IsS99.apartS (show IsS99 w0 _ g s0_0 x1001_7 from by repeat (first | (with_reducible first | exact HI0.out | apply IsS99.alloc | apply IsS99.drewN | apply IsS99.drew | apply IsS99.set_1) | exact HI0.out)) dq85 dq52) hk (fun _ h => h.2)) (fun _ h => h.1)); have n1_ := Aside0.mk (Kd.R_mono (Kd.R_keep (IsS99.apart (show IsS99 w0 _ g s0_0 x1001_7 from by repeat (first | (with_reducible first | exact HI0.out | apply IsS99.alloc | apply IsS99.drewN | apply IsS99.drew | apply IsS99.set_1) | exact HI0.out)) (by (with_reducible repeat (first | apply Kd.R_alloc | apply Kd.R_drewN | apply Kd.R_drew)); exact HO598.out) dq52) hk (fun _ h => h.2)) (fun _ h => h.1)); have n2_ := Aside0.mk (KeepBut.trans dq57 hk (.inl rfl)); have n3_ := Aside0.mk (hb); have n4_ := Aside0.mk (hi); clear HO_3; clear HO598; clear HK; clear HB; clear HI0; have HO_3 := n0_; have HO598 := n1_; have HK := n2_; have HB := n3_; have HI0 := n4_; clear n0_ n1_ n2_ n3_ n4_; (try clear hb); (try clear hb2); (try clear hk); (try clear hi); obtain ⟨Ao26, co26, eo26⟩ := Kd.R_slice HO598.out; subst eo26; have p601 : 0 ≤ (t599 : Int) := of_decide_eq_true dq19; have q601 : t599 < (y596.length : Int) := of_decide_eq_true dq19; obtain ⟨ad601, e601, hx601_0⟩ := Kd.at_string (Kd.R_reads' HO598.out).2.2 t599 p601 q601; cases e601; replace p601 := eq_true p601; replace q601 := eq_true q601; have p22 : 0 ≤ (x4_1 : Int) := of_decide_eq_true dq19; have q22 : (x4_1 : Int) < ((x3_1.length : Int) : Int) := of_decide_eq_true dq19; obtain ⟨go22, co22, eo22, gb22, gl22, cl22, HG22⟩ := Kd.S_form HO_3.out dq37; (first | cases eo22 | (injection eo22 with ea_ en_ ec_; (first | subst ea_ | (injection ea_ with ea_; subst ea_)); subst ec_; clear en_)); have GB22 := Aside0.mk gb22; have GG22 := Aside0.mk HG22; clear gb22 gl22 HG22; (first | simp only [add_plain] at hx591_0 | skip); (first | simp only [add_plain] at hx591_1 | skip); (first | simp only [add_plain] at hx591_2 | skip); (first | simp only [add_plain] at hx591_3 | skip); (first | simp only [add_plain] at hx594_0 | skip); (first | simp only [add_plain] at hx594_1 | skip); (first | simp only [add_plain] at hx594_2 | skip); (first | simp only [add_plain] at hx594_3 | skip); obtain ⟨_, ce22, hcl22, hM22, hcc22, hfr22, _, _⟩ := Kd.S_elem HO_3.out z39 (x4_1 : Int) p22 q22; obtain ⟨ve22_3, rfl, ge22_3⟩ := k39_openM hM22; have hx22_0 : w25.cell? ⟨go22, (x4_1 : Int).toNat * 4, none⟩ = some (.int .i64 ((rd_T39 x3_1 x4_1).f0)) := hcc22 0 _ rfl; have hx22_1 : w25.cell? ⟨go22, (x4_1 : Int).toNat * 4 + 1, none⟩ = some (.string ((rd_T39 x3_1 x4_1).f1)) := hcc22 1 _ rfl; have hx22_2 : w25.cell? ⟨go22, (x4_1 : Int).toNat * 4 + 2, none⟩ = some (.string ((rd_T39 x3_1 x4_1).f2)) := hcc22 2 _ rfl; have hx22_3 : w25.cell? ⟨go22, (x4_1 : Int).toNat * 4 + 3, none⟩ = some (ve22_3) := hcc22 3 _ rfl; have hf22_0 : w25.frozen? ⟨go22, (x4_1 : Int).toNat * 4, none⟩ = false := hfr22 0; have hf22_1 : w25.frozen? ⟨go22, (x4_1 : Int).toNat * 4 + 1, none⟩ = false := hfr22 1; have hf22_2 : w25.frozen? ⟨go22, (x4_1 : Int).toNat * 4 + 2, none⟩ = false := hfr22 2; have hf22_3 : w25.frozen? ⟨go22, (x4_1 : Int).toNat * 4 + 3, none⟩ = false := hfr22 3; clear hcl22 hcc22 hfr22 hM22; replace p22 := eq_true p22; replace q22 := eq_true q22; have HX27 := Aside0.mk (show Kd.S k39 39 w25 w.heap.size (fun k_ => ((fun _ => True)) k_ ∧ ¬ ((fun _ => False)) k_) (.slice (some ⟨go22, 0, none⟩) x3_1.length co9) x3_1 from (by (with_reducible repeat (first | apply Kd.S_alloc | apply Kd.S_drewN | apply Kd.S_drew)); exact Kd.S_mono HO_3.out (fun k_ hk => ⟨trivial, fun e_ => e_⟩))); obtain ⟨oki27, ce27, hcl27, hM27, hcc27, hfr27, hoki27, hH27⟩ := Kd.S_elem HX27.out z39 (x4_1 : Int) (of_decide_eq_true dq19) (by have h_ : (x4_1 : Int) < ((x3_1.length : Int) : Int) := of_decide_eq_true dq19; first | exact h_ | (have e_ := (Kd.S_reads' HO_3.out).1; omega) | simpa using h_); obtain ⟨ve27_3, rfl, ge27_3⟩ := k39_openM hM27; have HP27 := Kd.S_seg hH27 (of_decide_eq_true dq19) (by have h_ : (x4_1 : Int) < ((x3_1.length : Int) : Int) := of_decide_eq_true dq19; first | exact h_ | (have e_ := (Kd.S_reads' HO_3.out).1; omega) | simpa using h_) (seg := [.string (rdOf ByteArray.empty y596 t599)]) (j := 1) (show 2 ≤ 4 from by decide) (x' := (⟨(rd_T39 x3_1 x4_1).f0, rdOf ByteArray.empty y596 t599, (rd_T39 x3_1 x4_1).f2, (rd_T39 x3_1 x4_1).f3⟩ : S39)) (k39_mkM _ _ _ (⟨(rd_T39 x3_1 x4_1).f0, rdOf ByteArray.empty y596 t599, (rd_T39 x3_1 x4_1).f2, (rd_T39 x3_1 x4_1).f3⟩ : S39) (Kd.R_mono ge27_3 (fun _ h_ => Or.inl h_))) (fun _ hk => hk) (fun k_ hk_ => hk_.elim); have hx27_1 := hcc27 1 _ rfl; (try simp only [show (k39).sz = 4 from rfl, Nat.mul_one, Nat.add_zero] at hx27_1); have hf27_1 := hfr27 1; (try simp only [show (k39).sz = 4 from rfl, Nat.mul_one, Nat.add_zero] at hf27_1); clear hcl27 hcc27 hfr27 hM27 hoki27 hH27) | ((with_reducible refine gate_store (t := 9) (p := 39) rfl ?_); refine store_event (t := 9) (p := 39) (v := ?vo_w28) (w1 := (w25.setCell ⟨go22, (x4_1 : Int).toNat * 4 + 1, none⟩ (.string (rdOf ByteArray.empty y596 t599)))) ?hg ?ho ?hn ?hr ?_; (case ho => rfl); (case hg => rfl); (case hn => rfl); (case hr => exact dq1); intro w28 hw; have hg : w25.grownBy w28 (some go22) := (by rw [hw]; exact HP27.2); have hp_ : Kd.S k39 39 w28 w.heap.size (fun _ => True) (.slice (some ⟨go22, 0, none⟩) x3_1.length co9) y602 := (by rw [hw, Ny602.out]; exact HP27.1); clear HP27; have n0_ := Aside0.mk (hp_); have n1_ := Aside0.mk (IsS99.grown dq59 hg (IsS99.own_neS HI0.out HO_3.out dq52)); have n2_ := Aside0.mk (Kd.R_over' (v := (.slice (some ⟨go22, 0, none⟩) x3_1.length co9)) (by (with_reducible repeat (first | apply Kd.R_alloc | apply Kd.R_drewN | apply Kd.R_drew)); exact HO598.out) (Kd.S_typed HO_3.out) dq52 hg); have n3_ := Aside0.mk ((by rw [hw]; exact below_set (HB.out) (Nat.le_trans HL.out GB22.out) : Below w0.heap.size w0 w28)); have n4_ := Aside0.mk (KeepBut.trans dq57 (KeepBut.of_grown hg g) (Kd.S_base2 HO_3.out)); clear HO_3; clear HI0; clear HO598; clear HB; clear HK; have HO_3 := n0_; have HI0 := n1_; have HO598 := n2_; have HB := n3_; have HK := n4_; clear n0_ n1_ n2_ n3_ n4_; clear hg hw hp_))
    go_meet
    case rel => exact ⟨_, (y602), (t600), H', ⟨by have := HK1.out; have := HJ7.out; first | omega | exact Nat.le_refl _⟩, ⟨dq85⟩, ⟨dq59⟩, ⟨dq57⟩, ⟨dq58⟩⟩
   clear HC15
   obtain ⟨kq, x3_14, x1001_14, HA, HJ14, HO_3, HI0, HK, HB⟩ := hcut
   have hl3_14 := (Kd.S_reads' HO_3.out).1
   rw [hl3_14] at HO_3
   (try simp only [hl3_14])
   cases kq with
   | zero => exact absurd HA.out (by simp [spec_l1Rd_spaces.j2])
   | succ kj14 =>
    have H := HA.out
    clear HA
    simp only [spec_l1Rd_spaces.j2] at H
    have HC29 := Aside0.mk H
    clear H
    go_upto_region 8 with (fail)
    go_cut [45] (fun v45 wc => ∃ (kq : Nat) (x45_28 : Bool) (x1001_28 : Int), v45 = .bool x45_28 ∧ Aside0 (spec_l1Rd_spaces.j3 kq x3_14 x4_1 x45_28 s0_0 x1001_28 = some (r1, r2)) ∧ Aside0 (kq ≤ kj14) ∧ Aside0 (Kd.S k39 39 wc w.heap.size (fun _ => True) (.slice (some ad591) x3_14.length co9) x3_14) ∧ Aside0 (IsS99 w0 wc g s0_0 x1001_28) ∧ Aside0 (KeepBut w wc g none) ∧ Aside0 (Below w0.heap.size w0 wc))
    case first =>
     have H := HC29.out
     clear HC29
     by_cases c30 : x4_1 = 0
     ·rw [if_pos c30] at H
      have c30b0 := beq_iff_eq.mpr c30
      have c30b1 := bne_eq_false_iff_eq.mpr c30
      clear c30
      (first | rw [c30b0] | (simp only [i64_w, i32_w]; rw [c30b0]) | skip)
      have H' := Aside0.mk H
      clear H
      go_wp2
      go_meet
      case rel => exact ⟨_, (true), (x1001_14), dq18, H', ⟨by have := HK1.out; have := HJ7.out; have := HJ14.out; first | omega | exact Nat.le_refl _⟩, ⟨dq87⟩, ⟨dq59⟩, ⟨dq57⟩, ⟨dq58⟩⟩
     rw [if_neg c30] at H
     have c30b0 := beq_eq_false_iff_ne.mpr c30
     have c30b1 := bne_iff_ne.mpr c30
     (first | rw [c30b0] | (simp only [i64_w, i32_w]; rw [c30b0]) | skip)
     replace H := Option.bind_eq_some_iff.mp H
     obtain ⟨⟨t603, t604⟩, A310, H⟩ := H
     replace H : (spec_l1Rd_spaces.j3 kj14 x3_14 x4_1 t603 s0_0 t604) = some (r1, r2) := H
     have A31 := Aside0.mk A310
     clear A310
     have H' := Aside0.mk H
     clear H
     go_wp2_with (first | (go_at_call 52; (with_reducible refine (spec_l1Rd_once.calls g s0_0 x1001_14 4 t603 t604 w0 _ ?side1 ?side2 A31.out).mono ?_); (case side1 => exact dq7); (case side2 => exact dq8); rintro e w32 ⟨rfl, hi, hb, hk⟩; have n0_ := Aside0.mk (Kd.S_mono (Kd.S_keep (IsS99.apartS (show IsS99 w0 _ g s0_0 x1001_14 from by repeat (first | (with_reducible first | exact HI0.out | apply IsS99.alloc | apply IsS99.drewN | apply IsS99.drew | apply IsS99.set_1) | exact HI0.out)) dq85 dq52) hk (fun _ h => h.2)) (fun _ h => h.1)); have n1_ := Aside0.mk (KeepBut.trans dq57 hk (.inl rfl)); have n2_ := Aside0.mk (hb); have n3_ := Aside0.mk (hi); clear HO_3; clear HK; clear HB; clear HI0; have HO_3 := n0_; have HK := n1_; have HB := n2_; have HI0 := n3_; clear n0_ n1_ n2_ n3_; (try clear hb); (try clear hb2); (try clear hk); (try clear hi)))
     go_meet
     case rel => exact ⟨_, (t603), (t604), dq18, H', ⟨by have := HK1.out; have := HJ7.out; have := HJ14.out; first | omega | exact Nat.le_refl _⟩, ⟨dq87⟩, ⟨dq59⟩, ⟨dq57⟩, ⟨dq58⟩⟩
    clear HC29
    obtain ⟨kq, x45_28, x1001_28, rfl, HA, HJ28, HO_3, HI0, HK, HB⟩ := hcut
    cases kq with
    | zero => exact absurd HA.out (by simp [spec_l1Rd_spaces.j3])
    | succ kj28 =>
     have H := HA.out
     clear HA
     simp only [spec_l1Rd_spaces.j3] at H
     by_cases c33 : x45_28 = true
     rotate_left
     ·replace c33 := Bool.eq_false_iff.mpr c33
      subst c33
      have H1 : (spec_l1Rd_spaces.l0 kj28 x3_14 (wrap64 (x4_1 + 1)) s0_0 x1001_28) = some (r1, r2) := by rw [if_neg (show ¬ (false = true) by decide)] at H; exact H
      clear H
      have H := H1
      clear H1
      have H' := Aside0.mk H
      clear H
      go_wp2
      (try simp only [← hl3_14])
      go_roundg kj28
      case measure => have := HK1.out; have := HJ7.out; have := HJ14.out; have := HJ28.out; omega
      case rel => exact ⟨(x3_14), (wrap64 (x4_1 + 1)), (x1001_28), dq18, H', ⟨dq100⟩, ⟨dq87⟩, ⟨dq59⟩, ⟨dq57⟩, ⟨dq58⟩⟩
     subst c33
     have H1 : ((some (([(⟨#[117, 49]⟩ : ByteArray), (⟨#[117, 50]⟩ : ByteArray), (⟨#[]⟩ : ByteArray)] : List ByteArray) : List ByteArray)).bind fun y605 => ((spec_l1Rd_below.f s0_0 x1001_28 3).bind fun bt608 => (if 0 ≤ bt608.1 then (if bt608.1 < (y605.length : Int) then ((some (([(⟨#[117, 49]⟩ : ByteArray), (⟨#[]⟩ : ByteArray), (⟨#[117, 51]⟩ : ByteArray)] : List ByteArray) : List ByteArray)).bind fun y611 => ((spec_l1Rd_below.f s0_0 bt608.2 3).bind fun bt614 => (if 0 ≤ bt614.1 then (if bt614.1 < (y611.length : Int) then ((some (([(⟨(⟨#[120, 109, 108, 110, 115, 58, 112]⟩ : ByteArray), rdOf ByteArray.empty y605 bt608.1⟩ : S46), (⟨(⟨#[120, 109, 108, 110, 115]⟩ : ByteArray), rdOf ByteArray.empty y611 bt614.1⟩ : S46), (⟨(⟨#[120, 109, 108, 110, 115, 58, 113]⟩ : ByteArray), (⟨#[117, 49]⟩ : ByteArray)⟩ : S46)] : List (S46)) : List (S46))).bind fun y617 => ((spec_l1Rd_below.f s0_0 bt614.2 4).bind fun bt620 => ((some (([] : List (S46)) : List (S46))).bind fun y622 => (if 0 ≤ bt620.1 then (if bt620.1 ≤ (y617.length : Int) then ((some (y617.take (bt620.1 : Int).toNat : List (S46))).bind fun y625 => (if y622.length + y625.length < 4398046511104 then ((some (y622 ++ y625 : List (S46))).bind fun y629 => (if 0 ≤ x4_1 then (if x4_1 < (x3_14.length : Int) then (if y629.length + ((rd_T39 x3_14 x4_1).f3).length < 4398046511104 then ((some (x3_14.set (x4_1 : Int).toNat (⟨(rd_T39 x3_14 x4_1).f0, (rd_T39 x3_14 x4_1).f1, (rd_T39 x3_14 x4_1).f2, (y629 ++ ((rd_T39 x3_14 x4_1).f3))⟩ : S39) : List (S39))).bind fun y636 => ((spec_l1Rd_once.f s0_0 bt620.2 4).bind fun bt637 => (if bt637.1 = true then ((some (([(⟨(⟨#[113, 58, 122]⟩ : ByteArray), (⟨#[49]⟩ : ByteArray)⟩ : S46), (⟨(⟨#[112, 58, 122]⟩ : ByteArray), (⟨#[50]⟩ : ByteArray)⟩ : S46)] : List (S46)) : List (S46))).bind fun y640 => (if ((rd_T39 y636 x4_1).f3).length + y640.length < 4398046511104 then (spec_l1Rd_spaces.l0 kj28 (y636.set (x4_1 : Int).toNat (⟨(rd_T39 y636 x4_1).f0, (rd_T39 y636 x4_1).f1, (rd_T39 y636 x4_1).f2, (((rd_T39 y636 x4_1).f3) ++ y640)⟩ : S39)) (wrap64 (x4_1 + 1)) s0_0 bt637.2) else (none))) else (spec_l1Rd_spaces.l0 kj28 y636 (wrap64 (x4_1 + 1)) s0_0 bt637.2)))) else (none)) else (none)) else (none))) else (none))) else (none)) else (none))))) else (none)) else (none)))) else (none)) else (none)))) = some (r1, r2) := by rw [if_pos rfl] at H; exact H
     clear H
     have H := H1
     clear H1
     obtain ⟨y605, hy605⟩ : ∃ y_ : List ByteArray, y_ = (([(⟨#[117, 49]⟩ : ByteArray), (⟨#[117, 50]⟩ : ByteArray), (⟨#[]⟩ : ByteArray)] : List ByteArray)) := ⟨_, rfl⟩
     replace H : ((spec_l1Rd_below.f s0_0 x1001_28 3).bind fun bt608 => (if 0 ≤ bt608.1 then (if bt608.1 < (y605.length : Int) then ((some (([(⟨#[117, 49]⟩ : ByteArray), (⟨#[]⟩ : ByteArray), (⟨#[117, 51]⟩ : ByteArray)] : List ByteArray) : List ByteArray)).bind fun y611 => ((spec_l1Rd_below.f s0_0 bt608.2 3).bind fun bt614 => (if 0 ≤ bt614.1 then (if bt614.1 < (y611.length : Int) then ((some (([(⟨(⟨#[120, 109, 108, 110, 115, 58, 112]⟩ : ByteArray), rdOf ByteArray.empty y605 bt608.1⟩ : S46), (⟨(⟨#[120, 109, 108, 110, 115]⟩ : ByteArray), rdOf ByteArray.empty y611 bt614.1⟩ : S46), (⟨(⟨#[120, 109, 108, 110, 115, 58, 113]⟩ : ByteArray), (⟨#[117, 49]⟩ : ByteArray)⟩ : S46)] : List (S46)) : List (S46))).bind fun y617 => ((spec_l1Rd_below.f s0_0 bt614.2 4).bind fun bt620 => ((some (([] : List (S46)) : List (S46))).bind fun y622 => (if 0 ≤ bt620.1 then (if bt620.1 ≤ (y617.length : Int) then ((some (y617.take (bt620.1 : Int).toNat : List (S46))).bind fun y625 => (if y622.length + y625.length < 4398046511104 then ((some (y622 ++ y625 : List (S46))).bind fun y629 => (if 0 ≤ x4_1 then (if x4_1 < (x3_14.length : Int) then (if y629.length + ((rd_T39 x3_14 x4_1).f3).length < 4398046511104 then ((some (x3_14.set (x4_1 : Int).toNat (⟨(rd_T39 x3_14 x4_1).f0, (rd_T39 x3_14 x4_1).f1, (rd_T39 x3_14 x4_1).f2, (y629 ++ ((rd_T39 x3_14 x4_1).f3))⟩ : S39) : List (S39))).bind fun y636 => ((spec_l1Rd_once.f s0_0 bt620.2 4).bind fun bt637 => (if bt637.1 = true then ((some (([(⟨(⟨#[113, 58, 122]⟩ : ByteArray), (⟨#[49]⟩ : ByteArray)⟩ : S46), (⟨(⟨#[112, 58, 122]⟩ : ByteArray), (⟨#[50]⟩ : ByteArray)⟩ : S46)] : List (S46)) : List (S46))).bind fun y640 => (if ((rd_T39 y636 x4_1).f3).length + y640.length < 4398046511104 then (spec_l1Rd_spaces.l0 kj28 (y636.set (x4_1 : Int).toNat (⟨(rd_T39 y636 x4_1).f0, (rd_T39 y636 x4_1).f1, (rd_T39 y636 x4_1).f2, (((rd_T39 y636 x4_1).f3) ++ y640)⟩ : S39)) (wrap64 (x4_1 + 1)) s0_0 bt637.2) else (none))) else (spec_l1Rd_spaces.l0 kj28 y636 (wrap64 (x4_1 + 1)) s0_0 bt637.2)))) else (none)) else (none)) else (none))) else (none))) else (none)) else (none))))) else (none)) else (none)))) else (none)) else (none))) = some (r1, r2) := by first | (rw [hy605]; with_reducible exact H) | (have H2_ := (Option.bind_some _ _).symm.trans H; rw [hy605]; with_reducible exact H2_) | (have H2_ := (Option.bind_some _ _).symm.trans H; with_reducible exact H2_) | with_reducible exact H | (rw [hy605]; exact H) | exact H
     have Ny605 := Aside0.mk hy605
     clear hy605
     replace H := Option.bind_eq_some_iff.mp H
     obtain ⟨⟨t608, t609⟩, A340, H⟩ := H
     replace H : (if 0 ≤ t608 then (if t608 < (y605.length : Int) then ((some (([(⟨#[117, 49]⟩ : ByteArray), (⟨#[]⟩ : ByteArray), (⟨#[117, 51]⟩ : ByteArray)] : List ByteArray) : List ByteArray)).bind fun y611 => ((spec_l1Rd_below.f s0_0 t609 3).bind fun bt614 => (if 0 ≤ bt614.1 then (if bt614.1 < (y611.length : Int) then ((some (([(⟨(⟨#[120, 109, 108, 110, 115, 58, 112]⟩ : ByteArray), rdOf ByteArray.empty y605 t608⟩ : S46), (⟨(⟨#[120, 109, 108, 110, 115]⟩ : ByteArray), rdOf ByteArray.empty y611 bt614.1⟩ : S46), (⟨(⟨#[120, 109, 108, 110, 115, 58, 113]⟩ : ByteArray), (⟨#[117, 49]⟩ : ByteArray)⟩ : S46)] : List (S46)) : List (S46))).bind fun y617 => ((spec_l1Rd_below.f s0_0 bt614.2 4).bind fun bt620 => ((some (([] : List (S46)) : List (S46))).bind fun y622 => (if 0 ≤ bt620.1 then (if bt620.1 ≤ (y617.length : Int) then ((some (y617.take (bt620.1 : Int).toNat : List (S46))).bind fun y625 => (if y622.length + y625.length < 4398046511104 then ((some (y622 ++ y625 : List (S46))).bind fun y629 => (if 0 ≤ x4_1 then (if x4_1 < (x3_14.length : Int) then (if y629.length + ((rd_T39 x3_14 x4_1).f3).length < 4398046511104 then ((some (x3_14.set (x4_1 : Int).toNat (⟨(rd_T39 x3_14 x4_1).f0, (rd_T39 x3_14 x4_1).f1, (rd_T39 x3_14 x4_1).f2, (y629 ++ ((rd_T39 x3_14 x4_1).f3))⟩ : S39) : List (S39))).bind fun y636 => ((spec_l1Rd_once.f s0_0 bt620.2 4).bind fun bt637 => (if bt637.1 = true then ((some (([(⟨(⟨#[113, 58, 122]⟩ : ByteArray), (⟨#[49]⟩ : ByteArray)⟩ : S46), (⟨(⟨#[112, 58, 122]⟩ : ByteArray), (⟨#[50]⟩ : ByteArray)⟩ : S46)] : List (S46)) : List (S46))).bind fun y640 => (if ((rd_T39 y636 x4_1).f3).length + y640.length < 4398046511104 then (spec_l1Rd_spaces.l0 kj28 (y636.set (x4_1 : Int).toNat (⟨(rd_T39 y636 x4_1).f0, (rd_T39 y636 x4_1).f1, (rd_T39 y636 x4_1).f2, (((rd_T39 y636 x4_1).f3) ++ y640)⟩ : S39)) (wrap64 (x4_1 + 1)) s0_0 bt637.2) else (none))) else (spec_l1Rd_spaces.l0 kj28 y636 (wrap64 (x4_1 + 1)) s0_0 bt637.2)))) else (none)) else (none)) else (none))) else (none))) else (none)) else (none))))) else (none)) else (none)))) else (none)) else (none)) = some (r1, r2) := H
     have A34 := Aside0.mk A340
     clear A340
     by_cases c35 : 0 ≤ t608
     rotate_left
     ·rw [if_neg c35] at H
      exact absurd H dq21
     rw [if_pos c35] at H
     have c35b0 := decide_eq_true c35
     clear c35
     by_cases c36 : t608 < (y605.length : Int)
     rotate_left
     ·rw [if_neg c36] at H
      exact absurd H dq21
     rw [if_pos c36] at H
     have c36b0 := decide_eq_true c36
     clear c36
     obtain ⟨y611, hy611⟩ : ∃ y_ : List ByteArray, y_ = (([(⟨#[117, 49]⟩ : ByteArray), (⟨#[]⟩ : ByteArray), (⟨#[117, 51]⟩ : ByteArray)] : List ByteArray)) := ⟨_, rfl⟩
     replace H : ((spec_l1Rd_below.f s0_0 t609 3).bind fun bt614 => (if 0 ≤ bt614.1 then (if bt614.1 < (y611.length : Int) then ((some (([(⟨(⟨#[120, 109, 108, 110, 115, 58, 112]⟩ : ByteArray), rdOf ByteArray.empty y605 t608⟩ : S46), (⟨(⟨#[120, 109, 108, 110, 115]⟩ : ByteArray), rdOf ByteArray.empty y611 bt614.1⟩ : S46), (⟨(⟨#[120, 109, 108, 110, 115, 58, 113]⟩ : ByteArray), (⟨#[117, 49]⟩ : ByteArray)⟩ : S46)] : List (S46)) : List (S46))).bind fun y617 => ((spec_l1Rd_below.f s0_0 bt614.2 4).bind fun bt620 => ((some (([] : List (S46)) : List (S46))).bind fun y622 => (if 0 ≤ bt620.1 then (if bt620.1 ≤ (y617.length : Int) then ((some (y617.take (bt620.1 : Int).toNat : List (S46))).bind fun y625 => (if y622.length + y625.length < 4398046511104 then ((some (y622 ++ y625 : List (S46))).bind fun y629 => (if 0 ≤ x4_1 then (if x4_1 < (x3_14.length : Int) then (if y629.length + ((rd_T39 x3_14 x4_1).f3).length < 4398046511104 then ((some (x3_14.set (x4_1 : Int).toNat (⟨(rd_T39 x3_14 x4_1).f0, (rd_T39 x3_14 x4_1).f1, (rd_T39 x3_14 x4_1).f2, (y629 ++ ((rd_T39 x3_14 x4_1).f3))⟩ : S39) : List (S39))).bind fun y636 => ((spec_l1Rd_once.f s0_0 bt620.2 4).bind fun bt637 => (if bt637.1 = true then ((some (([(⟨(⟨#[113, 58, 122]⟩ : ByteArray), (⟨#[49]⟩ : ByteArray)⟩ : S46), (⟨(⟨#[112, 58, 122]⟩ : ByteArray), (⟨#[50]⟩ : ByteArray)⟩ : S46)] : List (S46)) : List (S46))).bind fun y640 => (if ((rd_T39 y636 x4_1).f3).length + y640.length < 4398046511104 then (spec_l1Rd_spaces.l0 kj28 (y636.set (x4_1 : Int).toNat (⟨(rd_T39 y636 x4_1).f0, (rd_T39 y636 x4_1).f1, (rd_T39 y636 x4_1).f2, (((rd_T39 y636 x4_1).f3) ++ y640)⟩ : S39)) (wrap64 (x4_1 + 1)) s0_0 bt637.2) else (none))) else (spec_l1Rd_spaces.l0 kj28 y636 (wrap64 (x4_1 + 1)) s0_0 bt637.2)))) else (none)) else (none)) else (none))) else (none))) else (none)) else (none))))) else (none)) else (none))) = some (r1, r2) := by first | (rw [hy611]; with_reducible exact H) | (have H2_ := (Option.bind_some _ _).symm.trans H; rw [hy611]; with_reducible exact H2_) | (have H2_ := (Option.bind_some _ _).symm.trans H; with_reducible exact H2_) | with_reducible exact H | (rw [hy611]; exact H) | exact H
     have Ny611 := Aside0.mk hy611
     clear hy611
     replace H := Option.bind_eq_some_iff.mp H
     obtain ⟨⟨t614, t615⟩, A370, H⟩ := H
     replace H : (if 0 ≤ t614 then (if t614 < (y611.length : Int) then ((some (([(⟨(⟨#[120, 109, 108, 110, 115, 58, 112]⟩ : ByteArray), rdOf ByteArray.empty y605 t608⟩ : S46), (⟨(⟨#[120, 109, 108, 110, 115]⟩ : ByteArray), rdOf ByteArray.empty y611 t614⟩ : S46), (⟨(⟨#[120, 109, 108, 110, 115, 58, 113]⟩ : ByteArray), (⟨#[117, 49]⟩ : ByteArray)⟩ : S46)] : List (S46)) : List (S46))).bind fun y617 => ((spec_l1Rd_below.f s0_0 t615 4).bind fun bt620 => ((some (([] : List (S46)) : List (S46))).bind fun y622 => (if 0 ≤ bt620.1 then (if bt620.1 ≤ (y617.length : Int) then ((some (y617.take (bt620.1 : Int).toNat : List (S46))).bind fun y625 => (if y622.length + y625.length < 4398046511104 then ((some (y622 ++ y625 : List (S46))).bind fun y629 => (if 0 ≤ x4_1 then (if x4_1 < (x3_14.length : Int) then (if y629.length + ((rd_T39 x3_14 x4_1).f3).length < 4398046511104 then ((some (x3_14.set (x4_1 : Int).toNat (⟨(rd_T39 x3_14 x4_1).f0, (rd_T39 x3_14 x4_1).f1, (rd_T39 x3_14 x4_1).f2, (y629 ++ ((rd_T39 x3_14 x4_1).f3))⟩ : S39) : List (S39))).bind fun y636 => ((spec_l1Rd_once.f s0_0 bt620.2 4).bind fun bt637 => (if bt637.1 = true then ((some (([(⟨(⟨#[113, 58, 122]⟩ : ByteArray), (⟨#[49]⟩ : ByteArray)⟩ : S46), (⟨(⟨#[112, 58, 122]⟩ : ByteArray), (⟨#[50]⟩ : ByteArray)⟩ : S46)] : List (S46)) : List (S46))).bind fun y640 => (if ((rd_T39 y636 x4_1).f3).length + y640.length < 4398046511104 then (spec_l1Rd_spaces.l0 kj28 (y636.set (x4_1 : Int).toNat (⟨(rd_T39 y636 x4_1).f0, (rd_T39 y636 x4_1).f1, (rd_T39 y636 x4_1).f2, (((rd_T39 y636 x4_1).f3) ++ y640)⟩ : S39)) (wrap64 (x4_1 + 1)) s0_0 bt637.2) else (none))) else (spec_l1Rd_spaces.l0 kj28 y636 (wrap64 (x4_1 + 1)) s0_0 bt637.2)))) else (none)) else (none)) else (none))) else (none))) else (none)) else (none))))) else (none)) else (none)) = some (r1, r2) := H
     have A37 := Aside0.mk A370
     clear A370
     by_cases c38 : 0 ≤ t614
     rotate_left
     ·rw [if_neg c38] at H
      exact absurd H dq21
     rw [if_pos c38] at H
     have c38b0 := decide_eq_true c38
     clear c38
     by_cases c39 : t614 < (y611.length : Int)
     rotate_left
     ·rw [if_neg c39] at H
      exact absurd H dq21
     rw [if_pos c39] at H
     have c39b0 := decide_eq_true c39
     clear c39
     obtain ⟨y617, hy617⟩ : ∃ y_ : List (S46), y_ = (([(⟨(⟨#[120, 109, 108, 110, 115, 58, 112]⟩ : ByteArray), rdOf ByteArray.empty y605 t608⟩ : S46), (⟨(⟨#[120, 109, 108, 110, 115]⟩ : ByteArray), rdOf ByteArray.empty y611 t614⟩ : S46), (⟨(⟨#[120, 109, 108, 110, 115, 58, 113]⟩ : ByteArray), (⟨#[117, 49]⟩ : ByteArray)⟩ : S46)] : List (S46))) := ⟨_, rfl⟩
     replace H : ((spec_l1Rd_below.f s0_0 t615 4).bind fun bt620 => ((some (([] : List (S46)) : List (S46))).bind fun y622 => (if 0 ≤ bt620.1 then (if bt620.1 ≤ (y617.length : Int) then ((some (y617.take (bt620.1 : Int).toNat : List (S46))).bind fun y625 => (if y622.length + y625.length < 4398046511104 then ((some (y622 ++ y625 : List (S46))).bind fun y629 => (if 0 ≤ x4_1 then (if x4_1 < (x3_14.length : Int) then (if y629.length + ((rd_T39 x3_14 x4_1).f3).length < 4398046511104 then ((some (x3_14.set (x4_1 : Int).toNat (⟨(rd_T39 x3_14 x4_1).f0, (rd_T39 x3_14 x4_1).f1, (rd_T39 x3_14 x4_1).f2, (y629 ++ ((rd_T39 x3_14 x4_1).f3))⟩ : S39) : List (S39))).bind fun y636 => ((spec_l1Rd_once.f s0_0 bt620.2 4).bind fun bt637 => (if bt637.1 = true then ((some (([(⟨(⟨#[113, 58, 122]⟩ : ByteArray), (⟨#[49]⟩ : ByteArray)⟩ : S46), (⟨(⟨#[112, 58, 122]⟩ : ByteArray), (⟨#[50]⟩ : ByteArray)⟩ : S46)] : List (S46)) : List (S46))).bind fun y640 => (if ((rd_T39 y636 x4_1).f3).length + y640.length < 4398046511104 then (spec_l1Rd_spaces.l0 kj28 (y636.set (x4_1 : Int).toNat (⟨(rd_T39 y636 x4_1).f0, (rd_T39 y636 x4_1).f1, (rd_T39 y636 x4_1).f2, (((rd_T39 y636 x4_1).f3) ++ y640)⟩ : S39)) (wrap64 (x4_1 + 1)) s0_0 bt637.2) else (none))) else (spec_l1Rd_spaces.l0 kj28 y636 (wrap64 (x4_1 + 1)) s0_0 bt637.2)))) else (none)) else (none)) else (none))) else (none))) else (none)) else (none)))) = some (r1, r2) := by first | (rw [hy617]; with_reducible exact H) | (have H2_ := (Option.bind_some _ _).symm.trans H; rw [hy617]; with_reducible exact H2_) | (have H2_ := (Option.bind_some _ _).symm.trans H; with_reducible exact H2_) | with_reducible exact H | (rw [hy617]; exact H) | exact H
     have Ny617 := Aside0.mk hy617
     clear hy617
     replace H := Option.bind_eq_some_iff.mp H
     obtain ⟨⟨t620, t621⟩, A400, H⟩ := H
     replace H : ((some (([] : List (S46)) : List (S46))).bind fun y622 => (if 0 ≤ t620 then (if t620 ≤ (y617.length : Int) then ((some (y617.take (t620 : Int).toNat : List (S46))).bind fun y625 => (if y622.length + y625.length < 4398046511104 then ((some (y622 ++ y625 : List (S46))).bind fun y629 => (if 0 ≤ x4_1 then (if x4_1 < (x3_14.length : Int) then (if y629.length + ((rd_T39 x3_14 x4_1).f3).length < 4398046511104 then ((some (x3_14.set (x4_1 : Int).toNat (⟨(rd_T39 x3_14 x4_1).f0, (rd_T39 x3_14 x4_1).f1, (rd_T39 x3_14 x4_1).f2, (y629 ++ ((rd_T39 x3_14 x4_1).f3))⟩ : S39) : List (S39))).bind fun y636 => ((spec_l1Rd_once.f s0_0 t621 4).bind fun bt637 => (if bt637.1 = true then ((some (([(⟨(⟨#[113, 58, 122]⟩ : ByteArray), (⟨#[49]⟩ : ByteArray)⟩ : S46), (⟨(⟨#[112, 58, 122]⟩ : ByteArray), (⟨#[50]⟩ : ByteArray)⟩ : S46)] : List (S46)) : List (S46))).bind fun y640 => (if ((rd_T39 y636 x4_1).f3).length + y640.length < 4398046511104 then (spec_l1Rd_spaces.l0 kj28 (y636.set (x4_1 : Int).toNat (⟨(rd_T39 y636 x4_1).f0, (rd_T39 y636 x4_1).f1, (rd_T39 y636 x4_1).f2, (((rd_T39 y636 x4_1).f3) ++ y640)⟩ : S39)) (wrap64 (x4_1 + 1)) s0_0 bt637.2) else (none))) else (spec_l1Rd_spaces.l0 kj28 y636 (wrap64 (x4_1 + 1)) s0_0 bt637.2)))) else (none)) else (none)) else (none))) else (none))) else (none)) else (none))) = some (r1, r2) := H
     have A40 := Aside0.mk A400
     clear A400
     obtain ⟨y622, hy622⟩ : ∃ y_ : List (S46), y_ = (([] : List (S46))) := ⟨_, rfl⟩
     replace H : (if 0 ≤ t620 then (if t620 ≤ (y617.length : Int) then ((some (y617.take (t620 : Int).toNat : List (S46))).bind fun y625 => (if y622.length + y625.length < 4398046511104 then ((some (y622 ++ y625 : List (S46))).bind fun y629 => (if 0 ≤ x4_1 then (if x4_1 < (x3_14.length : Int) then (if y629.length + ((rd_T39 x3_14 x4_1).f3).length < 4398046511104 then ((some (x3_14.set (x4_1 : Int).toNat (⟨(rd_T39 x3_14 x4_1).f0, (rd_T39 x3_14 x4_1).f1, (rd_T39 x3_14 x4_1).f2, (y629 ++ ((rd_T39 x3_14 x4_1).f3))⟩ : S39) : List (S39))).bind fun y636 => ((spec_l1Rd_once.f s0_0 t621 4).bind fun bt637 => (if bt637.1 = true then ((some (([(⟨(⟨#[113, 58, 122]⟩ : ByteArray), (⟨#[49]⟩ : ByteArray)⟩ : S46), (⟨(⟨#[112, 58, 122]⟩ : ByteArray), (⟨#[50]⟩ : ByteArray)⟩ : S46)] : List (S46)) : List (S46))).bind fun y640 => (if ((rd_T39 y636 x4_1).f3).length + y640.length < 4398046511104 then (spec_l1Rd_spaces.l0 kj28 (y636.set (x4_1 : Int).toNat (⟨(rd_T39 y636 x4_1).f0, (rd_T39 y636 x4_1).f1, (rd_T39 y636 x4_1).f2, (((rd_T39 y636 x4_1).f3) ++ y640)⟩ : S39)) (wrap64 (x4_1 + 1)) s0_0 bt637.2) else (none))) else (spec_l1Rd_spaces.l0 kj28 y636 (wrap64 (x4_1 + 1)) s0_0 bt637.2)))) else (none)) else (none)) else (none))) else (none))) else (none)) else (none)) = some (r1, r2) := by first | (rw [hy622]; with_reducible exact H) | (have H2_ := (Option.bind_some _ _).symm.trans H; rw [hy622]; with_reducible exact H2_) | (have H2_ := (Option.bind_some _ _).symm.trans H; with_reducible exact H2_) | with_reducible exact H | (rw [hy622]; exact H) | exact H
     have Ny622 := Aside0.mk hy622
     clear hy622
     by_cases c41 : 0 ≤ t620
     rotate_left
     ·rw [if_neg c41] at H
      exact absurd H dq21
     rw [if_pos c41] at H
     have c41b0 := eq_true c41
     have c41b1 := decide_eq_true c41
     clear c41
     by_cases c42 : t620 ≤ (y617.length : Int)
     rotate_left
     ·rw [if_neg c42] at H
      exact absurd H dq21
     rw [if_pos c42] at H
     have c42b0 := eq_true c42
     have c42b1 := decide_eq_true c42
     clear c42
     obtain ⟨y625, hy625⟩ : ∃ y_ : List (S46), y_ = (y617.take (t620 : Int).toNat) := ⟨_, rfl⟩
     replace H : (if y622.length + y625.length < 4398046511104 then ((some (y622 ++ y625 : List (S46))).bind fun y629 => (if 0 ≤ x4_1 then (if x4_1 < (x3_14.length : Int) then (if y629.length + ((rd_T39 x3_14 x4_1).f3).length < 4398046511104 then ((some (x3_14.set (x4_1 : Int).toNat (⟨(rd_T39 x3_14 x4_1).f0, (rd_T39 x3_14 x4_1).f1, (rd_T39 x3_14 x4_1).f2, (y629 ++ ((rd_T39 x3_14 x4_1).f3))⟩ : S39) : List (S39))).bind fun y636 => ((spec_l1Rd_once.f s0_0 t621 4).bind fun bt637 => (if bt637.1 = true then ((some (([(⟨(⟨#[113, 58, 122]⟩ : ByteArray), (⟨#[49]⟩ : ByteArray)⟩ : S46), (⟨(⟨#[112, 58, 122]⟩ : ByteArray), (⟨#[50]⟩ : ByteArray)⟩ : S46)] : List (S46)) : List (S46))).bind fun y640 => (if ((rd_T39 y636 x4_1).f3).length + y640.length < 4398046511104 then (spec_l1Rd_spaces.l0 kj28 (y636.set (x4_1 : Int).toNat (⟨(rd_T39 y636 x4_1).f0, (rd_T39 y636 x4_1).f1, (rd_T39 y636 x4_1).f2, (((rd_T39 y636 x4_1).f3) ++ y640)⟩ : S39)) (wrap64 (x4_1 + 1)) s0_0 bt637.2) else (none))) else (spec_l1Rd_spaces.l0 kj28 y636 (wrap64 (x4_1 + 1)) s0_0 bt637.2)))) else (none)) else (none)) else (none))) else (none)) = some (r1, r2) := by first | (rw [hy625]; with_reducible exact H) | (have H2_ := (Option.bind_some _ _).symm.trans H; rw [hy625]; with_reducible exact H2_) | (have H2_ := (Option.bind_some _ _).symm.trans H; with_reducible exact H2_) | with_reducible exact H | (rw [hy625]; exact H) | exact H
     have Ny625 := Aside0.mk hy625
     clear hy625
     by_cases c43 : y622.length + y625.length < 4398046511104
     rotate_left
     ·rw [if_neg c43] at H
      exact absurd H dq21
     rw [if_pos c43] at H
     have LMc43 := Aside0.mk c43
     clear c43
     obtain ⟨y629, hy629⟩ : ∃ y_ : List (S46), y_ = (y622 ++ y625) := ⟨_, rfl⟩
     replace H : (if 0 ≤ x4_1 then (if x4_1 < (x3_14.length : Int) then (if y629.length + ((rd_T39 x3_14 x4_1).f3).length < 4398046511104 then ((some (x3_14.set (x4_1 : Int).toNat (⟨(rd_T39 x3_14 x4_1).f0, (rd_T39 x3_14 x4_1).f1, (rd_T39 x3_14 x4_1).f2, (y629 ++ ((rd_T39 x3_14 x4_1).f3))⟩ : S39) : List (S39))).bind fun y636 => ((spec_l1Rd_once.f s0_0 t621 4).bind fun bt637 => (if bt637.1 = true then ((some (([(⟨(⟨#[113, 58, 122]⟩ : ByteArray), (⟨#[49]⟩ : ByteArray)⟩ : S46), (⟨(⟨#[112, 58, 122]⟩ : ByteArray), (⟨#[50]⟩ : ByteArray)⟩ : S46)] : List (S46)) : List (S46))).bind fun y640 => (if ((rd_T39 y636 x4_1).f3).length + y640.length < 4398046511104 then (spec_l1Rd_spaces.l0 kj28 (y636.set (x4_1 : Int).toNat (⟨(rd_T39 y636 x4_1).f0, (rd_T39 y636 x4_1).f1, (rd_T39 y636 x4_1).f2, (((rd_T39 y636 x4_1).f3) ++ y640)⟩ : S39)) (wrap64 (x4_1 + 1)) s0_0 bt637.2) else (none))) else (spec_l1Rd_spaces.l0 kj28 y636 (wrap64 (x4_1 + 1)) s0_0 bt637.2)))) else (none)) else (none)) else (none)) = some (r1, r2) := by first | (rw [hy629]; with_reducible exact H) | (have H2_ := (Option.bind_some _ _).symm.trans H; rw [hy629]; with_reducible exact H2_) | (have H2_ := (Option.bind_some _ _).symm.trans H; with_reducible exact H2_) | with_reducible exact H | (rw [hy629]; exact H) | exact H
     have Ny629 := Aside0.mk hy629
     clear hy629
     by_cases c44 : 0 ≤ x4_1
     rotate_left
     ·rw [if_neg c44] at H
      exact absurd H dq21
     rw [if_pos c44] at H
     have c44b0 := decide_eq_true c44
     clear c44
     by_cases c45 : x4_1 < (x3_14.length : Int)
     rotate_left
     ·rw [if_neg c45] at H
      exact absurd H dq21
     rw [if_pos c45] at H
     have c45b0 := decide_eq_true c45
     clear c45
     by_cases c46 : y629.length + ((rd_T39 x3_14 x4_1).f3).length < 4398046511104
     rotate_left
     ·rw [if_neg c46] at H
      exact absurd H dq21
     rw [if_pos c46] at H
     have LMc46 := Aside0.mk c46
     clear c46
     obtain ⟨y633, hy633⟩ : ∃ y_ : List (S46), y_ = (y629 ++ ((rd_T39 x3_14 x4_1).f3)) := ⟨_, rfl⟩
     replace H : ((some (x3_14.set (x4_1 : Int).toNat (⟨(rd_T39 x3_14 x4_1).f0, (rd_T39 x3_14 x4_1).f1, (rd_T39 x3_14 x4_1).f2, y633⟩ : S39) : List (S39))).bind fun y636 => ((spec_l1Rd_once.f s0_0 t621 4).bind fun bt637 => (if bt637.1 = true then ((some (([(⟨(⟨#[113, 58, 122]⟩ : ByteArray), (⟨#[49]⟩ : ByteArray)⟩ : S46), (⟨(⟨#[112, 58, 122]⟩ : ByteArray), (⟨#[50]⟩ : ByteArray)⟩ : S46)] : List (S46)) : List (S46))).bind fun y640 => (if ((rd_T39 y636 x4_1).f3).length + y640.length < 4398046511104 then (spec_l1Rd_spaces.l0 kj28 (y636.set (x4_1 : Int).toNat (⟨(rd_T39 y636 x4_1).f0, (rd_T39 y636 x4_1).f1, (rd_T39 y636 x4_1).f2, (((rd_T39 y636 x4_1).f3) ++ y640)⟩ : S39)) (wrap64 (x4_1 + 1)) s0_0 bt637.2) else (none))) else (spec_l1Rd_spaces.l0 kj28 y636 (wrap64 (x4_1 + 1)) s0_0 bt637.2)))) = some (r1, r2) := by first | (rw [hy633]; with_reducible exact H) | (have H2_ := (Option.bind_some _ _).symm.trans H; rw [hy633]; with_reducible exact H2_) | (have H2_ := (Option.bind_some _ _).symm.trans H; with_reducible exact H2_) | with_reducible exact H | (rw [hy633]; exact H) | exact H
     have Ny633 := Aside0.mk hy633
     clear hy633
     obtain ⟨y636, hy636⟩ : ∃ y_ : List (S39), y_ = (x3_14.set (x4_1 : Int).toNat (⟨(rd_T39 x3_14 x4_1).f0, (rd_T39 x3_14 x4_1).f1, (rd_T39 x3_14 x4_1).f2, y633⟩ : S39)) := ⟨_, rfl⟩
     replace H : ((spec_l1Rd_once.f s0_0 t621 4).bind fun bt637 => (if bt637.1 = true then ((some (([(⟨(⟨#[113, 58, 122]⟩ : ByteArray), (⟨#[49]⟩ : ByteArray)⟩ : S46), (⟨(⟨#[112, 58, 122]⟩ : ByteArray), (⟨#[50]⟩ : ByteArray)⟩ : S46)] : List (S46)) : List (S46))).bind fun y640 => (if ((rd_T39 y636 x4_1).f3).length + y640.length < 4398046511104 then (spec_l1Rd_spaces.l0 kj28 (y636.set (x4_1 : Int).toNat (⟨(rd_T39 y636 x4_1).f0, (rd_T39 y636 x4_1).f1, (rd_T39 y636 x4_1).f2, (((rd_T39 y636 x4_1).f3) ++ y640)⟩ : S39)) (wrap64 (x4_1 + 1)) s0_0 bt637.2) else (none))) else (spec_l1Rd_spaces.l0 kj28 y636 (wrap64 (x4_1 + 1)) s0_0 bt637.2))) = some (r1, r2) := by first | (rw [hy636]; with_reducible exact H) | (have H2_ := (Option.bind_some _ _).symm.trans H; rw [hy636]; with_reducible exact H2_) | (have H2_ := (Option.bind_some _ _).symm.trans H; with_reducible exact H2_) | with_reducible exact H | (rw [hy636]; exact H) | exact H
     have Ny636 := Aside0.mk hy636
     clear hy636
     replace H := Option.bind_eq_some_iff.mp H
     obtain ⟨⟨t637, t638⟩, A480, H⟩ := H
     replace H : (if t637 = true then ((some (([(⟨(⟨#[113, 58, 122]⟩ : ByteArray), (⟨#[49]⟩ : ByteArray)⟩ : S46), (⟨(⟨#[112, 58, 122]⟩ : ByteArray), (⟨#[50]⟩ : ByteArray)⟩ : S46)] : List (S46)) : List (S46))).bind fun y640 => (if ((rd_T39 y636 x4_1).f3).length + y640.length < 4398046511104 then (spec_l1Rd_spaces.l0 kj28 (y636.set (x4_1 : Int).toNat (⟨(rd_T39 y636 x4_1).f0, (rd_T39 y636 x4_1).f1, (rd_T39 y636 x4_1).f2, (((rd_T39 y636 x4_1).f3) ++ y640)⟩ : S39)) (wrap64 (x4_1 + 1)) s0_0 t638) else (none))) else (spec_l1Rd_spaces.l0 kj28 y636 (wrap64 (x4_1 + 1)) s0_0 t638)) = some (r1, r2) := H
     have A48 := Aside0.mk A480
     clear A480
     have HH_ := Aside0.mk H
     clear H
     try go_wp2
     have pi610 : (0 ≤ (t608 : Int)) = True := eq_true (of_decide_eq_true dq19)
     have qi610 : (t608 < (y605.length : Int)) = True := eq_true (of_decide_eq_true dq19)
     have pi616 : (0 ≤ (t614 : Int)) = True := eq_true (of_decide_eq_true dq19)
     have qi616 : (t614 < (y611.length : Int)) = True := eq_true (of_decide_eq_true dq19)
     have n0_ := Aside0.mk (Kd.S_drew HO_3.out)
     have n1_ := Aside0.mk (IsS99.drew HI0.out)
     have n2_ := Aside0.mk (keep_drew HK.out)
     have n3_ := Aside0.mk (below_drew1 HB.out)
     clear HO_3
     clear HI0
     clear HK
     clear HB
     have HO_3 := n0_
     have HI0 := n1_
     have HK := n2_
     have HB := n3_
     clear n0_ n1_ n2_ n3_
     refine start_ (n := 15) (S := fun w' => True) (ds := []) #[false, false, false, false, false, false, false, false, false, false, false, false, false, false, false] dq23 rfl rfl trivial (fun hHeld => ?_); refine with_tabW spec_l1Rd_spaces.tab9 spec_l1Rd_spaces.bits9 (fun HT_ HW_ => ?_)
     generalize wc.drew = w84 at HO_3 HI0 HK HB hHeld ⊢
     refine pureA (i := 1) (N := some 47) #[false, true, false, false, false, false, false, false, false, false, false, false, false, false, false] ?_
     refine pureA (i := 7) (N := some 53) #[false, true, false, false, false, false, false, true, false, false, false, false, false, false, false] ?_
     refine inv_at [0, 2, 3, 4, 5, 6, 8, 9, 10, 11, 12, 13, 14] (fun a0_ b a w' => ∃ (v606 : Value) (adz_v606 : Addr) (v612 : Value) (adz_v612 : Addr) (v618 : Value) (m3_ : Value) (m9_ : Value) (m14_ : Value), a = putSel a0_ b [(0, 46, v606), (2, 48, .int .i64 t608), (3, 49, m3_), (4, 50, .string (rdOf ByteArray.empty y605 t608)), (5, 51, .agg #[.string (⟨#[120, 109, 108, 110, 115, 58, 112]⟩ : ByteArray), .string (rdOf ByteArray.empty y605 t608)]), (6, 52, v612), (8, 54, .int .i64 t614), (9, 55, m9_), (10, 56, .string (rdOf ByteArray.empty y611 t614)), (11, 57, .agg #[.string (⟨#[120, 109, 108, 110, 115]⟩ : ByteArray), .string (rdOf ByteArray.empty y611 t614)]), (12, 58, .agg #[.string (⟨#[120, 109, 108, 110, 115, 58, 113]⟩ : ByteArray), .string (⟨#[117, 49]⟩ : ByteArray)]), (13, 59, v618), (14, 5, m14_)] ∧ (Kd.S k39 39 w' w.heap.size (fun k_ => b 13 = true → some k_ ≠ (v618 : Value).ownBlock) (.slice (some ad591) x3_14.length co9) x3_14) ∧ (b 2 = false → IsS99 w0 w' g s0_0 x1001_28) ∧ (KeepBut w w' g none) ∧ (Below w0.heap.size w0 w') ∧ (b 0 = true → Kd.R Kd.string 9 w' w.heap.size (fun _ => True) v606 y605) ∧ (b 0 = true → ∃ c_, (v606 : Value) = .slice (some adz_v606) y605.length c_) ∧ (b 2 = true → b 8 = false → IsS99 w0 w' g s0_0 t609) ∧ (b 6 = true → Kd.R Kd.string 9 w' w.heap.size (fun _ => True) v612 y611) ∧ (b 6 = true → ∃ c_, (v612 : Value) = .slice (some adz_v612) y611.length c_) ∧ (b 8 = true → IsS99 w0 w' g s0_0 t615) ∧ (b 13 = true → Kd.R k46 46 w' w.heap.size (fun _ => True) v618 y617) ∧ (b 3 = true → (m3_ : Value) = .pointer (some (adz_v606.add (t608).toNat))) ∧ (b 9 = true → (m9_ : Value) = .pointer (some (adz_v612.add (t614).toNat))) ∧ (b 14 = true → (m14_ : Value) = v618)) HT_.out HW_.out dq23 dq23 ?_ ?_ ?_
     ·exact ⟨.bool false, ⟨0, 0, none⟩, .bool false, ⟨0, 0, none⟩, .bool false, .bool false, .bool false, .bool false, by simp only [putSel, Bool.false_eq_true, if_false], Kd.S_mono HO_3.out (fun _ _ h_ => absurd h_ dq52), fun _ => HI0.out, HK.out, HB.out, fun h_ => absurd h_ dq52, fun h_ => absurd h_ dq52, fun h_ => absurd h_ dq52, fun h_ => absurd h_ dq52, fun h_ => absurd h_ dq52, fun h_ => absurd h_ dq52, fun h_ => absurd h_ dq52, fun h_ => absurd h_ dq52, fun h_ => absurd h_ dq52, fun h_ => absurd h_ dq52⟩
     ·skip
      clear HB HI0 HK HO_3
      refine steps_cons ?_ ?_
      ·rintro b a w' ⟨v606, adz_v606, v612, adz_v612, v618, m3_, m9_, m14_, ha, Q_HO_3, Q_HI0, Q_HK, Q_HB, Q_HO607, Q_HA_HO607, Q_HI0_e2, Q_HO613, Q_HA_HO613, Q_HI0_e8, Q_HO619, Q_X3_, Q_X9_, Q_X14_⟩ hb_ hon hoff
       refine ⟨_, rfl, fun K hK => ?_⟩
       replace ha := Aside0.mk ha
       have HO_3 := Aside0.mk Q_HO_3
       have HK := Aside0.mk Q_HK
       have HB := Aside0.mk Q_HB
       refine Kd.R_lit_step Kd.string _ 9 ?hg (N := 46) ?hd (xs := ([(⟨#[117, 49]⟩ : ByteArray), (⟨#[117, 50]⟩ : ByteArray), (⟨#[]⟩ : ByteArray)] : List ByteArray)) (inner := [.string (⟨#[117, 49]⟩ : ByteArray), .string (⟨#[117, 50]⟩ : ByteArray), .string (⟨#[]⟩ : ByteArray)]) (ok := fun _ => True) (okp := fun _ => True) ?hr ?hp (fun _ hk => hk) trivial (Below.refl _ _) (Nat.le_refl _) dq21 ?_; (case hd => rfl); (case hg => rfl); (case hr => exact dq1); (case hp => exact (Reps.one (show Kd.M Kd.string _ _ _ (⟨#[117, 49]⟩ : ByteArray) [.string (⟨#[117, 49]⟩ : ByteArray)] from rfl) (Reps.one (show Kd.M Kd.string _ _ _ (⟨#[117, 50]⟩ : ByteArray) [.string (⟨#[117, 50]⟩ : ByteArray)] from rfl) (Reps.one (show Kd.M Kd.string _ _ _ (⟨#[]⟩ : ByteArray) [.string (⟨#[]⟩ : ByteArray)] from rfl) (Reps.none _ _)))))
       intro v606 w85 ho86 hb hg_ hnew_
       clear hg_ hnew_
       (first | rw [← Ny605.out] at ho86 | (simp only [Int.reduceToNat] at ho86; rw [← Ny605.out] at ho86))
       have n0_ := Aside0.mk (Kd.S_below dq85 hb)
       have n1_ := Aside0.mk (Kd.R_lower ho86 (keep_size (w := w) (g := g) (row := none) dq57))
       have n3_ := Aside0.mk (KeepBut.trans dq57 (KeepBut.of_below hb g none) (.inl rfl))
       have n4_ := Aside0.mk (below_step dq24 hb)
       have z_HI0 := fun (h0_ : b 2 = false) => (show IsS99 w0 w85 g s0_0 x1001_28 from by first | exact (IsS99.below dq88 hb))
       have z_HI0_e2 := fun (h0_ : b 2 = true) (h1_ : b 8 = false) => (show IsS99 w0 w85 g s0_0 t609 from by first | exact (IsS99.below dq89 hb))
       have z_HO613 := fun (h0_ : b 6 = true) => (show Kd.R Kd.string 9 w85 w.heap.size (fun _ => True) v612 y611 from by first | exact (Kd.R_elder' dq90 (Kd.R_base ho86) hb) | exact Kd.R_mono (Kd.R_elder' dq90 (Kd.R_base ho86) hb) (fun _ h_ => by first | trivial | exact h_ | exact h_.1))
       have z_HI0_e8 := fun (h0_ : b 8 = true) => (show IsS99 w0 w85 g s0_0 t615 from by first | exact (IsS99.below dq91 hb))
       clear HO_3
       clear HK
       clear HB
       have HO_3 := n0_
       have HO607 := n1_
       have HK := n3_
       have HB := n4_
       clear n0_ n1_ n3_ n4_
       clear hb ho86
       obtain ⟨Ao87, co87, eo87⟩ := Kd.R_slice HO607.out
       subst eo87
       obtain ⟨ado87, fo87, _⟩ := Kd.at_string (Kd.R_reads' HO607.out).2.2 0 dq52 (by rw [Ny605.out]; simp)
       cases fo87
       refine hK.out _ _ ⟨.slice (some ado87) y605.length co87, ado87, v612, adz_v612, v618, m3_, m9_, m14_, (by rw [ha.out]; exact putSel_upk 0 hb_ rfl rfl rfl), dq85, z_HI0, dq57, dq24, fun _ => dq92, fun _ => ⟨_, rfl⟩, z_HI0_e2, z_HO613, Q_HA_HO613, z_HI0_e8, fun h0_ => absurd ((hoff 13 dq23).symm.trans h0_) dq52, fun h0_ => absurd ((hoff 3 dq23).symm.trans h0_) dq52, Q_X9_, fun h0_ => absurd ((hoff 14 dq23).symm.trans h0_) dq52⟩
      refine steps_cons ?_ ?_
      ·rintro b a w' ⟨v606, adz_v606, v612, adz_v612, v618, m3_, m9_, m14_, ha, Q_HO_3, Q_HI0, Q_HK, Q_HB, Q_HO607, Q_HA_HO607, Q_HI0_e2, Q_HO613, Q_HA_HO613, Q_HI0_e8, Q_HO619, Q_X3_, Q_X9_, Q_X14_⟩ hb_ hon hoff
       refine ⟨_, rfl, fun K hK => ?_⟩
       have e47 : a.tmps[47]? = some (.pointer (some ⟨g, 0, none⟩)) := by rw [ha]; exact (putSel_off rfl).trans rfl
       replace ha := Aside0.mk ha
       have HO_3 := Aside0.mk Q_HO_3
       have HI0 := Aside0.mk (Q_HI0 hb_)
       have HK := Aside0.mk Q_HK
       have HB := Aside0.mk Q_HB
       refine goes_ Tryd.func63 dq23 rfl #[.pointer (some ⟨g, 0, none⟩), .int .i64 3] (by rfl) rfl rfl (by first | (simp only [List.map_toArray, List.map_cons, List.map_nil, Act.eval, Array.getD_eq_getD_getElem?, Option.getD_some, e47]; done) | (simp only [List.map_toArray, List.map_cons, List.map_nil, Act.eval, Array.getD_eq_getD_getElem?, Option.getD_some, e47]; rfl)) ?_
       with_reducible refine (spec_l1Rd_below.calls g s0_0 x1001_28 3 t608 t609 w0 _ ?side1 ?side2 A34.out).mono ?_
       (case side1 => exact dq7)
       (case side2 => exact dq8)
       rintro e w85 ⟨rfl, hi, hb, hk⟩
       refine ⟨_, rfl, ?_⟩
       have n0_ := Aside0.mk (Kd.S_mono (Kd.S_keep (IsS99.apartS (show IsS99 w0 _ g s0_0 x1001_28 from by repeat (first | (with_reducible first | exact HI0.out | apply IsS99.alloc | apply IsS99.drewN | apply IsS99.drew | apply IsS99.set_1) | exact HI0.out)) dq85 dq52) hk (fun _ h => h.2)) (fun _ h => h.1))
       have n1_ := Aside0.mk (KeepBut.trans dq57 hk (.inl rfl))
       have n2_ := Aside0.mk (hb)
       have n3_ := Aside0.mk (hi)
       have z_HO607 := fun (h0_ : b 0 = true) => (show Kd.R Kd.string 9 w85 w.heap.size (fun _ => True) v606 y605 from by first | exact (Kd.R_mono (Kd.R_keep (IsS99.apart (show IsS99 w0 _ g s0_0 x1001_28 from by repeat (first | (with_reducible first | exact HI0.out | apply IsS99.alloc | apply IsS99.drewN | apply IsS99.drew | apply IsS99.set_1) | exact HI0.out)) dq93 dq52) hk (fun _ h => h.2)) (fun _ h => h.1)) | exact Kd.R_mono (Kd.R_mono (Kd.R_keep (IsS99.apart (show IsS99 w0 _ g s0_0 x1001_28 from by repeat (first | (with_reducible first | exact HI0.out | apply IsS99.alloc | apply IsS99.drewN | apply IsS99.drew | apply IsS99.set_1) | exact HI0.out)) dq93 dq52) hk (fun _ h => h.2)) (fun _ h => h.1)) (fun _ h_ => by first | trivial | exact h_ | exact h_.1))
       have z_HO613 := fun (h0_ : b 6 = true) => (show Kd.R Kd.string 9 w85 w.heap.size (fun _ => True) v612 y611 from by first | exact (Kd.R_mono (Kd.R_keep (IsS99.apart (show IsS99 w0 _ g s0_0 x1001_28 from by repeat (first | (with_reducible first | exact HI0.out | apply IsS99.alloc | apply IsS99.drewN | apply IsS99.drew | apply IsS99.set_1) | exact HI0.out)) dq90 dq52) hk (fun _ h => h.2)) (fun _ h => h.1)) | exact Kd.R_mono (Kd.R_mono (Kd.R_keep (IsS99.apart (show IsS99 w0 _ g s0_0 x1001_28 from by repeat (first | (with_reducible first | exact HI0.out | apply IsS99.alloc | apply IsS99.drewN | apply IsS99.drew | apply IsS99.set_1) | exact HI0.out)) dq90 dq52) hk (fun _ h => h.2)) (fun _ h => h.1)) (fun _ h_ => by first | trivial | exact h_ | exact h_.1))
       clear HO_3
       clear HK
       clear HB
       clear HI0
       have HO_3 := n0_
       have HK := n1_
       have HB := n2_
       have HI0 := n3_
       clear n0_ n1_ n2_ n3_
       (try clear hb)
       (try clear hb2)
       (try clear hk)
       (try clear hi)
       refine hK.out _ _ ⟨v606, adz_v606, v612, adz_v612, v618, m3_, m9_, m14_, (by rw [ha.out]; exact putSel_upk 1 hb_ rfl rfl rfl), dq85, fun h0_ => absurd ((up_self b 2).symm.trans h0_) dq52, dq57, dq58, z_HO607, Q_HA_HO607, fun _ _ => dq59, z_HO613, Q_HA_HO613, fun h0_ => absurd ((hoff 8 dq23).symm.trans h0_) dq52, fun h0_ => absurd ((hoff 13 dq23).symm.trans h0_) dq52, fun h0_ => absurd ((hoff 3 dq23).symm.trans h0_) dq52, fun h0_ => absurd ((hoff 9 dq23).symm.trans h0_) dq52, fun h0_ => absurd ((hoff 14 dq23).symm.trans h0_) dq52⟩
      refine steps_cons ?_ ?_
      ·rintro b a w' ⟨v606, adz_v606, v612, adz_v612, v618, m3_, m9_, m14_, ha, Q_HO_3, Q_HI0, Q_HK, Q_HB, Q_HO607, Q_HA_HO607, Q_HI0_e2, Q_HO613, Q_HA_HO613, Q_HI0_e8, Q_HO619, Q_X3_, Q_X9_, Q_X14_⟩ hb_ hon hoff
       refine ⟨_, rfl, fun K hK => ?_⟩
       have e46 : a.tmps[46]? = some (v606) := by rw [ha]; exact putSel_on (e := (0, 46, v606)) 0 rfl rfl (hon 0 dq23) rfl
       have e48 : a.tmps[48]? = some (.int .i64 t608) := by rw [ha]; exact putSel_on (e := (2, 48, .int .i64 t608)) 1 rfl rfl (hon 2 dq23) rfl
       replace ha := Aside0.mk ha
       have HO_3 := Aside0.mk Q_HO_3
       have HK := Aside0.mk Q_HK
       have HB := Aside0.mk Q_HB
       have HO607 := Aside0.mk (Q_HO607 (hon 0 dq23))
       have HA_HO607 := Aside0.mk (Q_HA_HO607 (hon 0 dq23))
       obtain ⟨c_, hv_⟩ := HA_HO607.out
       rw [hv_] at e46
       refine value_ (w1 := w') (v := .pointer (some (adz_v606.add (t608).toNat))) (by rfl) rfl ?_ ?_
       ·go_simp
        (try simp only [i64_w])
        try rfl
       refine hK.out _ _ ⟨v606, adz_v606, v612, adz_v612, v618, (.pointer (some (adz_v606.add (t608).toNat))), m9_, m14_, (by rw [ha.out]; exact putSel_upk 2 hb_ rfl rfl rfl), Q_HO_3, fun h0_ => absurd ((hon 2 dq23).symm.trans h0_) dq52, Q_HK, Q_HB, Q_HO607, Q_HA_HO607, Q_HI0_e2, Q_HO613, Q_HA_HO613, Q_HI0_e8, fun h0_ => absurd ((hoff 13 dq23).symm.trans h0_) dq52, fun _ => rfl, Q_X9_, fun h0_ => absurd ((hoff 14 dq23).symm.trans h0_) dq52⟩
      refine steps_cons ?_ ?_
      ·rintro b a w' ⟨v606, adz_v606, v612, adz_v612, v618, m3_, m9_, m14_, ha, Q_HO_3, Q_HI0, Q_HK, Q_HB, Q_HO607, Q_HA_HO607, Q_HI0_e2, Q_HO613, Q_HA_HO613, Q_HI0_e8, Q_HO619, Q_X3_, Q_X9_, Q_X14_⟩ hb_ hon hoff
       refine ⟨_, rfl, fun K hK => ?_⟩
       have e49 : a.tmps[49]? = some (m3_) := by rw [ha]; exact putSel_on (e := (3, 49, m3_)) 2 rfl rfl (hon 3 dq23) rfl
       rw [Q_X3_ (hon 3 dq23)] at e49
       replace ha := Aside0.mk ha
       have HO_3 := Aside0.mk Q_HO_3
       have HK := Aside0.mk Q_HK
       have HB := Aside0.mk Q_HB
       have HO607 := Aside0.mk (Q_HO607 (hon 0 dq23))
       have HA_HO607 := Aside0.mk (Q_HA_HO607 (hon 0 dq23))
       obtain ⟨c_, hv_⟩ := HA_HO607.out
       have hF_ := HO607.out
       rw [hv_] at hF_
       obtain ⟨ad_, ea_, hx_⟩ := Kd.at_string (Kd.R_reads' hF_).2.2 t608 (of_eq_true pi610) (of_eq_true qi610)
       cases ea_
       refine value_ (w1 := w') (v := .string (rdOf ByteArray.empty y605 t608)) (by rfl) rfl ?_ ?_
       ·go_simp
        (try simp only [i64_w])
        try rfl
       refine hK.out _ _ ⟨v606, adz_v606, v612, adz_v612, v618, m3_, m9_, m14_, (by rw [ha.out]; exact putSel_upk 3 hb_ rfl rfl rfl), Q_HO_3, fun h0_ => absurd ((hon 2 dq23).symm.trans h0_) dq52, Q_HK, Q_HB, Q_HO607, Q_HA_HO607, Q_HI0_e2, Q_HO613, Q_HA_HO613, Q_HI0_e8, fun h0_ => absurd ((hoff 13 dq23).symm.trans h0_) dq52, Q_X3_, Q_X9_, fun h0_ => absurd ((hoff 14 dq23).symm.trans h0_) dq52⟩
      refine steps_cons ?_ ?_
      ·rintro b a w' ⟨v606, adz_v606, v612, adz_v612, v618, m3_, m9_, m14_, ha, Q_HO_3, Q_HI0, Q_HK, Q_HB, Q_HO607, Q_HA_HO607, Q_HI0_e2, Q_HO613, Q_HA_HO613, Q_HI0_e8, Q_HO619, Q_X3_, Q_X9_, Q_X14_⟩ hb_ hon hoff
       refine ⟨_, rfl, fun K hK => ?_⟩
       have e50 : a.tmps[50]? = some (.string (rdOf ByteArray.empty y605 t608)) := by rw [ha]; exact putSel_on (e := (4, 50, .string (rdOf ByteArray.empty y605 t608))) 3 rfl rfl (hon 4 dq23) rfl
       replace ha := Aside0.mk ha
       have HO_3 := Aside0.mk Q_HO_3
       have HK := Aside0.mk Q_HK
       have HB := Aside0.mk Q_HB
       have HO607 := Aside0.mk (Q_HO607 (hon 0 dq23))
       have HA_HO607 := Aside0.mk (Q_HA_HO607 (hon 0 dq23))
       refine value_ (w1 := w') (v := .agg #[.string (⟨#[120, 109, 108, 110, 115, 58, 112]⟩ : ByteArray), .string (rdOf ByteArray.empty y605 t608)]) (by rfl) rfl ?_ ?_
       ·go_simp
        (try simp only [i64_w])
        try rfl
       refine hK.out _ _ ⟨v606, adz_v606, v612, adz_v612, v618, m3_, m9_, m14_, (by rw [ha.out]; exact putSel_upk 4 hb_ rfl rfl rfl), Q_HO_3, fun h0_ => absurd ((hon 2 dq23).symm.trans h0_) dq52, Q_HK, Q_HB, Q_HO607, Q_HA_HO607, Q_HI0_e2, Q_HO613, Q_HA_HO613, Q_HI0_e8, fun h0_ => absurd ((hoff 13 dq23).symm.trans h0_) dq52, Q_X3_, Q_X9_, fun h0_ => absurd ((hoff 14 dq23).symm.trans h0_) dq52⟩
      refine steps_cons ?_ ?_
      ·rintro b a w' ⟨v606, adz_v606, v612, adz_v612, v618, m3_, m9_, m14_, ha, Q_HO_3, Q_HI0, Q_HK, Q_HB, Q_HO607, Q_HA_HO607, Q_HI0_e2, Q_HO613, Q_HA_HO613, Q_HI0_e8, Q_HO619, Q_X3_, Q_X9_, Q_X14_⟩ hb_ hon hoff
       refine ⟨_, rfl, fun K hK => ?_⟩
       replace ha := Aside0.mk ha
       have HO_3 := Aside0.mk Q_HO_3
       have HK := Aside0.mk Q_HK
       have HB := Aside0.mk Q_HB
       refine Kd.R_lit_step Kd.string _ 9 ?hg (N := 52) ?hd (xs := ([(⟨#[117, 49]⟩ : ByteArray), (⟨#[]⟩ : ByteArray), (⟨#[117, 51]⟩ : ByteArray)] : List ByteArray)) (inner := [.string (⟨#[117, 49]⟩ : ByteArray), .string (⟨#[]⟩ : ByteArray), .string (⟨#[117, 51]⟩ : ByteArray)]) (ok := fun _ => True) (okp := fun _ => True) ?hr ?hp (fun _ hk => hk) trivial (Below.refl _ _) (Nat.le_refl _) dq21 ?_; (case hd => rfl); (case hg => rfl); (case hr => exact dq1); (case hp => exact (Reps.one (show Kd.M Kd.string _ _ _ (⟨#[117, 49]⟩ : ByteArray) [.string (⟨#[117, 49]⟩ : ByteArray)] from rfl) (Reps.one (show Kd.M Kd.string _ _ _ (⟨#[]⟩ : ByteArray) [.string (⟨#[]⟩ : ByteArray)] from rfl) (Reps.one (show Kd.M Kd.string _ _ _ (⟨#[117, 51]⟩ : ByteArray) [.string (⟨#[117, 51]⟩ : ByteArray)] from rfl) (Reps.none _ _)))))
       intro v612 w85 ho86 hb hg_ hnew_
       clear hg_ hnew_
       (first | rw [← Ny611.out] at ho86 | (simp only [Int.reduceToNat] at ho86; rw [← Ny611.out] at ho86))
       have n0_ := Aside0.mk (Kd.S_below dq85 hb)
       have n1_ := Aside0.mk (Kd.R_lower ho86 (keep_size (w := w) (g := g) (row := none) dq57))
       have n3_ := Aside0.mk (KeepBut.trans dq57 (KeepBut.of_below hb g none) (.inl rfl))
       have n4_ := Aside0.mk (below_step dq24 hb)
       have z_HI0 := fun (h0_ : b 2 = false) => (show IsS99 w0 w85 g s0_0 x1001_28 from by first | exact (IsS99.below dq88 hb))
       have z_HO607 := fun (h0_ : b 0 = true) => (show Kd.R Kd.string 9 w85 w.heap.size (fun _ => True) v606 y605 from by first | exact (Kd.R_elder' dq93 (Kd.R_base ho86) hb) | exact Kd.R_mono (Kd.R_elder' dq93 (Kd.R_base ho86) hb) (fun _ h_ => by first | trivial | exact h_ | exact h_.1))
       have z_HI0_e2 := fun (h0_ : b 2 = true) (h1_ : b 8 = false) => (show IsS99 w0 w85 g s0_0 t609 from by first | exact (IsS99.below dq89 hb))
       have z_HI0_e8 := fun (h0_ : b 8 = true) => (show IsS99 w0 w85 g s0_0 t615 from by first | exact (IsS99.below dq91 hb))
       clear HO_3
       clear HK
       clear HB
       have HO_3 := n0_
       have HO613 := n1_
       have HK := n3_
       have HB := n4_
       clear n0_ n1_ n3_ n4_
       clear hb ho86
       obtain ⟨Ao87, co87, eo87⟩ := Kd.R_slice HO613.out
       subst eo87
       obtain ⟨ado87, fo87, _⟩ := Kd.at_string (Kd.R_reads' HO613.out).2.2 0 dq52 (by rw [Ny611.out]; simp)
       cases fo87
       refine hK.out _ _ ⟨v606, adz_v606, .slice (some ado87) y611.length co87, ado87, v618, m3_, m9_, m14_, (by rw [ha.out]; exact putSel_upk 5 hb_ rfl rfl rfl), dq85, z_HI0, dq57, dq24, z_HO607, Q_HA_HO607, z_HI0_e2, fun _ => dq94, fun _ => ⟨_, rfl⟩, z_HI0_e8, fun h0_ => absurd ((hoff 13 dq23).symm.trans h0_) dq52, Q_X3_, fun h0_ => absurd ((hoff 9 dq23).symm.trans h0_) dq52, fun h0_ => absurd ((hoff 14 dq23).symm.trans h0_) dq52⟩
      refine steps_cons ?_ ?_
      ·rintro b a w' ⟨v606, adz_v606, v612, adz_v612, v618, m3_, m9_, m14_, ha, Q_HO_3, Q_HI0, Q_HK, Q_HB, Q_HO607, Q_HA_HO607, Q_HI0_e2, Q_HO613, Q_HA_HO613, Q_HI0_e8, Q_HO619, Q_X3_, Q_X9_, Q_X14_⟩ hb_ hon hoff
       refine ⟨_, rfl, fun K hK => ?_⟩
       have e53 : a.tmps[53]? = some (.pointer (some ⟨g, 0, none⟩)) := by rw [ha]; exact (putSel_off rfl).trans rfl
       replace ha := Aside0.mk ha
       have HO_3 := Aside0.mk Q_HO_3
       have HK := Aside0.mk Q_HK
       have HB := Aside0.mk Q_HB
       have HI0 := Aside0.mk (Q_HI0_e2 (hon 2 dq23) hb_)
       refine goes_ Tryd.func63 dq23 rfl #[.pointer (some ⟨g, 0, none⟩), .int .i64 3] (by rfl) rfl rfl (by first | (simp only [List.map_toArray, List.map_cons, List.map_nil, Act.eval, Array.getD_eq_getD_getElem?, Option.getD_some, e53]; done) | (simp only [List.map_toArray, List.map_cons, List.map_nil, Act.eval, Array.getD_eq_getD_getElem?, Option.getD_some, e53]; rfl)) ?_
       with_reducible refine (spec_l1Rd_below.calls g s0_0 t609 3 t614 t615 w0 _ ?side1 ?side2 A37.out).mono ?_
       (case side1 => exact dq7)
       (case side2 => exact dq8)
       rintro e w87 ⟨rfl, hi, hb, hk⟩
       refine ⟨_, rfl, ?_⟩
       have n0_ := Aside0.mk (Kd.S_mono (Kd.S_keep (IsS99.apartS (show IsS99 w0 _ g s0_0 t609 from by repeat (first | (with_reducible first | exact HI0.out | apply IsS99.alloc | apply IsS99.drewN | apply IsS99.drew | apply IsS99.set_1) | exact HI0.out)) dq85 dq52) hk (fun _ h => h.2)) (fun _ h => h.1))
       have n1_ := Aside0.mk (KeepBut.trans dq57 hk (.inl rfl))
       have n2_ := Aside0.mk (hb)
       have n3_ := Aside0.mk (hi)
       have z_HO607 := fun (h0_ : b 0 = true) => (show Kd.R Kd.string 9 w87 w.heap.size (fun _ => True) v606 y605 from by first | exact (Kd.R_mono (Kd.R_keep (IsS99.apart (show IsS99 w0 _ g s0_0 t609 from by repeat (first | (with_reducible first | exact HI0.out | apply IsS99.alloc | apply IsS99.drewN | apply IsS99.drew | apply IsS99.set_1) | exact HI0.out)) dq93 dq52) hk (fun _ h => h.2)) (fun _ h => h.1)) | exact Kd.R_mono (Kd.R_mono (Kd.R_keep (IsS99.apart (show IsS99 w0 _ g s0_0 t609 from by repeat (first | (with_reducible first | exact HI0.out | apply IsS99.alloc | apply IsS99.drewN | apply IsS99.drew | apply IsS99.set_1) | exact HI0.out)) dq93 dq52) hk (fun _ h => h.2)) (fun _ h => h.1)) (fun _ h_ => by first | trivial | exact h_ | exact h_.1))
       have z_HO613 := fun (h0_ : b 6 = true) => (show Kd.R Kd.string 9 w87 w.heap.size (fun _ => True) v612 y611 from by first | exact (Kd.R_mono (Kd.R_keep (IsS99.apart (show IsS99 w0 _ g s0_0 t609 from by repeat (first | (with_reducible first | exact HI0.out | apply IsS99.alloc | apply IsS99.drewN | apply IsS99.drew | apply IsS99.set_1) | exact HI0.out)) dq90 dq52) hk (fun _ h => h.2)) (fun _ h => h.1)) | exact Kd.R_mono (Kd.R_mono (Kd.R_keep (IsS99.apart (show IsS99 w0 _ g s0_0 t609 from by repeat (first | (with_reducible first | exact HI0.out | apply IsS99.alloc | apply IsS99.drewN | apply IsS99.drew | apply IsS99.set_1) | exact HI0.out)) dq90 dq52) hk (fun _ h => h.2)) (fun _ h => h.1)) (fun _ h_ => by first | trivial | exact h_ | exact h_.1))
       clear HO_3
       clear HK
       clear HB
       clear HI0
       have HO_3 := n0_
       have HK := n1_
       have HB := n2_
       have HI0 := n3_
       clear n0_ n1_ n2_ n3_
       (try clear hb)
       (try clear hb2)
       (try clear hk)
       (try clear hi)
       refine hK.out _ _ ⟨v606, adz_v606, v612, adz_v612, v618, m3_, m9_, m14_, (by rw [ha.out]; exact putSel_upk 6 hb_ rfl rfl rfl), dq85, fun h0_ => absurd ((hon 2 dq23).symm.trans h0_) dq52, dq57, dq58, z_HO607, Q_HA_HO607, fun _ h1_ => absurd ((up_self b 8).symm.trans h1_) dq52, z_HO613, Q_HA_HO613, fun _ => dq59, fun h0_ => absurd ((hoff 13 dq23).symm.trans h0_) dq52, Q_X3_, fun h0_ => absurd ((hoff 9 dq23).symm.trans h0_) dq52, fun h0_ => absurd ((hoff 14 dq23).symm.trans h0_) dq52⟩
      refine steps_cons ?_ ?_
      ·rintro b a w' ⟨v606, adz_v606, v612, adz_v612, v618, m3_, m9_, m14_, ha, Q_HO_3, Q_HI0, Q_HK, Q_HB, Q_HO607, Q_HA_HO607, Q_HI0_e2, Q_HO613, Q_HA_HO613, Q_HI0_e8, Q_HO619, Q_X3_, Q_X9_, Q_X14_⟩ hb_ hon hoff
       refine ⟨_, rfl, fun K hK => ?_⟩
       have e52 : a.tmps[52]? = some (v612) := by rw [ha]; exact putSel_on (e := (6, 52, v612)) 5 rfl rfl (hon 6 dq23) rfl
       have e54 : a.tmps[54]? = some (.int .i64 t614) := by rw [ha]; exact putSel_on (e := (8, 54, .int .i64 t614)) 6 rfl rfl (hon 8 dq23) rfl
       replace ha := Aside0.mk ha
       have HO_3 := Aside0.mk Q_HO_3
       have HK := Aside0.mk Q_HK
       have HB := Aside0.mk Q_HB
       have HO613 := Aside0.mk (Q_HO613 (hon 6 dq23))
       have HA_HO613 := Aside0.mk (Q_HA_HO613 (hon 6 dq23))
       have HI0 := Aside0.mk (Q_HI0_e8 (hon 8 dq23))
       obtain ⟨c_, hv_⟩ := HA_HO613.out
       rw [hv_] at e52
       refine value_ (w1 := w') (v := .pointer (some (adz_v612.add (t614).toNat))) (by rfl) rfl ?_ ?_
       ·go_simp
        (try simp only [i64_w])
        try rfl
       refine hK.out _ _ ⟨v606, adz_v606, v612, adz_v612, v618, m3_, (.pointer (some (adz_v612.add (t614).toNat))), m14_, (by rw [ha.out]; exact putSel_upk 7 hb_ rfl rfl rfl), Q_HO_3, fun h0_ => absurd ((hon 2 dq23).symm.trans h0_) dq52, Q_HK, Q_HB, Q_HO607, Q_HA_HO607, fun _ h1_ => absurd ((hon 8 dq23).symm.trans h1_) dq52, Q_HO613, Q_HA_HO613, Q_HI0_e8, fun h0_ => absurd ((hoff 13 dq23).symm.trans h0_) dq52, Q_X3_, fun _ => rfl, fun h0_ => absurd ((hoff 14 dq23).symm.trans h0_) dq52⟩
      refine steps_cons ?_ ?_
      ·rintro b a w' ⟨v606, adz_v606, v612, adz_v612, v618, m3_, m9_, m14_, ha, Q_HO_3, Q_HI0, Q_HK, Q_HB, Q_HO607, Q_HA_HO607, Q_HI0_e2, Q_HO613, Q_HA_HO613, Q_HI0_e8, Q_HO619, Q_X3_, Q_X9_, Q_X14_⟩ hb_ hon hoff
       refine ⟨_, rfl, fun K hK => ?_⟩
       have e55 : a.tmps[55]? = some (m9_) := by rw [ha]; exact putSel_on (e := (9, 55, m9_)) 7 rfl rfl (hon 9 dq23) rfl
       rw [Q_X9_ (hon 9 dq23)] at e55
       replace ha := Aside0.mk ha
       have HO_3 := Aside0.mk Q_HO_3
       have HK := Aside0.mk Q_HK
       have HB := Aside0.mk Q_HB
       have HO613 := Aside0.mk (Q_HO613 (hon 6 dq23))
       have HA_HO613 := Aside0.mk (Q_HA_HO613 (hon 6 dq23))
       have HI0 := Aside0.mk (Q_HI0_e8 (hon 8 dq23))
       obtain ⟨c_, hv_⟩ := HA_HO613.out
       have hF_ := HO613.out
       rw [hv_] at hF_
       obtain ⟨ad_, ea_, hx_⟩ := Kd.at_string (Kd.R_reads' hF_).2.2 t614 (of_eq_true pi616) (of_eq_true qi616)
       cases ea_
       refine value_ (w1 := w') (v := .string (rdOf ByteArray.empty y611 t614)) (by rfl) rfl ?_ ?_
       ·go_simp
        (try simp only [i64_w])
        try rfl
       refine hK.out _ _ ⟨v606, adz_v606, v612, adz_v612, v618, m3_, m9_, m14_, (by rw [ha.out]; exact putSel_upk 8 hb_ rfl rfl rfl), Q_HO_3, fun h0_ => absurd ((hon 2 dq23).symm.trans h0_) dq52, Q_HK, Q_HB, Q_HO607, Q_HA_HO607, fun _ h1_ => absurd ((hon 8 dq23).symm.trans h1_) dq52, Q_HO613, Q_HA_HO613, Q_HI0_e8, fun h0_ => absurd ((hoff 13 dq23).symm.trans h0_) dq52, Q_X3_, Q_X9_, fun h0_ => absurd ((hoff 14 dq23).symm.trans h0_) dq52⟩
      refine steps_cons ?_ ?_
      ·rintro b a w' ⟨v606, adz_v606, v612, adz_v612, v618, m3_, m9_, m14_, ha, Q_HO_3, Q_HI0, Q_HK, Q_HB, Q_HO607, Q_HA_HO607, Q_HI0_e2, Q_HO613, Q_HA_HO613, Q_HI0_e8, Q_HO619, Q_X3_, Q_X9_, Q_X14_⟩ hb_ hon hoff
       refine ⟨_, rfl, fun K hK => ?_⟩
       have e56 : a.tmps[56]? = some (.string (rdOf ByteArray.empty y611 t614)) := by rw [ha]; exact putSel_on (e := (10, 56, .string (rdOf ByteArray.empty y611 t614))) 8 rfl rfl (hon 10 dq23) rfl
       replace ha := Aside0.mk ha
       have HO_3 := Aside0.mk Q_HO_3
       have HK := Aside0.mk Q_HK
       have HB := Aside0.mk Q_HB
       have HO613 := Aside0.mk (Q_HO613 (hon 6 dq23))
       have HA_HO613 := Aside0.mk (Q_HA_HO613 (hon 6 dq23))
       have HI0 := Aside0.mk (Q_HI0_e8 (hon 8 dq23))
       refine value_ (w1 := w') (v := .agg #[.string (⟨#[120, 109, 108, 110, 115]⟩ : ByteArray), .string (rdOf ByteArray.empty y611 t614)]) (by rfl) rfl ?_ ?_
       ·go_simp
        (try simp only [i64_w])
        try rfl
       refine hK.out _ _ ⟨v606, adz_v606, v612, adz_v612, v618, m3_, m9_, m14_, (by rw [ha.out]; exact putSel_upk 9 hb_ rfl rfl rfl), Q_HO_3, fun h0_ => absurd ((hon 2 dq23).symm.trans h0_) dq52, Q_HK, Q_HB, Q_HO607, Q_HA_HO607, fun _ h1_ => absurd ((hon 8 dq23).symm.trans h1_) dq52, Q_HO613, Q_HA_HO613, Q_HI0_e8, fun h0_ => absurd ((hoff 13 dq23).symm.trans h0_) dq52, Q_X3_, Q_X9_, fun h0_ => absurd ((hoff 14 dq23).symm.trans h0_) dq52⟩
      refine steps_cons ?_ ?_
      ·rintro b a w' ⟨v606, adz_v606, v612, adz_v612, v618, m3_, m9_, m14_, ha, Q_HO_3, Q_HI0, Q_HK, Q_HB, Q_HO607, Q_HA_HO607, Q_HI0_e2, Q_HO613, Q_HA_HO613, Q_HI0_e8, Q_HO619, Q_X3_, Q_X9_, Q_X14_⟩ hb_ hon hoff
       refine ⟨_, rfl, fun K hK => ?_⟩
       replace ha := Aside0.mk ha
       have HO_3 := Aside0.mk Q_HO_3
       have HK := Aside0.mk Q_HK
       have HB := Aside0.mk Q_HB
       refine value_ (w1 := w') (v := .agg #[.string (⟨#[120, 109, 108, 110, 115, 58, 113]⟩ : ByteArray), .string (⟨#[117, 49]⟩ : ByteArray)]) (by rfl) rfl ?_ ?_
       ·go_simp
        (try simp only [i64_w])
        try rfl
       refine hK.out _ _ ⟨v606, adz_v606, v612, adz_v612, v618, m3_, m9_, m14_, (by rw [ha.out]; exact putSel_upk 10 hb_ rfl rfl rfl), Q_HO_3, Q_HI0, Q_HK, Q_HB, Q_HO607, Q_HA_HO607, Q_HI0_e2, Q_HO613, Q_HA_HO613, Q_HI0_e8, fun h0_ => absurd ((hoff 13 dq23).symm.trans h0_) dq52, Q_X3_, Q_X9_, fun h0_ => absurd ((hoff 14 dq23).symm.trans h0_) dq52⟩
      refine steps_cons ?_ ?_
      ·rintro b a w' ⟨v606, adz_v606, v612, adz_v612, v618, m3_, m9_, m14_, ha, Q_HO_3, Q_HI0, Q_HK, Q_HB, Q_HO607, Q_HA_HO607, Q_HI0_e2, Q_HO613, Q_HA_HO613, Q_HI0_e8, Q_HO619, Q_X3_, Q_X9_, Q_X14_⟩ hb_ hon hoff
       refine ⟨_, rfl, fun K hK => ?_⟩
       have e51 : a.tmps[51]? = some (.agg #[.string (⟨#[120, 109, 108, 110, 115, 58, 112]⟩ : ByteArray), .string (rdOf ByteArray.empty y605 t608)]) := by rw [ha]; exact putSel_on (e := (5, 51, .agg #[.string (⟨#[120, 109, 108, 110, 115, 58, 112]⟩ : ByteArray), .string (rdOf ByteArray.empty y605 t608)])) 4 rfl rfl (hon 5 dq23) rfl
       have e57 : a.tmps[57]? = some (.agg #[.string (⟨#[120, 109, 108, 110, 115]⟩ : ByteArray), .string (rdOf ByteArray.empty y611 t614)]) := by rw [ha]; exact putSel_on (e := (11, 57, .agg #[.string (⟨#[120, 109, 108, 110, 115]⟩ : ByteArray), .string (rdOf ByteArray.empty y611 t614)])) 9 rfl rfl (hon 11 dq23) rfl
       have e58 : a.tmps[58]? = some (.agg #[.string (⟨#[120, 109, 108, 110, 115, 58, 113]⟩ : ByteArray), .string (⟨#[117, 49]⟩ : ByteArray)]) := by rw [ha]; exact putSel_on (e := (12, 58, .agg #[.string (⟨#[120, 109, 108, 110, 115, 58, 113]⟩ : ByteArray), .string (⟨#[117, 49]⟩ : ByteArray)])) 10 rfl rfl (hon 12 dq23) rfl
       replace ha := Aside0.mk ha
       have HO_3 := Aside0.mk Q_HO_3
       have HK := Aside0.mk Q_HK
       have HB := Aside0.mk Q_HB
       have HO607 := Aside0.mk (Q_HO607 (hon 0 dq23))
       have HA_HO607 := Aside0.mk (Q_HA_HO607 (hon 0 dq23))
       have HO613 := Aside0.mk (Q_HO613 (hon 6 dq23))
       have HA_HO613 := Aside0.mk (Q_HA_HO613 (hon 6 dq23))
       have HI0 := Aside0.mk (Q_HI0_e8 (hon 8 dq23))
       obtain ⟨co94, eo94⟩ := HA_HO607.out
       clear HA_HO607
       subst eo94
       obtain ⟨co95, eo95⟩ := HA_HO613.out
       clear HA_HO613
       subst eo95
       refine Kd.R_lit_step k46 _ 46 ?hg (N := 59) ?hd (xs := ([(⟨(⟨#[120, 109, 108, 110, 115, 58, 112]⟩ : ByteArray), rdOf ByteArray.empty y605 t608⟩ : S46), (⟨(⟨#[120, 109, 108, 110, 115]⟩ : ByteArray), rdOf ByteArray.empty y611 t614⟩ : S46), (⟨(⟨#[120, 109, 108, 110, 115, 58, 113]⟩ : ByteArray), (⟨#[117, 49]⟩ : ByteArray)⟩ : S46)] : List (S46))) (inner := [.string (⟨#[120, 109, 108, 110, 115, 58, 112]⟩ : ByteArray), .string (rdOf ByteArray.empty y605 t608), .string (⟨#[120, 109, 108, 110, 115]⟩ : ByteArray), .string (rdOf ByteArray.empty y611 t614), .string (⟨#[120, 109, 108, 110, 115, 58, 113]⟩ : ByteArray), .string (⟨#[117, 49]⟩ : ByteArray)]) (ok := fun _ => True) (okp := fun _ => True) ?hr ?hp (fun _ hk => hk) trivial (Below.refl _ _) (Nat.le_refl _) dq21 ?_; (case hd => rfl); (case hg => rfl); (case hr => exact dq1); (case hp => exact (Reps.c2 (show Kd.M k46 _ _ _ (⟨(⟨#[120, 109, 108, 110, 115, 58, 112]⟩ : ByteArray), rdOf ByteArray.empty y605 t608⟩ : S46) [.string (⟨#[120, 109, 108, 110, 115, 58, 112]⟩ : ByteArray), .string (rdOf ByteArray.empty y605 t608)] from (k46_mkM _ _ _ (⟨(⟨#[120, 109, 108, 110, 115, 58, 112]⟩ : ByteArray), rdOf ByteArray.empty y605 t608⟩ : S46) )) (Reps.c2 (show Kd.M k46 _ _ _ (⟨(⟨#[120, 109, 108, 110, 115]⟩ : ByteArray), rdOf ByteArray.empty y611 t614⟩ : S46) [.string (⟨#[120, 109, 108, 110, 115]⟩ : ByteArray), .string (rdOf ByteArray.empty y611 t614)] from (k46_mkM _ _ _ (⟨(⟨#[120, 109, 108, 110, 115]⟩ : ByteArray), rdOf ByteArray.empty y611 t614⟩ : S46) )) (Reps.c2 (show Kd.M k46 _ _ _ (⟨(⟨#[120, 109, 108, 110, 115, 58, 113]⟩ : ByteArray), (⟨#[117, 49]⟩ : ByteArray)⟩ : S46) [.string (⟨#[120, 109, 108, 110, 115, 58, 113]⟩ : ByteArray), .string (⟨#[117, 49]⟩ : ByteArray)] from (k46_mkM _ _ _ (⟨(⟨#[120, 109, 108, 110, 115, 58, 113]⟩ : ByteArray), (⟨#[117, 49]⟩ : ByteArray)⟩ : S46) )) (Reps.none _ _)))))
       intro v618 w96 ho97 hb hg_ hnew_
       clear hg_ hnew_
       (first | rw [← Ny617.out] at ho97 | (simp only [Int.reduceToNat] at ho97; rw [← Ny617.out] at ho97))
       have n0_ := Aside0.mk (Kd.S_elder' dq85 (Kd.R_base ho97) hb)
       have n1_ := Aside0.mk (Kd.R_below dq92 hb)
       have n2_ := Aside0.mk (Kd.R_below dq94 hb)
       have n3_ := Aside0.mk (Kd.R_lower ho97 (keep_size (w := w) (g := g) (row := none) dq57))
       have n4_ := Aside0.mk (IsS99.below dq59 hb)
       have n5_ := Aside0.mk (KeepBut.trans dq57 (KeepBut.of_below hb g none) (.inl rfl))
       have n6_ := Aside0.mk (below_step dq58 hb)
       clear HO_3
       clear HO607
       clear HO613
       clear HI0
       clear HK
       clear HB
       have HO_3 := n0_
       have HO607 := n1_
       have HO613 := n2_
       have HO619 := n3_
       have HI0 := n4_
       have HK := n5_
       have HB := n6_
       clear n0_ n1_ n2_ n3_ n4_ n5_ n6_
       clear hb ho97
       refine hK.out _ _ ⟨.slice (some adz_v606) y605.length co94, adz_v606, .slice (some adz_v612) y611.length co95, adz_v612, v618, m3_, m9_, m14_, (by rw [ha.out]; exact putSel_upk 11 hb_ rfl rfl rfl), (by (with_reducible repeat (first | apply Kd.S_alloc | apply Kd.S_drewN | apply Kd.S_drew)); exact Kd.S_mono HO_3.out (fun _ hk _ => hk.2)), fun h0_ => absurd ((hon 2 dq23).symm.trans h0_) dq52, dq57, dq58, fun _ => dq92, fun _ => ⟨_, rfl⟩, fun _ h1_ => absurd ((hon 8 dq23).symm.trans h1_) dq52, fun _ => dq94, fun _ => ⟨_, rfl⟩, fun _ => dq59, fun _ => dq95, Q_X3_, Q_X9_, fun h0_ => absurd ((hoff 14 dq23).symm.trans h0_) dq52⟩
      refine steps_cons ?_ ?_
      ·rintro b a w' ⟨v606, adz_v606, v612, adz_v612, v618, m3_, m9_, m14_, ha, Q_HO_3, Q_HI0, Q_HK, Q_HB, Q_HO607, Q_HA_HO607, Q_HI0_e2, Q_HO613, Q_HA_HO613, Q_HI0_e8, Q_HO619, Q_X3_, Q_X9_, Q_X14_⟩ hb_ hon hoff
       refine ⟨_, rfl, fun K hK => ?_⟩
       have e59 : a.tmps[59]? = some (v618) := by rw [ha]; exact putSel_on (e := (13, 59, v618)) 11 rfl rfl (hon 13 dq23) rfl
       replace ha := Aside0.mk ha
       have HO_3 := Aside0.mk Q_HO_3
       have HK := Aside0.mk Q_HK
       have HB := Aside0.mk Q_HB
       have HO607 := Aside0.mk (Q_HO607 (hon 0 dq23))
       have HA_HO607 := Aside0.mk (Q_HA_HO607 (hon 0 dq23))
       have HO613 := Aside0.mk (Q_HO613 (hon 6 dq23))
       have HA_HO613 := Aside0.mk (Q_HA_HO613 (hon 6 dq23))
       have HI0 := Aside0.mk (Q_HI0_e8 (hon 8 dq23))
       have HO619 := Aside0.mk (Q_HO619 (hon 13 dq23))
       refine value_ (w1 := w') (v := v618) (by rfl) rfl ?_ ?_
       ·go_simp
        (try simp only [i64_w])
        try rfl
       refine hK.out _ _ ⟨v606, adz_v606, v612, adz_v612, v618, m3_, m9_, (v618), (by rw [ha.out]; exact putSel_upk 12 hb_ rfl rfl rfl), Q_HO_3, fun h0_ => absurd ((hon 2 dq23).symm.trans h0_) dq52, Q_HK, Q_HB, Q_HO607, Q_HA_HO607, fun _ h1_ => absurd ((hon 8 dq23).symm.trans h1_) dq52, Q_HO613, Q_HA_HO613, Q_HI0_e8, Q_HO619, Q_X3_, Q_X9_, fun _ => rfl⟩
      exact steps_nil
     rintro b a w95 hall ⟨v606, adz_v606, v612, adz_v612, v618, m3_, m9_, m14_, ha, Q_HO_3, Q_HI0, Q_HK, Q_HB, Q_HO607, Q_HA_HO607, Q_HI0_e2, Q_HO613, Q_HA_HO613, Q_HI0_e8, Q_HO619, Q_X3_, Q_X9_, Q_X14_⟩
     clear HB HI0 HK HO_3
     have hb0_ := hall 0 dq23
     have hb2_ := hall 2 dq23
     have hb3_ := hall 3 dq23
     have hb4_ := hall 4 dq23
     have hb5_ := hall 5 dq23
     have hb6_ := hall 6 dq23
     have hb8_ := hall 8 dq23
     have hb9_ := hall 9 dq23
     have hb10_ := hall 10 dq23
     have hb11_ := hall 11 dq23
     have hb12_ := hall 12 dq23
     have hb13_ := hall 13 dq23
     have hb14_ := hall 14 dq23
     subst ha
     obtain rfl := Q_X3_ hb3_
     obtain rfl := Q_X9_ hb9_
     obtain rfl := Q_X14_ hb14_
     simp only [putSel, hb0_, hb2_, hb3_, hb4_, hb5_, hb6_, hb8_, hb9_, hb10_, hb11_, hb12_, hb13_, hb14_, if_true, Act.put, List.setIfInBounds_toArray, List.set_cons_zero, List.set_cons_succ]
     have HO_3 := Aside0.mk (Kd.S_mono Q_HO_3 (fun _ hk => hk hb13_))
     clear Q_HO_3
     clear Q_HI0
     have HK := Aside0.mk Q_HK
     clear Q_HK
     have HB := Aside0.mk Q_HB
     clear Q_HB
     have HO607 := Aside0.mk (Q_HO607 hb0_)
     clear Q_HO607
     have HA_HO607 := Aside0.mk (Q_HA_HO607 hb0_)
     clear Q_HA_HO607
     clear Q_HI0_e2
     have HO613 := Aside0.mk (Q_HO613 hb6_)
     clear Q_HO613
     have HA_HO613 := Aside0.mk (Q_HA_HO613 hb6_)
     clear Q_HA_HO613
     have HI0 := Aside0.mk (Q_HI0_e8 hb8_)
     clear Q_HI0_e8
     have HO619 := Aside0.mk (Q_HO619 hb13_)
     clear Q_HO619
     clear hall hb0_ hb2_ hb3_ hb4_ hb5_ hb6_ hb8_ hb9_ hb10_ hb11_ hb12_ hb13_ hb14_
     obtain ⟨co96, eo96⟩ := HA_HO607.out
     clear HA_HO607
     subst eo96
     obtain ⟨co97, eo97⟩ := HA_HO613.out
     clear HA_HO613
     subst eo97
     try go_wp2_with (first | ((with_reducible refine gate_callee (f := 63) rfl ?_); refine goesL_ (some 61) rfl rfl Tryd.func63 dq23 rfl #[.pointer (some ⟨g, 0, none⟩), .int .i64 4] rfl dq22 ?_; (with_reducible refine (spec_l1Rd_below.calls g s0_0 t615 4 t620 t621 w0 _ ?side1 ?side2 A40.out).mono ?_); (case side1 => exact dq7); (case side2 => exact dq8); rintro e w98 ⟨rfl, hi, hb, hk⟩; refine ⟨_, rfl, ?_⟩; have n0_ := Aside0.mk (Kd.S_mono (Kd.S_keep (IsS99.apartS (show IsS99 w0 _ g s0_0 t615 from by repeat (first | (with_reducible first | exact HI0.out | apply IsS99.alloc | apply IsS99.drewN | apply IsS99.drew | apply IsS99.set_1) | exact HI0.out)) dq85 dq52) hk (fun _ h => h.2)) (fun _ h => h.1)); have n1_ := Aside0.mk (Kd.R_mono (Kd.R_keep (IsS99.apart (show IsS99 w0 _ g s0_0 t615 from by repeat (first | (with_reducible first | exact HI0.out | apply IsS99.alloc | apply IsS99.drewN | apply IsS99.drew | apply IsS99.set_1) | exact HI0.out)) dq92 dq52) hk (fun _ h => h.2)) (fun _ h => h.1)); have n2_ := Aside0.mk (Kd.R_mono (Kd.R_keep (IsS99.apart (show IsS99 w0 _ g s0_0 t615 from by repeat (first | (with_reducible first | exact HI0.out | apply IsS99.alloc | apply IsS99.drewN | apply IsS99.drew | apply IsS99.set_1) | exact HI0.out)) dq94 dq52) hk (fun _ h => h.2)) (fun _ h => h.1)); have n3_ := Aside0.mk (Kd.R_mono (Kd.R_keep (IsS99.apart (show IsS99 w0 _ g s0_0 t615 from by repeat (first | (with_reducible first | exact HI0.out | apply IsS99.alloc | apply IsS99.drewN | apply IsS99.drew | apply IsS99.set_1) | exact HI0.out)) dq95 dq52) hk (fun _ h => h.2)) (fun _ h => h.1)); have n4_ := Aside0.mk (KeepBut.trans dq57 hk (.inl rfl)); have n5_ := Aside0.mk (hb); have n6_ := Aside0.mk (hi); clear HO_3; clear HO607; clear HO613; clear HO619; clear HK; clear HB; clear HI0; have HO_3 := n0_; have HO607 := n1_; have HO613 := n2_; have HO619 := n3_; have HK := n4_; have HB := n5_; have HI0 := n6_; clear n0_ n1_ n2_ n3_ n4_ n5_ n6_; (try clear hb); (try clear hb2); (try clear hk); (try clear hi)))
     have pz_ : 0 ≤ (x4_1 : Int) := of_decide_eq_true dq19
     have qz_ : x4_1 < (x3_14.length : Int) := of_decide_eq_true dq19
     obtain ⟨go47, co47, eo47, gb47, gl47, cl47, HG47⟩ := Kd.S_form HO_3.out dq37
     (first | cases eo47 | (injection eo47 with ea_ en_ ec_; (first | subst ea_ | (injection ea_ with ea_; subst ea_)); subst ec_; clear en_))
     have GB47 := Aside0.mk gb47
     clear gb47 gl47 HG47
     obtain ⟨_, cez_, hclz_, hMz_, hccz_, _, _, _⟩ := Kd.S_elem HO_3.out z39 (x4_1 : Int) pz_ qz_
     obtain ⟨vez_, rfl, gez_⟩ := k39_openM hMz_
     have hxz_ := hccz_ 3 _ rfl
     obtain ⟨A632_3, c632_3, eez_⟩ := Kd.R_slice gez_
     subst eez_
     replace hxz_ : World.cell? _ (⟨go47, (x4_1 : Int).toNat * 4 + 3, none⟩ : Addr) = some (.slice A632_3 ((rd_T39 x3_14 x4_1).f3).length c632_3) := hxz_
     clear hclz_ hMz_ hccz_ gez_
     replace pz_ := eq_true pz_
     replace qz_ := eq_true qz_
     obtain ⟨Ao102, co102, eo102⟩ := Kd.R_slice HO619.out
     subst eo102
     have q101 : (t620 : Int) ≤ ((y617.length : Int) : Int) := of_decide_eq_true dq19
     obtain ⟨i0101, hi0101, _, hsz101, _⟩ := info_parts info46
     have hroom101 : y617.length ≤ co102 := (Kd.R_reads' HO619.out).2.1
     have hC101 : Kd.C k46 _ Ao102 y617.length y617 := (Kd.R_reads' HO619.out).2.2
     have hcut101 := cut_to (P := Tryd.prog) 37 46 .i64 Tryd.underlying37 hi0101 Ao102 y617.length co102 t620 (of_decide_eq_true dq19) q101 hroom101
     have hr101 := Kd.C_take (m := (t620 : Int).toNat) hC101 dq37
     have hy101 : y625.length = (t620 : Int).toNat := (by rw [Ny625.out, List.length_take]; omega)
     rw [← Ny625.out] at hr101
     rw [← hy101] at hcut101
     have HR628 := Aside0.mk hr101
     have HC628 := Aside0.mk (show y625.length ≤ co102 from by omega)
     clear hr101 hC101 hroom101 hi0101 hsz101
     have KY101 := Aside0.mk hy101
     clear hy101
     have KL101 := Aside0.mk (show (t620 : Int).toNat ≤ y617.length from by omega)
     replace q101 := eq_true q101
     have n0_ := Aside0.mk (Kd.S_drew HO_3.out)
     have n1_ := Aside0.mk (Kd.R_drew HO607.out)
     have n2_ := Aside0.mk (Kd.R_drew HO613.out)
     have n3_ := Aside0.mk (Kd.R_drew HO619.out)
     have n4_ := Aside0.mk (keep_drew HK.out)
     have n5_ := Aside0.mk (below_drew1 HB.out)
     have n6_ := Aside0.mk (IsS99.drew HI0.out)
     have n7_ := Aside0.mk (Kd.C_drew HR628.out)
     clear HO_3
     clear HO607
     clear HO613
     clear HO619
     clear HK
     clear HB
     clear HI0
     clear HR628
     have HO_3 := n0_
     have HO607 := n1_
     have HO613 := n2_
     have HO619 := n3_
     have HK := n4_
     have HB := n5_
     have HI0 := n6_
     have HR628 := n7_
     clear n0_ n1_ n2_ n3_ n4_ n5_ n6_ n7_
     refine start_ (n := 16) (S := fun w' => w'.cell? (⟨go47, (x4_1 : Int).toNat * 4 + 3, none⟩ : Addr) = some (.slice A632_3 ((rd_T39 x3_14 x4_1).f3).length c632_3)) (ds := [15]) #[false, false, false, false, false, false, false, false, false, false, false, false, false, false, false, false] dq23 rfl rfl hxz_ (fun hHeld => ?_); refine with_tabW spec_l1Rd_spaces.tab11 spec_l1Rd_spaces.bits11 (fun HT_ HW_ => ?_)
     clear hxz_
     generalize w98.drew = wz_ at HO_3 HO607 HO613 HO619 HK HB HI0 HR628 hHeld ⊢
     refine pureA (i := 0) (N := some 62) #[true, false, false, false, false, false, false, false, false, false, false, false, false, false, false, false] ?_
     refine pureA (i := 1) (N := some 63) #[true, true, false, false, false, false, false, false, false, false, false, false, false, false, false, false] ?_
     refine pureA (i := 3) (N := some 65) #[true, true, false, true, false, false, false, false, false, false, false, false, false, false, false, false] ?_
     refine pureA (i := 4) (N := some 66) #[true, true, false, true, true, false, false, false, false, false, false, false, false, false, false, false] ?_
     refine pureA (i := 7) (N := some 69) #[true, true, false, true, true, false, false, true, false, false, false, false, false, false, false, false] ?_
     refine pureA (i := 8) (N := some 70) #[true, true, false, true, true, false, false, true, true, false, false, false, false, false, false, false] ?_
     refine pureA (i := 5) (N := some 67) #[true, true, false, true, true, true, false, true, true, false, false, false, false, false, false, false] ?_
     refine pureA (i := 9) (N := some 71) #[true, true, false, true, true, true, false, true, true, true, false, false, false, false, false, false] ?_
     refine pureA (i := 10) (N := some 72) #[true, true, false, true, true, true, false, true, true, true, true, false, false, false, false, false] ?_
     refine take_ (i := 11) (N := some 73) (v := ?_) (a' := ?_) #[true, true, false, true, true, true, false, true, true, true, true, true, false, false, false, false] rfl rfl (take_ofW HT_.out HW_.out dq23) (fun _ _ _ h => h) (Or.inl ⟨by rfl, ?_⟩) hHeld ?_ ?_
     rotate_left
     ·intro w' s0
      replace s0 : w'.cell? (⟨go47, (x4_1 : Int).toNat * 4 + 3, none⟩ : Addr) = some (.slice A632_3 ((rd_T39 x3_14 x4_1).f3).length c632_3) := s0
      go_simp
      with_reducible rfl
     rotate_left
     ·exact dAct
     refine one_ (i := 2) (N := some 64) #[true, true, true, true, true, true, false, true, true, true, true, true, false, false, false, false] rfl rfl (one_of HT_.out dq23) dq52 (fun K hK => ?_)
     refine Kd.R_lit_step k46 _ 46 ?hg (N := 64) ?hd (xs := ([] : List (S46))) (inner := []) (ok := fun _ => True) (okp := fun _ => True) ?hr ?hp (fun _ hk => hk) trivial (Below.refl _ _) (Nat.le_refl _) dq21 ?_
     (case hd => rfl)
     (case hg => rfl)
     (case hr => exact dq1)
     (case hp => exact (Reps.none _ _))
     intro v623 w99 ho100 hb hg_ hnew_
     have HS_ := (hb.cell (World.block_lt_of_cell? _ _ hHeld)).trans hHeld
     have HRz_ := Aside0.mk (Kd.C_below HR628.out hb)
     clear HR628
     have HR628 := HRz_
     clear HRz_
     clear hg_ hnew_
     (first | rw [← Ny622.out] at ho100 | (simp only [Int.reduceToNat] at ho100; rw [← Ny622.out] at ho100))
     have n0_ := Aside0.mk (Kd.S_elder' dq85 (Kd.R_base ho100) hb)
     have n1_ := Aside0.mk (Kd.R_below dq92 hb)
     have n2_ := Aside0.mk (Kd.R_below dq94 hb)
     have n3_ := Aside0.mk (Kd.R_elder' dq95 (Kd.R_base ho100) hb)
     have n4_ := Aside0.mk (Kd.R_lower (Kd.R_new' ho100 (Kd.R_lt dq95)) (keep_size (w := w) (g := g) (row := none) dq57))
     have n5_ := Aside0.mk (IsS99.below dq59 hb)
     have n6_ := Aside0.mk (KeepBut.trans dq57 (KeepBut.of_below hb g none) (.inl rfl))
     have n7_ := Aside0.mk (below_step dq58 hb)
     clear HO_3
     clear HO607
     clear HO613
     clear HO619
     clear HI0
     clear HK
     clear HB
     have HO_3 := n0_
     have HO607 := n1_
     have HO613 := n2_
     have HO619 := n3_
     have HO624 := n4_
     have HI0 := n5_
     have HK := n6_
     have HB := n7_
     clear n0_ n1_ n2_ n3_ n4_ n5_ n6_ n7_
     clear hb ho100
     refine hK.out _ _ HS_ (fun hHeld => ?_)
     clear HS_
     clear hK K
     refine norm_ (a' := ?_) ?_ ?_
     rotate_left
     ·show Act.put _ (some 64) _ = _
      simp only [Act.put, List.setIfInBounds_toArray, List.set_cons_zero, List.set_cons_succ, i64_w, i32_w]
      rfl
     refine one_ (i := 6) (N := some 68) #[true, true, true, true, true, true, true, true, true, true, true, true, false, false, false, false] rfl rfl (one_of HT_.out dq23) dq52 (fun K hK => ?_)
     refine Kd.R_append_rows_step k46 w.heap.size (by rfl) (.tmp 64) (.tmp 67) 37 46 (.agg #[(.string ⟨#[]⟩), (.string ⟨#[]⟩)]) 32 rfl Tryd.underlying37 info46 rfl dq52 dq37 v623 y622 y625 _ _ _ (fun k_ => some k_ ≠ (.slice Ao102 y617.length co102 : Value).ownBlock) (fun _ => False) rfl rfl ?aO ?aR (fun _ _ h => h) (fun _ h => h.elim) ?aF (Below.refl _ _) ?aS ?aL ?_
     (case aR => repeat (first | exact (by repeat (first | (with_reducible exact HR628.out) | (with_reducible refine Kd.C_alloc ?_ _) | (with_reducible refine Kd.C_drewN ?_ _) | (with_reducible refine Kd.C_drew ?_) | exact HR628.out)) | (with_reducible refine Kd.C_alloc ?_ _) | (with_reducible refine Kd.C_drewN ?_ _) | (with_reducible refine Kd.C_drew ?_)))
     (case aF => exact (fun k_ hk => Kd.fresh' (Kd.R_lt dq95) k_ hk))
     (case aO => exact (by (with_reducible repeat (first | apply Kd.R_alloc | apply Kd.R_drewN | apply Kd.R_drew)); exact Kd.R_mono HO624.out (fun _ hk => hk.2)))
     (case aS => exact (keep_size (w := w) (g := g) (row := none) dq57))
     (case aL => have := LMc43.out; omega)
     intro v630 w103 ho hb hg hat
     have HS_ := cell_grown hg hHeld (by obtain ⟨_, h_⟩ := Kd.S_typed HO_3.out go47 rfl; exact Kd.R_ne HO624.out h_ dq52)
     rw [← Ny629.out] at ho
     have n0_ := Aside0.mk (Kd.S_after (ok := (fun k_ => some k_ ≠ (.slice Ao102 y617.length co102 : Value).ownBlock)) dq85 hg hat)
     have n1_ := Aside0.mk (IsS99.grown dq59 hg (IsS99.own_ne HI0.out HO624.out dq52))
     have n2_ := Aside0.mk (Kd.R_over' dq92 (Kd.R_typed (by (with_reducible repeat (first | apply Kd.R_alloc | apply Kd.R_drewN | apply Kd.R_drew)); exact HO624.out)) dq52 hg)
     have n3_ := Aside0.mk (Kd.R_over' dq94 (Kd.R_typed (by (with_reducible repeat (first | apply Kd.R_alloc | apply Kd.R_drewN | apply Kd.R_drew)); exact HO624.out)) dq52 hg)
     have n4_ := Aside0.mk (Kd.R_after (ok := (fun _ => True)) dq95 hg hat)
     have n5_ := Aside0.mk (below_weaken dq58 HL.out hb)
     have n6_ := Aside0.mk (KeepBut.trans dq57 (KeepBut.of_grown hg g) (Kd.R_base2 HO624.out))
     have n7_ := Aside0.mk ((show Kd.C k46 w103 Ao102 y625.length y625 from by rw [Ny625.out]; exact Kd.C_take (m := (t620 : Int).toNat) ((Kd.R_reads' (Kd.R_after (ok := (fun _ => True)) dq95 hg hat)).2.2) KL101.out))
     have n8_ := Aside0.mk (ho)
     clear HO_3
     clear HI0
     clear HO607
     clear HO613
     clear HO619
     clear HB
     clear HK
     clear HR628
     clear HO624
     have HO_3 := n0_
     have HI0 := n1_
     have HO607 := n2_
     have HO613 := n3_
     have HO619 := n4_
     have HB := n5_
     have HK := n6_
     have HR628 := n7_
     have HO631 := n8_
     clear n0_ n1_ n2_ n3_ n4_ n5_ n6_ n7_ n8_
     clear ho hb hg hat
     have p632 : 0 ≤ (x4_1 : Int) := of_decide_eq_true dq19
     have q632 : x4_1 < (x3_14.length : Int) := of_decide_eq_true dq19
     obtain ⟨ad632, A632_3q, c632_3q, e632, hx632_0, hx632_1, hx632_2, hx632_3, hl632_3, hi632_3⟩ := at_T39 (Kd.S_reads' HO_3.out).2.2 x4_1 p632 q632
     obtain rfl : (⟨go47, 0, none⟩ : Addr) = ad632 := (by first | (injection e632; done) | (injection e632 with ea_; injection ea_))
     obtain ⟨ce632, hce632, hMe632, hcc632⟩ := Kd.S_get HO_3.out z39 x4_1 p632 (by first | exact q632 | exact of_decide_eq_true dq19 | (have e_ := (Kd.S_reads' HO_3.out).1; omega))
     obtain ⟨ve632_3, rfl, ge632_3⟩ := k39_openM hMe632
     have hv632_3 := hcc632 3 _ rfl
     rw [add_field _ _ 3 dq37] at hv632_3
     replace hv632_3 := Option.some.inj (hv632_3.symm.trans hx632_3)
     rw [hv632_3] at ge632_3
     have HL632_3 := Aside0.mk (show Kd.R k46 46 _ _ _ _ ((rd_T39 x3_14 x4_1).f3) from ge632_3)
     clear hv632_3 ge632_3
     have HX632_3 := Aside0.mk hx632_3
     clear hcc632 hce632
     have HR632_3 := Aside0.mk hi632_3
     have HC632_3 := Aside0.mk hl632_3
     clear hi632_3 hl632_3
     replace p632 := eq_true p632
     replace q632 := eq_true q632
     obtain ⟨rfl, rfl⟩ : A632_3q = A632_3 ∧ c632_3q = c632_3 := by
      have h1_ := hx632_3
      (try simp only [add_plain, Nat.zero_add] at h1_)
      have h2_ := Option.some.inj (h1_.symm.trans HS_)
      injection h2_ with h3_ _ h4_
      exact ⟨h3_, h4_⟩
     refine hK.out _ _ HS_ (fun hHeld => ?_)
     clear HS_
     clear hK K
     refine norm_ (a' := ?_) ?_ ?_
     rotate_left
     ·show Act.put _ (some 68) _ = _
      simp only [Act.put, List.setIfInBounds_toArray, List.set_cons_zero, List.set_cons_succ, i64_w, i32_w]
      rfl
     refine one_ (i := 12) (N := some 74) #[true, true, true, true, true, true, true, true, true, true, true, true, true, false, false, false] rfl rfl (one_of HT_.out dq23) dq52 (fun K hK => ?_)
     refine Kd.R_append_rows_step k46 w.heap.size (by rfl) (.tmp 68) (.tmp 73) 37 46 (.agg #[(.string ⟨#[]⟩), (.string ⟨#[]⟩)]) 32 rfl Tryd.underlying37 info46 rfl dq52 dq37 v630 y629 ((rd_T39 x3_14 x4_1).f3) _ _ _ (fun k_ => some k_ ≠ (.slice Ao102 y617.length co102 : Value).ownBlock) (fun _ => False) rfl rfl ?aO ?aR (fun _ _ h => h) (fun _ h => h.elim) ?aF (Below.refl _ _) ?aS ?aL ?_
     (case aR => repeat (first | exact (by repeat (first | (with_reducible exact HR632_3.out) | (with_reducible refine Kd.C_alloc ?_ _) | (with_reducible refine Kd.C_drewN ?_ _) | (with_reducible refine Kd.C_drew ?_) | exact HR632_3.out)) | (with_reducible refine Kd.C_alloc ?_ _) | (with_reducible refine Kd.C_drewN ?_ _) | (with_reducible refine Kd.C_drew ?_)))
     (case aF => exact (fun k_ hk => Kd.fresh' (Kd.R_lt dq95) k_ hk))
     (case aO => exact dq96)
     (case aS => exact (keep_size (w := w) (g := g) (row := none) dq57))
     (case aL => have := LMc46.out; omega)
     intro v634 w104 ho hb hg hat
     have HS_ := cell_grown hg hHeld (by obtain ⟨_, h_⟩ := Kd.S_typed HO_3.out go47 rfl; exact Kd.R_ne HO631.out h_ dq52)
     rw [← Ny633.out] at ho
     have n0_ := Aside0.mk (Kd.S_after (ok := (fun k_ => some k_ ≠ (.slice Ao102 y617.length co102 : Value).ownBlock)) dq85 hg hat)
     have n1_ := Aside0.mk (IsS99.grown dq59 hg (IsS99.own_ne HI0.out HO631.out dq52))
     have n2_ := Aside0.mk (Kd.R_over' dq92 (Kd.R_typed dq96) dq52 hg)
     have n3_ := Aside0.mk (Kd.R_over' dq94 (Kd.R_typed dq96) dq52 hg)
     have n4_ := Aside0.mk (Kd.R_after (ok := (fun _ => True)) dq95 hg hat)
     have n5_ := Aside0.mk (Kd.R_after (ok := (fun k_ => some k_ ≠ (.slice (some ⟨go47, 0, none⟩) x3_14.length co9 : Value).ownBlock ∧ some k_ ≠ (.slice Ao102 y617.length co102 : Value).ownBlock)) (by (with_reducible repeat (first | apply Kd.R_alloc | apply Kd.R_drewN | apply Kd.R_drew)); exact Kd.R_mono HL632_3.out (fun _ hk => ⟨⟨hk.2, hk.1.1⟩, hk.1.2⟩)) hg hat)
     have n6_ := Aside0.mk (below_weaken dq58 HL.out hb)
     have n7_ := Aside0.mk (KeepBut.trans dq57 (KeepBut.of_grown hg g) (Kd.R_base2 HO631.out))
     have n8_ := Aside0.mk ((show Kd.C k46 w104 Ao102 y625.length y625 from by rw [Ny625.out]; exact Kd.C_take (m := (t620 : Int).toNat) ((Kd.R_reads' (Kd.R_after (ok := (fun _ => True)) dq95 hg hat)).2.2) KL101.out))
     have n9_ := Aside0.mk (ho)
     clear HO_3
     clear HI0
     clear HO607
     clear HO613
     clear HO619
     clear HL632_3
     clear HB
     clear HK
     clear HR628
     clear HO631
     have HO_3 := n0_
     have HI0 := n1_
     have HO607 := n2_
     have HO613 := n3_
     have HO619 := n4_
     have HL632_3 := n5_
     have HB := n6_
     have HK := n7_
     have HR628 := n8_
     have HO635 := n9_
     clear n0_ n1_ n2_ n3_ n4_ n5_ n6_ n7_ n8_ n9_
     clear ho hb hg hat
     have p47 : 0 ≤ (x4_1 : Int) := of_decide_eq_true dq19
     have q47 : (x4_1 : Int) < ((x3_14.length : Int) : Int) := of_decide_eq_true dq19
     obtain ⟨cl47, HG47⟩ := Kd.S_typed HO_3.out go47 rfl
     have GG47 := Aside0.mk HG47
     clear HG47
     (first | simp only [add_plain] at hx632_0 | skip)
     (first | simp only [add_plain] at hx632_1 | skip)
     (first | simp only [add_plain] at hx632_2 | skip)
     (first | simp only [add_plain] at hx632_3 | skip)
     obtain ⟨_, ce47, hcl47, hM47, hcc47, hfr47, _, _⟩ := Kd.S_elem HO_3.out z39 (x4_1 : Int) p47 q47
     obtain ⟨ve47_3, rfl, ge47_3⟩ := k39_openM hM47
     have hx47_0 : w104.cell? ⟨go47, (x4_1 : Int).toNat * 4, none⟩ = some (.int .i64 ((rd_T39 x3_14 x4_1).f0)) := hcc47 0 _ rfl
     have hx47_1 : w104.cell? ⟨go47, (x4_1 : Int).toNat * 4 + 1, none⟩ = some (.string ((rd_T39 x3_14 x4_1).f1)) := hcc47 1 _ rfl
     have hx47_2 : w104.cell? ⟨go47, (x4_1 : Int).toNat * 4 + 2, none⟩ = some (.string ((rd_T39 x3_14 x4_1).f2)) := hcc47 2 _ rfl
     have hx47_3 : w104.cell? ⟨go47, (x4_1 : Int).toNat * 4 + 3, none⟩ = some (ve47_3) := hcc47 3 _ rfl
     have hf47_0 : w104.frozen? ⟨go47, (x4_1 : Int).toNat * 4, none⟩ = false := hfr47 0
     have hf47_1 : w104.frozen? ⟨go47, (x4_1 : Int).toNat * 4 + 1, none⟩ = false := hfr47 1
     have hf47_2 : w104.frozen? ⟨go47, (x4_1 : Int).toNat * 4 + 2, none⟩ = false := hfr47 2
     have hf47_3 : w104.frozen? ⟨go47, (x4_1 : Int).toNat * 4 + 3, none⟩ = false := hfr47 3
     clear hcl47 hcc47 hfr47 hM47
     replace p47 := eq_true p47
     replace q47 := eq_true q47
     have HX105 := Aside0.mk (show Kd.S k39 39 w104 w.heap.size (fun k_ => ((fun k_ => some k_ ≠ (.slice Ao102 y617.length co102 : Value).ownBlock)) k_ ∧ ¬ ((fun k_ => some k_ = (v634 : Value).ownBlock)) k_) (.slice (some ⟨go47, 0, none⟩) x3_14.length co9) x3_14 from (by (with_reducible repeat (first | apply Kd.S_alloc | apply Kd.S_drewN | apply Kd.S_drew)); exact Kd.S_mono HO_3.out (fun k_ hk => ⟨hk.1, fun e_ => hk.2 e_⟩)))
     obtain ⟨oki105, ce105, hcl105, hM105, hcc105, hfr105, hoki105, hH105⟩ := Kd.S_elem HX105.out z39 (x4_1 : Int) (of_decide_eq_true dq19) (by have h_ : (x4_1 : Int) < ((x3_14.length : Int) : Int) := of_decide_eq_true dq19; first | exact h_ | (have e_ := (Kd.S_reads' HO_3.out).1; omega) | simpa using h_)
     obtain ⟨ve105_3, rfl, ge105_3⟩ := k39_openM hM105
     have HP105 := Kd.S_seg hH105 (of_decide_eq_true dq19) (by have h_ : (x4_1 : Int) < ((x3_14.length : Int) : Int) := of_decide_eq_true dq19; first | exact h_ | (have e_ := (Kd.S_reads' HO_3.out).1; omega) | simpa using h_) (seg := [v634]) (j := 3) (show 4 ≤ 4 from by decide) (x' := (⟨(rd_T39 x3_14 x4_1).f0, (rd_T39 x3_14 x4_1).f1, (rd_T39 x3_14 x4_1).f2, y633⟩ : S39)) (k39_mkM _ _ _ (⟨(rd_T39 x3_14 x4_1).f0, (rd_T39 x3_14 x4_1).f1, (rd_T39 x3_14 x4_1).f2, y633⟩ : S39) (Kd.R_mono (Kd.R_tight rfl (Kd.R_mono (ok' := fun k_ => ((fun k_ => some k_ ≠ (.slice Ao102 y617.length co102 : Value).ownBlock)) k_ ∧ k_ ≠ go47) (Kd.R_apart' (HO635.out) (Kd.S_typed HO_3.out) dq52) (fun k_ hk => ⟨hk.1, fun e_ => (hk.2) (by rw [e_]; rfl)⟩))) (fun _ h_ => Or.inr (h_)))) (fun _ hk => hk) (fun k_ hk_ => ((Kd.R_mono (ok' := fun k_ => ((fun k_ => some k_ ≠ (.slice Ao102 y617.length co102 : Value).ownBlock)) k_ ∧ k_ ≠ go47) (Kd.R_apart' (HO635.out) (Kd.S_typed HO_3.out) dq52) (fun k_ hk => ⟨hk.1, fun e_ => (hk.2) (by rw [e_]; rfl)⟩))).1 k_ hk_.symm)
     have hx105_3 := hcc105 3 _ rfl
     (try simp only [show (k39).sz = 4 from rfl, Nat.mul_one, Nat.add_zero] at hx105_3)
     have hf105_3 := hfr105 3
     (try simp only [show (k39).sz = 4 from rfl, Nat.mul_one, Nat.add_zero] at hf105_3)
     clear hcl105 hcc105 hfr105 hM105 hoki105 hH105
     refine hK.out _ _ HS_ (fun hHeld => ?_)
     clear HS_
     clear hK K
     refine norm_ (a' := ?_) ?_ ?_
     rotate_left
     ·show Act.put _ (some 74) _ = _
      simp only [Act.put, List.setIfInBounds_toArray, List.set_cons_zero, List.set_cons_succ, i64_w, i32_w]
      rfl
     refine pureA (i := 13) (N := some 75) #[true, true, true, true, true, true, true, true, true, true, true, true, true, true, false, false] ?_
     refine pureA (i := 14) (N := some 76) #[true, true, true, true, true, true, true, true, true, true, true, true, true, true, true, false] ?_
     refine last_ (i := 15) (N := none) #[true, true, true, true, true, true, true, true, true, true, true, true, true, true, true, true] rfl rfl (one_of HT_.out dq23) dq52 (fun K hK => ?_)
     obtain ⟨w106, hw⟩ : ∃ w_ : World, w_ = (w104.setCell ⟨go47, (x4_1 : Int).toNat * 4 + 3, none⟩ (v634)) := ⟨_, rfl⟩
     refine skip_ (w1 := w106) (by rfl) rfl ?_ ?_
     ·obtain ⟨A_, c_, rfl⟩ := Kd.R_slice HO635.out
      rw [hw]
      go_simp
      try rfl
     have hg : w104.grownBy w106 (some go47) := (by rw [hw]; exact HP105.2)
     have hp_ : Kd.S k39 39 w106 w.heap.size (fun k_ => some k_ ≠ (.slice Ao102 y617.length co102 : Value).ownBlock) (.slice (some ⟨go47, 0, none⟩) x3_14.length co9) y636 := (by rw [hw, Ny636.out]; exact HP105.1)
     clear HP105
     have n0_ := Aside0.mk (hp_)
     have n1_ := Aside0.mk (IsS99.grown dq59 hg (IsS99.own_neS HI0.out HO_3.out dq52))
     have n2_ := Aside0.mk (Kd.R_over' (v := (.slice (some ⟨go47, 0, none⟩) x3_14.length co9)) dq92 (Kd.S_typed HO_3.out) dq52 hg)
     have n3_ := Aside0.mk (Kd.R_over' (v := (.slice (some ⟨go47, 0, none⟩) x3_14.length co9)) dq94 (Kd.S_typed HO_3.out) dq52 hg)
     have n4_ := Aside0.mk (Kd.R_over' (v := (.slice (some ⟨go47, 0, none⟩) x3_14.length co9)) dq95 (Kd.S_typed HO_3.out) dq52 hg)
     have n5_ := Aside0.mk (Kd.R_after (v := (.slice (some ⟨go47, 0, none⟩) x3_14.length co9)) (v1 := (.slice (some ⟨go47, 0, none⟩) x3_14.length co9)) (ok := (fun k_ => some k_ ≠ (.slice Ao102 y617.length co102 : Value).ownBlock ∧ some k_ ≠ (v634 : Value).ownBlock)) (by (with_reducible repeat (first | apply Kd.R_alloc | apply Kd.R_drewN | apply Kd.R_drew)); exact Kd.R_mono HL632_3.out (fun _ hk => ⟨⟨hk.1.2, hk.2⟩, hk.1.1⟩)) hg (.inl rfl))
     have n6_ := Aside0.mk ((by rw [hw]; exact below_set (HB.out) (Nat.le_trans HL.out GB47.out) : Below w0.heap.size w0 w106))
     have n7_ := Aside0.mk (KeepBut.trans dq57 (KeepBut.of_grown hg g) (Kd.S_base2 HO_3.out))
     have n8_ := Aside0.mk ((show Kd.C k46 w106 Ao102 y625.length y625 from by rw [Ny625.out]; exact Kd.C_take (m := (t620 : Int).toNat) ((Kd.R_reads' (Kd.R_over' (v := (.slice (some ⟨go47, 0, none⟩) x3_14.length co9)) dq95 (Kd.S_typed HO_3.out) dq52 hg)).2.2) KL101.out))
     clear HO_3
     clear HI0
     clear HO607
     clear HO613
     clear HO619
     clear HL632_3
     clear HB
     clear HK
     clear HR628
     clear HO635
     have HO_3 := n0_
     have HI0 := n1_
     have HO607 := n2_
     have HO613 := n3_
     have HO619 := n4_
     have HL632_3 := n5_
     have HB := n6_
     have HK := n7_
     have HR628 := n8_
     clear n0_ n1_ n2_ n3_ n4_ n5_ n6_ n7_ n8_
     clear hg hw hp_
     refine hK.out _ _ ?_
     clear hK K
     refine done_ (done_of HT_.out dq23) ?_
     have H := HH_.out
     clear HH_
     by_cases c49 : t637 = true
     rotate_left
     ·replace c49 := Bool.eq_false_iff.mpr c49
      subst c49
      have H1 : (spec_l1Rd_spaces.l0 kj28 y636 (wrap64 (x4_1 + 1)) s0_0 t638) = some (r1, r2) := by rw [if_neg (show ¬ (false = true) by decide)] at H; exact H
      clear H
      have H := H1
      clear H1
      have H' := Aside0.mk H
      clear H
      try go_wp2_with (first | ((with_reducible refine gate_callee (f := 52) rfl ?_); refine goesL_ (some 78) rfl rfl Tryd.func52 dq23 rfl #[.pointer (some ⟨g, 0, none⟩), .int .i64 4] rfl dq22 ?_; (with_reducible refine (spec_l1Rd_once.calls g s0_0 t621 4 false t638 w0 _ ?side1 ?side2 A48.out).mono ?_); (case side1 => exact dq7); (case side2 => exact dq8); rintro e w107 ⟨rfl, hi, hb, hk⟩; refine ⟨_, rfl, ?_⟩; have n0_ := Aside0.mk (Kd.S_mono (Kd.S_keep (IsS99.apartS (show IsS99 w0 _ g s0_0 t621 from by repeat (first | (with_reducible first | exact HI0.out | apply IsS99.alloc | apply IsS99.drewN | apply IsS99.drew | apply IsS99.set_1) | exact HI0.out)) dq85 dq52) hk (fun _ h => h.2)) (fun _ h => h.1)); have n1_ := Aside0.mk (Kd.R_mono (Kd.R_keep (IsS99.apart (show IsS99 w0 _ g s0_0 t621 from by repeat (first | (with_reducible first | exact HI0.out | apply IsS99.alloc | apply IsS99.drewN | apply IsS99.drew | apply IsS99.set_1) | exact HI0.out)) dq92 dq52) hk (fun _ h => h.2)) (fun _ h => h.1)); have n2_ := Aside0.mk (Kd.R_mono (Kd.R_keep (IsS99.apart (show IsS99 w0 _ g s0_0 t621 from by repeat (first | (with_reducible first | exact HI0.out | apply IsS99.alloc | apply IsS99.drewN | apply IsS99.drew | apply IsS99.set_1) | exact HI0.out)) dq94 dq52) hk (fun _ h => h.2)) (fun _ h => h.1)); have n3_ := Aside0.mk (Kd.R_mono (Kd.R_keep (IsS99.apart (show IsS99 w0 _ g s0_0 t621 from by repeat (first | (with_reducible first | exact HI0.out | apply IsS99.alloc | apply IsS99.drewN | apply IsS99.drew | apply IsS99.set_1) | exact HI0.out)) dq95 dq52) hk (fun _ h => h.2)) (fun _ h => h.1)); have n4_ := Aside0.mk (Kd.R_mono (Kd.R_keep (IsS99.apart (show IsS99 w0 _ g s0_0 t621 from by repeat (first | (with_reducible first | exact HI0.out | apply IsS99.alloc | apply IsS99.drewN | apply IsS99.drew | apply IsS99.set_1) | exact HI0.out)) dq98 dq52) hk (fun _ h => h.2)) (fun _ h => h.1)); have n5_ := Aside0.mk (KeepBut.trans dq57 hk (.inl rfl)); have n6_ := Aside0.mk (hb); have n7_ := Aside0.mk (hi); clear HO_3; clear HO607; clear HO613; clear HO619; clear HL632_3; clear HK; clear HB; clear HI0; have HO_3 := n0_; have HO607 := n1_; have HO613 := n2_; have HO619 := n3_; have HL632_3 := n4_; have HK := n5_; have HB := n6_; have HI0 := n7_; clear n0_ n1_ n2_ n3_ n4_ n5_ n6_ n7_; (try clear hb); (try clear hb2); (try clear hk); (try clear hi)))
      (try simp only [← hl3_14])
      go_roundg kj28
      case measure => have := HK1.out; have := HJ7.out; have := HJ14.out; have := HJ28.out; omega
      case rel => exact ⟨(y636), (wrap64 (x4_1 + 1)), (t638), dq18, H', ⟨dq100⟩, ⟨dq99⟩, ⟨dq59⟩, ⟨dq57⟩, ⟨dq58⟩⟩
     subst c49
     have H1 : ((some (([(⟨(⟨#[113, 58, 122]⟩ : ByteArray), (⟨#[49]⟩ : ByteArray)⟩ : S46), (⟨(⟨#[112, 58, 122]⟩ : ByteArray), (⟨#[50]⟩ : ByteArray)⟩ : S46)] : List (S46)) : List (S46))).bind fun y640 => (if ((rd_T39 y636 x4_1).f3).length + y640.length < 4398046511104 then (spec_l1Rd_spaces.l0 kj28 (y636.set (x4_1 : Int).toNat (⟨(rd_T39 y636 x4_1).f0, (rd_T39 y636 x4_1).f1, (rd_T39 y636 x4_1).f2, (((rd_T39 y636 x4_1).f3) ++ y640)⟩ : S39)) (wrap64 (x4_1 + 1)) s0_0 t638) else (none))) = some (r1, r2) := by rw [if_pos rfl] at H; exact H
     clear H
     have H := H1
     clear H1
     obtain ⟨y640, hy640⟩ : ∃ y_ : List (S46), y_ = (([(⟨(⟨#[113, 58, 122]⟩ : ByteArray), (⟨#[49]⟩ : ByteArray)⟩ : S46), (⟨(⟨#[112, 58, 122]⟩ : ByteArray), (⟨#[50]⟩ : ByteArray)⟩ : S46)] : List (S46))) := ⟨_, rfl⟩
     replace H : (if ((rd_T39 y636 x4_1).f3).length + y640.length < 4398046511104 then (spec_l1Rd_spaces.l0 kj28 (y636.set (x4_1 : Int).toNat (⟨(rd_T39 y636 x4_1).f0, (rd_T39 y636 x4_1).f1, (rd_T39 y636 x4_1).f2, (((rd_T39 y636 x4_1).f3) ++ y640)⟩ : S39)) (wrap64 (x4_1 + 1)) s0_0 t638) else (none)) = some (r1, r2) := by first | (rw [hy640]; with_reducible exact H) | (have H2_ := (Option.bind_some _ _).symm.trans H; rw [hy640]; with_reducible exact H2_) | (have H2_ := (Option.bind_some _ _).symm.trans H; with_reducible exact H2_) | with_reducible exact H | (rw [hy640]; exact H) | exact H
     have Ny640 := Aside0.mk hy640
     clear hy640
     by_cases c50 : ((rd_T39 y636 x4_1).f3).length + y640.length < 4398046511104
     rotate_left
     ·rw [if_neg c50] at H
      exact absurd H dq21
     rw [if_pos c50] at H
     have LMc50 := Aside0.mk c50
     clear c50
     obtain ⟨y643, hy643⟩ : ∃ y_ : List (S46), y_ = (((rd_T39 y636 x4_1).f3) ++ y640) := ⟨_, rfl⟩
     replace H : (spec_l1Rd_spaces.l0 kj28 (y636.set (x4_1 : Int).toNat (⟨(rd_T39 y636 x4_1).f0, (rd_T39 y636 x4_1).f1, (rd_T39 y636 x4_1).f2, y643⟩ : S39)) (wrap64 (x4_1 + 1)) s0_0 t638) = some (r1, r2) := by first | (rw [hy643]; with_reducible exact H) | (have H2_ := (Option.bind_some _ _).symm.trans H; rw [hy643]; with_reducible exact H2_) | (have H2_ := (Option.bind_some _ _).symm.trans H; with_reducible exact H2_) | with_reducible exact H | (rw [hy643]; exact H) | exact H
     have Ny643 := Aside0.mk hy643
     clear hy643
     obtain ⟨y646, hy646⟩ : ∃ y_ : List (S39), y_ = (y636.set (x4_1 : Int).toNat (⟨(rd_T39 y636 x4_1).f0, (rd_T39 y636 x4_1).f1, (rd_T39 y636 x4_1).f2, y643⟩ : S39)) := ⟨_, rfl⟩
     replace H : (spec_l1Rd_spaces.l0 kj28 y646 (wrap64 (x4_1 + 1)) s0_0 t638) = some (r1, r2) := by first | (rw [hy646]; with_reducible exact H) | (have H2_ := (Option.bind_some _ _).symm.trans H; rw [hy646]; with_reducible exact H2_) | (have H2_ := (Option.bind_some _ _).symm.trans H; with_reducible exact H2_) | with_reducible exact H | (rw [hy646]; exact H) | exact H
     have Ny646 := Aside0.mk hy646
     clear hy646
     have H' := Aside0.mk H
     clear H
     try go_wp2_with (first | ((with_reducible refine gate_callee (f := 52) rfl ?_); refine goesL_ (some 78) rfl rfl Tryd.func52 dq23 rfl #[.pointer (some ⟨g, 0, none⟩), .int .i64 4] rfl dq22 ?_; (with_reducible refine (spec_l1Rd_once.calls g s0_0 t621 4 true t638 w0 _ ?side1 ?side2 A48.out).mono ?_); (case side1 => exact dq7); (case side2 => exact dq8); rintro e w75 ⟨rfl, hi, hb, hk⟩; refine ⟨_, rfl, ?_⟩; have n0_ := Aside0.mk (Kd.S_mono (Kd.S_keep (IsS99.apartS (show IsS99 w0 _ g s0_0 t621 from by repeat (first | (with_reducible first | exact HI0.out | apply IsS99.alloc | apply IsS99.drewN | apply IsS99.drew | apply IsS99.set_1) | exact HI0.out)) dq85 dq52) hk (fun _ h => h.2)) (fun _ h => h.1)); have n1_ := Aside0.mk (Kd.R_mono (Kd.R_keep (IsS99.apart (show IsS99 w0 _ g s0_0 t621 from by repeat (first | (with_reducible first | exact HI0.out | apply IsS99.alloc | apply IsS99.drewN | apply IsS99.drew | apply IsS99.set_1) | exact HI0.out)) dq92 dq52) hk (fun _ h => h.2)) (fun _ h => h.1)); have n2_ := Aside0.mk (Kd.R_mono (Kd.R_keep (IsS99.apart (show IsS99 w0 _ g s0_0 t621 from by repeat (first | (with_reducible first | exact HI0.out | apply IsS99.alloc | apply IsS99.drewN | apply IsS99.drew | apply IsS99.set_1) | exact HI0.out)) dq94 dq52) hk (fun _ h => h.2)) (fun _ h => h.1)); have n3_ := Aside0.mk (Kd.R_mono (Kd.R_keep (IsS99.apart (show IsS99 w0 _ g s0_0 t621 from by repeat (first | (with_reducible first | exact HI0.out | apply IsS99.alloc | apply IsS99.drewN | apply IsS99.drew | apply IsS99.set_1) | exact HI0.out)) dq95 dq52) hk (fun _ h => h.2)) (fun _ h => h.1)); have n4_ := Aside0.mk (Kd.R_mono (Kd.R_keep (IsS99.apart (show IsS99 w0 _ g s0_0 t621 from by repeat (first | (with_reducible first | exact HI0.out | apply IsS99.alloc | apply IsS99.drewN | apply IsS99.drew | apply IsS99.set_1) | exact HI0.out)) dq98 dq52) hk (fun _ h => h.2)) (fun _ h => h.1)); have n5_ := Aside0.mk (KeepBut.trans dq57 hk (.inl rfl)); have n6_ := Aside0.mk (hb); have n7_ := Aside0.mk (hi); clear HO_3; clear HO607; clear HO613; clear HO619; clear HL632_3; clear HK; clear HB; clear HI0; have HO_3 := n0_; have HO607 := n1_; have HO613 := n2_; have HO619 := n3_; have HL632_3 := n4_; have HK := n5_; have HB := n6_; have HI0 := n7_; clear n0_ n1_ n2_ n3_ n4_ n5_ n6_ n7_; (try clear hb); (try clear hb2); (try clear hk); (try clear hi); have p639 : 0 ≤ (x4_1 : Int) := of_decide_eq_true dq19; have q639 : x4_1 < (y636.length : Int) := (by have h_ : (x4_1 : Int) < ((x3_14.length : Int) : Int) := of_decide_eq_true dq19; first | (have e_ := (Kd.S_reads' HO_3.out).1; omega) | simpa only [Ny636.out, List.length_set] using h_); have ql639 : ((x4_1 : Int) < ((x3_14.length : Int) : Int)) = True := eq_true (of_decide_eq_true dq19); obtain ⟨ad639, A639_3, c639_3, e639, hx639_0, hx639_1, hx639_2, hx639_3, hl639_3, hi639_3⟩ := at_T39 (Kd.S_reads' HO_3.out).2.2 x4_1 p639 q639; obtain rfl : (⟨go47, 0, none⟩ : Addr) = ad639 := (by injection e639); obtain ⟨ce639, hce639, hMe639, hcc639⟩ := Kd.S_get HO_3.out z39 x4_1 p639 (by first | exact q639 | exact of_decide_eq_true dq19 | (have e_ := (Kd.S_reads' HO_3.out).1; omega)); obtain ⟨ve639_3, rfl, ge639_3⟩ := k39_openM hMe639; have hv639_3 := hcc639 3 _ rfl; rw [add_field _ _ 3 dq37] at hv639_3; replace hv639_3 := Option.some.inj (hv639_3.symm.trans hx639_3); rw [hv639_3] at ge639_3; have HL639_3 := Aside0.mk (show Kd.R k46 46 _ _ _ _ ((rd_T39 y636 x4_1).f3) from ge639_3); clear hv639_3 ge639_3; have HX639_3 := Aside0.mk hx639_3; clear hcc639 hce639; (first | simp only [add_plain] at hx639_0 | simp only [add_at] at hx639_0 | simp only [Addr.add, Nat.zero_add] at hx639_0 | skip); (first | simp only [add_plain] at hx639_1 | simp only [add_at] at hx639_1 | simp only [Addr.add, Nat.zero_add] at hx639_1 | skip); (first | simp only [add_plain] at hx639_2 | simp only [add_at] at hx639_2 | simp only [Addr.add, Nat.zero_add] at hx639_2 | skip); (first | simp only [add_plain] at hx639_3 | simp only [add_at] at hx639_3 | simp only [Addr.add, Nat.zero_add] at hx639_3 | skip); have HR639_3 := Aside0.mk hi639_3; have HC639_3 := Aside0.mk hl639_3; clear hi639_3 hl639_3; replace p639 := eq_true p639; replace q639 := eq_true q639) | ((with_reducible refine gate_dst (N := 88) rfl ?_); refine Kd.R_lit k46 _ 46 ?hg (N := 88) ?hd (xs := ([(⟨(⟨#[113, 58, 122]⟩ : ByteArray), (⟨#[49]⟩ : ByteArray)⟩ : S46), (⟨(⟨#[112, 58, 122]⟩ : ByteArray), (⟨#[50]⟩ : ByteArray)⟩ : S46)] : List (S46))) (inner := [.string (⟨#[113, 58, 122]⟩ : ByteArray), .string (⟨#[49]⟩ : ByteArray), .string (⟨#[112, 58, 122]⟩ : ByteArray), .string (⟨#[50]⟩ : ByteArray)]) (ok := fun _ => True) (okp := fun _ => True) ?hr ?hp (fun _ hk => hk) trivial (Below.refl _ _) (Nat.le_refl _) dq21 ?_; (case hd => rfl); (case hg => rfl); (case hr => exact dq1); (case hp => exact (Reps.c2 (show Kd.M k46 _ _ _ (⟨(⟨#[113, 58, 122]⟩ : ByteArray), (⟨#[49]⟩ : ByteArray)⟩ : S46) [.string (⟨#[113, 58, 122]⟩ : ByteArray), .string (⟨#[49]⟩ : ByteArray)] from (k46_mkM _ _ _ (⟨(⟨#[113, 58, 122]⟩ : ByteArray), (⟨#[49]⟩ : ByteArray)⟩ : S46) )) (Reps.c2 (show Kd.M k46 _ _ _ (⟨(⟨#[112, 58, 122]⟩ : ByteArray), (⟨#[50]⟩ : ByteArray)⟩ : S46) [.string (⟨#[112, 58, 122]⟩ : ByteArray), .string (⟨#[50]⟩ : ByteArray)] from (k46_mkM _ _ _ (⟨(⟨#[112, 58, 122]⟩ : ByteArray), (⟨#[50]⟩ : ByteArray)⟩ : S46) )) (Reps.none _ _)))); intro v641 w76 ho77 hb hg_ hnew_; clear hg_ hnew_; (first | rw [← Ny640.out] at ho77 | (simp only [Int.reduceToNat] at ho77; rw [← Ny640.out] at ho77)); have n0_ := Aside0.mk (Kd.S_elder' dq85 (Kd.R_base ho77) hb); have n1_ := Aside0.mk (Kd.R_below dq92 hb); have n2_ := Aside0.mk (Kd.R_below dq94 hb); have n3_ := Aside0.mk (Kd.R_elder' dq95 (Kd.R_base ho77) hb); have n4_ := Aside0.mk (Kd.R_elder' dq98 (Kd.R_base ho77) hb); have n5_ := Aside0.mk (Kd.R_elder' (by (with_reducible repeat (first | apply Kd.R_alloc | apply Kd.R_drewN | apply Kd.R_drew)); exact HL639_3.out) (Kd.R_base ho77) hb); have n6_ := Aside0.mk (Kd.R_lower (Kd.R_new' (Kd.R_new' (Kd.R_new' ho77 (Kd.R_lt dq95)) (Kd.R_lt dq98)) (Kd.R_lt (by (with_reducible repeat (first | apply Kd.R_alloc | apply Kd.R_drewN | apply Kd.R_drew)); exact HL639_3.out))) (keep_size (w := w) (g := g) (row := none) dq57)); have n7_ := Aside0.mk (IsS99.below dq59 hb); have n8_ := Aside0.mk (Kd.C_below (by repeat (first | (with_reducible exact HR639_3.out) | (with_reducible refine Kd.C_alloc ?_ _) | (with_reducible refine Kd.C_drewN ?_ _) | (with_reducible refine Kd.C_drew ?_) | exact HR639_3.out)) hb); have n9_ := Aside0.mk (pw_cell_below hb HX639_3.out); have n10_ := Aside0.mk (KeepBut.trans dq57 (KeepBut.of_below hb g none) (.inl rfl)); have n11_ := Aside0.mk (below_step dq58 hb); clear HO_3; clear HO607; clear HO613; clear HO619; clear HL632_3; clear HL639_3; clear HI0; clear HR639_3; clear HX639_3; clear HK; clear HB; have HO_3 := n0_; have HO607 := n1_; have HO613 := n2_; have HO619 := n3_; have HL632_3 := n4_; have HL639_3 := n5_; have HO642 := n6_; have HI0 := n7_; have HR639_3 := n8_; have HX639_3 := n9_; have HK := n10_; have HB := n11_; clear n0_ n1_ n2_ n3_ n4_ n5_ n6_ n7_ n8_ n9_ n10_ n11_; clear hb ho77; obtain ⟨Ao80, co80, eo80⟩ := Kd.R_slice HO642.out; subst eo80; obtain ⟨oki78, ce78, hcl78, hM78, hcc78, _, _, hH78⟩ := Kd.S_elem HO_3.out z39 (x4_1 : Int) (of_decide_eq_true dq19) (by have h_ : (x4_1 : Int) < ((x3_14.length : Int) : Int) := of_decide_eq_true dq19; first | exact h_ | (have e_ := (Kd.S_reads' HO_3.out).1; omega) | simpa using h_); obtain ⟨ve78_3, rfl, ge78_3⟩ := k39_openM hM78; have hv78 := hcc78 3 _ rfl; have hX78 := HX639_3.out; (try simp only [add_plain] at hX78); (try simp only [Nat.add_zero] at hv78); replace hv78 := Option.some.inj (hv78.symm.trans hX78); subst hv78; clear hX78 hcc78 hcl78; have UU78 := Aside0.mk (show Kd.R k46 46 _ w.heap.size oki78 (.slice A639_3 ((rd_T39 y636 x4_1).f3).length c639_3) ((rd_T39 y636 x4_1).f3) from ge78_3); have HH78 := Aside0.mk hH78; have HN78 := Aside0.mk (Kd.S_reads' HO_3.out).1; clear hH78 ge78_3) | ((with_reducible refine gate_builtin (b := .append) (xs := #[.tmp 85, .tmp 88]) rfl ?_); at_builtin; refine Kd.R_append_rows k46 w.heap.size rfl (.tmp 85) (.tmp 88) 37 46 (.agg #[(.string ⟨#[]⟩), (.string ⟨#[]⟩)]) 32 rfl Tryd.underlying37 info46 rfl dq52 dq37 (.slice A639_3 ((rd_T39 y636 x4_1).f3).length c639_3) ((rd_T39 y636 x4_1).f3) y640 _ _ _ (fun k_ => oki78 k_ ∨ ((fun k_ => some k_ ≠ (.slice Ao102 y617.length co102 : Value).ownBlock ∧ some k_ ≠ (.slice Ao80 y640.length co80 : Value).ownBlock)) k_ ∧ w76.heap.size ≤ k_) (fun _ => False) rfl rfl ?aO ?aR (fun _ _ h => h) (fun _ h => h.elim) ?aF (Below.refl _ _) ?aS ?aL ?_; (case aR => repeat (first | exact (Kd.R_reads' HO642.out).2.2 | (with_reducible refine Kd.C_alloc ?_ _) | (with_reducible refine Kd.C_drewN ?_ _) | (with_reducible refine Kd.C_drew ?_))); (case aF => exact (fun k_ hk => .inr ⟨⟨Kd.fresh' (Kd.R_lt dq95) k_ hk, Kd.fresh' (Kd.R_lt dq97) k_ hk⟩, hk⟩)); (case aO => exact (by (with_reducible repeat (first | apply Kd.R_alloc | apply Kd.R_drewN | apply Kd.R_drew)); exact Kd.R_mono UU78.out (fun _ hk => .inl hk))); (case aS => exact (keep_size (w := w) (g := g) (row := none) dq57)); (case aL => have := LMc50.out; omega); intro v644 w79 ho hb hg hat; rw [← Ny643.out] at ho; have n0_ := Aside0.mk (IsS99.grown dq59 hg (IsS99.own_ne HI0.out HL639_3.out dq52)); have n1_ := Aside0.mk (Kd.R_over' (v := (.slice A639_3 ((rd_T39 y636 x4_1).f3).length c639_3)) dq92 (Kd.R_typed HL639_3.out) dq52 hg); have n2_ := Aside0.mk (Kd.R_over' (v := (.slice A639_3 ((rd_T39 y636 x4_1).f3).length c639_3)) dq94 (Kd.R_typed HL639_3.out) dq52 hg); have n3_ := Aside0.mk (Kd.R_grown2 dq95 rfl hg (fun k_ e_ => (HL639_3.out.1 k_ e_).1.1)); have n4_ := Aside0.mk (Kd.R_grown2 dq97 rfl hg (fun k_ e_ => (HL639_3.out.1 k_ e_).2)); have n5_ := Aside0.mk (below_weaken dq58 HL.out hb); have n6_ := Aside0.mk (KeepBut.trans dq57 (KeepBut.of_grown hg g) (Kd.R_base2 HL639_3.out)); have n7_ := Aside0.mk (Kd.H_grown (Kd.H_widen (by repeat (first | exact HH78.out | refine Kd.H_alloc ?_ _ | refine Kd.H_drewN ?_ _ | refine Kd.H_drew ?_))) hg (fun k_ e_ => .inl (UU78.out.1 k_ e_))); have n8_ := Aside0.mk (ho); clear HI0; clear HO607; clear HO613; clear HO619; clear HO642; clear HB; clear HK; clear HH78; clear HO_3; clear UU78; clear HL632_3; clear HL639_3; have HI0 := n0_; have HO607 := n1_; have HO613 := n2_; have HO619 := n3_; have HO642 := n4_; have HB := n5_; have HK := n6_; have HH78 := n7_; have HO645 := n8_; clear n0_ n1_ n2_ n3_ n4_ n5_ n6_ n7_ n8_; clear ho hb hg hat; have p51 : 0 ≤ (x4_1 : Int) := of_decide_eq_true dq19; have q51 : (x4_1 : Int) < ((x3_14.length : Int) : Int) := of_decide_eq_true dq19; replace p51 := eq_true p51; replace q51 := eq_true q51; obtain ⟨Ao83, co83, eo83⟩ := Kd.R_slice HO645.out; subst eo83; obtain ⟨_, _, hraw81, _, _, hcc81, _⟩ := Kd.H_raw HH78.out (of_decide_eq_true dq19) (by have h_ : (x4_1 : Int) < ((x3_14.length : Int) : Int) := of_decide_eq_true dq19; first | exact h_ | (have e_ := (HN78.out); omega) | simpa using h_); obtain ⟨_, hfr81⟩ := Kd.H_at HH78.out (of_decide_eq_true dq19) (by have h_ : (x4_1 : Int) < ((x3_14.length : Int) : Int) := of_decide_eq_true dq19; first | exact h_ | (have e_ := (HN78.out); omega) | simpa using h_); have hx81_0 := hcc81 3 _ rfl; have hf81_0 := hfr81 3; (try rw [show (k39).sz = 4 from rfl] at hx81_0); (try rw [show (k39).sz = 4 from rfl] at hf81_0); have HP81 := Kd.S_seg0 HH78.out (of_decide_eq_true dq19) (by have h_ : (x4_1 : Int) < ((x3_14.length : Int) : Int) := of_decide_eq_true dq19; first | exact h_ | (have e_ := (HN78.out); omega) | simpa using h_) (seg := [.slice Ao83 y643.length co83]) (j := 3) (show 4 ≤ 4 from by decide) (x' := (⟨(rd_T39 y636 x4_1).f0, (rd_T39 y636 x4_1).f1, (rd_T39 y636 x4_1).f2, y643⟩ : S39)) (k39_mkM _ _ _ (⟨(rd_T39 y636 x4_1).f0, (rd_T39 y636 x4_1).f1, (rd_T39 y636 x4_1).f2, y643⟩ : S39) HO645.out) (fun _ hk => hk); clear hcc81 hfr81) | ((with_reducible refine gate_store (t := 37) (p := 91) rfl ?_); refine store_event (t := 37) (p := 91) (v := ?vo_w82) (w1 := (w79.setCell ⟨go47, (x4_1 : Int).toNat * 4 + 3, none⟩ (.slice Ao83 y643.length co83))) ?hg ?ho ?hn ?hr ?_; (case ho => rfl); (case hg => rfl); (case hn => rfl); (case hr => exact dq1); intro w82 hw; have hg : w79.grownBy w82 (some go47) := (by rw [hw]; exact HP81.2); have hp_ : Kd.S k39 39 w82 w.heap.size (fun k_ => some k_ ≠ (.slice Ao102 y617.length co102 : Value).ownBlock ∧ some k_ ≠ (.slice Ao80 y640.length co80 : Value).ownBlock) (.slice (some ⟨go47, 0, none⟩) x3_14.length co9) y646 := (by rw [hw, Ny646.out]; exact HP81.1); clear HP81; have n0_ := Aside0.mk (IsS99.grown dq59 hg (IsS99.own_ne HI0.out hraw81 dq52)); have n1_ := Aside0.mk (Kd.R_over' (v := (.slice (some ⟨go47, 0, none⟩) x3_14.length co9)) dq92 (Kd.R_typed hraw81) dq52 hg); have n2_ := Aside0.mk (Kd.R_over' (v := (.slice (some ⟨go47, 0, none⟩) x3_14.length co9)) dq94 (Kd.R_typed hraw81) dq52 hg); have n3_ := Aside0.mk (Kd.R_over' (v := (.slice (some ⟨go47, 0, none⟩) x3_14.length co9)) dq95 (Kd.R_typed hraw81) dq52 hg); have n4_ := Aside0.mk (Kd.R_over' (v := (.slice (some ⟨go47, 0, none⟩) x3_14.length co9)) dq97 (Kd.R_typed hraw81) dq52 hg); have n5_ := Aside0.mk ((by rw [hw]; exact below_set HB.out (Nat.le_trans HL.out GB47.out) : Below w0.heap.size w0 w82)); have n6_ := Aside0.mk (KeepBut.trans dq57 (KeepBut.of_grown hg g) (Kd.R_base2 hraw81)); have n7_ := Aside0.mk (hp_); clear HI0; clear HO607; clear HO613; clear HO619; clear HO642; clear HB; clear HK; clear HO645; clear HH78; have HI0 := n0_; have HO607 := n1_; have HO613 := n2_; have HO619 := n3_; have HO642 := n4_; have HB := n5_; have HK := n6_; have HO_3 := n7_; clear n0_ n1_ n2_ n3_ n4_ n5_ n6_ n7_; clear hg hw hp_ hraw81))
     (try simp only [← hl3_14])
     go_roundg kj28
     case measure => have := HK1.out; have := HJ7.out; have := HJ14.out; have := HJ28.out; omega
     case rel => exact ⟨(y646), (wrap64 (x4_1 + 1)), (t638), dq18, H', ⟨dq100⟩, ⟨dq99⟩, ⟨dq59⟩, ⟨dq57⟩, ⟨dq58⟩⟩

/-! ### spec_DrawNamesOf: function 35 -/
def spec_DrawNamesOf.f (k : Nat) (l0 : List Int) : Option ((List (S39))) := (spec_l1Open.f l0).bind fun bt647 => ((spec_l1Rd_spaces.f k bt647.1 bt647.2).bind fun bt650 => (some bt650.1))
set_option maxHeartbeats 8000000 in
set_option maxRecDepth 100000 in
theorem spec_DrawNamesOf.calls (k : Nat) (A0 : Option Addr) (c0 : Nat) (l0 : List Int) (r : List (S39)) (w : World) (hr0 : Kd.C (Kd.int .u8) w A0 l0.length l0) (hc0 : l0.length ≤ c0) (h : spec_DrawNamesOf.f k l0 = some r) :
  Calls Tryd.prog 35 #[.slice A0 l0.length c0] w fun e w' => ∃ v0_ : Value, e = .returned (v0_) ∧ Kd.S k39 39 w' w.heap.size (fun _ => True) v0_ r ∧ Below w.heap.size w w' := by
 have HR0 := Aside0.mk hr0
 have HC0 := Aside0.mk hc0
 clear hr0 hc0
 have HB := Aside0.mk (Below.refl w.heap.size w)
 have H : ((spec_l1Open.f l0).bind fun bt647 => ((spec_l1Rd_spaces.f k bt647.1 bt647.2).bind fun bt650 => (some bt650.1))) = some r := h
 clear h
 replace H := Option.bind_eq_some_iff.mp H
 obtain ⟨⟨t647, t648⟩, A20, H⟩ := H
 replace H : ((spec_l1Rd_spaces.f k t647 t648).bind fun bt650 => (some bt650.1)) = some r := H
 have A2 := Aside0.mk A20
 clear A20
 replace H := Option.bind_eq_some_iff.mp H
 obtain ⟨⟨t650, t653⟩, A30, H⟩ := H
 replace H : (some t650) = some r := H
 have A3 := Aside0.mk A30
 clear A30
 obtain rfl := Option.some.inj H
 go_enter Tryd.func35, Tryd.ntmps35
 go_wp2_with (first | ((with_reducible refine gate_callee (f := 50) rfl ?_); refine goesL_ (some 5) rfl rfl Tryd.func50 dq23 rfl #[.slice A0 l0.length c0] rfl dq22 ?_; (with_reducible refine (spec_l1Open.calls _ _ l0 t647 t648 w _ ?side1 ?side2 ?side3 A2.out).mono ?_); (case side1 => repeat (first | (with_reducible first | exact HB.out | apply below_alloc | apply pw_below_drewN | apply below_drew1) | exact HB.out)); (case side2 => exact HR0.out); (case side3 => exact HC0.out); rintro e w4 ⟨g649, rfl, hi, hb, hb2⟩; refine ⟨_, rfl, ?_⟩; have n0_ := Aside0.mk (hb); have n1_ := Aside0.mk (hi); clear HB; have HB := n0_; have HI649 := n1_; clear n0_ n1_; (try clear hb); (try clear hb2); (try clear hk); (try clear hi)) | ((with_reducible refine gate_callee (f := 62) rfl ?_); refine goesL_ (some 7) rfl rfl Tryd.func62 dq23 rfl #[.pointer (some ⟨g649, 0, none⟩)] rfl dq22 ?_; (with_reducible refine (spec_l1Rd_spaces.calls k g649 t647 t648 t650 t653 w _ ?side1 ?side2 A3.out).mono ?_); (case side1 => repeat (first | (with_reducible first | exact HI649.out | apply IsS99.alloc | apply IsS99.drewN | apply IsS99.drew | apply IsS99.set_1) | exact HI649.out)); (case side2 => repeat (first | (with_reducible first | exact HB.out | apply below_alloc | apply pw_below_drewN | apply below_drew1 | refine below_set ?_ (IsS99.ge HI649.out)) | exact HB.out)); rintro e w5 ⟨v651, rfl, ho0, hi, hb, hk⟩; refine ⟨_, rfl, ?_⟩; have n0_ := Aside0.mk (Kd.S_lower ho0 (below_size dq101)); have n1_ := Aside0.mk (hb); have n2_ := Aside0.mk (hi); clear HB; clear HI649; have HO652 := n0_; have HB := n1_; have HI649 := n2_; clear n0_ n1_ n2_; (try clear hb); (try clear hb2); (try clear hk); (try clear hi); (try clear ho0)))
 go_ret
 exact ⟨_, dq26, by (with_reducible repeat (first | apply Kd.S_alloc | apply Kd.S_drewN | apply Kd.S_drew)); exact HO652.out, dq101⟩

end Go.Proofs.YtpmjpbaeecnpiaaDoor.L
