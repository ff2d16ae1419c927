/- Words and contracts for the row RowFnSample; printed, and merged. -/
import Derived.Test.YtajdfbgbkgabjaaQa2
import Derived.Lib.Hide
import Derived.Outline
import Derived.Maps.RangeWalk
set_option linter.unusedVariables false
set_option linter.unusedSimpArgs false
set_option maxHeartbeats 16000000
set_option maxRecDepth 100000
namespace Go.Proofs.Ytajdfbgbkgabjaa.L
open Go.RowKit YtajdfbgbkgabjaaW.PrintWords YtajdfbgbkgabjaaW.PrintLast YtajdfbgbkgabjaaW.PrintMore
attribute [local go_sem] max2_int min2_int max_two min_two max_three min_three max_four min_four

/-! ### spec_ParticleOk: function 41 -/
mutual
def spec_ParticleOk.j0 : Nat → List (S42) → Bool → Option (Bool)
 | 0, _, _ => none
 | k + 1, x0, x14 => if x14 = true then (some false) else (spec_ParticleOk.l0 k x0 0)
def spec_ParticleOk.l0 : Nat → List (S42) → Int → Option (Bool)
 | 0, _, _ => none
 | k + 1, x0, x3 => if x3 < (x0.length : Int) then (if 0 ≤ x3 then ((spec_l1In.f ((rd_T42 x0 x3).f3) 0 3).bind fun t120 => (if t120 = true then (if ((rd_T42 x0 x3).f0) = 1 then ((spec_NameOk.f k ((rd_T42 x0 x3).f1)).bind fun t121 => (if t121 = true then (if (((rd_T42 x0 x3).f2).length : Int) > 0 then (some false) else (spec_ParticleOk.j2 k x0 x3 ((rd_T42 x0 x3).f0) ((rd_T42 x0 x3).f1) ((rd_T42 x0 x3).f2) ((rd_T42 x0 x3).f3))) else (some false))) else (if ((rd_T42 x0 x3).f0) = 4 then (if ((rd_T42 x0 x3).f1).toList = ([] : List UInt8) then (if (((rd_T42 x0 x3).f2).length : Int) > 0 then (some false) else (spec_ParticleOk.j2 k x0 x3 ((rd_T42 x0 x3).f0) ((rd_T42 x0 x3).f1) ((rd_T42 x0 x3).f2) ((rd_T42 x0 x3).f3))) else (some false)) else (if ((rd_T42 x0 x3).f0) = 2 then (if ((rd_T42 x0 x3).f1).toList = ([] : List UInt8) then (spec_ParticleOk.j2 k x0 x3 ((rd_T42 x0 x3).f0) ((rd_T42 x0 x3).f1) ((rd_T42 x0 x3).f2) ((rd_T42 x0 x3).f3)) else (some false)) else (if ((rd_T42 x0 x3).f0) = 3 then (if ((rd_T42 x0 x3).f1).toList = ([] : List UInt8) then (if (((rd_T42 x0 x3).f2).length : Int) < 2 then (some false) else (spec_ParticleOk.j2 k x0 x3 ((rd_T42 x0 x3).f0) ((rd_T42 x0 x3).f1) ((rd_T42 x0 x3).f2) ((rd_T42 x0 x3).f3))) else (some false)) else (some false))))) else (some false))) else (none)) else ((spec_l8Tree.f k x0 (wrap64 ((x0.length : Int) - 1))).bind fun t114 => (if t114 = 0 then (if 0 ≤ (wrap64 ((x0.length : Int) - 1)) then (if (wrap64 ((x0.length : Int) - 1)) < (x0.length : Int) then (if ((rd_T42 x0 (wrap64 ((x0.length : Int) - 1))).f0) = 1 then (some false) else (if ((rd_T42 x0 (wrap64 ((x0.length : Int) - 1))).f0) = 4 then (some false) else ((spec_l8Deep.f k x0 (wrap64 ((x0.length : Int) - 1))).bind fun t117 => (some (decide (t117 ≤ 10)))))) else (none)) else (none)) else (some false)))
def spec_ParticleOk.j2 : Nat → List (S42) → Int → Int → ByteArray → List Int → Int → Option (Bool)
 | 0, _, _, _, _, _, _ => none
 | k + 1, x0, x3, x120000, x120001, x120002, x120003 => spec_ParticleOk.l1 k x0 x3 0 x120000 x120001 x120002 x120003
def spec_ParticleOk.l1 : Nat → List (S42) → Int → Int → Int → ByteArray → List Int → Int → Option (Bool)
 | 0, _, _, _, _, _, _, _ => none
 | k + 1, x0, x3, x5, x120000, x120001, x120002, x120003 => if x5 < (x120002.length : Int) then (if 0 ≤ x5 then ((spec_l1In.f (rd x120002 x5) 0 (wrap64 (x3 - 1))).bind fun t123 => (if t123 = true then (spec_ParticleOk.l1 k x0 x3 (wrap64 (x5 + 1)) x120000 x120001 x120002 x120003) else (some false))) else (none)) else (spec_ParticleOk.l0 k x0 (wrap64 (x3 + 1)))
end
def spec_ParticleOk.f (k : Nat) (l0 : List (S42)) : Option (Bool) := if (l0.length : Int) < 1 then (spec_ParticleOk.j0 k l0 true) else (spec_ParticleOk.j0 k l0 (decide ((l0.length : Int) > 40)))
theorem spec_ParticleOk.calls (k : Nat) (A0 : Option Addr) (c0 : Nat) (l0 : List (S42)) (r : Bool) (w : World) (hr0 : Kd.C k42 w A0 l0.length l0) (hc0 : l0.length ≤ c0) (h : spec_ParticleOk.f k l0 = some r) :
  Calls Try.prog 41 #[.slice A0 l0.length c0] w fun e w' => e = .returned (.bool r) ∧ Below w.heap.size w w' := by
 have hu42 := Try.underlying42
 have HR0 := Zq.i hr0
 have HC0 := Zq.i hc0
 clear hr0 hc0
 have HB := Zq.i (Below.refl w.heap.size w)
 have H := h
 unfold spec_ParticleOk.f at H
 clear h
 have HC2 := Zq.i H
 clear H
 go_enter Try.func41, Try.ntmps41
 go_upto_region 1 with (fail)
 go_cut [14] (fun v14 wc => ∃ (kq : Nat) (x14_1 : Bool), v14 = .bool x14_1 ∧ Zq (spec_ParticleOk.j0 kq l0 x14_1 = some r) ∧ Zq (kq ≤ k) ∧ Zq (Below w.heap.size w wc))
 case first =>
  have H := HC2.out
  clear HC2
  by_cases c3 : (l0.length : Int) < 1
  ·rw [if_pos c3] at H
   have c3b0 := dT c3
   have c3b1 : decide (l0.length < 1) = true := dT dq28
   clear c3
   (first | rw [c3b0] | (simp only [i64_w, i32_w]; rw [c3b0]) | skip)
   have H' := Zq.i H
   clear H
   go_wp2
   go_meet
   case rel => exact ⟨_, (true), dq14, H', ⟨dq26⟩, ⟨dq17⟩⟩
  rw [if_neg c3] at H
  have c3b0 := dF c3
  have c3b1 : decide (l0.length < 1) = false := dF dq28
  clear c3
  (first | rw [c3b0] | (simp only [i64_w, i32_w]; rw [c3b0]) | skip)
  have H' := Zq.i H
  clear H
  go_wp2
  go_meet
  case rel => exact ⟨_, (decide ((l0.length : Int) > 40)), dq14, H', ⟨dq26⟩, ⟨dq17⟩⟩
 clear HC2
 obtain ⟨kq, x14_1, rfl, HA, HJ1, HB⟩ := hcut
 cases kq with
 | zero => exact absurd HA.out (by simp [spec_ParticleOk.j0])
 | succ kj1 =>
  have H := HA.out
  clear HA
  simp only [spec_ParticleOk.j0] at H
  by_cases c4 : x14_1 = true
  ·subst c4
   rw [if_pos rfl] at H
   obtain rfl := oI H
   go_wp2
   go_ret
   exact ⟨dq21, dq17⟩
  replace c4 := Bool.eq_false_iff.mpr c4
  subst c4
  rw [iN] at H
  have H' := Zq.i H
  clear H
  go_wp2
  go_loopg [3] kj1 (fun kq v3 w' => ∃ (x3_2 : Int), v3 = .int .i64 x3_2 ∧ Zq (spec_ParticleOk.l0 kq l0 x3_2 = some r) ∧ Zq (kq ≤ kj1) ∧ Zq (Below w.heap.size w w'))
  case atStart => exact ⟨(0), dq14, H', ⟨Nat.le_refl _⟩, ⟨dq17⟩⟩
  clear H'
  obtain ⟨x3_2, rfl, HA, HK2, HB⟩ := hrel
  cases gk with
  | zero => exact absurd HA.out (by simp [spec_ParticleOk.l0])
  | succ k2 =>
   have H := HA.out
   clear HA
   simp only [spec_ParticleOk.l0] at H
   by_cases c5 : x3_2 < (l0.length : Int)
   rotate_left
   ·rw [if_neg c5] at H
    have c5b0 := dF c5
    clear c5
    replace H := bM H
    obtain ⟨t114, A440, H⟩ := H
    try dsimp only at H
    have A44 := Zq.i A440
    clear A440
    by_cases c45 : t114 = 0
    rotate_left
    ·rw [if_neg c45] at H
     have c45b0 := bN c45
     have c45b1 := bO c45
     obtain rfl := oI H
     go_wp2_with (first | ((with_reducible refine gate_callee (f := 79) rfl ?_); refine goesL_ (some 91) rfl rfl Try.func79 dq24 rfl #[.slice A0 l0.length c0, .int .i64 (wrap64 ((l0.length : Int) - 1))] rfl dq23 ?_; (with_reducible refine (spec_l8Tree.calls k2 _ _ l0 (wrap64 ((l0.length : Int) - 1)) t114 _ ?side1 ?side2 A44.out).mono ?_); (case side1 => exact dq5); (case side2 => exact dq4); rintro e w' ⟨rfl, ⟨nd, rfl⟩⟩; refine ⟨_, rfl, ?_⟩))
     go_ret
     exact ⟨dq21, dq17⟩
    rw [if_pos c45] at H
    have c45b0 := bE c45
    have c45b1 := bQ c45
    clear c45
    obtain ⟨ji46, hji46⟩ : ∃ j_ : Int, (wrap64 ((l0.length : Int) - 1)) = j_ := ⟨_, rfl⟩
    replace H : (if 0 ≤ (ji46) then (if (ji46) < (l0.length : Int) then (if ((rd_T42 l0 (ji46)).f0) = 1 then (some false) else (if ((rd_T42 l0 (ji46)).f0) = 4 then (some false) else ((spec_l8Deep.f k2 l0 (ji46)).bind fun t117 => (some (decide (t117 ≤ 10)))))) else (none)) else (none)) = some r := by first | (rw [hji46] at H; exact H) | (simp only [hji46] at H ⊢; exact H)
    (try rw [hji46] at A44)
    have hji46w : (IntKind.i64.wrap ((l0.length : Int) - 1)) = ji46 := (i64_w _).trans hji46
    by_cases c47 : 0 ≤ (ji46)
    rotate_left
    ·rw [if_neg c47] at H
     exact absurd H dq15
    rw [if_pos c47] at H
    have c47b0 := dT c47
    clear c47
    by_cases c48 : (ji46) < (l0.length : Int)
    rotate_left
    ·rw [if_neg c48] at H
     exact absurd H dq15
    rw [if_pos c48] at H
    have c48b0 := dT c48
    clear c48
    by_cases c49 : ((rd_T42 l0 (ji46)).f0) = 1
    ·rw [if_pos c49] at H
     have c49b0 := bE c49
     have c49b1 := bQ c49
     clear c49
     obtain rfl := oI H
     go_wp2_with (first | ((with_reducible refine gate_callee (f := 79) rfl ?_); refine goesL_ (some 91) rfl rfl Try.func79 dq24 rfl #[.slice A0 l0.length c0, .int .i64 ji46] rfl dq35 ?_; (with_reducible refine (spec_l8Tree.calls k2 _ _ l0 ji46 t114 _ ?side1 ?side2 A44.out).mono ?_); (case side1 => exact dq5); (case side2 => exact dq4); rintro e w' ⟨rfl, ⟨nd, rfl⟩⟩; refine ⟨_, rfl, ?_⟩; have p115 : 0 ≤ ((ji46) : Int) := oT dq22; have q115 : (ji46) < (l0.length : Int) := oT dq22; obtain ⟨ad115, A115_2, c115_2, e115, hx115_0, hx115_1, hx115_2, hx115_3, hl115_2, hi115_2⟩ := at_T42 HR0.out (ji46) p115 q115; cases e115; replace hx115_0 := (HB.out.cell (bC w _ hx115_0)).trans hx115_0; replace hx115_1 := (HB.out.cell (bC w _ hx115_1)).trans hx115_1; replace hx115_2 := (HB.out.cell (bC w _ hx115_2)).trans hx115_2; replace hx115_3 := (HB.out.cell (bC w _ hx115_3)).trans hx115_3; have HR115_2 := Zq.i hi115_2; have HC115_2 := Zq.i hl115_2; clear hi115_2 hl115_2; replace p115 := eq_true p115; replace q115 := eq_true q115))
     go_ret
     exact ⟨dq36, dq17⟩
    rw [if_neg c49] at H
    have c49b0 := bN c49
    have c49b1 := bO c49
    by_cases c50 : ((rd_T42 l0 (ji46)).f0) = 4
    ·rw [if_pos c50] at H
     have c50b0 := bE c50
     have c50b1 := bQ c50
     clear c50
     obtain rfl := oI H
     go_wp2_with (first | ((with_reducible refine gate_callee (f := 79) rfl ?_); refine goesL_ (some 91) rfl rfl Try.func79 dq24 rfl #[.slice A0 l0.length c0, .int .i64 ji46] rfl dq35 ?_; (with_reducible refine (spec_l8Tree.calls k2 _ _ l0 ji46 t114 _ ?side1 ?side2 A44.out).mono ?_); (case side1 => exact dq5); (case side2 => exact dq4); rintro e w' ⟨rfl, ⟨nd, rfl⟩⟩; refine ⟨_, rfl, ?_⟩; have p115 : 0 ≤ ((ji46) : Int) := oT dq22; have q115 : (ji46) < (l0.length : Int) := oT dq22; obtain ⟨ad115, A115_2, c115_2, e115, hx115_0, hx115_1, hx115_2, hx115_3, hl115_2, hi115_2⟩ := at_T42 HR0.out (ji46) p115 q115; cases e115; replace hx115_0 := (HB.out.cell (bC w _ hx115_0)).trans hx115_0; replace hx115_1 := (HB.out.cell (bC w _ hx115_1)).trans hx115_1; replace hx115_2 := (HB.out.cell (bC w _ hx115_2)).trans hx115_2; replace hx115_3 := (HB.out.cell (bC w _ hx115_3)).trans hx115_3; have HR115_2 := Zq.i hi115_2; have HC115_2 := Zq.i hl115_2; clear hi115_2 hl115_2; replace p115 := eq_true p115; replace q115 := eq_true q115; have p116 : 0 ≤ ((ji46) : Int) := oT dq22; have q116 : (ji46) < (l0.length : Int) := oT dq22; obtain ⟨ad116, A116_2, c116_2, e116, hx116_0, hx116_1, hx116_2, hx116_3, hl116_2, hi116_2⟩ := at_T42 HR0.out (ji46) p116 q116; obtain rfl : ad115 = ad116 := (by injection e116); replace hx116_0 := (HB.out.cell (bC w _ hx116_0)).trans hx116_0; replace hx116_1 := (HB.out.cell (bC w _ hx116_1)).trans hx116_1; replace hx116_2 := (HB.out.cell (bC w _ hx116_2)).trans hx116_2; replace hx116_3 := (HB.out.cell (bC w _ hx116_3)).trans hx116_3; have HR116_2 := Zq.i hi116_2; have HC116_2 := Zq.i hl116_2; clear hi116_2 hl116_2; replace p116 := eq_true p116; replace q116 := eq_true q116; have ea_ := oI (hx115_2.symm.trans hx116_2); injection ea_ with ea_ en_ ec_; subst ea_; subst ec_; clear en_))
     go_ret
     exact ⟨dq36, dq17⟩
    rw [if_neg c50] at H
    have c50b0 := bN c50
    have c50b1 := bO c50
    replace H := bM H
    obtain ⟨t117, A510, H⟩ := H
    try dsimp only at H
    have A51 := Zq.i A510
    clear A510
    obtain rfl := oI H
    go_wp2_with (first | ((with_reducible refine gate_callee (f := 79) rfl ?_); refine goesL_ (some 91) rfl rfl Try.func79 dq24 rfl #[.slice A0 l0.length c0, .int .i64 ji46] rfl dq35 ?_; (with_reducible refine (spec_l8Tree.calls k2 _ _ l0 ji46 t114 _ ?side1 ?side2 A44.out).mono ?_); (case side1 => exact dq5); (case side2 => exact dq4); rintro e w' ⟨rfl, ⟨nd, rfl⟩⟩; refine ⟨_, rfl, ?_⟩; have p115 : 0 ≤ ((ji46) : Int) := oT dq22; have q115 : (ji46) < (l0.length : Int) := oT dq22; obtain ⟨ad115, A115_2, c115_2, e115, hx115_0, hx115_1, hx115_2, hx115_3, hl115_2, hi115_2⟩ := at_T42 HR0.out (ji46) p115 q115; cases e115; replace hx115_0 := (HB.out.cell (bC w _ hx115_0)).trans hx115_0; replace hx115_1 := (HB.out.cell (bC w _ hx115_1)).trans hx115_1; replace hx115_2 := (HB.out.cell (bC w _ hx115_2)).trans hx115_2; replace hx115_3 := (HB.out.cell (bC w _ hx115_3)).trans hx115_3; have HR115_2 := Zq.i hi115_2; have HC115_2 := Zq.i hl115_2; clear hi115_2 hl115_2; replace p115 := eq_true p115; replace q115 := eq_true q115; have p116 : 0 ≤ ((ji46) : Int) := oT dq22; have q116 : (ji46) < (l0.length : Int) := oT dq22; obtain ⟨ad116, A116_2, c116_2, e116, hx116_0, hx116_1, hx116_2, hx116_3, hl116_2, hi116_2⟩ := at_T42 HR0.out (ji46) p116 q116; obtain rfl : ad115 = ad116 := (by injection e116); replace hx116_0 := (HB.out.cell (bC w _ hx116_0)).trans hx116_0; replace hx116_1 := (HB.out.cell (bC w _ hx116_1)).trans hx116_1; replace hx116_2 := (HB.out.cell (bC w _ hx116_2)).trans hx116_2; replace hx116_3 := (HB.out.cell (bC w _ hx116_3)).trans hx116_3; have HR116_2 := Zq.i hi116_2; have HC116_2 := Zq.i hl116_2; clear hi116_2 hl116_2; replace p116 := eq_true p116; replace q116 := eq_true q116; have ea_ := oI (hx115_2.symm.trans hx116_2); injection ea_ with ea_ en_ ec_; subst ea_; subst ec_; clear en_) | (go_at_call 80; (with_reducible refine (spec_l8Deep.calls k2 _ _ l0 ji46 t117 _ ?side1 ?side2 A51.out).mono ?_); (case side1 => repeat (first | exact (Kd.C_below HR0.out dq17) | (with_reducible refine Kd.C_alloc ?_ _) | (with_reducible refine Kd.C_drewN ?_ _) | (with_reducible refine Kd.C_drew ?_))); (case side2 => exact dq4); rintro e w52 ⟨rfl, hb⟩; replace HB := Zq.i (below_step dq17 hb); (try clear hb)))
    go_ret
    exact ⟨dq36, dq17⟩
   rw [if_pos c5] at H
   have c5b0 := dT c5
   clear c5
   by_cases c6 : 0 ≤ x3_2
   rotate_left
   ·rw [if_neg c6] at H
    exact absurd H dq15
   rw [if_pos c6] at H
   have c6b0 := dT c6
   clear c6
   replace H := bM H
   obtain ⟨t120, A70, H⟩ := H
   try dsimp only at H
   have A7 := Zq.i A70
   clear A70
   by_cases c8 : t120 = true
   rotate_left
   ·replace c8 := Bool.eq_false_iff.mpr c8
    subst c8
    rw [iN] at H
    obtain rfl := oI H
    have p118 : 0 ≤ (x3_2 : Int) := oT dq22
    have q118 : x3_2 < (l0.length : Int) := oT dq22
    obtain ⟨ad118, A118_2, c118_2, e118, hx118_0, hx118_1, hx118_2, hx118_3, hl118_2, hi118_2⟩ := at_T42 HR0.out x3_2 p118 q118
    cases e118
    replace hx118_0 := (HB.out.cell (bC w _ hx118_0)).trans hx118_0
    replace hx118_1 := (HB.out.cell (bC w _ hx118_1)).trans hx118_1
    replace hx118_2 := (HB.out.cell (bC w _ hx118_2)).trans hx118_2
    replace hx118_3 := (HB.out.cell (bC w _ hx118_3)).trans hx118_3
    have HR118_2 := Zq.i hi118_2
    have HC118_2 := Zq.i hl118_2
    clear hi118_2 hl118_2
    replace p118 := eq_true p118
    replace q118 := eq_true q118
    go_wp2_with (first | ((with_reducible refine gate_dst (N := 4) rfl ?_); (try (refine gate_guard dq31 ?_; dsimp only)); refine box_event ?hg (N := 4) ?hd (cs := #[.int .i64 0, .string (⟨#[]⟩ : ByteArray), .slice none 0 0, .int .i64 0]) (t := 42) ?hr ?_; (case hd => rfl); (case hg => rfl); (case hr => exact dq0); intro gb119 hg w42 hbox hb; have BK119 := Zq.i (hbox); have GW119 := Zq.i ((dq30 : w.heap.size ≤ gb119)); have GE119 := Zq.i ((dq30 : w.heap.size ≤ gb119)); replace HB := Zq.i (below_step dq17 hb); clear hb hbox hg; obtain ⟨⟨hcz43_0, hcz43_1, hcz43_2, hcz43_3⟩, hfz43_0, hfz43_1, hfz43_2, hfz43_3⟩ := blkC4 BK119.out) | ((with_reducible refine gate_callee (f := 77) rfl ?_); refine goesL_ (some 27) rfl rfl Try.func77 dq24 rfl #[.int .i64 ((rd_T42 l0 x3_2).f3), .int .i64 0, .int .i64 3] rfl dq23 ?_; (with_reducible refine (spec_l1In.calls ((rd_T42 l0 x3_2).f3) 0 3 false _ A7.out).mono ?_); rintro e w' ⟨rfl, ⟨nd, rfl⟩⟩; refine ⟨_, rfl, ?_⟩))
    go_ret
    exact ⟨dq21, dq32⟩
   subst c8
   rw [if_pos rfl] at H
   have HC9 := Zq.i H
   clear H
   have p118 : 0 ≤ (x3_2 : Int) := oT dq22
   have q118 : x3_2 < (l0.length : Int) := oT dq22
   obtain ⟨ad118, A118_2, c118_2, e118, hx118_0, hx118_1, hx118_2, hx118_3, hl118_2, hi118_2⟩ := at_T42 HR0.out x3_2 p118 q118
   cases e118
   replace hx118_0 := (HB.out.cell (bC w _ hx118_0)).trans hx118_0
   replace hx118_1 := (HB.out.cell (bC w _ hx118_1)).trans hx118_1
   replace hx118_2 := (HB.out.cell (bC w _ hx118_2)).trans hx118_2
   replace hx118_3 := (HB.out.cell (bC w _ hx118_3)).trans hx118_3
   have HR118_2 := Zq.i hi118_2
   have HC118_2 := Zq.i hl118_2
   clear hi118_2 hl118_2
   replace p118 := eq_true p118
   replace q118 := eq_true q118
   go_upto_block 2 with (first | ((with_reducible refine gate_dst (N := 4) rfl ?_); (try (refine gate_guard dq31 ?_; dsimp only)); refine box_event ?hg (N := 4) ?hd (cs := #[.int .i64 0, .string (⟨#[]⟩ : ByteArray), .slice none 0 0, .int .i64 0]) (t := 42) ?hr ?_; (case hd => rfl); (case hg => rfl); (case hr => exact dq0); intro gb119 hg w10 hbox hb; have BK119 := Zq.i (hbox); have GW119 := Zq.i ((dq30 : w.heap.size ≤ gb119)); have GE119 := Zq.i ((dq30 : w.heap.size ≤ gb119)); replace HB := Zq.i (below_step dq17 hb); clear hb hbox hg; obtain ⟨⟨hcz11_0, hcz11_1, hcz11_2, hcz11_3⟩, hfz11_0, hfz11_1, hfz11_2, hfz11_3⟩ := blkC4 BK119.out) | ((with_reducible refine gate_callee (f := 77) rfl ?_); refine goesL_ (some 27) rfl rfl Try.func77 dq24 rfl #[.int .i64 ((rd_T42 l0 x3_2).f3), .int .i64 0, .int .i64 3] rfl dq23 ?_; (with_reducible refine (spec_l1In.calls ((rd_T42 l0 x3_2).f3) 0 3 true _ A7.out).mono ?_); rintro e w' ⟨rfl, ⟨nd, rfl⟩⟩; refine ⟨_, rfl, ?_⟩))
   (try simp only [Act.put, List.setIfInBounds_toArray, List.set_cons_zero, List.set_cons_succ])
   go_cut [] (fun wc => ∃ (kq : Nat), Zq (spec_ParticleOk.j2 kq l0 x3_2 ((rd_T42 l0 x3_2).f0) ((rd_T42 l0 x3_2).f1) ((rd_T42 l0 x3_2).f2) ((rd_T42 l0 x3_2).f3) = some r) ∧ Zq (kq ≤ k2) ∧ Zq (wc.heap[gb119]? = some (.cells #[.int .i64 ((rd_T42 l0 x3_2).f0), .string ((rd_T42 l0 x3_2).f1), (.slice A118_2 ((rd_T42 l0 x3_2).f2).length c118_2), .int .i64 ((rd_T42 l0 x3_2).f3)] 42 (0, 0))) ∧ Zq (Below w.heap.size w wc))
   case rest =>
    clear HC9
    try clear c5b0
    try clear c6b0
    try clear hcz11_0
    try clear hcz11_1
    try clear hcz11_2
    try clear hcz11_3
    try clear hfz11_0
    try clear hfz11_1
    try clear hfz11_2
    try clear hfz11_3
    try clear hx118_0
    try clear hx118_1
    try clear hx118_2
    try clear hx118_3
    try clear p118
    try clear q118
    obtain ⟨kq, HA, HJ8, BK119, HB⟩ := hcut
    cases kq with
    | zero => exact absurd HA.out (by simp [spec_ParticleOk.j2])
    | succ kj8 =>
     have H := HA.out
     clear HA
     simp only [spec_ParticleOk.j2] at H
     have H' := Zq.i H
     clear H
     go_wp2
     go_loopg [5] kj8 (fun kq v5 w' => ∃ (x5_4 : Int), v5 = .int .i64 x5_4 ∧ Zq (spec_ParticleOk.l1 kq l0 x3_2 x5_4 ((rd_T42 l0 x3_2).f0) ((rd_T42 l0 x3_2).f1) ((rd_T42 l0 x3_2).f2) ((rd_T42 l0 x3_2).f3) = some r) ∧ Zq (kq ≤ kj8) ∧ Zq (w'.heap[gb119]? = some (.cells #[.int .i64 ((rd_T42 l0 x3_2).f0), .string ((rd_T42 l0 x3_2).f1), (.slice A118_2 ((rd_T42 l0 x3_2).f2).length c118_2), .int .i64 ((rd_T42 l0 x3_2).f3)] 42 (0, 0))) ∧ Zq (Below w.heap.size w w'))
     case atStart => exact ⟨(0), dq14, H', ⟨Nat.le_refl _⟩, ⟨by refine blk_up ?_; exact BK119.out⟩, ⟨dq32⟩⟩
     clear H'
     obtain ⟨x5_4, rfl, HA, HK4, BK119, HB⟩ := hrel
     cases gk with
     | zero => exact absurd HA.out (by simp [spec_ParticleOk.l1])
     | succ k4 =>
      have H := HA.out
      clear HA
      simp only [spec_ParticleOk.l1] at H
      by_cases c35 : x5_4 < (((rd_T42 l0 x3_2).f2).length : Int)
      rotate_left
      ·rw [if_neg c35] at H
       have c35b0 := dF c35
       clear c35
       have H' := Zq.i H
       clear H
       obtain ⟨⟨hcz41_0, hcz41_1, hcz41_2, hcz41_3⟩, hfz41_0, hfz41_1, hfz41_2, hfz41_3⟩ := blkC4 BK119.out
       go_wp2
       go_roundg k4
       case measure => have := HJ1.out; have := HK2.out; have := HJ8.out; have := HK4.out; omega
       case rel => exact ⟨(wrap64 (x3_2 + 1)), dq14, H', ⟨by have := HJ1.out; have := HK2.out; have := HJ8.out; have := HK4.out; omega⟩, ⟨dq32⟩⟩
      rw [if_pos c35] at H
      have c35b0 := dT c35
      clear c35
      by_cases c36 : 0 ≤ x5_4
      rotate_left
      ·rw [if_neg c36] at H
       exact absurd H dq15
      rw [if_pos c36] at H
      have c36b0 := dT c36
      clear c36
      replace H := bM H
      obtain ⟨t123, A370, H⟩ := H
      try dsimp only at H
      have A37 := Zq.i A370
      clear A370
      by_cases c38 : t123 = true
      rotate_left
      ·replace c38 := Bool.eq_false_iff.mpr c38
       subst c38
       rw [iN] at H
       obtain rfl := oI H
       obtain ⟨⟨hcz40_0, hcz40_1, hcz40_2, hcz40_3⟩, hfz40_0, hfz40_1, hfz40_2, hfz40_3⟩ := blkC4 BK119.out
       have p122 : 0 ≤ (x5_4 : Int) := oT dq22
       have q122 : x5_4 < (((rd_T42 l0 x3_2).f2).length : Int) := oT dq22
       obtain ⟨ad122, e122, hx122_0⟩ := Kd.at_int HR118_2.out x5_4 p122 q122
       cases e122
       replace hx122_0 := (HB.out.cell (bC w _ hx122_0)).trans hx122_0
       replace p122 := eq_true p122
       replace q122 := eq_true q122
       go_wp2_with (first | ((with_reducible refine gate_callee (f := 77) rfl ?_); refine goesL_ (some 84) rfl rfl Try.func77 dq24 rfl #[.int .i64 (rd ((rd_T42 l0 x3_2).f2) x5_4), .int .i64 0, .int .i64 (wrap64 (x3_2 - 1))] rfl dq23 ?_; (with_reducible refine (spec_l1In.calls (rd ((rd_T42 l0 x3_2).f2) x5_4) 0 (wrap64 (x3_2 - 1)) false _ A37.out).mono ?_); rintro e w' ⟨rfl, ⟨nd, rfl⟩⟩; refine ⟨_, rfl, ?_⟩))
       go_ret
       exact ⟨dq21, dq32⟩
      subst c38
      rw [if_pos rfl] at H
      have H' := Zq.i H
      clear H
      obtain ⟨⟨hcz39_0, hcz39_1, hcz39_2, hcz39_3⟩, hfz39_0, hfz39_1, hfz39_2, hfz39_3⟩ := blkC4 BK119.out
      have p122 : 0 ≤ (x5_4 : Int) := oT dq22
      have q122 : x5_4 < (((rd_T42 l0 x3_2).f2).length : Int) := oT dq22
      obtain ⟨ad122, e122, hx122_0⟩ := Kd.at_int HR118_2.out x5_4 p122 q122
      cases e122
      replace hx122_0 := (HB.out.cell (bC w _ hx122_0)).trans hx122_0
      replace p122 := eq_true p122
      replace q122 := eq_true q122
      go_wp2_with (first | ((with_reducible refine gate_callee (f := 77) rfl ?_); refine goesL_ (some 84) rfl rfl Try.func77 dq24 rfl #[.int .i64 (rd ((rd_T42 l0 x3_2).f2) x5_4), .int .i64 0, .int .i64 (wrap64 (x3_2 - 1))] rfl dq23 ?_; (with_reducible refine (spec_l1In.calls (rd ((rd_T42 l0 x3_2).f2) x5_4) 0 (wrap64 (x3_2 - 1)) true _ A37.out).mono ?_); rintro e w' ⟨rfl, ⟨nd, rfl⟩⟩; refine ⟨_, rfl, ?_⟩))
      go_roundg k4
      case measure => have := HJ1.out; have := HK2.out; have := HJ8.out; have := HK4.out; omega
      case rel => exact ⟨(wrap64 (x5_4 + 1)), dq14, H', ⟨by have := HJ1.out; have := HK2.out; have := HJ8.out; have := HK4.out; omega⟩, ⟨by refine blk_up ?_; exact BK119.out⟩, ⟨dq32⟩⟩
   have H := HC9.out
   clear HC9
   by_cases c12 : ((rd_T42 l0 x3_2).f0) = 1
   ·rw [if_pos c12] at H
    have c12b0 := bE c12
    have c12b1 := bQ c12
    clear c12
    (first | rw [c12b0] | (simp only [i64_w, i32_w]; rw [c12b0]) | skip)
    replace H := bM H
    obtain ⟨t121, A130, H⟩ := H
    try dsimp only at H
    have A13 := Zq.i A130
    clear A130
    by_cases c14 : t121 = true
    rotate_left
    ·replace c14 := Bool.eq_false_iff.mpr c14
     subst c14
     rw [iN] at H
     obtain rfl := oI H
     obtain ⟨⟨hcz18_0, hcz18_1, hcz18_2, hcz18_3⟩, hfz18_0, hfz18_1, hfz18_2, hfz18_3⟩ := blkC4 BK119.out
     go_wp2_with (first | ((with_reducible refine gate_callee (f := 78) rfl ?_); refine goesL_ (some 35) rfl rfl Try.func78 dq24 rfl #[.string ((rd_T42 l0 x3_2).f1)] rfl dq23 ?_; (with_reducible refine (spec_NameOk.calls k2 ((rd_T42 l0 x3_2).f1) false _ A13.out).mono ?_); rintro e w' ⟨rfl, ⟨nd, rfl⟩⟩; refine ⟨_, rfl, ?_⟩))
     go_ret
     exact ⟨dq21, dq32⟩
    subst c14
    rw [if_pos rfl] at H
    by_cases c15 : (((rd_T42 l0 x3_2).f2).length : Int) > 0
    ·rw [if_pos c15] at H
     have c15b0 : decide (0 < (((rd_T42 l0 x3_2).f2).length : Int)) = true := dT c15
     have c15b1 : decide (0 < ((rd_T42 l0 x3_2).f2).length) = true := dT dq28
     clear c15
     obtain rfl := oI H
     obtain ⟨⟨hcz16_0, hcz16_1, hcz16_2, hcz16_3⟩, hfz16_0, hfz16_1, hfz16_2, hfz16_3⟩ := blkC4 BK119.out
     go_wp2_with (first | ((with_reducible refine gate_callee (f := 78) rfl ?_); refine goesL_ (some 35) rfl rfl Try.func78 dq24 rfl #[.string ((rd_T42 l0 x3_2).f1)] rfl dq23 ?_; (with_reducible refine (spec_NameOk.calls k2 ((rd_T42 l0 x3_2).f1) true _ A13.out).mono ?_); rintro e w' ⟨rfl, ⟨nd, rfl⟩⟩; refine ⟨_, rfl, ?_⟩))
     go_ret
     exact ⟨dq21, dq32⟩
    rw [if_neg c15] at H
    have c15b0 : decide (0 < (((rd_T42 l0 x3_2).f2).length : Int)) = false := dF c15
    have c15b1 : decide (0 < ((rd_T42 l0 x3_2).f2).length) = false := dF dq28
    clear c15
    have H' := Zq.i H
    clear H
    obtain ⟨⟨hcz17_0, hcz17_1, hcz17_2, hcz17_3⟩, hfz17_0, hfz17_1, hfz17_2, hfz17_3⟩ := blkC4 BK119.out
    go_wp2_with (first | ((with_reducible refine gate_callee (f := 78) rfl ?_); refine goesL_ (some 35) rfl rfl Try.func78 dq24 rfl #[.string ((rd_T42 l0 x3_2).f1)] rfl dq23 ?_; (with_reducible refine (spec_NameOk.calls k2 ((rd_T42 l0 x3_2).f1) true _ A13.out).mono ?_); rintro e w' ⟨rfl, ⟨nd, rfl⟩⟩; refine ⟨_, rfl, ?_⟩))
    go_meet
    case rel => exact ⟨_, H', ⟨dq34⟩, ⟨dq33⟩, ⟨dq32⟩⟩
   rw [if_neg c12] at H
   have c12b0 := bN c12
   have c12b1 := bO c12
   (first | rw [c12b0] | (simp only [i64_w, i32_w]; rw [c12b0]) | skip)
   by_cases c19 : ((rd_T42 l0 x3_2).f0) = 4
   ·rw [if_pos c19] at H
    have c19b0 := bE c19
    have c19b1 := bQ c19
    clear c19
    by_cases c20 : ((rd_T42 l0 x3_2).f1).toList = ([] : List UInt8)
    rotate_left
    ·rw [if_neg c20] at H
     have c20b0 := bN c20
     have c20b1 := bO c20
     obtain rfl := oI H
     obtain ⟨⟨hcz24_0, hcz24_1, hcz24_2, hcz24_3⟩, hfz24_0, hfz24_1, hfz24_2, hfz24_3⟩ := blkC4 BK119.out
     go_wp2
     go_ret
     exact ⟨dq21, dq32⟩
    rw [if_pos c20] at H
    have c20b0 := bE c20
    have c20b1 := bQ c20
    clear c20
    by_cases c21 : (((rd_T42 l0 x3_2).f2).length : Int) > 0
    ·rw [if_pos c21] at H
     have c21b0 : decide (0 < (((rd_T42 l0 x3_2).f2).length : Int)) = true := dT c21
     have c21b1 : decide (0 < ((rd_T42 l0 x3_2).f2).length) = true := dT dq28
     clear c21
     obtain rfl := oI H
     obtain ⟨⟨hcz22_0, hcz22_1, hcz22_2, hcz22_3⟩, hfz22_0, hfz22_1, hfz22_2, hfz22_3⟩ := blkC4 BK119.out
     go_wp2
     go_ret
     exact ⟨dq21, dq32⟩
    rw [if_neg c21] at H
    have c21b0 : decide (0 < (((rd_T42 l0 x3_2).f2).length : Int)) = false := dF c21
    have c21b1 : decide (0 < ((rd_T42 l0 x3_2).f2).length) = false := dF dq28
    clear c21
    have H' := Zq.i H
    clear H
    obtain ⟨⟨hcz23_0, hcz23_1, hcz23_2, hcz23_3⟩, hfz23_0, hfz23_1, hfz23_2, hfz23_3⟩ := blkC4 BK119.out
    go_wp2
    go_meet
    case rel => exact ⟨_, H', ⟨dq34⟩, ⟨dq33⟩, ⟨dq32⟩⟩
   rw [if_neg c19] at H
   have c19b0 := bN c19
   have c19b1 := bO c19
   by_cases c25 : ((rd_T42 l0 x3_2).f0) = 2
   ·rw [if_pos c25] at H
    have c25b0 := bE c25
    have c25b1 := bQ c25
    clear c25
    by_cases c26 : ((rd_T42 l0 x3_2).f1).toList = ([] : List UInt8)
    rotate_left
    ·rw [if_neg c26] at H
     have c26b0 := bN c26
     have c26b1 := bO c26
     obtain rfl := oI H
     obtain ⟨⟨hcz28_0, hcz28_1, hcz28_2, hcz28_3⟩, hfz28_0, hfz28_1, hfz28_2, hfz28_3⟩ := blkC4 BK119.out
     go_wp2
     go_ret
     exact ⟨dq21, dq32⟩
    rw [if_pos c26] at H
    have c26b0 := bE c26
    have c26b1 := bQ c26
    clear c26
    have H' := Zq.i H
    clear H
    obtain ⟨⟨hcz27_0, hcz27_1, hcz27_2, hcz27_3⟩, hfz27_0, hfz27_1, hfz27_2, hfz27_3⟩ := blkC4 BK119.out
    go_wp2
    go_meet
    case rel => exact ⟨_, H', ⟨dq34⟩, ⟨dq33⟩, ⟨dq32⟩⟩
   rw [if_neg c25] at H
   have c25b0 := bN c25
   have c25b1 := bO c25
   by_cases c29 : ((rd_T42 l0 x3_2).f0) = 3
   rotate_left
   ·rw [if_neg c29] at H
    have c29b0 := bN c29
    have c29b1 := bO c29
    obtain rfl := oI H
    go_wp2
    go_ret
    exact ⟨dq21, dq32⟩
   rw [if_pos c29] at H
   have c29b0 := bE c29
   have c29b1 := bQ c29
   clear c29
   by_cases c30 : ((rd_T42 l0 x3_2).f1).toList = ([] : List UInt8)
   rotate_left
   ·rw [if_neg c30] at H
    have c30b0 := bN c30
    have c30b1 := bO c30
    obtain rfl := oI H
    obtain ⟨⟨hcz34_0, hcz34_1, hcz34_2, hcz34_3⟩, hfz34_0, hfz34_1, hfz34_2, hfz34_3⟩ := blkC4 BK119.out
    go_wp2
    go_ret
    exact ⟨dq21, dq32⟩
   rw [if_pos c30] at H
   have c30b0 := bE c30
   have c30b1 := bQ c30
   clear c30
   by_cases c31 : (((rd_T42 l0 x3_2).f2).length : Int) < 2
   ·rw [if_pos c31] at H
    have c31b0 := dT c31
    have c31b1 : decide (((rd_T42 l0 x3_2).f2).length < 2) = true := dT dq28
    clear c31
    obtain rfl := oI H
    obtain ⟨⟨hcz32_0, hcz32_1, hcz32_2, hcz32_3⟩, hfz32_0, hfz32_1, hfz32_2, hfz32_3⟩ := blkC4 BK119.out
    go_wp2
    go_ret
    exact ⟨dq21, dq32⟩
   rw [if_neg c31] at H
   have c31b0 := dF c31
   have c31b1 : decide (((rd_T42 l0 x3_2).f2).length < 2) = false := dF dq28
   clear c31
   have H' := Zq.i H
   clear H
   obtain ⟨⟨hcz33_0, hcz33_1, hcz33_2, hcz33_3⟩, hfz33_0, hfz33_1, hfz33_2, hfz33_3⟩ := blkC4 BK119.out
   go_wp2
   go_meet
   case rel => exact ⟨_, H', ⟨dq34⟩, ⟨dq33⟩, ⟨dq32⟩⟩

def IsR54 (w0 W : World) (g : Nat) (f0 : ByteArray) (f1 : Int) (f2 : Bool) (f3 : Value) : Prop := W.heap[g]? = some (.cells #[.string f0, .int .i64 f1, .bool f2, f3] 54 (0, 0)) ∧ w0.heap.size ≤ g
theorem IsR54.grown {w0 W : World} {g : Nat} {f0 : ByteArray} {f1 : Int} {f2 : Bool} {f3 : Value} {W1 : World} {row : Option Nat} (h : IsR54 w0 W g f0 f1 f2 f3) (hw : W.grownBy W1 row) (hne : some g ≠ row) : IsR54 w0 W1 g f0 f1 f2 f3 := by
 obtain ⟨hb, hg⟩ := h
 exact ⟨blk_grown hb hw hne, hg⟩
theorem IsR54.fresh {w0 W : World} {g : Nat} {f0 : ByteArray} {f1 : Int} {f2 : Bool} {f3 : Value} (h : IsR54 w0 W g f0 f1 f2 f3) : ∀ k, W.heap.size ≤ k → k ≠ g := by
 obtain ⟨hb, hg⟩ := h
 exact Kd.freshB hb
theorem IsR54.below {w0 W : World} {g : Nat} {f0 : ByteArray} {f1 : Int} {f2 : Bool} {f3 : Value} {W1 : World} (h : IsR54 w0 W g f0 f1 f2 f3) (hw : Below W.heap.size W W1) : IsR54 w0 W1 g f0 f1 f2 f3 := h.grown (grown_of_below hw none) dq15
theorem IsR54.alloc {w0 W : World} {g : Nat} {f0 : ByteArray} {f1 : Int} {f2 : Bool} {f3 : Value} (h : IsR54 w0 W g f0 f1 f2 f3) (o : Obj) : IsR54 w0 (W.alloc o) g f0 f1 f2 f3 := h.below (below_alloc (Below.refl _ _) o)
theorem IsR54.drewN {w0 W : World} {g : Nat} {f0 : ByteArray} {f1 : Int} {f2 : Bool} {f3 : Value} (h : IsR54 w0 W g f0 f1 f2 f3) (m : Nat) : IsR54 w0 (W.drewN m) g f0 f1 f2 f3 := h
theorem IsR54.drew {w0 W : World} {g : Nat} {f0 : ByteArray} {f1 : Int} {f2 : Bool} {f3 : Value} (h : IsR54 w0 W g f0 f1 f2 f3) : IsR54 w0 W.drew g f0 f1 f2 f3 := h
theorem IsR54.at_ {w0 W : World} {g : Nat} {f0 : ByteArray} {f1 : Int} {f2 : Bool} {f3 : Value} {w' : World} {m : Nat} (hq : W.drewN m = w') (h : IsR54 w0 W g f0 f1 f2 f3) : IsR54 w0 w' g f0 f1 f2 f3 := by subst hq; exact IsR54.drewN h m
theorem IsR54.apart {w0 W : World} {g : Nat} {f0 : ByteArray} {f1 : Int} {f2 : Bool} {f3 : Value} {α : Type} {d : Kd α} {e : Nat} {base : Nat} {ok : Nat → Prop} {v : Value} {xs : List α} (h : IsR54 w0 W g f0 f1 f2 f3) (ho : d.R e W base ok v xs) (ht : ∀ q, q ∈ e :: d.E → q ≠ 54) : d.R e W base (fun k => ok k ∧ k ≠ g) v xs := by
 obtain ⟨hb, hg⟩ := h
 exact Kd.R_types ho hb ht
theorem IsR54.own_ne {w0 W : World} {g : Nat} {f0 : ByteArray} {f1 : Int} {f2 : Bool} {f3 : Value} {α : Type} {d : Kd α} {e : Nat} {base : Nat} {ok : Nat → Prop} {v : Value} {xs : List α} (h : IsR54 w0 W g f0 f1 f2 f3) (ho : d.R e W base ok v xs) (ht : e ≠ 54) : some g ≠ v.ownBlock := by
 obtain ⟨hb, hg⟩ := h
 exact Kd.R_ne ho hb ht
theorem IsR54.apartS {w0 W : World} {g : Nat} {f0 : ByteArray} {f1 : Int} {f2 : Bool} {f3 : Value} {α : Type} {d : Kd α} {e : Nat} {base : Nat} {ok : Nat → Prop} {v : Value} {xs : List α} (h : IsR54 w0 W g f0 f1 f2 f3) (ho : d.S e W base ok v xs) (ht : ∀ q, q ∈ e :: d.E → q ≠ 54) : d.S e W base (fun k => ok k ∧ k ≠ g) v xs := by
 obtain ⟨hb, hg⟩ := h
 exact Kd.S_types ho hb ht
theorem IsR54.own_neS {w0 W : World} {g : Nat} {f0 : ByteArray} {f1 : Int} {f2 : Bool} {f3 : Value} {α : Type} {d : Kd α} {e : Nat} {base : Nat} {ok : Nat → Prop} {v : Value} {xs : List α} (h : IsR54 w0 W g f0 f1 f2 f3) (ho : d.S e W base ok v xs) (ht : e ≠ 54) : some g ≠ v.ownBlock := by
 obtain ⟨hb, hg⟩ := h
 exact Kd.S_ne ho hb ht
theorem IsR54.lt {w0 W : World} {g : Nat} {f0 : ByteArray} {f1 : Int} {f2 : Bool} {f3 : Value} (h : IsR54 w0 W g f0 f1 f2 f3) : g < W.heap.size := by
 obtain ⟨hb, hg⟩ := h
 exact blk_lt hb
theorem IsR54.ge {w0 W : World} {g : Nat} {f0 : ByteArray} {f1 : Int} {f2 : Bool} {f3 : Value} (h : IsR54 w0 W g f0 f1 f2 f3) : w0.heap.size ≤ g := by
 obtain ⟨hb, hg⟩ := h
 exact hg
theorem IsR54.far {w0 W : World} {g : Nat} {f0 : ByteArray} {f1 : Int} {f2 : Bool} {f3 : Value} {p : Addr} (h : IsR54 w0 W g f0 f1 f2 f3) (hne : g ≠ p.block) (u : Value) : IsR54 w0 (W.setCell p u) g f0 f1 f2 f3 := by
 obtain ⟨hb, hg⟩ := h
 exact ⟨blk_far hb hne u, hg⟩
theorem cellR54_0 {W : World} {g : Nat} {f0 : ByteArray} {f1 : Int} {f2 : Bool} {f3 : Value} (h : W.heap[g]? = some (.cells #[.string f0, .int .i64 f1, .bool f2, f3] 54 (0, 0))) : W.cell? ⟨g, 0, none⟩ = some (.string f0) := (blk_cell h 0).trans rfl
theorem IsR54.set_0 {w0 W : World} {g : Nat} {f0 : ByteArray} {f1 : Int} {f2 : Bool} {f3 : Value} (h : IsR54 w0 W g f0 f1 f2 f3) (x : ByteArray) : IsR54 w0 (W.setCell ⟨g, 0, none⟩ (.string x)) g x f1 f2 f3 := by
 obtain ⟨hb, hg⟩ := h
 exact ⟨by simpa using blk_set hb 0 (.string x), hg⟩
theorem cellR54_1 {W : World} {g : Nat} {f0 : ByteArray} {f1 : Int} {f2 : Bool} {f3 : Value} (h : W.heap[g]? = some (.cells #[.string f0, .int .i64 f1, .bool f2, f3] 54 (0, 0))) : W.cell? ⟨g, 1, none⟩ = some (.int .i64 f1) := (blk_cell h 1).trans rfl
theorem IsR54.set_1 {w0 W : World} {g : Nat} {f0 : ByteArray} {f1 : Int} {f2 : Bool} {f3 : Value} (h : IsR54 w0 W g f0 f1 f2 f3) (x : Int) : IsR54 w0 (W.setCell ⟨g, 1, none⟩ (.int .i64 x)) g f0 x f2 f3 := by
 obtain ⟨hb, hg⟩ := h
 exact ⟨by simpa using blk_set hb 1 (.int .i64 x), hg⟩
theorem cellR54_2 {W : World} {g : Nat} {f0 : ByteArray} {f1 : Int} {f2 : Bool} {f3 : Value} (h : W.heap[g]? = some (.cells #[.string f0, .int .i64 f1, .bool f2, f3] 54 (0, 0))) : W.cell? ⟨g, 2, none⟩ = some (.bool f2) := (blk_cell h 2).trans rfl
theorem IsR54.set_2 {w0 W : World} {g : Nat} {f0 : ByteArray} {f1 : Int} {f2 : Bool} {f3 : Value} (h : IsR54 w0 W g f0 f1 f2 f3) (x : Bool) : IsR54 w0 (W.setCell ⟨g, 2, none⟩ (.bool x)) g f0 f1 x f3 := by
 obtain ⟨hb, hg⟩ := h
 exact ⟨by simpa using blk_set hb 2 (.bool x), hg⟩
theorem cellR54_3 {W : World} {g : Nat} {f0 : ByteArray} {f1 : Int} {f2 : Bool} {f3 : Value} (h : W.heap[g]? = some (.cells #[.string f0, .int .i64 f1, .bool f2, f3] 54 (0, 0))) : W.cell? ⟨g, 3, none⟩ = some (f3) := (blk_cell h 3).trans rfl

/-! ### rd_is: function 84 -/
def rd_is.f (s0_0 : ByteArray) (s0_1 : Int) (s0_2 : Bool) (a1 : Int) : Option (Bool × ByteArray × Int × Bool) := if s0_2 = true then (some (false, s0_0, s0_1, s0_2)) else (if s0_1 ≥ (s0_0.size : Int) then (some (false, s0_0, s0_1, s0_2)) else (if 0 ≤ s0_1 then (if s0_1 < (s0_0.size : Int) then (if (bt s0_0 s0_1) = a1 then (some (true, s0_0, wrap64 (s0_1 + 1), s0_2)) else (some (false, s0_0, s0_1, s0_2))) else (none)) else (none)))
theorem rd_is.calls (g : Nat) (s0_0 : ByteArray) (s0_1 : Int) (s0_2 : Bool) (s0_3 : Value) (a1 : Int) (r1 : Bool) (r2 : ByteArray) (r3 : Int) (r4 : Bool) (w0 w : World) (hI : IsR54 w0 w g s0_0 s0_1 s0_2 s0_3) (hB : Below w0.heap.size w0 w) (h : rd_is.f s0_0 s0_1 s0_2 a1 = some (r1, r2, r3, r4)) :
  Calls Try.prog 84 #[.pointer (some ⟨g, 0, none⟩), .int .u8 a1] w fun e w' => e = .returned (.bool r1) ∧ IsR54 w0 w' g r2 r3 r4 s0_3 ∧ Below w0.heap.size w0 w' ∧ KeepBut w w' g none := by
 have HI0 := Zq.i hI
 have HK := Zq.i (KeepBut.refl w g none)
 have HL := Zq.i hB.size
 clear hI
 have HW0 := Zq.i hB.size
 have HB := Zq.i hB
 clear hB
 have H : (if s0_2 = true then (some (false, s0_0, s0_1, s0_2)) else (if s0_1 ≥ (s0_0.size : Int) then (some (false, s0_0, s0_1, s0_2)) else (if 0 ≤ s0_1 then (if s0_1 < (s0_0.size : Int) then (if (bt s0_0 s0_1) = a1 then (some (true, s0_0, wrap64 (s0_1 + 1), s0_2)) else (some (false, s0_0, s0_1, s0_2))) else (none)) else (none)))) = some (r1, r2, r3, r4) := h
 clear h
 by_cases c3 : s0_2 = true
 ·subst c3
  rw [if_pos rfl] at H
  simp only [Option.some.injEq, Prod.mk.injEq] at H
  obtain ⟨rfl, rfl, rfl, rfl⟩ := H
  obtain ⟨HGz4, hgz4⟩ := HI0.out
  have hcz4_0 := cellR54_0 HGz4
  have hcz4_1 := cellR54_1 HGz4
  have hcz4_2 := cellR54_2 HGz4
  have hcz4_3 := cellR54_3 HGz4
  have hfz4_0 := blk_frozen HGz4 0
  have hfz4_1 := blk_frozen HGz4 1
  have hfz4_2 := blk_frozen HGz4 2
  clear HGz4 hgz4
  go_enter Try.func84, Try.ntmps84
  go_wp2
  repeat (go_quiet (fail); try go_wp2)
  go_ret
  exact ⟨dq21, dq38, dq37, dq18⟩
 replace c3 := Bool.eq_false_iff.mpr c3
 subst c3
 rw [iN] at H
 by_cases c5 : s0_1 ≥ (s0_0.size : Int)
 ·rw [if_pos c5] at H
  have c5b0 : decide ((s0_0.size : Int) ≤ s0_1) = true := dT c5
  clear c5
  simp only [Option.some.injEq, Prod.mk.injEq] at H
  obtain ⟨rfl, rfl, rfl, rfl⟩ := H
  obtain ⟨HGz6, hgz6⟩ := HI0.out
  have hcz6_0 := cellR54_0 HGz6
  have hcz6_1 := cellR54_1 HGz6
  have hcz6_2 := cellR54_2 HGz6
  have hcz6_3 := cellR54_3 HGz6
  have hfz6_0 := blk_frozen HGz6 0
  have hfz6_1 := blk_frozen HGz6 1
  have hfz6_2 := blk_frozen HGz6 2
  clear HGz6 hgz6
  go_enter Try.func84, Try.ntmps84
  go_wp2
  repeat (go_quiet (fail); try go_wp2)
  go_ret
  exact ⟨dq21, dq38, dq37, dq18⟩
 rw [if_neg c5] at H
 have c5b0 : decide ((s0_0.size : Int) ≤ s0_1) = false := dF c5
 clear c5
 by_cases c7 : 0 ≤ s0_1
 rotate_left
 ·rw [if_neg c7] at H
  exact absurd H dq15
 rw [if_pos c7] at H
 have c7b0 := dT c7
 clear c7
 by_cases c8 : s0_1 < (s0_0.size : Int)
 rotate_left
 ·rw [if_neg c8] at H
  exact absurd H dq15
 rw [if_pos c8] at H
 have c8b0 := dT c8
 clear c8
 by_cases c10 : (bt s0_0 s0_1) = a1
 rotate_left
 ·rw [if_neg c10] at H
  have c10b0 := bN c10
  have c10b1 := bO c10
  simp only [Option.some.injEq, Prod.mk.injEq] at H
  obtain ⟨rfl, rfl, rfl, rfl⟩ := H
  obtain ⟨HGz12, hgz12⟩ := HI0.out
  have hcz12_0 := cellR54_0 HGz12
  have hcz12_1 := cellR54_1 HGz12
  have hcz12_2 := cellR54_2 HGz12
  have hcz12_3 := cellR54_3 HGz12
  have hfz12_0 := blk_frozen HGz12 0
  have hfz12_1 := blk_frozen HGz12 1
  have hfz12_2 := blk_frozen HGz12 2
  clear HGz12 hgz12
  have p9 : 0 ≤ (s0_1 : Int) := oT dq22
  have q9 : s0_1 < (s0_0.size : Int) := oT dq22
  have hx9 := bt_at s0_0 s0_1
  replace p9 := eq_true p9
  replace q9 := eq_true q9
  go_enter Try.func84, Try.ntmps84
  go_wp2
  repeat (go_quiet (fail); try go_wp2)
  go_ret
  exact ⟨dq21, dq38, dq37, dq18⟩
 rw [if_pos c10] at H
 have c10b0 := bE c10
 have c10b1 := bQ c10
 clear c10
 simp only [Option.some.injEq, Prod.mk.injEq] at H
 obtain ⟨rfl, rfl, rfl, rfl⟩ := H
 obtain ⟨HGz11, hgz11⟩ := HI0.out
 have hcz11_0 := cellR54_0 HGz11
 have hcz11_1 := cellR54_1 HGz11
 have hcz11_2 := cellR54_2 HGz11
 have hcz11_3 := cellR54_3 HGz11
 have hfz11_0 := blk_frozen HGz11 0
 have hfz11_1 := blk_frozen HGz11 1
 have hfz11_2 := blk_frozen HGz11 2
 clear HGz11 hgz11
 have p9 : 0 ≤ (s0_1 : Int) := oT dq22
 have q9 : s0_1 < (s0_0.size : Int) := oT dq22
 have hx9 := bt_at s0_0 s0_1
 replace p9 := eq_true p9
 replace q9 := eq_true q9
 go_enter Try.func84, Try.ntmps84
 go_wp2
 repeat (go_quiet (fail); try go_wp2)
 go_ret
 exact ⟨dq21, dq38, dq37, dq18⟩



/-! ### rd_occur: function 86 -/
def rd_occur.f (s0_0 : ByteArray) (s0_1 : Int) (s0_2 : Bool) : Option (Int × ByteArray × Int × Bool) := (rd_is.f s0_0 s0_1 s0_2 63).bind fun bt124 => (if bt124.1 = true then (some (1, bt124.2.1, bt124.2.2.1, bt124.2.2.2)) else ((rd_is.f bt124.2.1 bt124.2.2.1 bt124.2.2.2 42).bind fun bt128 => (if bt128.1 = true then (some (2, bt128.2.1, bt128.2.2.1, bt128.2.2.2)) else ((rd_is.f bt128.2.1 bt128.2.2.1 bt128.2.2.2 43).bind fun bt132 => (if bt132.1 = true then (some (3, bt132.2.1, bt132.2.2.1, bt132.2.2.2)) else (some (0, bt132.2.1, bt132.2.2.1, bt132.2.2.2)))))))
theorem rd_occur.calls (g : Nat) (s0_0 : ByteArray) (s0_1 : Int) (s0_2 : Bool) (s0_3 : Value) (r1 : Int) (r2 : ByteArray) (r3 : Int) (r4 : Bool) (w0 w : World) (hI : IsR54 w0 w g s0_0 s0_1 s0_2 s0_3) (hB : Below w0.heap.size w0 w) (h : rd_occur.f s0_0 s0_1 s0_2 = some (r1, r2, r3, r4)) :
  Calls Try.prog 86 #[.pointer (some ⟨g, 0, none⟩)] w fun e w' => e = .returned (.int .i64 r1) ∧ IsR54 w0 w' g r2 r3 r4 s0_3 ∧ Below w0.heap.size w0 w' ∧ KeepBut w w' g none := by
 have HI0 := Zq.i hI
 have HK := Zq.i (KeepBut.refl w g none)
 have HL := Zq.i hB.size
 clear hI
 have HW0 := Zq.i hB.size
 have HB := Zq.i hB
 clear hB
 have H : ((rd_is.f s0_0 s0_1 s0_2 63).bind fun bt124 => (if bt124.1 = true then (some (1, bt124.2.1, bt124.2.2.1, bt124.2.2.2)) else ((rd_is.f bt124.2.1 bt124.2.2.1 bt124.2.2.2 42).bind fun bt128 => (if bt128.1 = true then (some (2, bt128.2.1, bt128.2.2.1, bt128.2.2.2)) else ((rd_is.f bt128.2.1 bt128.2.2.1 bt128.2.2.2 43).bind fun bt132 => (if bt132.1 = true then (some (3, bt132.2.1, bt132.2.2.1, bt132.2.2.2)) else (some (0, bt132.2.1, bt132.2.2.1, bt132.2.2.2)))))))) = some (r1, r2, r3, r4) := h
 clear h
 replace H := bM H
 obtain ⟨⟨t124, t125, t126, t127⟩, A20, H⟩ := H
 try dsimp only at H
 have A2 := Zq.i A20
 clear A20
 by_cases c3 : t124 = true
 ·subst c3
  rw [if_pos rfl] at H
  simp only [Option.some.injEq, Prod.mk.injEq] at H
  obtain ⟨rfl, rfl, rfl, rfl⟩ := H
  go_enter Try.func86, Try.ntmps86
  go_wp2_with (first | ((with_reducible refine gate_callee (f := 84) rfl ?_); refine goesL_ (some 5) rfl rfl Try.func84 dq24 rfl #[.pointer (some ⟨g, 0, none⟩), .int .u8 63] rfl dq23 ?_; (with_reducible refine (rd_is.calls g s0_0 s0_1 s0_2 s0_3 63 true t125 t126 t127 w0 _ ?side1 ?side2 A2.out).mono ?_); (case side1 => exact dq6); (case side2 => exact dq7); rintro e w4 ⟨rfl, hi, hb, hk⟩; refine ⟨_, rfl, ?_⟩; replace HK := Zq.i (KeepBut.trans dq18 hk (.inl rfl)); replace HB := Zq.i (hb); replace HI0 := Zq.i (hi); (try clear hb hk hi)))
  go_ret
  exact ⟨dq21, dq38, dq37, dq18⟩
 replace c3 := Bool.eq_false_iff.mpr c3
 subst c3
 rw [iN] at H
 replace H := bM H
 obtain ⟨⟨t128, t129, t130, t131⟩, A50, H⟩ := H
 try dsimp only at H
 have A5 := Zq.i A50
 clear A50
 by_cases c6 : t128 = true
 ·subst c6
  rw [if_pos rfl] at H
  simp only [Option.some.injEq, Prod.mk.injEq] at H
  obtain ⟨rfl, rfl, rfl, rfl⟩ := H
  go_enter Try.func86, Try.ntmps86
  go_wp2_with (first | ((with_reducible refine gate_callee (f := 84) rfl ?_); refine goesL_ (some 5) rfl rfl Try.func84 dq24 rfl #[.pointer (some ⟨g, 0, none⟩), .int .u8 63] rfl dq23 ?_; (with_reducible refine (rd_is.calls g s0_0 s0_1 s0_2 s0_3 63 false t125 t126 t127 w0 _ ?side1 ?side2 A2.out).mono ?_); (case side1 => exact dq6); (case side2 => exact dq7); rintro e w7 ⟨rfl, hi, hb, hk⟩; refine ⟨_, rfl, ?_⟩; replace HK := Zq.i (KeepBut.trans dq18 hk (.inl rfl)); replace HB := Zq.i (hb); replace HI0 := Zq.i (hi); (try clear hb hk hi)) | ((with_reducible refine gate_callee (f := 84) rfl ?_); refine goesL_ (some 8) rfl rfl Try.func84 dq24 rfl #[.pointer (some ⟨g, 0, none⟩), .int .u8 42] rfl dq23 ?_; (with_reducible refine (rd_is.calls g t125 t126 t127 s0_3 42 true t129 t130 t131 w0 _ ?side1 ?side2 A5.out).mono ?_); (case side1 => exact dq6); (case side2 => exact dq7); rintro e w8 ⟨rfl, hi, hb, hk⟩; refine ⟨_, rfl, ?_⟩; replace HK := Zq.i (KeepBut.trans dq18 hk (.inl rfl)); replace HB := Zq.i (hb); replace HI0 := Zq.i (hi); (try clear hb hk hi)))
  go_ret
  exact ⟨dq21, dq38, dq37, dq18⟩
 replace c6 := Bool.eq_false_iff.mpr c6
 subst c6
 rw [iN] at H
 replace H := bM H
 obtain ⟨⟨t132, t133, t134, t135⟩, A90, H⟩ := H
 try dsimp only at H
 have A9 := Zq.i A90
 clear A90
 by_cases c10 : t132 = true
 ·subst c10
  rw [if_pos rfl] at H
  simp only [Option.some.injEq, Prod.mk.injEq] at H
  obtain ⟨rfl, rfl, rfl, rfl⟩ := H
  go_enter Try.func86, Try.ntmps86
  go_wp2_with (first | ((with_reducible refine gate_callee (f := 84) rfl ?_); refine goesL_ (some 5) rfl rfl Try.func84 dq24 rfl #[.pointer (some ⟨g, 0, none⟩), .int .u8 63] rfl dq23 ?_; (with_reducible refine (rd_is.calls g s0_0 s0_1 s0_2 s0_3 63 false t125 t126 t127 w0 _ ?side1 ?side2 A2.out).mono ?_); (case side1 => exact dq6); (case side2 => exact dq7); rintro e w11 ⟨rfl, hi, hb, hk⟩; refine ⟨_, rfl, ?_⟩; replace HK := Zq.i (KeepBut.trans dq18 hk (.inl rfl)); replace HB := Zq.i (hb); replace HI0 := Zq.i (hi); (try clear hb hk hi)) | ((with_reducible refine gate_callee (f := 84) rfl ?_); refine goesL_ (some 8) rfl rfl Try.func84 dq24 rfl #[.pointer (some ⟨g, 0, none⟩), .int .u8 42] rfl dq23 ?_; (with_reducible refine (rd_is.calls g t125 t126 t127 s0_3 42 false t129 t130 t131 w0 _ ?side1 ?side2 A5.out).mono ?_); (case side1 => exact dq6); (case side2 => exact dq7); rintro e w12 ⟨rfl, hi, hb, hk⟩; refine ⟨_, rfl, ?_⟩; replace HK := Zq.i (KeepBut.trans dq18 hk (.inl rfl)); replace HB := Zq.i (hb); replace HI0 := Zq.i (hi); (try clear hb hk hi)) | ((with_reducible refine gate_callee (f := 84) rfl ?_); refine goesL_ (some 11) rfl rfl Try.func84 dq24 rfl #[.pointer (some ⟨g, 0, none⟩), .int .u8 43] rfl dq23 ?_; (with_reducible refine (rd_is.calls g t129 t130 t131 s0_3 43 true t133 t134 t135 w0 _ ?side1 ?side2 A9.out).mono ?_); (case side1 => exact dq6); (case side2 => exact dq7); rintro e w13 ⟨rfl, hi, hb, hk⟩; refine ⟨_, rfl, ?_⟩; replace HK := Zq.i (KeepBut.trans dq18 hk (.inl rfl)); replace HB := Zq.i (hb); replace HI0 := Zq.i (hi); (try clear hb hk hi)))
  go_ret
  exact ⟨dq21, dq38, dq37, dq18⟩
 replace c10 := Bool.eq_false_iff.mpr c10
 subst c10
 rw [iN] at H
 simp only [Option.some.injEq, Prod.mk.injEq] at H
 obtain ⟨rfl, rfl, rfl, rfl⟩ := H
 go_enter Try.func86, Try.ntmps86
 go_wp2_with (first | ((with_reducible refine gate_callee (f := 84) rfl ?_); refine goesL_ (some 5) rfl rfl Try.func84 dq24 rfl #[.pointer (some ⟨g, 0, none⟩), .int .u8 63] rfl dq23 ?_; (with_reducible refine (rd_is.calls g s0_0 s0_1 s0_2 s0_3 63 false t125 t126 t127 w0 _ ?side1 ?side2 A2.out).mono ?_); (case side1 => exact dq6); (case side2 => exact dq7); rintro e w14 ⟨rfl, hi, hb, hk⟩; refine ⟨_, rfl, ?_⟩; replace HK := Zq.i (KeepBut.trans dq18 hk (.inl rfl)); replace HB := Zq.i (hb); replace HI0 := Zq.i (hi); (try clear hb hk hi)) | ((with_reducible refine gate_callee (f := 84) rfl ?_); refine goesL_ (some 8) rfl rfl Try.func84 dq24 rfl #[.pointer (some ⟨g, 0, none⟩), .int .u8 42] rfl dq23 ?_; (with_reducible refine (rd_is.calls g t125 t126 t127 s0_3 42 false t129 t130 t131 w0 _ ?side1 ?side2 A5.out).mono ?_); (case side1 => exact dq6); (case side2 => exact dq7); rintro e w15 ⟨rfl, hi, hb, hk⟩; refine ⟨_, rfl, ?_⟩; replace HK := Zq.i (KeepBut.trans dq18 hk (.inl rfl)); replace HB := Zq.i (hb); replace HI0 := Zq.i (hi); (try clear hb hk hi)) | ((with_reducible refine gate_callee (f := 84) rfl ?_); refine goesL_ (some 11) rfl rfl Try.func84 dq24 rfl #[.pointer (some ⟨g, 0, none⟩), .int .u8 43] rfl dq23 ?_; (with_reducible refine (rd_is.calls g t129 t130 t131 s0_3 43 false t133 t134 t135 w0 _ ?side1 ?side2 A9.out).mono ?_); (case side1 => exact dq6); (case side2 => exact dq7); rintro e w16 ⟨rfl, hi, hb, hk⟩; refine ⟨_, rfl, ?_⟩; replace HK := Zq.i (KeepBut.trans dq18 hk (.inl rfl)); replace HB := Zq.i (hb); replace HI0 := Zq.i (hi); (try clear hb hk hi)))
 go_ret
 exact ⟨dq21, dq38, dq37, dq18⟩

/-! ### impl_PNode_isPosition: function 57 -/
def impl_PNode_isPosition.f (a0_0 : Int) (a0_1 : ByteArray) (l0_2 : List Int) (a0_3 : Int) : Option (Bool) := if a0_0 = 1 then (some true) else (some (a0_0 == 4))
theorem impl_PNode_isPosition.calls (a0_0 : Int) (a0_1 : ByteArray) (A0_2 : Option Addr) (c0_2 : Nat) (l0_2 : List Int) (a0_3 : Int) (r : Bool) (w : World) (hr0_2 : Kd.C (Kd.int .i64) w A0_2 l0_2.length l0_2) (hc0_2 : l0_2.length ≤ c0_2) (h : impl_PNode_isPosition.f a0_0 a0_1 l0_2 a0_3 = some r) :
  Calls Try.prog 57 #[.agg #[.int .i64 a0_0, .string a0_1, .slice A0_2 l0_2.length c0_2, .int .i64 a0_3]] w fun e w' => e = .returned (.bool r) ∧ Below w.heap.size w w' := by
 have hu42 := Try.underlying42
 have HR0_2 := Zq.i hr0_2
 have HC0_2 := Zq.i hc0_2
 clear hr0_2 hc0_2
 have HB := Zq.i (Below.refl w.heap.size w)
 have H : (if a0_0 = 1 then (some true) else (some (a0_0 == 4))) = some r := h
 clear h
 by_cases c2 : a0_0 = 1
 rotate_left
 ·rw [if_neg c2] at H
  have c2b0 := bN c2
  have c2b1 := bO c2
  obtain rfl := oI H
  go_enter Try.func57, Try.ntmps57
  go_wp2_with (first | ((with_reducible refine gate_dst (N := 1) rfl ?_); refine box_event ?hg (N := 1) ?hd (cs := #[.int .i64 a0_0, .string a0_1, .slice A0_2 l0_2.length c0_2, .int .i64 a0_3]) (t := 42) ?hr ?_; (case hd => rfl); (case hg => rfl); (case hr => exact dq0); intro gb417 hg w5 hbox hb; have BK417 := Zq.i (hbox); have GW417 := Zq.i ((dq30 : w.heap.size ≤ gb417)); have GE417 := Zq.i ((dq30 : w.heap.size ≤ gb417)); replace HB := Zq.i (below_step dq17 hb); clear hb hbox hg; obtain ⟨⟨hcz6_0, hcz6_1, hcz6_2, hcz6_3⟩, hfz6_0, hfz6_1, hfz6_2, hfz6_3⟩ := blkC4 BK417.out))
  go_ret
  exact ⟨dq21, dq39⟩
 rw [if_pos c2] at H
 have c2b0 := bE c2
 have c2b1 := bQ c2
 clear c2
 obtain rfl := oI H
 go_enter Try.func57, Try.ntmps57
 go_wp2_with (first | ((with_reducible refine gate_dst (N := 1) rfl ?_); refine box_event ?hg (N := 1) ?hd (cs := #[.int .i64 a0_0, .string a0_1, .slice A0_2 l0_2.length c0_2, .int .i64 a0_3]) (t := 42) ?hr ?_; (case hd => rfl); (case hg => rfl); (case hr => exact dq0); intro gb417 hg w3 hbox hb; have BK417 := Zq.i (hbox); have GW417 := Zq.i ((dq30 : w.heap.size ≤ gb417)); have GE417 := Zq.i ((dq30 : w.heap.size ≤ gb417)); replace HB := Zq.i (below_step dq17 hb); clear hb hbox hg; obtain ⟨⟨hcz4_0, hcz4_1, hcz4_2, hcz4_3⟩, hfz4_0, hfz4_1, hfz4_2, hfz4_3⟩ := blkC4 BK417.out))
 go_ret
 exact ⟨dq21, dq39⟩

/-! ### impl_PNode_isOften: function 92 -/
def impl_PNode_isOften.f (a0_0 : Int) (a0_1 : ByteArray) (l0_2 : List Int) (a0_3 : Int) : Option (Bool) := if a0_3 = 2 then (some true) else (some (a0_3 == 3))
theorem impl_PNode_isOften.calls (a0_0 : Int) (a0_1 : ByteArray) (A0_2 : Option Addr) (c0_2 : Nat) (l0_2 : List Int) (a0_3 : Int) (r : Bool) (w : World) (hr0_2 : Kd.C (Kd.int .i64) w A0_2 l0_2.length l0_2) (hc0_2 : l0_2.length ≤ c0_2) (h : impl_PNode_isOften.f a0_0 a0_1 l0_2 a0_3 = some r) :
  Calls Try.prog 92 #[.agg #[.int .i64 a0_0, .string a0_1, .slice A0_2 l0_2.length c0_2, .int .i64 a0_3]] w fun e w' => e = .returned (.bool r) ∧ Below w.heap.size w w' := by
 have hu42 := Try.underlying42
 have HR0_2 := Zq.i hr0_2
 have HC0_2 := Zq.i hc0_2
 clear hr0_2 hc0_2
 have HB := Zq.i (Below.refl w.heap.size w)
 have H : (if a0_3 = 2 then (some true) else (some (a0_3 == 3))) = some r := h
 clear h
 by_cases c2 : a0_3 = 2
 rotate_left
 ·rw [if_neg c2] at H
  have c2b0 := bN c2
  have c2b1 := bO c2
  obtain rfl := oI H
  go_enter Try.func92, Try.ntmps92
  go_wp2_with (first | ((with_reducible refine gate_dst (N := 1) rfl ?_); refine box_event ?hg (N := 1) ?hd (cs := #[.int .i64 a0_0, .string a0_1, .slice A0_2 l0_2.length c0_2, .int .i64 a0_3]) (t := 42) ?hr ?_; (case hd => rfl); (case hg => rfl); (case hr => exact dq0); intro gb508 hg w5 hbox hb; have BK508 := Zq.i (hbox); have GW508 := Zq.i ((dq30 : w.heap.size ≤ gb508)); have GE508 := Zq.i ((dq30 : w.heap.size ≤ gb508)); replace HB := Zq.i (below_step dq17 hb); clear hb hbox hg; obtain ⟨⟨hcz6_0, hcz6_1, hcz6_2, hcz6_3⟩, hfz6_0, hfz6_1, hfz6_2, hfz6_3⟩ := blkC4 BK508.out))
  go_ret
  exact ⟨dq21, dq40⟩
 rw [if_pos c2] at H
 have c2b0 := bE c2
 have c2b1 := bQ c2
 clear c2
 obtain rfl := oI H
 go_enter Try.func92, Try.ntmps92
 go_wp2_with (first | ((with_reducible refine gate_dst (N := 1) rfl ?_); refine box_event ?hg (N := 1) ?hd (cs := #[.int .i64 a0_0, .string a0_1, .slice A0_2 l0_2.length c0_2, .int .i64 a0_3]) (t := 42) ?hr ?_; (case hd => rfl); (case hg => rfl); (case hr => exact dq0); intro gb508 hg w3 hbox hb; have BK508 := Zq.i (hbox); have GW508 := Zq.i ((dq30 : w.heap.size ≤ gb508)); have GE508 := Zq.i ((dq30 : w.heap.size ≤ gb508)); replace HB := Zq.i (below_step dq17 hb); clear hb hbox hg; obtain ⟨⟨hcz4_0, hcz4_1, hcz4_2, hcz4_3⟩, hfz4_0, hfz4_1, hfz4_2, hfz4_3⟩ := blkC4 BK508.out))
 go_ret
 exact ⟨dq21, dq40⟩

/-! ### impl_PNode_isOptional: function 93 -/
def impl_PNode_isOptional.f (a0_0 : Int) (a0_1 : ByteArray) (l0_2 : List Int) (a0_3 : Int) : Option (Bool) := if a0_3 = 1 then (some true) else (some (a0_3 == 2))
theorem impl_PNode_isOptional.calls (a0_0 : Int) (a0_1 : ByteArray) (A0_2 : Option Addr) (c0_2 : Nat) (l0_2 : List Int) (a0_3 : Int) (r : Bool) (w : World) (hr0_2 : Kd.C (Kd.int .i64) w A0_2 l0_2.length l0_2) (hc0_2 : l0_2.length ≤ c0_2) (h : impl_PNode_isOptional.f a0_0 a0_1 l0_2 a0_3 = some r) :
  Calls Try.prog 93 #[.agg #[.int .i64 a0_0, .string a0_1, .slice A0_2 l0_2.length c0_2, .int .i64 a0_3]] w fun e w' => e = .returned (.bool r) ∧ Below w.heap.size w w' := by
 have hu42 := Try.underlying42
 have HR0_2 := Zq.i hr0_2
 have HC0_2 := Zq.i hc0_2
 clear hr0_2 hc0_2
 have HB := Zq.i (Below.refl w.heap.size w)
 have H : (if a0_3 = 1 then (some true) else (some (a0_3 == 2))) = some r := h
 clear h
 by_cases c2 : a0_3 = 1
 rotate_left
 ·rw [if_neg c2] at H
  have c2b0 := bN c2
  have c2b1 := bO c2
  obtain rfl := oI H
  go_enter Try.func93, Try.ntmps93
  go_wp2_with (first | ((with_reducible refine gate_dst (N := 1) rfl ?_); refine box_event ?hg (N := 1) ?hd (cs := #[.int .i64 a0_0, .string a0_1, .slice A0_2 l0_2.length c0_2, .int .i64 a0_3]) (t := 42) ?hr ?_; (case hd => rfl); (case hg => rfl); (case hr => exact dq0); intro gb509 hg w5 hbox hb; have BK509 := Zq.i (hbox); have GW509 := Zq.i ((dq30 : w.heap.size ≤ gb509)); have GE509 := Zq.i ((dq30 : w.heap.size ≤ gb509)); replace HB := Zq.i (below_step dq17 hb); clear hb hbox hg; obtain ⟨⟨hcz6_0, hcz6_1, hcz6_2, hcz6_3⟩, hfz6_0, hfz6_1, hfz6_2, hfz6_3⟩ := blkC4 BK509.out))
  go_ret
  exact ⟨dq21, dq41⟩
 rw [if_pos c2] at H
 have c2b0 := bE c2
 have c2b1 := bQ c2
 clear c2
 obtain rfl := oI H
 go_enter Try.func93, Try.ntmps93
 go_wp2_with (first | ((with_reducible refine gate_dst (N := 1) rfl ?_); refine box_event ?hg (N := 1) ?hd (cs := #[.int .i64 a0_0, .string a0_1, .slice A0_2 l0_2.length c0_2, .int .i64 a0_3]) (t := 42) ?hr ?_; (case hd => rfl); (case hg => rfl); (case hr => exact dq0); intro gb509 hg w3 hbox hb; have BK509 := Zq.i (hbox); have GW509 := Zq.i ((dq30 : w.heap.size ≤ gb509)); have GE509 := Zq.i ((dq30 : w.heap.size ≤ gb509)); replace HB := Zq.i (below_step dq17 hb); clear hb hbox hg; obtain ⟨⟨hcz4_0, hcz4_1, hcz4_2, hcz4_3⟩, hfz4_0, hfz4_1, hfz4_2, hfz4_3⟩ := blkC4 BK509.out))
 go_ret
 exact ⟨dq21, dq41⟩

end Go.Proofs.Ytajdfbgbkgabjaa.L

namespace Go.Proofs.Ytajdfbgbkgabjaa.L
open Go.RowKit YtajdfbgbkgabjaaW.PrintWords YtajdfbgbkgabjaaW.PrintLast YtajdfbgbkgabjaaW.PrintMore
open Go.Maps (Keyed)

theorem len_split (n : Nat) : ∀ l : List Nat, l.length = (l.filter (fun x => x != n)).length + l.count n
 | [] => rfl
 | x :: l => by
  have ih := len_split n l
  by_cases h : x = n
  ·subst h
   rw [List.filter_cons_of_neg (by simp), List.count_cons_self, List.length_cons, ih]
   omega
  ·rw [List.filter_cons_of_pos (by simpa using h), List.count_cons_of_ne h, List.length_cons, List.length_cons, ih]
   omega
theorem pigeon : ∀ (n : Nat) (l : List Nat), l.Nodup → (∀ x ∈ l, x < n) → l.length ≤ n
 | 0, l, _, h => by
  cases l with
  | nil => simp
  | cons x l => exact absurd (h x (by simp)) (by omega)
 | n + 1, l, hn, h => by
  have h1 := pigeon n (l.filter (fun x => x != n)) (hn.filter _) (fun x hx => by
   obtain ⟨hx, hne⟩ := List.mem_filter.1 hx
   have := h x hx
   have hne' : x ≠ n := by simpa using hne
   omega)
  have h2 := len_split n l
  have h3 := List.nodup_iff_count.1 hn n
  omega
theorem mapKeyed : Keyed Try.prog 2 := Maps.int_keyed Try.underlying2
def MapSet (w : World) (b : Nat) (l : List Int) : Prop :=
 ∃ D : DataW Unit, w.ownsMap Try.prog 2 (plainElem Try.prog 4) b 4096 D ∧ (∀ x : Int, Maps.has D (.int .i64 x) = true ↔ x ∈ l) ∧ ∀ x ∈ l, 0 ≤ x ∧ x < 4096
theorem wf_small {x : Int} (h0 : 0 ≤ x) (h1 : x < 4096) : (Lit.int .i64 x).wf = true := WalkArith.wf_i64 (by omega)
theorem owns_small {w : World} {b n : Nat} {D : DataW Unit} (h : w.ownsMap Try.prog 2 (plainElem Try.prog 4) b n D) (hk : ∀ x : Int, Maps.has D (.int .i64 x) = true → 0 ≤ x ∧ x < 4096) : w.ownsMap Try.prog 2 (plainElem Try.prog 4) b 4096 D := by
 have ht := h.tidy mapKeyed
 obtain ⟨es, clock, hb, F, _, hD⟩ := h
 refine ⟨es, clock, hb, F, ?_, hD⟩
 have e1 : es.size = ((es.toList.map (WideElems.rg Try.prog 2 (plainElem (H := Unit) Try.prog 4))).foldr DataW.insert []).length := by rw [length_sorted]; simp
 obtain ⟨ds, hd, hp⟩ := ht
 rw [hD] at hd
 injection hd with hd
 rw [e1, hd]
 have hkeys : ∀ p ∈ ds, ∃ x : Int, p.1 = .int .i64 x ∧ 0 ≤ x ∧ x < 4096 := by
  intro p hp'
  rw [← hd] at hp'
  obtain ⟨v, hv⟩ := Maps.fit_keys F p (mem_sorted.1 hp')
  obtain ⟨x, _, e, _⟩ := Maps.keyOf_int_inv Try.underlying2 hv
  refine ⟨x, e, hk x ?_⟩
  rw [hD, Maps.has_eq]
  refine List.any_eq_true.2 ⟨p, hp', ?_⟩
  rw [e]
  exact WideAt.sameKey_self (by rw [← e]; exact mapKeyed.key hv)
 have hl : (ds.map (fun p => match p.1 with | .int _ x => x.toNat | _ => 0)).length ≤ 4096 := by
  refine pigeon 4096 _ ?_ ?_
  ·refine List.pairwise_map.2 (List.Pairwise.imp_of_mem (fun {p q} hp1 hq1 hne he => hne ?_) hp)
   obtain ⟨x, ex, x0, x1⟩ := hkeys p hp1
   obtain ⟨y, ey, y0, y1⟩ := hkeys q hq1
   rw [ex, ey] at he
   have he' : x.toNat = y.toNat := he
   have : x = y := by omega
   rw [ex, ey, this]
  ·intro z hz
   obtain ⟨p, hp1, rfl⟩ := List.mem_map.1 hz
   obtain ⟨x, ex, x0, x1⟩ := hkeys p hp1
   rw [ex]
   show x.toNat < 4096
   omega
 rw [List.length_map] at hl
 exact hl
theorem MapSet.made (w : World) : MapSet (w.alloc (.map #[] 0)) w.heap.size [] :=
 ⟨.map [], (World.ownsMap_made w _ _ _).mono (by omega), fun x => by simp [Maps.has_eq], by simp⟩
theorem MapSet.lt {w : World} {b : Nat} {l : List Int} (h : MapSet w b l) : b < w.heap.size := by
 obtain ⟨D, h, _⟩ := h
 exact h.lt
theorem MapSet.block {w : World} {b : Nat} {l : List Int} (h : MapSet w b l) : ∃ es clock, w.heap[b]? = some (.map es clock) := by
 obtain ⟨D, ⟨es, clock, h, _⟩, _⟩ := h
 exact ⟨es, clock, h⟩
theorem MapSet.step {w w1 : World} {b : Nat} {l : List Int} (h : MapSet w b l) (hb : w1.heap[b]? = w.heap[b]?) : MapSet w1 b l := by
 obtain ⟨D, ⟨es, clock, h1, h2⟩, h3⟩ := h
 exact ⟨D, ⟨es, clock, hb.trans h1, h2⟩, h3⟩
theorem MapSet.congr {w : World} {b : Nat} {l l' : List Int} (h : MapSet w b l) (hl : ∀ x, x ∈ l' ↔ x ∈ l) : MapSet w b l' := by
 obtain ⟨D, h1, h2, h3⟩ := h
 exact ⟨D, h1, fun x => (h2 x).trans (hl x).symm, fun x hx => h3 x ((hl x).1 hx)⟩
section
variable {w : World} {ops : Array Oper} {rest : List Oper} {o : Oper} {a : Act} {Q : Exit → Act → World → Prop}
theorem set_add (hg : o.guard = none) (m x v : Operand) (hop : o.op = Op.mapUpdate 96 m x v) (b : Nat) (l : List Int) (n : Int)
  (hm : a.eval m = .map (some b)) (h : MapSet w b l) (hx : a.eval x = .int .i64 n) (hv : a.eval v = .bool true) (h0 : 0 ≤ n) (h1 : n < 4096)
  (hK : ∀ w', MapSet w' b (l ++ [n]) → w.mapTurned w' b → wpList Try.prog ops Q rest (a.put o.dst undef) w') :
  wpList Try.prog ops Q (o :: rest) a w := by
 obtain ⟨D, hown, hh, hr⟩ := h
 refine wpList_mapUpdate_in w hg m x v 96 hop 2 4 mapKeyed Try.underlying96 (plainElem Try.prog 4) b 4096 D hm hown (by unfold maxLen; omega) _ _ (.int .i64 n) hx hv (Maps.keyOf_int_mk Try.underlying2 (wf_small h0 h1)) _ _ (plainElem_bool Try.underlying4 true) ?_
 intro w' hown' hturn
 have hk : WideAt.IsKeyLit (.int .i64 n) := mapKeyed.key (Maps.keyOf_int_mk Try.underlying2 (wf_small h0 h1))
 have hh' : ∀ z : Int, Maps.has (D.put (.int .i64 n) (.lit (.bool true))) (.int .i64 z) = true ↔ z ∈ l ++ [n] := by
  intro z
  by_cases e : z = n
  ·subst e
   rw [Maps.has_put_same hown.isMap hk]
   simp
  ·rw [Maps.has_put_other (fun h => e (by injection h)), hh z]
   simp [e]
 have hr' : ∀ z ∈ l ++ [n], 0 ≤ z ∧ z < 4096 := by
  intro z hz
  rcases List.mem_append.1 hz with hz | hz
  ·exact hr z hz
  ·rw [List.mem_singleton.1 hz]; exact ⟨h0, h1⟩
 exact hK w' ⟨_, owns_small hown' (fun z hz => hr' z ((hh' z).1 hz)), hh', hr'⟩ hturn
def Going (w : World) (b r : Nat) (l done : List Int) : Prop :=
 ∃ (D : DataW Unit) (left : Lit → Bool) (cnt : Nat), w.ranges Try.prog 2 (plainElem Try.prog 4) b r 4096 D left cnt ∧ (∀ x : Int, Maps.has D (.int .i64 x) = true ↔ x ∈ l) ∧ (∀ x ∈ l, 0 ≤ x ∧ x < 4096) ∧ (∀ x : Int, left (.int .i64 x) = true ↔ x ∈ l ∧ x ∉ done) ∧ done.Nodup ∧ ∀ x ∈ done, x ∈ l
theorem Going.set_ {w : World} {b r : Nat} {l done : List Int} (h : Going w b r l done) : MapSet w b l := by
 obtain ⟨D, left, cnt, h1, h2, h3, _⟩ := h
 exact ⟨D, h1.owns, h2, h3⟩
theorem Going.blocks {w : World} {b r : Nat} {l done : List Int} (h : Going w b r l done) : (∃ es clock, w.heap[b]? = some (.map es clock)) ∧ ∃ m s q c, w.heap[r]? = some (.mapIter m s q c) := by
 obtain ⟨D, left, cnt, ⟨es, clock, since, seen, c0, hb, _, _, _, hr, _⟩, _⟩ := h
 exact ⟨⟨es, clock, hb⟩, ⟨_, _, _, _, hr⟩⟩
theorem set_range (hg : o.guard = none) (m : Operand) (hop : o.op = Op.range 96 m) (b : Nat) (l : List Int) (hm : a.eval m = .map (some b)) (h : MapSet w b l)
  (hK : ∀ w', Going w' b w.heap.size l [] → w.grownBy w' none → w'.heap.size = w.heap.size + 1 → wpList Try.prog ops Q rest (a.put o.dst (.pointer (some ⟨w.heap.size, 0, none⟩))) w') :
  wpList Try.prog ops Q (o :: rest) a w := by
 obtain ⟨D, hown, hh, hr⟩ := h
 refine wpList_range_own w hg m 96 hop 2 4 mapKeyed Try.underlying96 (plainElem Try.prog 4) b 4096 D hm hown ?_
 intro w' h1 h2 h3
 exact hK w' ⟨D, _, _, h1, hh, hr, fun x => by rw [hh x]; simp, .nil, by simp⟩ h2 h3
theorem plain_bool {P : Program} {e : TypeId} (he : P.underlying e = some .bool) {v : Value} {y : DataW Unit × List MemPlace} (h : plainElem P e v = some y) : ∃ c : Bool, v = .bool c := by
 unfold plainElem at h
 rw [he] at h
 cases v <;> simp at h
 exact ⟨_, rfl⟩
theorem bool_inv {v : Value} {y : DataW Unit × List MemPlace} (h : plainElem Try.prog 4 v = some y) : ∃ c : Bool, v = .bool c := plain_bool Try.underlying4 h
theorem set_next (hg : o.guard = none) (it : Operand) (hop : o.op = Op.next it false) (b r : Nat) (l done : List Int) (hit : a.eval it = .pointer (some ⟨r, 0, none⟩)) (h : Going w b r l done)
  (hDone : (∀ x, x ∈ done ↔ x ∈ l) → done.Nodup → wpList Try.prog ops Q rest (a.put o.dst (.tuple #[.bool false])) w)
  (hMore : ∀ (x : Int) (c : Value) (w' : World), x ∈ l → x ∉ done → 0 ≤ x → x < 4096 → Going w' b r l (done ++ [x]) → w'.rangeLeft b r < w.rangeLeft b r → w.grownBy w' (some r) → w'.heap.size = w.heap.size →
   (Instr.entry (.pointer (some ⟨r, 0, none⟩))).run Try.prog w' = .ok (.tuple #[.int .i64 x, c]) w' → wpList Try.prog ops Q rest (a.put o.dst (.tuple #[.bool true, .int .i64 x, c])) w') :
  wpList Try.prog ops Q (o :: rest) a w := by
 obtain ⟨D, left, cnt, h1, hh, hr, hl, hn, hs⟩ := h
 refine wpList_next_ranges w hg it hop 2 mapKeyed (plainElem Try.prog 4) (Value.int .i64) Value.bool (fun key kl hkey => by obtain ⟨x, rfl, _⟩ := Maps.keyOf_int_inv Try.underlying2 hkey; exact ⟨x, rfl⟩) (fun v y hv => bool_inv hv) b r 4096 D left cnt hit h1 ?_ ?_
 ·intro h0 hnone
  refine hDone (fun x => ⟨hs x, fun hx => ?_⟩) hn
  have h2 := hnone (.int .i64 x)
  cases hm : decide (x ∈ done) with
  | true => exact of_decide_eq_true hm
  | false =>
   have := (hl x).2 ⟨hx, of_decide_eq_false hm⟩
   rw [h2] at this
   cases this
 ·intro x c kl y w' cnt' hkey hlk hv hat hrg hlt hgr hsz hen
  obtain ⟨x', ex, rfl, hwx⟩ := Maps.keyOf_int_inv Try.underlying2 hkey
  cases ex
  obtain ⟨hxl, hxd⟩ := (hl x).1 hlk
  obtain ⟨x0, x1⟩ := hr x hxl
  refine hMore x (.bool c) w' hxl hxd x0 x1 ⟨D, _, cnt', hrg, hh, hr, fun z => ?_, ?_, ?_⟩ ?_ hgr hsz hen
  ·simp only [Bool.and_eq_true, Bool.not_eq_true', hl z, List.mem_append, List.mem_singleton, not_or]
   constructor
   ·rintro ⟨⟨h1, h2⟩, h3⟩
    refine ⟨h1, h2, fun e => ?_⟩
    subst e
    rw [WideAt.sameKey_self (mapKeyed.key hkey)] at h3
    cases h3
   ·rintro ⟨h1, h2, h3⟩
    exact ⟨⟨h1, h2⟩, Maps.sameKey_ne (fun e => h3 (by injection e))⟩
  ·refine List.nodup_append.2 ⟨hn, by simp, fun p hp q hq e => ?_⟩
   rw [List.mem_singleton.1 hq] at e
   exact hxd (e ▸ hp)
  ·intro z hz
   rcases List.mem_append.1 hz with hz | hz
   ·exact hs z hz
   ·rw [List.mem_singleton.1 hz]; exact hxl
  ·rw [hrg.left_eq, h1.left_eq]; exact hlt
end
end Go.Proofs.Ytajdfbgbkgabjaa.L

namespace Go.Proofs.Ytajdfbgbkgabjaa.L
open Go.RowKit YtajdfbgbkgabjaaW.PrintWords YtajdfbgbkgabjaaW.PrintLast YtajdfbgbkgabjaaW.PrintMore

abbrev PN : Type := S42
def kmap : Kd Nat := Kd.scalar (fun b => Value.map (some b)) (fun _ => rfl)
abbrev krow : Kd (List Int) := Kd.slice 2 (Kd.int .i64)
structure NetV where
 nul : List Bool
 fst : List (List Int)
 lst : List (List Int)
 fol : List (List Int)
abbrev Tags : Type := Nat → Nat
structure MapsW (w : World) (base : Nat) (own : Tags) (ms : List Nat) (fol : List (List Int)) : Prop where
 len : ms.length = fol.length
 at_ : ∀ (i b : Nat) (l : List Int), ms[i]? = some b → fol[i]? = some l → MapSet w b l
 own_ : ∀ b ∈ ms, own b = 8
 lo : ∀ b ∈ ms, base ≤ b
 nodup : ms.Nodup
structure NetW (w : World) (base X : Nat) (own : Tags) (pv nv fv lv wv : Value) (N : NetV) (ms : List Nat) : Prop where
 x : w.heap[X]? = some (.cells #[pv, nv, fv, lv, wv] 89 (0, 0))
 xb : base ≤ X
 xo : own X = 7
 n : Kd.bool.R 4 w base (fun k => own k = 1) nv N.nul
 f : krow.R 33 w base (fun k => own k = 2) fv N.fst
 l : krow.R 33 w base (fun k => own k = 3) lv N.lst
 wv_ : kmap.R 96 w base (fun k => own k = 4) wv ms
 m : MapsW w base own ms N.fol
section
variable {w w1 : World} {base X : Nat} {own own' : Tags} {pv nv fv lv wv : Value} {N : NetV} {ms : List Nat}
theorem MapsW.lt {fol : List (List Int)} (h : MapsW w base own ms fol) : ∀ b ∈ ms, b < w.heap.size := by
 intro b hb
 obtain ⟨i, hi, rfl⟩ := List.getElem_of_mem hb
 exact (h.at_ i _ _ (List.getElem?_eq_getElem hi) (List.getElem?_eq_getElem (by have := h.len; omega))).lt
theorem MapsW.step {fol : List (List Int)} (h : MapsW w base own ms fol) (hm : ∀ k, k < w.heap.size → own k = 8 → w1.heap[k]? = w.heap[k]?) : MapsW w1 base own ms fol :=
 ⟨h.len, fun i b l hb hl => (h.at_ i b l hb hl).step (hm b (h.at_ i b l hb hl).lt (h.own_ b (List.mem_of_getElem? hb))), h.own_, h.lo, h.nodup⟩
theorem MapsW.tags {fol : List (List Int)} (h : MapsW w base own ms fol) (ho : ∀ k, k < w.heap.size → own k = 8 → own' k = 8) : MapsW w base own' ms fol :=
 ⟨h.len, h.at_, fun b hb => ho b (h.lt b hb) (h.own_ b hb), h.lo, h.nodup⟩
def Mine (t : Nat) : Prop := t = 1 ∨ t = 2 ∨ t = 3 ∨ t = 4 ∨ t = 7 ∨ t = 8
theorem row_step {α : Type} {d : Kd α} {e t : Nat} {v : Value} {xs : List α} (h : d.R e w base (fun k => own k = t) v xs) (hm : ∀ k, k < w.heap.size → own k = t → w1.heap[k]? = w.heap[k]?) : d.R e w1 base (fun k => own k = t) v xs :=
 Kd.R_step h (fun k hk hlt => hm k hlt hk)
theorem row_tags {α : Type} {d : Kd α} {e t t' : Nat} {v : Value} {xs : List α} (h : d.R e w base (fun k => own k = t) v xs) (ho : ∀ k, k < w.heap.size → own k = t → own' k = t') : d.R e w base (fun k => own' k = t') v xs :=
 Kd.R_mono (Kd.R_bound h) (fun k hk => ho k hk.2.2.1 hk.1)
theorem NetW.step (h : NetW w base X own pv nv fv lv wv N ms) (hm : ∀ k, k < w.heap.size → Mine (own k) → w1.heap[k]? = w.heap[k]?) : NetW w1 base X own pv nv fv lv wv N ms :=
 ⟨(hm X (blk_lt h.x) (by rw [h.xo]; unfold Mine; omega)).trans h.x, h.xb, h.xo, row_step h.n (fun k hlt hk => hm k hlt (by rw [hk]; unfold Mine; omega)), row_step h.f (fun k hlt hk => hm k hlt (by rw [hk]; unfold Mine; omega)),
  row_step h.l (fun k hlt hk => hm k hlt (by rw [hk]; unfold Mine; omega)), row_step h.wv_ (fun k hlt hk => hm k hlt (by rw [hk]; unfold Mine; omega)), h.m.step (fun k hlt hk => hm k hlt (by rw [hk]; unfold Mine; omega))⟩
theorem NetW.tags (h : NetW w base X own pv nv fv lv wv N ms) (ho : ∀ k, k < w.heap.size → Mine (own k) → own' k = own k) : NetW w base X own' pv nv fv lv wv N ms :=
 ⟨h.x, h.xb, (ho X (blk_lt h.x) (by rw [h.xo]; unfold Mine; omega)).trans h.xo, row_tags h.n (fun k hlt hk => (ho k hlt (by rw [hk]; unfold Mine; omega)).trans hk), row_tags h.f (fun k hlt hk => (ho k hlt (by rw [hk]; unfold Mine; omega)).trans hk),
  row_tags h.l (fun k hlt hk => (ho k hlt (by rw [hk]; unfold Mine; omega)).trans hk), row_tags h.wv_ (fun k hlt hk => (ho k hlt (by rw [hk]; unfold Mine; omega)).trans hk), h.m.tags (fun k hlt hk => (ho k hlt (by rw [hk]; unfold Mine; omega)).trans hk)⟩
theorem NetW.below (h : NetW w base X own pv nv fv lv wv N ms) (hb : Below w.heap.size w w1) : NetW w1 base X own pv nv fv lv wv N ms := h.step (fun k hk _ => hb.block k hk)
theorem NetW.map_at (h : NetW w base X own pv nv fv lv wv N ms) (i : Int) (h0 : 0 ≤ i) (h1 : i < N.fol.length) :
  ∃ g c b, wv = .slice (some ⟨g, 0, none⟩) N.fol.length c ∧ N.fol.length ≤ c ∧ w.cell? ⟨g, i.toNat, none⟩ = some (.map (some b)) ∧ MapSet w b (N.fol.getD i.toNat []) ∧ ms[i.toNat]? = some b := by
 have hl := h.m.len
 have hi : i.toNat < ms.length := by omega
 obtain ⟨g, c, e, _, _, _⟩ := Kd.R_form h.wv_ (by omega)
 subst e
 have hR := Kd.R_reads' h.wv_
 have hc := (Kd.R_cell (enc := fun b => Value.map (some b)) (h1 := fun _ => rfl) 0 h.wv_ i h0 (by omega)).1
 have hb : ms[i.toNat]? = some ms[i.toNat] := List.getElem?_eq_getElem hi
 refine ⟨g, c, ms[i.toNat], by rw [hl], by rw [← hl]; exact hR.2.1, ?_, ?_, hb⟩
 ·rw [hc]
  have : rdOf 0 ms i = ms[i.toNat] := by unfold rdOf; rw [List.getD_eq_getElem?_getD, hb]; rfl
  rw [this]
 ·refine h.m.at_ i.toNat _ _ hb ?_
  rw [List.getD_eq_getElem?_getD, List.getElem?_eq_getElem (by omega : i.toNat < N.fol.length)]
  rfl
theorem NetW.stored (h : NetW w base X own pv nv fv lv wv N ms) {i b : Nat} {l : List Int} (hb : ms[i]? = some b) (hn : MapSet w1 b l) (ht : w.mapTurned w1 b) : NetW w1 base X own pv nv fv lv wv { N with fol := N.fol.set i l } ms := by
 have hg := ht.grown
 have ho : own b = 8 := h.m.own_ b (List.mem_of_getElem? hb)
 have hk : ∀ k, k < w.heap.size → own k ≠ 8 → w1.heap[k]? = w.heap[k]? := fun k hlt hne => hg.block k hlt (fun e => hne (by injection e with e; rw [e]; exact ho))
 refine ⟨(hk X (blk_lt h.x) (by rw [h.xo]; decide)).trans h.x, h.xb, h.xo, row_step h.n (fun k hlt he => hk k hlt (by rw [he]; decide)), row_step h.f (fun k hlt he => hk k hlt (by rw [he]; decide)), row_step h.l (fun k hlt he => hk k hlt (by rw [he]; decide)), row_step h.wv_ (fun k hlt he => hk k hlt (by rw [he]; decide)), ?_⟩
 refine ⟨by rw [List.length_set]; exact h.m.len, fun j c q hc hq => ?_, h.m.own_, h.m.lo, h.m.nodup⟩
 by_cases e : i = j
 ·subst e
  rw [hb] at hc
  obtain rfl := Option.some.inj hc
  have hl : i < N.fol.length := by have := h.m.len; have := (List.getElem?_eq_some_iff.1 hb).1; omega
  rw [List.getElem?_set_self hl] at hq
  obtain rfl := Option.some.inj hq
  exact hn
 ·rw [List.getElem?_set_ne e] at hq
  have h1 := h.m.at_ j c q hc hq
  refine h1.step (hg.block c h1.lt (fun e2 => e ?_))
  injection e2 with e2
  subst e2
  exact (List.getElem?_inj (List.getElem?_eq_some_iff.1 hb).1 h.m.nodup).1 (hb.trans hc.symm)
end
theorem cell_turned {w w1 : World} {b : Nat} (h : w.mapTurned w1 b) {a : Addr} {v : Value} (hc : w.cell? a = some v) : w1.cell? a = some v := by
 obtain ⟨es, clock, es', clock', hb, rfl⟩ := h
 have hne : a.block ≠ b := by
  intro e
  subst e
  simp [World.cell?, hb] at hc
 have e : (ChangeMaps.setBlock w b (.map es' clock')).heap[a.block]? = w.heap[a.block]? := ChangeMaps.heap_setBlock_other hb _ hne
 simp only [World.cell?, e]
 exact hc
theorem ints_turned {w w1 : World} {b : Nat} (h : w.mapTurned w1 b) {A : Option Addr} {n : Nat} {xs : List Int} (hc : Kd.C (Kd.int .i64) w A n xs) : Kd.C (Kd.int .i64) w1 A n xs :=
 ⟨hc.1, hc.2.1, fun hn => by
  obtain ⟨ad, e, h1⟩ := hc.2.2 hn
  refine ⟨ad, e, fun j p hj => ?_⟩
  obtain ⟨c, h2, h3, h4⟩ := h1 j p hj
  exact ⟨c, h2, h3, fun i u hu => cell_turned h (h4 i u hu)⟩⟩
def leadTo (fol : List (List Int)) (a : Int) (to_ : List Int) : List (List Int) := fol.set a.toNat (fol.getD a.toNat [] ++ to_)
def leadL (fol : List (List Int)) (from_ to_ : List Int) : List (List Int) := from_.foldl (fun f a => leadTo f a to_) fol
theorem leadTo_length (fol : List (List Int)) (a : Int) (to_ : List Int) : (leadTo fol a to_).length = fol.length := List.length_set ..
theorem leadL_length (from_ to_ : List Int) : ∀ fol : List (List Int), (leadL fol from_ to_).length = fol.length := by
 induction from_ with
 | nil => intro fol; rfl
 | cons a l ih =>
  intro fol
  show (leadL (leadTo fol a to_) l to_).length = _
  rw [ih, leadTo_length]
theorem leadL_snoc (fol : List (List Int)) (l to_ : List Int) (a : Int) : leadL fol (l ++ [a]) to_ = leadTo (leadL fol l to_) a to_ := by
 unfold leadL; rw [List.foldl_append]; rfl
theorem take_snoc {l : List Int} {i : Nat} (h : i < l.length) : l.take (i + 1) = l.take i ++ [rd l (i : Int)] := by
 rw [List.take_succ_eq_append_getElem h]
 unfold rd
 rw [Int.toNat_natCast, List.getD_eq_getElem?_getD, List.getElem?_eq_getElem h]
 rfl
theorem leadTo_snoc (fol : List (List Int)) (a b : Int) (l : List Int) (h : a.toNat < fol.length) : leadTo fol a (l ++ [b]) = (leadTo fol a l).set a.toNat ((leadTo fol a l).getD a.toNat [] ++ [b]) := by
 unfold leadTo
 rw [List.getD_eq_getElem?_getD (l := List.set ..), List.getElem?_set_self h, List.set_set, Option.getD_some, List.append_assoc]
theorem leadTo_nil (fol : List (List Int)) (a : Int) (h : a.toNat < fol.length) : leadTo fol a [] = fol := by
 unfold leadTo
 rw [List.append_nil, List.getD_eq_getElem?_getD, List.getElem?_eq_getElem h]
 exact List.set_getElem_self h
theorem NetW.cellAt {w : World} {base X : Nat} {own : Tags} {pv nv fv lv wv : Value} {N : NetV} {ms : List Nat} (h : NetW w base X own pv nv fv lv wv N ms) :
  w.cell? ⟨X, 0, none⟩ = some pv ∧ w.cell? ⟨X, 1, none⟩ = some nv ∧ w.cell? ⟨X, 2, none⟩ = some fv ∧ w.cell? ⟨X, 3, none⟩ = some lv ∧ w.cell? ⟨X, 4, none⟩ = some wv ∧ ∀ i, w.frozen? ⟨X, i, none⟩ = false :=
 ⟨(blk_cell h.x 0).trans rfl, (blk_cell h.x 1).trans rfl, (blk_cell h.x 2).trans rfl, (blk_cell h.x 3).trans rfl, (blk_cell h.x 4).trans rfl, blk_frozen h.x⟩
set_option maxHeartbeats 4000000 in
set_option maxRecDepth 100000 in
theorem net_lead (w0 w : World) (X : Nat) (own : Tags) (pv nv fv lv wv : Value) (N : NetV) (ms : List Nat) (from_ to_ : List Int) (A1 A2 : Option Addr) (c1 c2 : Nat)
  (hN : NetW w w0.heap.size X own pv nv fv lv wv N ms) (h1 : Kd.C (Kd.int .i64) w A1 from_.length from_) (hc1 : from_.length ≤ c1) (h2 : Kd.C (Kd.int .i64) w A2 to_.length to_) (hc2 : to_.length ≤ c2)
  (hf : ∀ a ∈ from_, 0 ≤ a ∧ a < N.fol.length) (ht : ∀ b ∈ to_, 0 ≤ b ∧ b < 4096) (hB : Below w0.heap.size w0 w) :
  Calls Try.prog 91 #[.pointer (some ⟨X, 0, none⟩), .slice A1 from_.length c1, .slice A2 to_.length c2] w fun e w' => e = .returned (.tuple #[]) ∧ NetW w' w0.heap.size X own pv nv fv lv wv { N with fol := leadL N.fol from_ to_ } ms ∧ Kept w w' (fun k => own k = 8) ∧ Below w0.heap.size w0 w' := by
 have HF := Zq.i hf
 have HT := Zq.i ht
 have HN := Zq.i hN
 have H1 := Zq.i h1
 have H2 := Zq.i h2
 have HB := Zq.i hB
 have hm1 : from_.length ≤ 9223372036854775807 := Kd.C_max h1
 have hm2 : to_.length ≤ 9223372036854775807 := Kd.C_max h2
 clear hf ht hN h1 h2 hB
 obtain ⟨n1, hn1⟩ : ∃ n, from_.length = n := ⟨_, rfl⟩
 obtain ⟨n2, hn2⟩ : ∃ n, to_.length = n := ⟨_, rfl⟩
 rw [hn1] at hc1 hm1 ⊢
 rw [hn2] at hc2 hm2 ⊢
 have HN1 := Zq.i hn1
 have HN2 := Zq.i hn2
 clear hn1 hn2
 go_enter Try.func91, Try.ntmps91
 go_wp2
 go_loopg [12] n1 (fun gg s12 wr => ∃ i : Nat, i ≤ n1 ∧ n1 - i ≤ gg ∧ s12 = .int .i64 i ∧ Zq (NetW wr w0.heap.size X own pv nv fv lv wv { N with fol := leadL N.fol (from_.take i) to_ } ms) ∧ Zq (Kd.C (Kd.int .i64) wr A1 from_.length from_) ∧ Zq (Kd.C (Kd.int .i64) wr A2 to_.length to_) ∧ Zq (Kept w wr (fun k => own k = 8)) ∧ Zq (Below w0.heap.size w0 wr))
 case atStart => exact ⟨0, Nat.zero_le _, by omega, rfl, HN, H1, H2, ⟨Kept.refl _ _⟩, HB⟩
 case round =>
  obtain ⟨i, hi, hg, rfl, GN, G1, G2, GK, GB⟩ := hrel
  clear HN H1 H2 HB
  by_cases hlt : i < n1
  ·have hlz : (i : Int) < (n1 : Int) := by omega
   have hl : i < from_.length := by have := HN1.out; omega
   obtain ⟨ad, e, hcell⟩ := Kd.at_int G1.out (i : Int) (by omega) (by omega)
   subst e
   rw [Int.toNat_natCast] at hcell
   have HS := Zq.i (take_snoc hl)
   have HA := Zq.i (HF.out (rd from_ (i : Int)) (by unfold rd; rw [Int.toNat_natCast, List.getD_eq_getElem?_getD, List.getElem?_eq_getElem hl]; exact List.getElem_mem hl))
   have HG := Zq.i hg
   clear hl hg
   generalize rd from_ (i : Int) = a at hcell HS HA
   go_wp2
   obtain ⟨wo, rfl⟩ : ∃ wo : World, wo = wr := ⟨_, rfl⟩
   go_loopg [18] n2 (fun gg s18 wr => ∃ j : Nat, j ≤ n2 ∧ n2 - j ≤ gg ∧ s18 = .int .i64 j ∧ Zq (NetW wr w0.heap.size X own pv nv fv lv wv { N with fol := leadTo (leadL N.fol (from_.take i) to_) a (to_.take j) } ms) ∧ Zq (Kd.C (Kd.int .i64) wr (some ad) from_.length from_) ∧ Zq (Kd.C (Kd.int .i64) wr A2 to_.length to_) ∧ Zq (Kept w wr (fun k => own k = 8)) ∧ Zq (Below w0.heap.size w0 wr))
   case atStart =>
    refine ⟨0, Nat.zero_le _, by omega, rfl, ⟨?_⟩, G1, G2, GK, GB⟩
    rw [List.take_zero, leadTo_nil _ _ (by rw [leadL_length]; have := HA.out; omega)]
    exact GN.out
   case round =>
    obtain ⟨j, hj, hg2, rfl, LN, L1, L2, LK, LB⟩ := hrel
    clear GN G1 G2 GK GB
    by_cases hlt2 : j < n2
    ·have hlz2 : (j : Int) < (n2 : Int) := by omega
     have hl2 : j < to_.length := by have := HN2.out; omega
     obtain ⟨ad2, e, hcell2⟩ := Kd.at_int L2.out (j : Int) (by omega) (by omega)
     subst e
     rw [Int.toNat_natCast] at hcell2
     have HS2 := Zq.i (take_snoc hl2)
     have HA2 := Zq.i (HT.out (rd to_ (j : Int)) (by unfold rd; rw [Int.toNat_natCast, List.getD_eq_getElem?_getD, List.getElem?_eq_getElem hl2]; exact List.getElem_mem hl2))
     have HG2 := Zq.i hg2
     clear hl2 hg2
     generalize rd to_ (j : Int) = b at hcell2 HS2 HA2
     obtain ⟨-, -, -, -, hx4, -⟩ := LN.out.cellAt
     have HL := Zq.i (show (leadTo (leadL N.fol (from_.take i) to_) a (to_.take j)).length = N.fol.length by rw [leadTo_length, leadL_length])
     obtain ⟨g, c, mb, e, hc3, hmc, hms, hmi⟩ := LN.out.map_at a HA.out.1 (by rw [HL.out]; exact HA.out.2)
     have hE := Zq.i e
     rw [HL.out] at e hc3
     rw [e] at hx4
     have HMS := Zq.i hms
     have HMI := Zq.i hmi
     clear e hms hmi
     have ha0 : 0 ≤ a := HA.out.1
     have ha1 : a < (N.fol.length : Int) := HA.out.2
     have hb0 : 0 ≤ b := HA2.out.1
     have hb1 : b < 4096 := HA2.out.2
     go_wp2_with (at_mapUpdate; refine set_add rfl _ _ _ rfl mb _ b rfl HMS.out rfl rfl hb0 hb1 ?_; intro w1 hown1 hturn1)
     have hX := LN.out.stored HMI.out hown1 hturn1
     have hS := HS2.out
     go_roundg (n2 - (j + 1))
     case measure => have := HG2.out; omega
     case rel =>
      refine ⟨j + 1, by omega, by omega, by go_num, ⟨?_⟩, ⟨ints_turned hturn1 L1.out⟩, ⟨ints_turned hturn1 L2.out⟩, ⟨?_⟩, ⟨?_⟩⟩
      ·rw [hS, leadTo_snoc _ _ _ _ (by rw [leadL_length]; omega)]
       exact hX
      ·exact Kept.of_grown hturn1.grown LK.out (fun k hk => .inl (by injection hk with hk; rw [← hk]; exact LN.out.m.own_ mb (List.mem_of_getElem? HMI.out)))
      ·exact pw_below_grown LB.out (some mb) LB.out.size hturn1.grown (fun k hk => by injection hk with hk; rw [← hk]; exact LN.out.m.lo mb (List.mem_of_getElem? HMI.out))
    ·have hlz2 : ¬ ((j : Int) < (n2 : Int)) := by omega
     have : j = n2 := by omega
     subst this
     have hS := HS.out
     have hLN := LN.out
     rw [List.take_of_length_le (l := to_) (by have := HN2.out; omega), ← leadL_snoc, ← hS] at hLN
     have HQ := Zq.i hLN
     clear hLN hS LN
     go_wp2
     go_roundg (n1 - (i + 1))
     case measure => have := HG.out; omega
     case rel => exact ⟨i + 1, by omega, by omega, by go_num, HQ, L1, L2, LK, LB⟩
  ·have hlz : ¬ ((i : Int) < (n1 : Int)) := by omega
   have : i = n1 := by omega
   subst this
   have hGN := GN.out
   rw [List.take_of_length_le (l := from_) (by have := HN1.out; omega)] at hGN
   have HQ := Zq.i hGN
   clear hGN GN
   go_wp2
   go_end0
   exact ⟨rfl, HQ.out, GK.out, GB.out⟩
def rdL (xs : List (List Int)) (i : Int) : List Int := rdOf ([] : List Int) xs i
structure KS where
 nu : Bool
 fi : List Int
 la : List Int
 fol : List (List Int)
def LIMK : Nat := 1048576
def kidF (kind : Int) (N : NetV) (s : KS) (k : Int) : Option KS :=
 if (0 ≤ k ∧ k < N.nul.length ∧ k < N.fst.length ∧ k < N.lst.length) ∧ s.fi.length + (rdL N.fst k).length < LIMK ∧ s.la.length + (rdL N.lst k).length < LIMK then
  if kind = 3 then some ⟨s.nu || rdOf false N.nul k, s.fi ++ rdL N.fst k, s.la ++ rdL N.lst k, s.fol⟩
  else if (∀ a ∈ s.la, 0 ≤ a ∧ a < (s.fol.length : Int)) ∧ (∀ b ∈ rdL N.fst k, 0 ≤ b ∧ b < 4096) then
   some ⟨s.nu && rdOf false N.nul k, if s.nu = true then s.fi ++ rdL N.fst k else s.fi, (if rdOf false N.nul k = true then s.la else []) ++ rdL N.lst k, leadL s.fol s.la (rdL N.fst k)⟩
  else none
 else none
def kidsF (kind : Int) (N : NetV) : List Int → KS → Option KS
 | [], s => some s
 | k :: ks, s => (kidF kind N s k).bind (kidsF kind N ks)
def posB (n : PN) : Bool := n.f0 == 1 || n.f0 == 4
def optB (n : PN) : Bool := n.f3 == 1 || n.f3 == 2
def oftB (n : PN) : Bool := n.f3 == 2 || n.f3 == 3
def startF (i : Nat) (n : PN) (N : NetV) : KS := ⟨n.f0 == 2, if posB n = true then [(i : Int)] else [], if posB n = true then [(i : Int)] else [], N.fol ++ [[]]⟩
def loopF (n : PN) (s : KS) : Option (List (List Int)) :=
 if oftB n = true then if (∀ a ∈ s.la, 0 ≤ a ∧ a < (s.fol.length : Int)) ∧ (∀ b ∈ s.fi, 0 ≤ b ∧ b < 4096) then some (leadL s.fol s.la s.fi) else none else some s.fol
def nodeF (i : Nat) (n : PN) (N : NetV) : Option NetV :=
 (kidsF n.f0 N n.f2 (startF i n N)).bind fun s => (loopF n s).map fun fol => ⟨N.nul ++ [s.nu || optB n], N.fst ++ [s.fi], N.lst ++ [s.la], fol⟩
def netL : List PN → Nat → NetV → Option NetV
 | [], _, N => some N
 | n :: p, i, N => if N.nul.length < LIMK ∧ N.fst.length < LIMK ∧ N.lst.length < LIMK ∧ N.fol.length < LIMK then (nodeF i n N).bind (netL p (i + 1)) else none
def netOfF (p : List PN) : Option NetV := netL p 0 ⟨[], [], [], []⟩

structure Stp (W w1 : World) (own own' : Tags) (S : Nat → Prop) : Prop where
 size : W.heap.size ≤ w1.heap.size
 blk : ∀ k, k < W.heap.size → ¬ S (own k) → w1.heap[k]? = W.heap[k]?
 tag : ∀ k, k < W.heap.size → ¬ S (own k) → own' k = own k
section
variable {W w1 : World} {own own' : Tags} {S : Nat → Prop} {base X : Nat} {pv nv fv lv wv : Value} {N : NetV} {ms : List Nat}
theorem Stp.below (h : Below W.heap.size W w1) (own : Tags) (S : Nat → Prop) : Stp W w1 own own S := ⟨h.size, fun k hk _ => h.block k hk, fun _ _ _ => rfl⟩
theorem Stp.row {α : Type} {d : Kd α} {e t : Nat} {v : Value} {xs : List α} (h : Stp W w1 own own' S) (hr : d.R e W base (fun k => own k = t) v xs) (ht : ¬ S t) : d.R e w1 base (fun k => own' k = t) v xs :=
 Kd.R_mono (Kd.R_step (Kd.R_bound hr) (fun k hk hlt => h.blk k hlt (by rw [hk.1]; exact ht))) (fun k hk => (h.tag k hk.2.2.1 (by rw [hk.1]; exact ht)).trans hk.1)
theorem Stp.block {g : Nat} {o : Obj} (h : Stp W w1 own own' S) (hb : W.heap[g]? = some o) (ht : ¬ S (own g)) : w1.heap[g]? = some o ∧ own' g = own g := ⟨(h.blk g (blk_lt hb) ht).trans hb, h.tag g (blk_lt hb) ht⟩
theorem Stp.maps {fol : List (List Int)} (h : Stp W w1 own own' S) (hm : MapsW W base own ms fol) (ht : ¬ S 8) : MapsW w1 base own' ms fol :=
 ⟨hm.len, fun i b l hb hl => (hm.at_ i b l hb hl).step (h.blk b (hm.at_ i b l hb hl).lt (by rw [hm.own_ b (List.mem_of_getElem? hb)]; exact ht)), fun b hb => (h.tag b (hm.lt b hb) (by rw [hm.own_ b hb]; exact ht)).trans (hm.own_ b hb), hm.lo, hm.nodup⟩
theorem Stp.net (h : Stp W w1 own own' S) (hN : NetW W base X own pv nv fv lv wv N ms) (hs : ∀ t, Mine t → ¬ S t) : NetW w1 base X own' pv nv fv lv wv N ms :=
 ⟨(h.block hN.x (by rw [hN.xo]; exact hs 7 (by unfold Mine; omega))).1, hN.xb, (h.block hN.x (by rw [hN.xo]; exact hs 7 (by unfold Mine; omega))).2.trans hN.xo,
  h.row hN.n (hs 1 (by unfold Mine; omega)), h.row hN.f (hs 2 (by unfold Mine; omega)), h.row hN.l (hs 3 (by unfold Mine; omega)), h.row hN.wv_ (hs 4 (by unfold Mine; omega)), h.maps hN.m (hs 8 (by unfold Mine; omega))⟩
theorem Stp.trans {w2 : World} {own2 : Tags} {S2 : Nat → Prop} (h : Stp W w1 own own' S) (k : Stp w1 w2 own' own2 S2) : Stp W w2 own own2 (fun t => S t ∨ S2 t) :=
 ⟨Nat.le_trans h.size k.size, fun q hq hn => (k.blk q (Nat.lt_of_lt_of_le hq h.size) (by rw [h.tag q hq (fun e => hn (.inl e))]; exact fun e => hn (.inr e))).trans (h.blk q hq (fun e => hn (.inl e))),
  fun q hq hn => (k.tag q (Nat.lt_of_lt_of_le hq h.size) (by rw [h.tag q hq (fun e => hn (.inl e))]; exact fun e => hn (.inr e))).trans (h.tag q hq (fun e => hn (.inl e)))⟩
theorem appended {α : Type} {d : Kd α} {e t u : Nat} {v v1 : Value} {xs zs : List α} (HO : d.R e W base (fun k => own k = t) v xs) (h1 : d.R e w1 base (fun k => own k = t ∨ own k = u ∨ W.heap.size ≤ k) v1 zs) (hg : W.grownBy w1 v.ownBlock) :
  ∃ own' : Tags, d.R e w1 base (fun k => own' k = t) v1 zs ∧ Stp W w1 own own' (fun q => q = t ∨ q = u) := by
 refine ⟨fun k => if k < W.heap.size then (if own k = u then t else own k) else t, Kd.R_mono (Kd.R_bound h1) (fun k hk => ?_), hg.size, fun k hk hn => hg.block k hk (fun e => hn (.inl (HO.1 k e.symm))), fun k hk hn => ?_⟩
 ·show (if k < W.heap.size then (if own k = u then t else own k) else t) = t
  rcases hk.1 with h | h | h
  ·split
   ·split
    ·rfl
    ·exact h
   ·rfl
  ·split
   ·first | rfl | rw [if_pos h]
   ·rfl
  ·rw [if_neg (by omega)]
 ·show (if k < W.heap.size then (if own k = u then t else own k) else t) = own k
  rw [if_pos hk, if_neg (fun e => hn (.inr e))]
end
section
variable {ops : Array Oper} {rest : List Oper} {o : Oper} {a : Act} {Q : Exit → Act → World → Prop} {Kc : Act → World → Prop} {w0 W : World} {own : Tags} {v : Value} {A : Option Addr} {m c t : Nat}
theorem grown_low {w1 : World} (HB : Below w0.heap.size w0 W) (hg : W.grownBy w1 v.ownBlock) {α : Type} {d : Kd α} {e : Nat} {ok : Nat → Prop} {xs : List α} (HO : d.R e W w0.heap.size ok v xs) : Below w0.heap.size w0 w1 :=
 pw_below_grown HB v.ownBlock HB.size hg (fun k hk => Kd.R_base HO k hk)
theorem app_ints (hgd : o.guard = none) (s x : Operand) (ho : o.op = .call { callee := .builtin .append, args := #[s, x], argTypes := #[33, 33] }) (xs ys : List Int)
  (hs : a.eval s = v) (hx : a.eval x = .slice A m c) (HO : Kd.R (Kd.int .i64) 2 W w0.heap.size (fun k => own k = t) v xs) (HC : Kd.C (Kd.int .i64) W A m ys) (HB : Below w0.heap.size w0 W) (hl : xs.length + m < 2097152)
  (h : ∀ v1 w1 own', Kd.R (Kd.int .i64) 2 w1 w0.heap.size (fun k => own' k = t) v1 (xs ++ ys) → Stp W w1 own own' (fun q => q = t) → Below w0.heap.size w0 w1 → wpList Try.prog ops Q rest (a.put o.dst v1) w1) :
  wpList Try.prog ops Q (o :: rest) a W := by
 refine Kd.R_append_rows (Kd.int .i64) (Rr := (Kd.int .i64).K W) (w0 := w0) w0.heap.size hgd s x 33 2 (.int .i64 0) 8 ho Try.underlying33 info2 rfl (by decide) (by omega) v xs ys A m c (fun k => own k = t ∨ own k = t ∨ W.heap.size ≤ k) (fun _ => False) hs hx (Kd.R_mono HO (fun _ h => .inl h)) HC (fun _ _ h => h) (fun _ h => h.elim) (fun _ h => .inr (.inr h)) HB HB.size (by omega) ?_
 intro v1 w1 h1 hb hg _
 obtain ⟨own', h2, h3⟩ := appended HO h1 hg
 exact h v1 w1 own' h2 ⟨h3.size, fun k hk hn => h3.blk k hk (fun e => hn (e.elim id id)), fun k hk hn => h3.tag k hk (fun e => hn (e.elim id id))⟩ hb
theorem app_ints_step (hw : Region.wanted o (yielded ops a.tmps) = true) (s x : Operand) (ho : o.op = .call { callee := .builtin .append, args := #[s, x], argTypes := #[33, 33] }) (xs ys : List Int)
  (hs : a.eval s = v) (hx : a.eval x = .slice A m c) (HO : Kd.R (Kd.int .i64) 2 W w0.heap.size (fun k => own k = t) v xs) (HC : Kd.C (Kd.int .i64) W A m ys) (HB : Below w0.heap.size w0 W) (hl : xs.length + m < 2097152)
  (h : ∀ v1 w1 own', Kd.R (Kd.int .i64) 2 w1 w0.heap.size (fun k => own' k = t) v1 (xs ++ ys) → Stp W w1 own own' (fun q => q = t) → Below w0.heap.size w0 w1 → Kc (a.put o.dst v1) w1) :
  if Region.wanted o (yielded ops a.tmps) = true then Oper.wp Try.prog o a W Kc Q else Kc (a.put o.dst undef) W := by
 refine Kd.R_append_rows_step (Kd.int .i64) (Rr := (Kd.int .i64).K W) (w0 := w0) w0.heap.size hw s x 33 2 (.int .i64 0) 8 ho Try.underlying33 info2 rfl (by decide) (by omega) v xs ys A m c (fun k => own k = t ∨ own k = t ∨ W.heap.size ≤ k) (fun _ => False) hs hx (Kd.R_mono HO (fun _ h => .inl h)) HC (fun _ _ h => h) (fun _ h => h.elim) (fun _ h => .inr (.inr h)) HB HB.size (by omega) ?_
 intro v1 w1 h1 hb hg _
 obtain ⟨own', h2, h3⟩ := appended HO h1 hg
 exact h v1 w1 own' h2 ⟨h3.size, fun k hk hn => h3.blk k hk (fun e => hn (e.elim id id)), fun k hk hn => h3.tag k hk (fun e => hn (e.elim id id))⟩ hb
theorem one_row {α : Type} {Rr : α → List Value → Prop} {g e : Nat} {u : Value} {x : α} (hb : W.heap[g]? = some (.cells #[u] e (0, 0))) (hr : Rr x [u]) : ReadsRow Rr 1 W (some ⟨g, 0, none⟩) 1 [x] :=
 ⟨rfl, by decide, fun _ => ⟨⟨g, 0, none⟩, rfl, fun j p hj => by
  cases j with
  | zero =>
   obtain rfl : x = p := by simpa using hj
   refine ⟨[u], rfl, hr, fun i w hw => ?_⟩
   cases i with
   | zero =>
    obtain rfl : u = w := by simpa using hw
    simpa [add_plain] using (blk_cell hb 0)
   | succ i => simp at hw
  | succ j => simp at hj⟩⟩
theorem app_bool_step (hw : Region.wanted o (yielded ops a.tmps) = true) (s x : Operand) (ho : o.op = .call { callee := .builtin .append, args := #[s, x], argTypes := #[85, 85] }) (xs : List Bool) (b : Bool) {g : Nat}
  (hs : a.eval s = v) (hx : a.eval x = .slice (some ⟨g, 0, none⟩) 1 1) (HO : Kd.bool.R 4 W w0.heap.size (fun k => own k = t) v xs) (hb : W.heap[g]? = some (.cells #[.bool b] 4 (0, 0))) (HB : Below w0.heap.size w0 W) (hl : xs.length < 1048576)
  (h : ∀ v1 w1 own', Kd.bool.R 4 w1 w0.heap.size (fun k => own' k = t) v1 (xs ++ [b]) → Stp W w1 own own' (fun q => q = t) → Below w0.heap.size w0 w1 → Kc (a.put o.dst v1) w1) :
  if Region.wanted o (yielded ops a.tmps) = true then Oper.wp Try.prog o a W Kc Q else Kc (a.put o.dst undef) W := by
 refine Kd.R_append_rows_step Kd.bool (Rr := fun x cs => cs = [.bool x]) (w0 := w0) w0.heap.size hw s x 85 4 (.bool false) 1 ho Try.underlying85 info4 rfl (by decide) (by omega) v xs [b] (some ⟨g, 0, none⟩) 1 1 (fun k => own k = t ∨ own k = t ∨ W.heap.size ≤ k) (fun _ => False) hs hx (Kd.R_mono HO (fun _ h => .inl h)) (one_row hb rfl) (fun _ _ h => h) (fun _ h => h.elim) (fun _ h => .inr (.inr h)) HB HB.size (by omega) ?_
 intro v1 w1 h1 hb hg _
 obtain ⟨own', h2, h3⟩ := appended HO h1 hg
 exact h v1 w1 own' h2 ⟨h3.size, fun k hk hn => h3.blk k hk (fun e => hn (e.elim id id)), fun k hk hn => h3.tag k hk (fun e => hn (e.elim id id))⟩ hb
theorem infoL : (Try.prog.info? 33).map (fun i => (i.zero, i.size, i.bytes)) = some (some (.slice none 0 0), 1, 24) := by kernel_rfl
theorem infoM : (Try.prog.info? 96).map (fun i => (i.zero, i.size, i.bytes)) = some (some (.map none), 1, 8) := by kernel_rfl
theorem app_row_step (hw : Region.wanted o (yielded ops a.tmps) = true) (s x : Operand) (ho : o.op = .call { callee := .builtin .append, args := #[s, x], argTypes := #[86, 86] }) (xs : List (List Int)) (y : List Int) {g u : Nat} {vy : Value}
  (hs : a.eval s = v) (hx : a.eval x = .slice (some ⟨g, 0, none⟩) 1 1) (HO : krow.R 33 W w0.heap.size (fun k => own k = t) v xs) (hb : W.heap[g]? = some (.cells #[vy] 33 (0, 0))) (HY : Kd.R (Kd.int .i64) 2 W w0.heap.size (fun k => own k = u) vy y) (htu : t ≠ u) (HB : Below w0.heap.size w0 W) (hl : xs.length < 1048576)
  (h : ∀ v1 w1 own', krow.R 33 w1 w0.heap.size (fun k => own' k = t) v1 (xs ++ [y]) → Stp W w1 own own' (fun q => q = t ∨ q = u) → Below w0.heap.size w0 w1 → Kc (a.put o.dst v1) w1) :
  if Region.wanted o (yielded ops a.tmps) = true then Oper.wp Try.prog o a W Kc Q else Kc (a.put o.dst undef) W := by
 refine Kd.R_append_rows_step krow (Rr := fun x cs => krow.M W w0.heap.size (fun k => own k = u) x cs) (w0 := w0) w0.heap.size hw s x 86 33 (.slice none 0 0) 24 ho Try.underlying86 infoL rfl (by decide) (by omega) v xs [y] (some ⟨g, 0, none⟩) 1 1 (fun k => own k = t ∨ own k = u ∨ W.heap.size ≤ k) (fun k => own k = u) hs hx (Kd.R_mono HO (fun _ h => .inl h)) (one_row hb ⟨vy, rfl, HY⟩) (fun _ _ h => h) (fun k hk => ⟨.inr (.inl hk), fun e => htu ((HO.1 k e.symm).symm.trans hk)⟩) (fun _ h => .inr (.inr h)) HB HB.size (by omega) ?_
 intro v1 w1 h1 hb hg _
 obtain ⟨own', h2, h3⟩ := appended HO h1 hg
 exact h v1 w1 own' h2 h3 hb
theorem app_map (hgd : o.guard = none) (s x : Operand) (ho : o.op = .call { callee := .builtin .append, args := #[s, x], argTypes := #[87, 87] }) (xs : List Nat) (b : Nat) {g : Nat}
  (hs : a.eval s = v) (hx : a.eval x = .slice (some ⟨g, 0, none⟩) 1 1) (HO : kmap.R 96 W w0.heap.size (fun k => own k = t) v xs) (hb : W.heap[g]? = some (.cells #[.map (some b)] 96 (0, 0))) (HB : Below w0.heap.size w0 W) (hl : xs.length < 1048576)
  (h : ∀ v1 w1 own', kmap.R 96 w1 w0.heap.size (fun k => own' k = t) v1 (xs ++ [b]) → Stp W w1 own own' (fun q => q = t) → Below w0.heap.size w0 w1 → wpList Try.prog ops Q rest (a.put o.dst v1) w1) :
  wpList Try.prog ops Q (o :: rest) a W := by
 refine Kd.R_append_rows kmap (Rr := fun x cs => cs = [.map (some x)]) (w0 := w0) w0.heap.size hgd s x 87 96 (.map none) 8 ho Try.underlying87 infoM rfl (by decide) (by omega) v xs [b] (some ⟨g, 0, none⟩) 1 1 (fun k => own k = t ∨ own k = t ∨ W.heap.size ≤ k) (fun _ => False) hs hx (Kd.R_mono HO (fun _ h => .inl h)) (one_row hb rfl) (fun _ _ h => h) (fun _ h => h.elim) (fun _ h => .inr (.inr h)) HB HB.size (by show _ * 8 ≤ _; omega) ?_
 intro v1 w1 h1 hb hg _
 obtain ⟨own', h2, h3⟩ := appended HO h1 hg
 exact h v1 w1 own' h2 ⟨h3.size, fun k hk hn => h3.blk k hk (fun e => hn (e.elim id id)), fun k hk hn => h3.tag k hk (fun e => hn (e.elim id id))⟩ hb
theorem rows_at {xs : List (List Int)} {base : Nat} (h : krow.R 33 W base (fun k => own k = t) v xs) (i : Int) (h0 : 0 ≤ i) (h1 : i < xs.length) :
  ∃ g cv vk, v = .slice (some ⟨g, 0, none⟩) xs.length cv ∧ W.cell? ⟨g, i.toNat, none⟩ = some vk ∧ Kd.R (Kd.int .i64) 2 W base (fun k => own k = t) vk (rdL xs i) := by
 obtain ⟨g, cv, rfl, _⟩ := Kd.R_form h (by omega)
 obtain ⟨cs, hl, ⟨vk, rfl, hM⟩, hc, _⟩ := Kd.R_elem h ([] : List Int) i h0 h1
 refine ⟨g, cv, vk, rfl, ?_, Kd.R_mono hM (fun _ hk => hk.1)⟩
 have := hc 0 _ rfl
 simpa [Kd.slice] using this
theorem lit_ints (hgd : o.guard = none) {N : Tmp} (hd : o.dst = some N) (xs : List Int) (t : Nat)
  (hrun : (execOp a.eval o).run Try.prog W = .ok (.value (.slice (some ⟨W.heap.size, 0, none⟩) xs.length xs.length)) (W.alloc (.cells (nums .i64 xs).toArray 2 (0, 0)))) (HB : Below w0.heap.size w0 W) (hl : xs.length < 1048576)
  (h : ∀ v1 w1 own', Kd.R (Kd.int .i64) 2 w1 w0.heap.size (fun k => own' k = t) v1 xs → Stp W w1 own own' (fun _ => False) → Below w0.heap.size w0 w1 → wpList Try.prog ops Q rest (a.put o.dst v1) w1) :
  wpList Try.prog ops Q (o :: rest) a W := by
 refine Kd.R_lit (Kd.int .i64) (w0 := w0) w0.heap.size 2 hgd hd (xs := xs) (inner := nums .i64 xs) (ok := fun k => W.heap.size ≤ k) (okp := fun _ => False) hrun (Kd.reps_scalar (enc := Value.int .i64) xs) (fun _ h => h.elim) (Nat.le_refl _) HB HB.size (by omega) ?_
 intro v1 w1 h1 hb hg _
 refine h v1 w1 (fun k => if k < W.heap.size then own k else t) (Kd.R_mono (Kd.R_bound h1) (fun k hk => if_neg (by have := hk.1; omega))) ⟨hg.size, fun k hk _ => hg.block k hk (by simp), fun k hk _ => if_pos hk⟩ hb
theorem lit_one (hgd : o.guard = none) {N : Tmp} (hd : o.dst = some N) (u : Value) (e : Nat)
  (hrun : (execOp a.eval o).run Try.prog W = .ok (.value (.slice (some ⟨W.heap.size, 0, none⟩) 1 1)) (W.alloc (.cells #[u] e (0, 0))))
  (h : ∀ g w1, g = W.heap.size → w1.heap[g]? = some (.cells #[u] e (0, 0)) → Below W.heap.size W w1 → wpList Try.prog ops Q rest (a.put o.dst (.slice (some ⟨g, 0, none⟩) 1 1)) w1) :
  wpList Try.prog ops Q (o :: rest) a W := Kd.event_run hgd hrun (h _ _ rfl (blk_new W _) (below_alloc (Below.refl _ _) _))
theorem map_new (hgd : o.guard = none) {N : Tmp} (hd : o.dst = some N) (hrun : (execOp a.eval o).run Try.prog W = .ok (.value (.map (some W.heap.size))) (W.alloc (.map #[] 0)))
  (h : ∀ mb w1, mb = W.heap.size → MapSet w1 mb [] → Below W.heap.size W w1 → wpList Try.prog ops Q rest (a.put o.dst (.map (some mb))) w1) :
  wpList Try.prog ops Q (o :: rest) a W := Kd.event_run hgd hrun (h _ _ rfl (MapSet.made W) (below_alloc (Below.refl _ _) _))
end
section
variable {W w1 : World} {own own' : Tags} {base X : Nat} {pv nv fv lv wv : Value} {N : NetV} {ms : List Nat}
theorem NetW.set4 (h : NetW W base X own pv nv fv lv wv N ms) (hs : Stp W w1 own own' (fun q => q = 4)) {wv' : Value} {b : Nat} (hw : kmap.R 96 w1 base (fun k => own' k = 4) wv' (ms ++ [b])) (hm : MapSet W b []) (hb : own b = 8) (hbb : base ≤ b) (hn : b ∉ ms) :
  NetW (w1.setCell ⟨X, 4, none⟩ wv') base X own' pv nv fv lv wv' { N with fol := N.fol ++ [[]] } (ms ++ [b]) := by
 have hx := hs.block h.x (by rw [h.xo]; decide)
 have hst : Stp w1 (w1.setCell ⟨X, 4, none⟩ wv') own' own' (fun q => q = 7) := ⟨by simp [World.setCell], fun k hk hn => Below.heap_setCell w1 _ _ k (fun e => hn (by rw [show k = X from e, hx.2, h.xo])), fun _ _ _ => rfl⟩
 refine ⟨(blk_set hx.1 4 wv').trans rfl, h.xb, hx.2.trans h.xo, hst.row (hs.row h.n (by decide)) (by decide), hst.row (hs.row h.f (by decide)) (by decide), hst.row (hs.row h.l (by decide)) (by decide), hst.row hw (by decide), ?_⟩
 refine hst.maps ?_ (by decide)
 have h8 := hs.maps h.m (by decide)
 refine ⟨by rw [List.length_append, List.length_append, h8.len]; rfl, fun i c l hc hl => ?_, fun c hc => ?_, fun c hc => ?_, List.nodup_append.2 ⟨h8.nodup, by simp, fun p hp q hq e => ?_⟩⟩
 ·by_cases hi : i < ms.length
  ·rw [List.getElem?_append_left hi] at hc
   rw [List.getElem?_append_left (by rw [← h8.len]; exact hi)] at hl
   exact h8.at_ i c l hc hl
  ·have hi' : i < (ms ++ [b]).length := (List.getElem?_eq_some_iff.1 hc).1
   rw [List.length_append, List.length_singleton] at hi'
   have e : i = ms.length := by omega
   subst e
   rw [List.getElem?_append_right (Nat.le_refl _), Nat.sub_self] at hc
   rw [h8.len, List.getElem?_append_right (Nat.le_refl _), Nat.sub_self] at hl
   obtain rfl : b = c := by simpa using hc
   obtain rfl : [] = l := by simpa using hl
   exact hm.step (hs.blk b hm.lt (by rw [hb]; decide))
 ·rcases List.mem_append.1 hc with hc | hc
  ·exact h8.own_ c hc
  ·rw [List.mem_singleton.1 hc]; exact (hs.tag b hm.lt (by rw [hb]; decide)).trans hb
 ·rcases List.mem_append.1 hc with hc | hc
  ·exact h8.lo c hc
  ·rw [List.mem_singleton.1 hc]; exact hbb
 ·rw [List.mem_singleton.1 hq] at e
  exact hn (e ▸ hp)
theorem Stp.set7 (hx : own X = 7) (j : Nat) (u : Value) : Stp W (W.setCell ⟨X, j, none⟩ u) own own (fun q => q = 7) := ⟨by simp [World.setCell], fun k hk hn => Below.heap_setCell W _ _ k (fun e => hn (by rw [show k = X from e, hx])), fun _ _ _ => rfl⟩
theorem pos_f (n : PN) : impl_PNode_isPosition.f n.f0 n.f1 n.f2 n.f3 = some (posB n) := by
 unfold impl_PNode_isPosition.f posB
 by_cases h : n.f0 = 1
 ·rw [if_pos h, h]; rfl
 ·rw [if_neg h, beq_eq_false_iff_ne.2 h]; rfl
theorem opt_f (n : PN) : impl_PNode_isOptional.f n.f0 n.f1 n.f2 n.f3 = some (optB n) := by
 unfold impl_PNode_isOptional.f optB
 by_cases h : n.f3 = 1
 ·rw [if_pos h, h]; rfl
 ·rw [if_neg h, beq_eq_false_iff_ne.2 h]; rfl
theorem oft_f (n : PN) : impl_PNode_isOften.f n.f0 n.f1 n.f2 n.f3 = some (oftB n) := by
 unfold impl_PNode_isOften.f oftB
 by_cases h : n.f3 = 2
 ·rw [if_pos h, h]; rfl
 ·rw [if_neg h, beq_eq_false_iff_ne.2 h]; rfl
theorem fresh_tag (W : World) (own : Tags) {b : Nat} (hb : W.heap.size ≤ b) (t : Nat) : ∃ own' : Tags, own' b = t ∧ ∀ k, k < W.heap.size → own' k = own k :=
 ⟨fun k => if k = b then t else own k, if_pos rfl, fun k hk => if_neg (by omega)⟩
theorem Stp.fresh (hb : Below W.heap.size W w1) (ho : ∀ k, k < W.heap.size → own' k = own k) (S : Nat → Prop) : Stp W w1 own own' S := ⟨hb.size, fun k hk _ => hb.block k hk, fun k hk _ => ho k hk⟩
theorem NetW.new (h : NetW W base X own pv nv fv lv wv N ms) (hb : Below W.heap.size W w1) (ho : ∀ k, k < W.heap.size → own' k = own k) : NetW w1 base X own' pv nv fv lv wv N ms :=
 (Stp.net (S := fun _ => False) ⟨hb.size, fun k hk _ => hb.block k hk, fun k hk _ => ho k hk⟩ h (fun _ _ h => h))
theorem Stp.cell {S : Nat → Prop} (h : Stp W w1 own own' S) {g j : Nat} {v : Value} (hc : W.cell? ⟨g, j, none⟩ = some v) (hg : ¬ S (own g)) : w1.cell? ⟨g, j, none⟩ = some v := by
 have e := h.blk g (World.block_lt_of_cell? W _ hc) hg
 simpa [World.cell?, e] using hc
theorem NetW.drew (h : NetW W base X own pv nv fv lv wv N ms) : NetW W.drew base X own pv nv fv lv wv N ms := h.below (below_drew (Below.refl _ _))
theorem NetW.kid (h : NetW W base X own pv nv fv lv wv N ms) (k : Int) (h0 : 0 ≤ k) (h1 : k < N.nul.length) (h2 : k < N.fst.length) (h3 : k < N.lst.length) :
  ∃ gn cn gf cf Af af gl cl Al al, nv = .slice (some ⟨gn, 0, none⟩) N.nul.length cn ∧ W.cell? ⟨gn, k.toNat, none⟩ = some (.bool (rdOf false N.nul k)) ∧ own gn = 1 ∧
   fv = .slice (some ⟨gf, 0, none⟩) N.fst.length cf ∧ W.cell? ⟨gf, k.toNat, none⟩ = some (.slice Af (rdL N.fst k).length af) ∧ own gf = 2 ∧ Kd.R (Kd.int .i64) 2 W base (fun q => own q = 2) (.slice Af (rdL N.fst k).length af) (rdL N.fst k) ∧
   lv = .slice (some ⟨gl, 0, none⟩) N.lst.length cl ∧ W.cell? ⟨gl, k.toNat, none⟩ = some (.slice Al (rdL N.lst k).length al) ∧ own gl = 3 ∧ Kd.R (Kd.int .i64) 2 W base (fun q => own q = 3) (.slice Al (rdL N.lst k).length al) (rdL N.lst k) := by
 obtain ⟨gn, cn, e1, _⟩ := Kd.R_form h.n (by omega)
 have hn := h.n
 rw [e1] at hn
 have hnc := (Kd.R_cell (enc := Value.bool) (h1 := fun _ => rfl) false hn k h0 h1).1
 obtain ⟨gf, cf, vk, e2, hc2, hR2⟩ := rows_at h.f k h0 h2
 obtain ⟨gl, cl, vk3, e3, hc3, hR3⟩ := rows_at h.l k h0 h3
 obtain ⟨Af, af, rfl⟩ := Kd.R_slice hR2
 obtain ⟨Al, al, rfl⟩ := Kd.R_slice hR3
 exact ⟨gn, cn, gf, cf, Af, af, gl, cl, Al, al, e1, hnc, hn.1 gn rfl, e2, hc2, (by have := h.f.1; rw [e2] at this; exact this gf rfl), hR2, e3, hc3, (by have := h.l.1; rw [e3] at this; exact this gl rfl), hR3⟩
theorem fresh_row {α : Type} {d : Kd α} {e : Nat} {v : Value} {xs : List α} (h : d.R e w1 W.heap.size (fun _ => True) v xs) (hb : Below W.heap.size W w1) (hbase : base ≤ W.heap.size) (own : Tags) (t : Nat) :
  ∃ own' : Tags, d.R e w1 base (fun k => own' k = t) v xs ∧ Stp W w1 own own' (fun _ => False) :=
 ⟨fun k => if k < W.heap.size then own k else t, Kd.R_lower (Kd.R_mono (Kd.R_bound h) (fun k hk => if_neg (by have := hk.2.1; omega))) hbase, hb.size, fun k hk _ => hb.block k hk, fun k hk _ => if_pos hk⟩
theorem Stp.of_kept {S : Nat → Prop} (h : Kept W w1 (fun k => S (own k))) : Stp W w1 own own S := ⟨h.1, fun k hk hn => h.2 k hk hn, fun _ _ _ => rfl⟩
theorem Stp.tagc {S : Nat → Prop} (h : Stp W w1 own own' S) {g j : Nat} {v : Value} (hc : W.cell? ⟨g, j, none⟩ = some v) (hg : ¬ S (own g)) : own' g = own g := h.tag g (World.block_lt_of_cell? W _ hc) hg
theorem mine5 (t : Nat) (h : Mine t) : ¬ t = 5 := by unfold Mine at h; omega
theorem mine6 (t : Nat) (h : Mine t) : ¬ t = 6 := by unfold Mine at h; omega
end
def NetPost (w : World) (pv : Value) (Nf : NetV) (e : Ending) (w' : World) : Prop := ∃ X own nv fv lv wv ms, e = .returned (.pointer (some ⟨X, 0, none⟩)) ∧ NetW w' w.heap.size X own pv nv fv lv wv Nf ms ∧ Below w.heap.size w w'
/-! ### what it computes -/
abbrev SPm : Type := S42
def isN (s : ByteArray) (at_ : Nat) (bad : Bool) (c : Int) : Bool := !bad && (decide (at_ < s.size) && (bt s (at_ : Int) == c))
theorem rd_is_t {s : ByteArray} {at_ : Nat} {bad : Bool} {c : Int} (h : isN s at_ bad c = true) (hs : s.size ≤ 20000) : rd_is.f s (at_ : Int) bad c = some (true, s, ((at_ + 1 : Nat) : Int), bad) := by
 unfold isN at h
 simp only [Bool.and_eq_true, Bool.not_eq_true', decide_eq_true_eq, beq_iff_eq] at h
 obtain ⟨rfl, h1, h2⟩ := h
 have hw : wrap64 ((at_ : Int) + 1) = ((at_ + 1 : Nat) : Int) := by unfold wrap64; omega
 unfold rd_is.f
 rw [if_neg (by decide), if_neg (by omega), if_pos (by omega), if_pos (by omega), if_pos h2, hw]
theorem rd_is_f {s : ByteArray} {at_ : Nat} {bad : Bool} {c : Int} (h : isN s at_ bad c = false) : rd_is.f s (at_ : Int) bad c = some (false, s, (at_ : Int), bad) := by
 unfold rd_is.f
 cases bad with
 | true => rw [if_pos rfl]
 | false =>
  rw [if_neg (by decide)]
  by_cases h1 : at_ < s.size
  ·rw [if_neg (by omega), if_pos (by omega), if_pos (by omega), if_neg]
   intro h2
   have : isN s at_ false c = true := by
    unfold isN
    simp [h1, h2]
   rw [this] at h
   cases h
  ·rw [if_pos (by omega)]
def occN (s : ByteArray) (at_ : Nat) (bad : Bool) : Int × Nat :=
 if isN s at_ bad 63 = true then (1, at_ + 1) else if isN s at_ bad 42 = true then (2, at_ + 1) else if isN s at_ bad 43 = true then (3, at_ + 1) else (0, at_)
theorem rd_occur_N (s : ByteArray) (at_ : Nat) (bad : Bool) (hs : s.size ≤ 20000) : rd_occur.f s (at_ : Int) bad = some ((occN s at_ bad).1, s, ((occN s at_ bad).2 : Int), bad) := by
 unfold rd_occur.f occN
 cases h1 : isN s at_ bad 63 with
 | true => rw [rd_is_t h1 hs]; rfl
 | false =>
  rw [rd_is_f h1]
  simp only [Option.bind_some, Bool.false_eq_true, if_false]
  cases h2 : isN s at_ bad 42 with
  | true => rw [rd_is_t h2 hs]; rfl
  | false =>
   rw [rd_is_f h2]
   simp only [Option.bind_some, Bool.false_eq_true, if_false]
   cases h3 : isN s at_ bad 43 with
   | true => rw [rd_is_t h3 hs]; rfl
   | false => rw [rd_is_f h3]; rfl
def itS : Nat → ByteArray → Nat → Option Nat
 | 0, _, _ => none
 | k + 1, s, at_ => if at_ < s.size then ((spec_l1More.f (bt s (at_ : Int))).bind fun m => if m = true then itS k s (at_ + 1) else some at_) else some at_
def itA (s : ByteArray) (at_ : Nat) (kind : Int) (kids : List Int) : Nat × Bool × Int :=
 if 0 < kids.length then
  (if isN s at_ false 124 = true then
   (if kids.length = 1 then (at_ + 1, false, 3) else if kind = 3 then (at_ + 1, false, kind) else (at_ + 1, true, kind))
  else if kind = 3 then (at_, true, kind) else if isN s at_ false 44 = true then (at_ + 1, false, kind) else (at_, true, kind))
 else (at_, false, kind)
def itT (s : ByteArray) (at_ : Nat) (bad : Bool) (out : List SPm) (kind : Int) (name : ByteArray) (kids : List Int) : Option (Int × Nat × Bool × List SPm) :=
 if out.length < 1000000 then some ((out.length : Int), (occN s at_ bad).2, bad || decide (40 < out.length + 1), out ++ [⟨kind, name, kids, (occN s at_ bad).1⟩]) else none
mutual
def itF : Nat → ByteArray → Nat → Bool → List SPm → Int → Option (Int × Nat × Bool × List SPm)
 | 0, _, _, _, _, _ => none
 | k + 1, s, at_, bad, out, deep =>
  if isN s at_ bad 40 = true then (itL k s (at_ + 1) (bad || decide (deep > 10)) out deep 2 []).bind fun x => itT s x.1 x.2.1 x.2.2.1 x.2.2.2.1 (⟨#[]⟩ : ByteArray) x.2.2.2.2
  else if isN s at_ bad 35 = true then itT s (at_ + 1) bad out 4 (⟨#[]⟩ : ByteArray) []
  else (itS k s at_).bind fun e => if at_ ≤ e ∧ e ≤ s.size then ((spec_NameOk.f k (s.extract at_ e)).bind fun ok => itT s e (if ok = true then bad else true) out 1 (s.extract at_ e) []) else none
def itL : Nat → ByteArray → Nat → Bool → List SPm → Int → Int → List Int → Option (Nat × Bool × List SPm × Int × List Int)
 | 0, _, _, _, _, _, _, _ => none
 | k + 1, s, at_, bad, out, deep, kind, kids =>
  if bad = true then some (at_, bad, out, kind, kids)
  else if isN s at_ false 41 = true then some (at_ + 1, false, out, kind, kids)
  else (itF k s (itA s at_ kind kids).1 (itA s at_ kind kids).2.1 out (wrap64 (deep + 1))).bind fun r => if kids.length < 1000000 then itL k s r.2.1 r.2.2.1 r.2.2.2 deep (itA s at_ kind kids).2.2 (kids ++ [r.1]) else none
end
/-! ### what it holds -/
section
variable {w0 we w w' : World} {owe own own' : Tags} {g b : Nat} {s : ByteArray} {at_ at' : Int} {bad bad' : Bool} {v vo : Value} {out : List SPm} {kind : Int} {name : ByteArray} {kv kw : Value} {kids : List Int} {occ : Int}
structure Fr (w0 we w : World) (owe own : Tags) (g b : Nat) (s : ByteArray) (at_ : Int) (bad : Bool) (v vo : Value) (out : List SPm) (kind : Int) (name : ByteArray) (kv kw : Value) (kids : List Int) (occ : Int) : Prop where
 st : w.heap[g]? = some (.cells #[.string s, .int .i64 at_, .bool bad, v] 54 (0, 0))
 g0 : own g = 0
 gw : w0.heap.size ≤ g
 bx : w.heap[b]? = some (.cells #[.int .i64 kind, .string name, kv, .int .i64 occ] 42 (0, 0))
 b3 : own b = 3
 bw : w0.heap.size ≤ b
 o : Kd.S k42 42 w w0.heap.size (fun k => own k = 1) vo out
 kr : Kd.R (Kd.int .i64) 2 w w0.heap.size (fun k => own k = 2) kw kids
 bl : Below w0.heap.size w0 w
 sp : Stp we w owe own (fun t => t ≤ 3)
theorem Fr.state (F : Fr w0 we w owe own g b s at_ bad v vo out kind name kv kw kids occ) : IsR54 w0 w g s at_ bad v := ⟨F.st, F.gw⟩
theorem Fr.bg (F : Fr w0 we w owe own g b s at_ bad v vo out kind name kv kw kids occ) : b ≠ g := by
 rintro rfl
 have h1 := F.b3
 rw [F.g0] at h1
 cases h1
theorem Fr.old (F : Fr w0 we w owe own g b s at_ bad v vo out kind name kv kw kids occ) {k : Nat} (hk : k < we.heap.size) (hn : ¬ owe k ≤ 3) : own k = owe k ∧ k < w.heap.size := ⟨F.sp.tag k hk hn, Nat.lt_of_lt_of_le hk F.sp.size⟩
theorem S_stp {S : Nat → Prop} {t : Nat} {α : Type} {d : Kd α} {e base : Nat} {u : Value} {xs : List α} (h : Stp w w' own own' S) (hr : Kd.S d e w base (fun k => own k = t) u xs) (ht : ¬ S t) : Kd.S d e w' base (fun k => own' k = t) u xs :=
 Kd.S_mono (Kd.S_step (Kd.S_bound hr) (fun k hk hlt => h.blk k hlt (by rw [hk.1]; exact ht))) (fun k hk => (h.tag k hk.2.2.1 (by rw [hk.1]; exact ht)).trans hk.1)
theorem Fr.is (F : Fr w0 we w owe own g b s at_ bad v vo out kind name kv kw kids occ) {v' : Value} (hI : IsR54 w0 w' g s at' bad' v') (hb : Below w0.heap.size w0 w') (hk : KeepBut w w' g none) : Fr w0 we w' owe own g b s at' bad' v' vo out kind name kv kw kids occ :=
 ⟨hI.1, F.g0, F.gw, (hk.2 b (blk_lt F.bx) F.bg (by simp)).trans F.bx, F.b3, F.bw, Kd.S_keep F.o hk (fun k hq => by rintro rfl; rw [F.g0] at hq; cases hq), Kd.R_keep F.kr hk (fun k hq => by rintro rfl; rw [F.g0] at hq; cases hq), hb,
  ⟨Nat.le_trans F.sp.size hk.1, fun k h1 h2 => (hk.2 k (F.old h1 h2).2 (by rintro rfl; have := (F.old h1 h2).1; rw [F.g0] at this; omega) (by simp)).trans (F.sp.blk k h1 h2), F.sp.tag⟩⟩
theorem Fr.below (F : Fr w0 we w owe own g b s at_ bad v vo out kind name kv kw kids occ) (hb : Below w.heap.size w w') : Fr w0 we w' owe own g b s at_ bad v vo out kind name kv kw kids occ :=
 F.is ⟨blk_below F.st hb, F.gw⟩ (below_step F.bl hb) (KeepBut.of_below hb g none)
theorem Fr.drawn (F : Fr w0 we w owe own g b s at_ bad v vo out kind name kv kw kids occ) (h : Drawn0 w w') : Fr w0 we w' owe own g b s at_ bad v vo out kind name kv kw kids occ := by
 obtain ⟨n, rfl⟩ := h.out
 exact F.below (pw_below_drewN (Below.refl _ _) n)
theorem Fr.set1 (F : Fr w0 we w owe own g b s at_ bad v vo out kind name kv kw kids occ) (x : Int) : Fr w0 we (w.setCell ⟨g, 1, none⟩ (.int .i64 x)) owe own g b s x bad v vo out kind name kv kw kids occ := F.is (F.state.set_1 x) (below_set F.bl F.gw) ((KeepBut.refl w g none).set_ 1 _)
theorem Fr.set2 (F : Fr w0 we w owe own g b s at_ bad v vo out kind name kv kw kids occ) (x : Bool) : Fr w0 we (w.setCell ⟨g, 2, none⟩ (.bool x)) owe own g b s at_ x v vo out kind name kv kw kids occ := F.is (F.state.set_2 x) (below_set F.bl F.gw) ((KeepBut.refl w g none).set_ 2 _)
theorem Fr.set3 (F : Fr w0 we w owe own g b s at_ bad v vo out kind name kv kw kids occ) : Fr w0 we (w.setCell ⟨g, 3, none⟩ vo) owe own g b s at_ bad vo vo out kind name kv kw kids occ :=
 F.is ⟨by simpa using blk_set F.st 3 vo, F.gw⟩ (below_set F.bl F.gw) ((KeepBut.refl w g none).set_ 3 _)
theorem Fr.setb (F : Fr w0 we w owe own g b s at_ bad v vo out kind name kv kw kids occ) (j : Nat) (u : Value) {kind' : Int} {name' : ByteArray} {kv' : Value} {occ' : Int} (hc : (#[.int .i64 kind, .string name, kv, .int .i64 occ] : Array Value).setIfInBounds j u = #[.int .i64 kind', .string name', kv', .int .i64 occ']) : Fr w0 we (w.setCell ⟨b, j, none⟩ u) owe own g b s at_ bad v vo out kind' name' kv' kw kids occ' := by
 have hk : KeepBut w (w.setCell ⟨b, j, none⟩ u) b none := (KeepBut.refl w b none).set_ j u
 exact ⟨(hk.2 g (blk_lt F.st) (fun e => F.bg e.symm) (by simp)).trans F.st, F.g0, F.gw, (blk_set F.bx j u).trans (by rw [hc]), F.b3, F.bw, Kd.S_keep F.o hk (fun k hq => by rintro rfl; rw [F.b3] at hq; cases hq), Kd.R_keep F.kr hk (fun k hq => by rintro rfl; rw [F.b3] at hq; cases hq), below_set F.bl F.bw,
  ⟨Nat.le_trans F.sp.size hk.1, fun k h1 h2 => (hk.2 k (F.old h1 h2).2 (by rintro rfl; have := (F.old h1 h2).1; rw [F.b3] at this; omega) (by simp)).trans (F.sp.blk k h1 h2), F.sp.tag⟩⟩
theorem Fr.grow (F : Fr w0 we w owe own g b s at_ bad v vo out kind name kv kw kids occ) {kw' : Value} {kids' : List Int} (hs : Stp w w' own own' (fun q => q = 2)) (hr : Kd.R (Kd.int .i64) 2 w' w0.heap.size (fun k => own' k = 2) kw' kids') (hb : Below w0.heap.size w0 w') : Fr w0 we w' owe own' g b s at_ bad v vo out kind name kv kw' kids' occ := by
 have hg := hs.block F.st (by rw [F.g0]; decide)
 have hx := hs.block F.bx (by rw [F.b3]; decide)
 exact ⟨hg.1, hg.2.trans F.g0, F.gw, hx.1, hx.2.trans F.b3, F.bw, S_stp hs F.o (by decide), hr, hb,
  ⟨Nat.le_trans F.sp.size hs.size, fun k h1 h2 => (hs.blk k (F.old h1 h2).2 (by have := (F.old h1 h2).1; intro e; omega)).trans (F.sp.blk k h1 h2), fun k h1 h2 => (hs.tag k (F.old h1 h2).2 (by have := (F.old h1 h2).1; intro e; omega)).trans (F.sp.tag k h1 h2)⟩⟩
theorem Fr.call (F : Fr w0 we w owe own g b s at_ bad v vo out kind name kv kw kids occ) {v' : Value} {out' : List SPm} (hI : IsR54 w0 w' g s at' bad' v') (hg0 : own' g = 0) (ho : Kd.S k42 42 w' w0.heap.size (fun k => own' k = 1) v' out') (hs : Stp w w' own own' (fun t => t ≤ 1)) (hb : Below w0.heap.size w0 w') : Fr w0 we w' owe own' g b s at' bad' v' v' out' kind name kv kw kids occ := by
 have hx := hs.block F.bx (by rw [F.b3]; decide)
 exact ⟨hI.1, hg0, F.gw, hx.1, hx.2.trans F.b3, F.bw, ho, hs.row F.kr (by decide), hb,
  ⟨Nat.le_trans F.sp.size hs.size, fun k h1 h2 => (hs.blk k (F.old h1 h2).2 (by have := (F.old h1 h2).1; omega)).trans (F.sp.blk k h1 h2), fun k h1 h2 => (hs.tag k (F.old h1 h2).2 (by have := (F.old h1 h2).1; omega)).trans (F.sp.tag k h1 h2)⟩⟩
theorem Fr.laid (F : Fr w0 we w owe own g b s at_ bad v vo out kind name kv kw kids occ) {vo' : Value} {out' : List SPm} (hg : w.grownBy w' vo.ownBlock) (hb : Below w0.heap.size w0 w')
  (ho : Kd.S k42 42 w' w0.heap.size (fun k => own k = 1 ∨ own k = 2 ∨ w.heap.size ≤ k) vo' out') :
  ∃ own', Fr w0 we w' owe own' g b s at_ bad v vo' out' kind name kv (.slice none 0 0) [] occ := by
 have hv : ∀ k, vo.ownBlock = some k → own k = 1 := fun k hk => (Kd.S_R F.o).1 k hk
 have hblk : ∀ k, k < w.heap.size → own k ≠ 1 → w'.heap[k]? = w.heap[k]? := by
  intro k hk hn
  exact hg.block k hk (fun e => hn (hv k e.symm))
 have hsz : w.heap.size ≤ w'.heap.size := hg.size
 refine ⟨fun k => if k < w.heap.size then (if own k = 2 then 1 else own k) else 1, ?_⟩
 have tag : ∀ k, k < w.heap.size → own k ≠ 2 → (if k < w.heap.size then (if own k = 2 then 1 else own k) else 1) = own k := by
  intro k hk hn
  rw [if_pos hk, if_neg hn]
 refine ⟨(hblk g (blk_lt F.st) (by rw [F.g0]; decide)).trans F.st, (tag g (blk_lt F.st) (by rw [F.g0]; decide)).trans F.g0, F.gw, (hblk b (blk_lt F.bx) (by rw [F.b3]; decide)).trans F.bx, (tag b (blk_lt F.bx) (by rw [F.b3]; decide)).trans F.b3, F.bw, Kd.S_mono ho ?_, Kd.R_nil _ _ _ _ _, hb, Nat.le_trans F.sp.size hsz, ?_, ?_⟩
 ·intro k hk
  show (if k < w.heap.size then (if own k = 2 then 1 else own k) else 1) = 1
  by_cases c : k < w.heap.size
  ·rw [if_pos c]
   rcases hk with h | h | h
   ·rw [if_neg (by rw [h]; decide), h]
   ·rw [if_pos h]
   ·omega
  ·rw [if_neg c]
 ·intro k h1 h2
  exact (hblk k (F.old h1 h2).2 (by have := (F.old h1 h2).1; omega)).trans (F.sp.blk k h1 h2)
 ·intro k h1 h2
  exact (tag k (F.old h1 h2).2 (by have := (F.old h1 h2).1; omega)).trans (F.sp.tag k h1 h2)
def aside (own : Tags) : Tags := fun k => if own k ≤ 1 then own k else 4
theorem Fr.done {ownC : Tags} (F : Fr w0 we w (aside ownC) own g b s at_ bad v v out kind name kv kw kids occ) (hgc : ownC g = 0) :
  ∃ own', own' g = 0 ∧ Kd.S k42 42 w w0.heap.size (fun k => own' k = 1) v out ∧ Stp we w ownC own' (fun t => t ≤ 1) := by
 have ha : ∀ k, ¬ ownC k ≤ 1 → ¬ aside ownC k ≤ 3 := by
  intro k hk
  unfold aside
  rw [if_neg hk]
  decide
 refine ⟨fun k => if k < we.heap.size ∧ ¬ ownC k ≤ 1 then ownC k else own k, ?_, Kd.S_mono F.o ?_, F.sp.size, ?_, ?_⟩
 ·show (if g < we.heap.size ∧ ¬ ownC g ≤ 1 then ownC g else own g) = 0
  rw [if_neg (by rw [hgc]; omega)]
  exact F.g0
 ·intro k hk
  show (if k < we.heap.size ∧ ¬ ownC k ≤ 1 then ownC k else own k) = 1
  by_cases c : k < we.heap.size ∧ ¬ ownC k ≤ 1
  ·have := F.sp.tag k c.1 (ha k c.2)
   rw [hk] at this
   exact absurd this.symm (by have := ha k c.2; omega)
  ·rw [if_neg c]; exact hk
 ·intro k h1 h2
  exact F.sp.blk k h1 (ha k h2)
 ·intro k h1 h2
  show (if k < we.heap.size ∧ ¬ ownC k ≤ 1 then ownC k else own k) = ownC k
  rw [if_pos ⟨h1, h2⟩]
theorem Fr.cells (F : Fr w0 we w owe own g b s at_ bad v vo out kind name kv kw kids occ) : (w.cell? ⟨g, 0, none⟩ = some (.string s) ∧ w.cell? ⟨g, 1, none⟩ = some (.int .i64 at_) ∧ w.cell? ⟨g, 2, none⟩ = some (.bool bad) ∧ w.cell? ⟨g, 3, none⟩ = some v) ∧ (w.cell? ⟨b, 0, none⟩ = some (.int .i64 kind) ∧ w.cell? ⟨b, 1, none⟩ = some (.string name) ∧ w.cell? ⟨b, 2, none⟩ = some kv ∧ w.cell? ⟨b, 3, none⟩ = some (.int .i64 occ)) ∧ (w.frozen? ⟨g, 1, none⟩ = false ∧ w.frozen? ⟨g, 2, none⟩ = false ∧ w.frozen? ⟨g, 3, none⟩ = false) ∧ w.frozen? ⟨b, 0, none⟩ = false ∧ w.frozen? ⟨b, 1, none⟩ = false ∧ w.frozen? ⟨b, 2, none⟩ = false ∧ w.frozen? ⟨b, 3, none⟩ = false :=
 ⟨⟨(blk_cell F.st 0).trans rfl, (blk_cell F.st 1).trans rfl, (blk_cell F.st 2).trans rfl, (blk_cell F.st 3).trans rfl⟩, ⟨(blk_cell F.bx 0).trans rfl, (blk_cell F.bx 1).trans rfl, (blk_cell F.bx 2).trans rfl, (blk_cell F.bx 3).trans rfl⟩, ⟨blk_frozen F.st 1, blk_frozen F.st 2, blk_frozen F.st 3⟩, blk_frozen F.bx 0, blk_frozen F.bx 1, blk_frozen F.bx 2, blk_frozen F.bx 3⟩
end
end Go.Proofs.Ytajdfbgbkgabjaa.L
