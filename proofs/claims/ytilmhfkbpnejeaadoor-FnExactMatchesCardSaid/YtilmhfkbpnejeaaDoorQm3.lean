/- Words and contracts for the row RowFnExactMatches: what the Go functions answer that it calls; printed by programs of the kit and of this session, and merged. -/
import Derived.Test.YtilmhfkbpnejeaaDoorQm2
import Derived.Lib.Hide
import Derived.Outline
import Derived.WalkSpells
namespace Go.Proofs.YtilmhfkbpnejeaaDoor.L
open Go.RowKit Go.Proofs.YtilmhfkbpnejeaaDoorW.PrintWords Go.Proofs.YtilmhfkbpnejeaaDoorW.PrintLast Go.Proofs.YtilmhfkbpnejeaaDoorW.PrintMore
attribute [local go_sem] max2_int min2_int max_two min_two max_three min_three max_four min_four
set_option linter.unusedVariables false
set_option linter.unusedSimpArgs false

/-! ### laws_toRNodeS: function 34 -/
def laws_toRNodeS.l0 : Nat → List (S88) → List (S93) → Int → Option ((List (S93)))
 | 0, _, _, _ => none
 | k + 1, x0, x3, x4 => if x4 < (x0.length : Int) then (if 0 ≤ x4 then ((laws_toRNode.f k ((rd_T88 x0 x4).f0) ((rd_T88 x0 x4).f1) ((rd_T88 x0 x4).f2) ((rd_T88 x0 x4).f3) ((rd_T88 x0 x4).f4) ((rd_T88 x0 x4).f5) ((rd_T88 x0 x4).f6)).bind fun bt249 => (if x4 < (x3.length : Int) then (laws_toRNodeS.l0 k x0 (x3.set (x4 : Int).toNat (⟨bt249.1, bt249.2.1, bt249.2.2.1, bt249.2.2.2.1, bt249.2.2.2.2.1, bt249.2.2.2.2.2.1, bt249.2.2.2.2.2.2⟩ : S93)) (wrap64 (x4 + 1))) else (none))) else (none)) else (some x3)
def laws_toRNodeS.f (k : Nat) (l0 : List (S88)) : Option ((List (S93))) := if 0 ≤ (l0.length : Int) then (if ((l0.length : Int) : Int).toNat ≤ 3909374676536 then (laws_toRNodeS.l0 k l0 (List.replicate ((l0.length : Int) : Int).toNat z93) 0) else (none)) else (none)
set_option maxHeartbeats 8000000 in
set_option maxRecDepth 100000 in
theorem laws_toRNodeS.calls (k : Nat) (A0 : Option Addr) (c0 : Nat) (l0 : List (S88)) (r : List (S93)) (w : World) (hr0 : Kd.C k88 w A0 l0.length l0) (hc0 : l0.length ≤ c0) (h : laws_toRNodeS.f k l0 = some r) :
  Calls Tryd.prog 34 #[.slice A0 l0.length c0] w fun e w' => ∃ v0_ : Value, e = .returned (v0_) ∧ Kd.S k93 93 w' w.heap.size (fun _ => True) v0_ r ∧ Below w.heap.size w w' := by
 have hu88 := Tryd.underlying88
 have hu93 := Tryd.underlying93
 have HR0 := Aside0.mk hr0
 have HC0 := Aside0.mk hc0
 clear hr0 hc0
 have HB := Aside0.mk (Below.refl w.heap.size w)
 have H : (if 0 ≤ (l0.length : Int) then (if ((l0.length : Int) : Int).toNat ≤ 3909374676536 then (laws_toRNodeS.l0 k l0 (List.replicate ((l0.length : Int) : Int).toNat z93) 0) else (none)) else (none)) = some r := h
 clear h
 by_cases c2 : 0 ≤ (l0.length : Int)
 ·rw [if_pos c2] at H
  have c2b0 := eq_true c2
  have c2b1 := decide_eq_true c2
  clear c2
  by_cases c3 : ((l0.length : Int) : Int).toNat ≤ 3909374676536
  ·rw [if_pos c3] at H
   have c3b0 := eq_true c3
   have c3b1 := decide_eq_true c3
   clear c3
   obtain ⟨y245, hy245⟩ : ∃ y_ : List (S93), y_ = (List.replicate ((l0.length : Int) : Int).toNat z93) := ⟨_, rfl⟩
   replace H : (laws_toRNodeS.l0 k l0 y245 0) = some r := by first | (rw [hy245]; with_reducible exact H) | (have H2_ := (Option.bind_some _ _).symm.trans H; rw [hy245]; with_reducible exact H2_) | (have H2_ := (Option.bind_some _ _).symm.trans H; with_reducible exact H2_) | with_reducible exact H | (rw [hy245]; exact H) | exact H
   have Ny245 := Aside0.mk hy245
   clear hy245
   have H' := Aside0.mk H
   clear H
   go_enter Tryd.func34, Tryd.ntmps34
   go_wp2_with (first | ((with_reducible refine gate_dst (N := 7) rfl ?_); refine Kd.S_make k93 _ 93 rfl (N := 7) rfl 44 _ _ rfl (l0.length : Int) rfl rfl Tryd.underlying44 (.agg #[(.int .i64 0), (.bool false), (.slice none 0 0), (.int .i64 0), (.int .i64 0), (.int .i64 0), (.int .i64 0)]) 72 info93 rfl dq28 dq24 z93 (ok := fun _ => True) (okp := fun _ => True) (k93_mkM _ _ _ z93 (Kd.R_nil _ _ _ _ _)) (fun _ hk => hk) trivial (of_decide_eq_true dq21) (Nat.le_trans (Nat.mul_le_mul_right _ (of_decide_eq_true dq21 : (l0.length : Int).toNat ≤ 3909374676536)) dq24) (Below.refl _ _) (Nat.le_refl _) ?_; intro v246 w4 ho5 hb hg_ hnew_; clear hg_ hnew_; (first | rw [← Ny245.out] at ho5 | (simp only [Int.reduceToNat] at ho5; rw [← Ny245.out] at ho5)); have n0_ := Aside0.mk (Kd.S_lower ho5 (below_size dq18)); have n1_ := Aside0.mk (below_step dq18 hb); clear HB; have HO247 := n0_; have HB := n1_; clear n0_ n1_; clear hb ho5))
   go_loopg [4] k (fun kq v4 w' => ∃ (x3_1 : List (S93)) (x4_1 : Int), v4 = .int .i64 x4_1 ∧ Aside0 (laws_toRNodeS.l0 kq l0 x3_1 x4_1 = some r) ∧ Aside0 (kq ≤ k) ∧ Aside0 (Kd.S k93 93 w' w.heap.size (fun _ => True) v246 x3_1) ∧ Aside0 (Below w.heap.size w w'))
   case atStart => exact ⟨(y245), (0), dq14, H', ⟨Nat.le_refl _⟩, ⟨by (with_reducible repeat (first | apply Kd.S_alloc | apply Kd.S_drewN | apply Kd.S_drew)); exact HO247.out⟩, ⟨dq18⟩⟩
   case round =>
    clear H'
    try clear c2
    try clear c2b0
    try clear c2b1
    try clear p2
    try clear c3
    try clear c3b0
    try clear c3b1
    obtain ⟨x3_1, x4_1, rfl, HA, HK1, HO_3, HB⟩ := hrel
    cases gk with
    | zero => exact absurd HA.out (by simp [laws_toRNodeS.l0])
    | succ k1 =>
     have H := HA.out
     clear HA
     simp only [laws_toRNodeS.l0] at H
     by_cases c6 : x4_1 < (l0.length : Int)
     ·rw [if_pos c6] at H
      have c6b0 := decide_eq_true c6
      clear c6
      by_cases c7 : 0 ≤ x4_1
      ·rw [if_pos c7] at H
       have c7b0 := decide_eq_true c7
       clear c7
       replace H := Option.bind_eq_some_iff.mp H
       obtain ⟨⟨t249, t250, t251, t254, t255, t256, t257⟩, A80, H⟩ := H
       replace H : (if x4_1 < (x3_1.length : Int) then (laws_toRNodeS.l0 k1 l0 (x3_1.set (x4_1 : Int).toNat (⟨t249, t250, t251, t254, t255, t256, t257⟩ : S93)) (wrap64 (x4_1 + 1))) else (none)) = some r := H
       have A8 := Aside0.mk A80
       clear A80
       by_cases c9 : x4_1 < (x3_1.length : Int)
       ·rw [if_pos c9] at H
        have c9b0 := decide_eq_true c9
        clear c9
        obtain ⟨y258, hy258⟩ : ∃ y_ : List (S93), y_ = (x3_1.set (x4_1 : Int).toNat (⟨t249, t250, t251, t254, t255, t256, t257⟩ : S93)) := ⟨_, rfl⟩
        replace H : (laws_toRNodeS.l0 k1 l0 y258 (wrap64 (x4_1 + 1))) = some r := by first | (rw [hy258]; with_reducible exact H) | (have H2_ := (Option.bind_some _ _).symm.trans H; rw [hy258]; with_reducible exact H2_) | (have H2_ := (Option.bind_some _ _).symm.trans H; with_reducible exact H2_) | with_reducible exact H | (rw [hy258]; exact H) | exact H
        have Ny258 := Aside0.mk hy258
        clear hy258
        have H' := Aside0.mk H
        clear H
        have p248 : 0 ≤ (x4_1 : Int) := of_decide_eq_true dq21
        have q248 : x4_1 < (l0.length : Int) := of_decide_eq_true dq21
        obtain ⟨ad248, A248_2, c248_2, e248, hx248_0, hx248_1, hx248_2, hx248_3, hx248_4, hx248_5, hx248_6, hl248_2, hi248_2⟩ := at_T88 HR0.out x4_1 p248 q248
        cases e248
        replace hx248_0 := (HB.out.cell (World.block_lt_of_cell? w _ hx248_0)).trans hx248_0
        replace hx248_1 := (HB.out.cell (World.block_lt_of_cell? w _ hx248_1)).trans hx248_1
        replace hx248_2 := (HB.out.cell (World.block_lt_of_cell? w _ hx248_2)).trans hx248_2
        replace hx248_3 := (HB.out.cell (World.block_lt_of_cell? w _ hx248_3)).trans hx248_3
        replace hx248_4 := (HB.out.cell (World.block_lt_of_cell? w _ hx248_4)).trans hx248_4
        replace hx248_5 := (HB.out.cell (World.block_lt_of_cell? w _ hx248_5)).trans hx248_5
        replace hx248_6 := (HB.out.cell (World.block_lt_of_cell? w _ hx248_6)).trans hx248_6
        have HR248_2 := Aside0.mk hi248_2
        have HC248_2 := Aside0.mk hl248_2
        clear hi248_2 hl248_2
        replace p248 := eq_true p248
        replace q248 := eq_true q248
        go_wp2_with (first | ((with_reducible refine gate_callee (f := 75) rfl ?_); refine goesL_ (some 20) rfl rfl Tryd.func75 dq16 rfl #[.agg #[.int .i64 ((rd_T88 l0 x4_1).f0), .bool ((rd_T88 l0 x4_1).f1), .slice A248_2 ((rd_T88 l0 x4_1).f2).length c248_2, .int .i64 ((rd_T88 l0 x4_1).f3), .int .i64 ((rd_T88 l0 x4_1).f4), .int .i64 ((rd_T88 l0 x4_1).f5), .int .i64 ((rd_T88 l0 x4_1).f6)]] rfl dq15 ?_; (with_reducible refine (laws_toRNode.calls k1 ((rd_T88 l0 x4_1).f0) ((rd_T88 l0 x4_1).f1) _ _ ((rd_T88 l0 x4_1).f2) ((rd_T88 l0 x4_1).f3) ((rd_T88 l0 x4_1).f4) ((rd_T88 l0 x4_1).f5) ((rd_T88 l0 x4_1).f6) t249 t250 t251 t254 t255 t256 t257 _ ?side1 ?side2 A8.out).mono ?_); (case side1 => repeat (first | exact (Kd.C_below HR248_2.out HB.out) | (with_reducible refine Kd.C_alloc ?_ _) | (with_reducible refine Kd.C_drewN ?_ _) | (with_reducible refine Kd.C_drew ?_))); (case side2 => exact HC248_2.out); rintro e w11 ⟨v252, rfl, ho0, hb⟩; refine ⟨_, rfl, ?_⟩; have n0_ := Aside0.mk (Kd.S_elder' dq71 (Kd.R_base ho0) hb); have n1_ := Aside0.mk (Kd.R_lower ho0 (below_size dq18)); have n2_ := Aside0.mk (below_step dq18 hb); clear HO_3; clear HB; have HO_3 := n0_; have HO253 := n1_; have HB := n2_; clear n0_ n1_ n2_; (try clear hb); (try clear hb2); (try clear hk); (try clear hi); (try clear ho0); have p10 : 0 ≤ (x4_1 : Int) := of_decide_eq_true dq21; have q10 : (x4_1 : Int) < ((x3_1.length : Int) : Int) := of_decide_eq_true dq21; obtain ⟨go10, co10, eo10, gb10, gl10, cl10, HG10⟩ := Kd.S_form HO_3.out dq24; (first | cases eo10 | (injection eo10 with ea_ en_ ec_; (first | subst ea_ | (injection ea_ with ea_; subst ea_)); subst ec_; clear en_)); have GB10 := Aside0.mk gb10; have GG10 := Aside0.mk HG10; clear gb10 gl10 HG10; obtain ⟨_, ce10, hcl10, hM10, hcc10, hfr10, _, _⟩ := Kd.S_elem HO_3.out z93 (x4_1 : Int) p10 q10; obtain ⟨ve10_2, rfl, ge10_2⟩ := k93_openM hM10; have hx10_0 : w11.cell? ⟨go10, (x4_1 : Int).toNat * 7, none⟩ = some (.int .i64 ((rd_T93 x3_1 x4_1).f0)) := hcc10 0 _ rfl; have hx10_1 : w11.cell? ⟨go10, (x4_1 : Int).toNat * 7 + 1, none⟩ = some (.bool ((rd_T93 x3_1 x4_1).f1)) := hcc10 1 _ rfl; have hx10_2 : w11.cell? ⟨go10, (x4_1 : Int).toNat * 7 + 2, none⟩ = some (ve10_2) := hcc10 2 _ rfl; have hx10_3 : w11.cell? ⟨go10, (x4_1 : Int).toNat * 7 + 3, none⟩ = some (.int .i64 ((rd_T93 x3_1 x4_1).f3)) := hcc10 3 _ rfl; have hx10_4 : w11.cell? ⟨go10, (x4_1 : Int).toNat * 7 + 4, none⟩ = some (.int .i64 ((rd_T93 x3_1 x4_1).f4)) := hcc10 4 _ rfl; have hx10_5 : w11.cell? ⟨go10, (x4_1 : Int).toNat * 7 + 5, none⟩ = some (.int .i64 ((rd_T93 x3_1 x4_1).f5)) := hcc10 5 _ rfl; have hx10_6 : w11.cell? ⟨go10, (x4_1 : Int).toNat * 7 + 6, none⟩ = some (.int .i64 ((rd_T93 x3_1 x4_1).f6)) := hcc10 6 _ rfl; have hf10_0 : w11.frozen? ⟨go10, (x4_1 : Int).toNat * 7, none⟩ = false := hfr10 0; have hf10_1 : w11.frozen? ⟨go10, (x4_1 : Int).toNat * 7 + 1, none⟩ = false := hfr10 1; have hf10_2 : w11.frozen? ⟨go10, (x4_1 : Int).toNat * 7 + 2, none⟩ = false := hfr10 2; have hf10_3 : w11.frozen? ⟨go10, (x4_1 : Int).toNat * 7 + 3, none⟩ = false := hfr10 3; have hf10_4 : w11.frozen? ⟨go10, (x4_1 : Int).toNat * 7 + 4, none⟩ = false := hfr10 4; have hf10_5 : w11.frozen? ⟨go10, (x4_1 : Int).toNat * 7 + 5, none⟩ = false := hfr10 5; have hf10_6 : w11.frozen? ⟨go10, (x4_1 : Int).toNat * 7 + 6, none⟩ = false := hfr10 6; clear hcl10 hcc10 hfr10 hM10; replace p10 := eq_true p10; replace q10 := eq_true q10; obtain ⟨Ao12, co12, eo12⟩ := Kd.R_slice HO253.out; subst eo12; have n_ := Aside0.mk (Kd.S_mono (ok' := (fun k_ => some k_ ≠ (.slice Ao12 t251.length co12 : Value).ownBlock)) HO_3.out (fun k_ hk => hk.2)); clear HO_3; have HO_3 := n_; clear n_; have HX13 := Aside0.mk (show Kd.S k93 93 w11 w.heap.size (fun k_ => ((fun _ => True)) k_ ∧ ¬ ((fun k_ => some k_ = (.slice Ao12 t251.length co12 : Value).ownBlock)) k_) (.slice (some ⟨go10, 0, none⟩) x3_1.length co10) x3_1 from (by (with_reducible repeat (first | apply Kd.S_alloc | apply Kd.S_drewN | apply Kd.S_drew)); exact Kd.S_mono HO_3.out (fun k_ hk => ⟨trivial, fun e_ => hk e_⟩))); obtain ⟨oki13, ce13, hcl13, hM13, hcc13, hfr13, hoki13, hH13⟩ := Kd.S_elem HX13.out z93 (x4_1 : Int) (of_decide_eq_true dq21) (by have h_ : (x4_1 : Int) < ((x3_1.length : Int) : Int) := of_decide_eq_true dq21; first | exact h_ | (have e_ := (Kd.S_reads' HO_3.out).1; omega) | simpa using h_); obtain ⟨ve13_2, rfl, ge13_2⟩ := k93_openM hM13; have HP13 := Kd.S_seg hH13 (of_decide_eq_true dq21) (by have h_ : (x4_1 : Int) < ((x3_1.length : Int) : Int) := of_decide_eq_true dq21; first | exact h_ | (have e_ := (Kd.S_reads' HO_3.out).1; omega) | simpa using h_) (seg := [.int .i64 t249, .bool t250, .slice Ao12 t251.length co12, .int .i64 t254, .int .i64 t255, .int .i64 t256, .int .i64 t257]) (j := 0) (show 7 ≤ 7 from by decide) (x' := (⟨t249, t250, t251, t254, t255, t256, t257⟩ : S93)) (k93_mkM _ _ _ (⟨t249, t250, t251, t254, t255, t256, t257⟩ : S93) (Kd.R_mono (Kd.R_tight rfl (Kd.R_mono (ok' := fun k_ => ((fun _ => True)) k_ ∧ k_ ≠ go10) (Kd.R_apart' (HO253.out) (Kd.S_typed HO_3.out) dq28) (fun k_ hk => ⟨trivial, fun e_ => (hk.2) dq70⟩))) (fun _ h_ => Or.inr (h_)))) (fun _ hk => hk) (fun k_ hk_ => ((Kd.R_mono (ok' := fun k_ => ((fun _ => True)) k_ ∧ k_ ≠ go10) (Kd.R_apart' (HO253.out) (Kd.S_typed HO_3.out) dq28) (fun k_ hk => ⟨trivial, fun e_ => (hk.2) dq70⟩))).1 k_ hk_.symm); have hx13_0 := hcc13 0 _ rfl; (try simp only [show (k93).sz = 7 from rfl, Nat.mul_one, Nat.add_zero] at hx13_0); have hf13_0 := hfr13 0; (try simp only [show (k93).sz = 7 from rfl, Nat.mul_one, Nat.add_zero] at hf13_0); have hx13_1 := hcc13 1 _ rfl; (try simp only [show (k93).sz = 7 from rfl, Nat.mul_one, Nat.add_zero] at hx13_1); have hf13_1 := hfr13 1; (try simp only [show (k93).sz = 7 from rfl, Nat.mul_one, Nat.add_zero] at hf13_1); have hx13_2 := hcc13 2 _ rfl; (try simp only [show (k93).sz = 7 from rfl, Nat.mul_one, Nat.add_zero] at hx13_2); have hf13_2 := hfr13 2; (try simp only [show (k93).sz = 7 from rfl, Nat.mul_one, Nat.add_zero] at hf13_2); have hx13_3 := hcc13 3 _ rfl; (try simp only [show (k93).sz = 7 from rfl, Nat.mul_one, Nat.add_zero] at hx13_3); have hf13_3 := hfr13 3; (try simp only [show (k93).sz = 7 from rfl, Nat.mul_one, Nat.add_zero] at hf13_3); have hx13_4 := hcc13 4 _ rfl; (try simp only [show (k93).sz = 7 from rfl, Nat.mul_one, Nat.add_zero] at hx13_4); have hf13_4 := hfr13 4; (try simp only [show (k93).sz = 7 from rfl, Nat.mul_one, Nat.add_zero] at hf13_4); have hx13_5 := hcc13 5 _ rfl; (try simp only [show (k93).sz = 7 from rfl, Nat.mul_one, Nat.add_zero] at hx13_5); have hf13_5 := hfr13 5; (try simp only [show (k93).sz = 7 from rfl, Nat.mul_one, Nat.add_zero] at hf13_5); have hx13_6 := hcc13 6 _ rfl; (try simp only [show (k93).sz = 7 from rfl, Nat.mul_one, Nat.add_zero] at hx13_6); have hf13_6 := hfr13 6; (try simp only [show (k93).sz = 7 from rfl, Nat.mul_one, Nat.add_zero] at hf13_6); clear hcl13 hcc13 hfr13 hM13 hoki13 hH13) | ((with_reducible refine gate_store (t := 93) (p := 21) rfl ?_); refine store_event (t := 93) (p := 21) (v := ?vo_w14) (w1 := (((((((w11.setCell ⟨go10, (x4_1 : Int).toNat * 7, none⟩ (.int .i64 t249)).setCell ⟨go10, (x4_1 : Int).toNat * 7 + 1, none⟩ (.bool t250)).setCell ⟨go10, (x4_1 : Int).toNat * 7 + 2, none⟩ (.slice Ao12 t251.length co12)).setCell ⟨go10, (x4_1 : Int).toNat * 7 + 3, none⟩ (.int .i64 t254)).setCell ⟨go10, (x4_1 : Int).toNat * 7 + 4, none⟩ (.int .i64 t255)).setCell ⟨go10, (x4_1 : Int).toNat * 7 + 5, none⟩ (.int .i64 t256)).setCell ⟨go10, (x4_1 : Int).toNat * 7 + 6, none⟩ (.int .i64 t257))) ?hg ?ho ?hn ?hr ?_; (case ho => rfl); (case hg => rfl); (case hn => rfl); (case hr => exact dq0); intro w14 hw; have hg : w11.grownBy w14 (some go10) := (by rw [hw]; exact HP13.2); have hp_ : Kd.S k93 93 w14 w.heap.size (fun _ => True) (.slice (some ⟨go10, 0, none⟩) x3_1.length co10) y258 := (by rw [hw, Ny258.out]; exact HP13.1); clear HP13; have n0_ := Aside0.mk (hp_); have n1_ := Aside0.mk ((by rw [hw]; exact below_set (below_set (below_set (below_set (below_set (below_set (below_set (HB.out) GB10.out) GB10.out) GB10.out) GB10.out) GB10.out) GB10.out) GB10.out : Below w.heap.size w w14)); clear HO_3; clear HB; clear HO253; have HO_3 := n0_; have HB := n1_; clear n0_ n1_; clear hg hw hp_))
        go_roundg k1
        case measure => have := HK1.out; omega
        case rel => exact ⟨(y258), (wrap64 (x4_1 + 1)), dq14, H', ⟨dq22⟩, ⟨dq71⟩, ⟨dq18⟩⟩
       ·rw [if_neg c9] at H
        exact absurd H dq23
      ·rw [if_neg c7] at H
       exact absurd H dq23
     ·rw [if_neg c6] at H
      have c6b0 := decide_eq_false c6
      clear c6
      obtain rfl := Option.some.inj H
      go_wp2
      go_ret
      exact ⟨_, dq20, dq71, dq18⟩
  ·rw [if_neg c3] at H
   exact absurd H dq23
 ·rw [if_neg c2] at H
  exact absurd H dq23

/-! ### impl_in: function 68 -/
def impl_in.f (a0 : Int) (a1 : Int) (a2 : Int) : Option (Bool) := if a1 ≤ a0 then (some (decide (a0 ≤ a2))) else (some false)
set_option maxHeartbeats 8000000 in
set_option maxRecDepth 100000 in
theorem impl_in.calls (a0 : Int) (a1 : Int) (a2 : Int) (r : Bool) (w : World) (h : impl_in.f a0 a1 a2 = some r) :
  Calls Tryd.prog 68 #[.int .i64 a0, .int .i64 a1, .int .i64 a2] w fun e w' => e = .returned (.bool r) ∧ Drawn0 w w' := by
 have H : (if a1 ≤ a0 then (some (decide (a0 ≤ a2))) else (some false)) = some r := h
 clear h
 by_cases c4 : a1 ≤ a0
 ·rw [if_pos c4] at H
  have c4b0 := decide_eq_true c4
  clear c4
  obtain rfl := Option.some.inj H
  go_enter Tryd.func68, Tryd.ntmps68
  go_wp2
  go_ret
  exact ⟨dq14, dq13⟩
 ·rw [if_neg c4] at H
  have c4b0 := decide_eq_false c4
  clear c4
  obtain rfl := Option.some.inj H
  go_enter Tryd.func68, Tryd.ntmps68
  go_wp2
  go_ret
  exact ⟨dq14, dq13⟩

/-! ### impl_isRune: function 118 -/
def impl_isRune.f (a0 : Int) : Option (Bool) := (impl_in.f a0 0 55295).bind fun t259 => (if t259 = true then (some true) else ((impl_in.f a0 57344 1114111).bind fun t260 => (some t260)))
set_option maxHeartbeats 8000000 in
set_option maxRecDepth 100000 in
theorem impl_isRune.calls (a0 : Int) (r : Bool) (w : World) (h : impl_isRune.f a0 = some r) :
  Calls Tryd.prog 118 #[.int .i64 a0] w fun e w' => e = .returned (.bool r) ∧ Drawn0 w w' := by
 have H : ((impl_in.f a0 0 55295).bind fun t259 => (if t259 = true then (some true) else ((impl_in.f a0 57344 1114111).bind fun t260 => (some t260)))) = some r := h
 clear h
 replace H := Option.bind_eq_some_iff.mp H
 obtain ⟨t259, A20, H⟩ := H
 replace H : (if t259 = true then (some true) else ((impl_in.f a0 57344 1114111).bind fun t260 => (some t260))) = some r := H
 have A2 := Aside0.mk A20
 clear A20
 by_cases c3 : t259 = true
 ·subst c3
  have H1 : (some true) = some r := by rw [if_pos rfl] at H; exact H
  clear H
  have H := H1
  clear H1
  obtain rfl := Option.some.inj H
  go_enter Tryd.func118, Tryd.ntmps118
  go_wp2_with (first | ((with_reducible refine gate_callee (f := 68) rfl ?_); refine goesL_ (some 4) rfl rfl Tryd.func68 dq16 rfl #[.int .i64 a0, .int .i64 0, .int .i64 55295] rfl dq15 ?_; (with_reducible refine (impl_in.calls a0 0 55295 true _ A2.out).mono ?_); rintro e w' ⟨rfl, ⟨nd, rfl⟩⟩; refine ⟨_, rfl, ?_⟩))
  go_ret
  exact ⟨dq14, dq13⟩
 ·replace c3 := Bool.eq_false_iff.mpr c3
  subst c3
  have H1 : ((impl_in.f a0 57344 1114111).bind fun t260 => (some t260)) = some r := by rw [if_neg (show ¬ (false = true) by decide)] at H; exact H
  clear H
  have H := H1
  clear H1
  replace H := Option.bind_eq_some_iff.mp H
  obtain ⟨t260, A40, H⟩ := H
  replace H : (some t260) = some r := H
  have A4 := Aside0.mk A40
  clear A40
  obtain rfl := Option.some.inj H
  go_enter Tryd.func118, Tryd.ntmps118
  go_wp2_with (first | ((with_reducible refine gate_callee (f := 68) rfl ?_); refine goesL_ (some 4) rfl rfl Tryd.func68 dq16 rfl #[.int .i64 a0, .int .i64 0, .int .i64 55295] rfl dq15 ?_; (with_reducible refine (impl_in.calls a0 0 55295 false _ A2.out).mono ?_); rintro e w' ⟨rfl, ⟨nd, rfl⟩⟩; refine ⟨_, rfl, ?_⟩) | (go_at_call 68; (with_reducible refine (impl_in.calls a0 57344 1114111 t260 _ A4.out).mono ?_); rintro e w' ⟨rfl, ⟨nd, rfl⟩⟩))
  go_ret
  exact ⟨dq14, dq13⟩

/-! ### impl_RNode_fits: function 82 -/
def impl_RNode_fits.l0 : Nat → List (S100) → Int → Int → Int → Bool → List (S100) → Int → Int → Int → Int → Option (Bool)
 | 0, _, _, _, _, _, _, _, _, _, _ => none
 | k + 1, x10, x11, x12, x262000, x262001, x262002, x262003, x262004, x262005, x262006 => if x12 < x11 then (if 0 ≤ x12 then (if x12 < (x10.length : Int) then ((impl_isRune.f ((rd_T100 x10 x12).f0)).bind fun t265 => (if t265 = true then ((impl_isRune.f ((rd_T100 x10 x12).f1)).bind fun t266 => (if t266 = true then (if ((rd_T100 x10 x12).f0) > ((rd_T100 x10 x12).f1) then (some false) else (impl_RNode_fits.l0 k x10 x11 (wrap64 (x12 + 1)) x262000 x262001 x262002 x262003 x262004 x262005 x262006)) else (some false))) else (some false))) else (none)) else (none)) else ((impl_in.f (x262002.length : Int) 1 12).bind fun t262 => (if t262 = true then (if x262003 = 0 then (if x262004 = 0 then (if x262005 = 0 then (some (x262006 == 0)) else (some false)) else (some false)) else (some false)) else (some false)))
def impl_RNode_fits.f (k : Nat) (a0_0 : Int) (a0_1 : Bool) (l0_2 : List (S100)) (a0_3 : Int) (a0_4 : Int) (a0_5 : Int) (a0_6 : Int) : Option (Bool) := if a0_0 = 2 then (impl_RNode_fits.l0 k l0_2 (l0_2.length : Int) 0 a0_0 a0_1 l0_2 a0_3 a0_4 a0_5 a0_6) else (if a0_0 = 5 then (if (l0_2.length : Int) = 0 then (if a0_1 = true then (some false) else (if a0_4 = 0 then ((impl_in.f a0_5 0 20).bind fun t267 => (if t267 = true then (if a0_6 = (-1) then (some true) else ((impl_in.f a0_6 a0_5 20).bind fun t268 => (some t268))) else (some false))) else (some false))) else (some false)) else (if a0_0 = 1 then (if (l0_2.length : Int) = 0 then (if a0_1 = true then (some false) else (if a0_3 = 0 then (if a0_4 = 0 then (if a0_5 = 0 then (some (a0_6 == 0)) else (some false)) else (some false)) else (some false))) else (some false)) else (if a0_0 = 3 then (if (l0_2.length : Int) = 0 then (if a0_1 = true then (some false) else (if a0_5 = 0 then (some (a0_6 == 0)) else (some false))) else (some false)) else (if a0_0 = 4 then (if (l0_2.length : Int) = 0 then (if a0_1 = true then (some false) else (if a0_5 = 0 then (some (a0_6 == 0)) else (some false))) else (some false)) else (some false)))))
set_option maxHeartbeats 8000000 in
set_option maxRecDepth 100000 in
theorem impl_RNode_fits.calls (k : Nat) (a0_0 : Int) (a0_1 : Bool) (A0_2 : Option Addr) (c0_2 : Nat) (l0_2 : List (S100)) (a0_3 : Int) (a0_4 : Int) (a0_5 : Int) (a0_6 : Int) (r : Bool) (w : World) (hr0_2 : Kd.C k100 w A0_2 l0_2.length l0_2) (hc0_2 : l0_2.length ≤ c0_2) (h : impl_RNode_fits.f k a0_0 a0_1 l0_2 a0_3 a0_4 a0_5 a0_6 = some r) :
  Calls Tryd.prog 82 #[.agg #[.int .i64 a0_0, .bool a0_1, .slice A0_2 l0_2.length c0_2, .int .i64 a0_3, .int .i64 a0_4, .int .i64 a0_5, .int .i64 a0_6]] w fun e w' => e = .returned (.bool r) ∧ Below w.heap.size w w' := by
 have hu93 := Tryd.underlying93
 have hu100 := Tryd.underlying100
 have HR0_2 := Aside0.mk hr0_2
 have HC0_2 := Aside0.mk hc0_2
 clear hr0_2 hc0_2
 have HB := Aside0.mk (Below.refl w.heap.size w)
 have H : (if a0_0 = 2 then (impl_RNode_fits.l0 k l0_2 (l0_2.length : Int) 0 a0_0 a0_1 l0_2 a0_3 a0_4 a0_5 a0_6) else (if a0_0 = 5 then (if (l0_2.length : Int) = 0 then (if a0_1 = true then (some false) else (if a0_4 = 0 then ((impl_in.f a0_5 0 20).bind fun t267 => (if t267 = true then (if a0_6 = (-1) then (some true) else ((impl_in.f a0_6 a0_5 20).bind fun t268 => (some t268))) else (some false))) else (some false))) else (some false)) else (if a0_0 = 1 then (if (l0_2.length : Int) = 0 then (if a0_1 = true then (some false) else (if a0_3 = 0 then (if a0_4 = 0 then (if a0_5 = 0 then (some (a0_6 == 0)) else (some false)) else (some false)) else (some false))) else (some false)) else (if a0_0 = 3 then (if (l0_2.length : Int) = 0 then (if a0_1 = true then (some false) else (if a0_5 = 0 then (some (a0_6 == 0)) else (some false))) else (some false)) else (if a0_0 = 4 then (if (l0_2.length : Int) = 0 then (if a0_1 = true then (some false) else (if a0_5 = 0 then (some (a0_6 == 0)) else (some false))) else (some false)) else (some false)))))) = some r := h
 clear h
 by_cases c2 : a0_0 = 2
 ·rw [if_pos c2] at H
  have c2b0 := beq_iff_eq.mpr c2
  have c2b1 := bne_eq_false_iff_eq.mpr c2
  clear c2
  have H' := Aside0.mk H
  clear H
  go_enter Tryd.func82, Tryd.ntmps82
  go_wp2_with (first | ((with_reducible refine gate_dst (N := 1) rfl ?_); (try (refine gate_guard dq29 ?_; dsimp only)); refine box_event ?hg (N := 1) ?hd (cs := #[.int .i64 a0_0, .bool a0_1, .slice A0_2 l0_2.length c0_2, .int .i64 a0_3, .int .i64 a0_4, .int .i64 a0_5, .int .i64 a0_6]) (t := 93) ?hr ?_; (case hd => rfl); (case hg => rfl); (case hr => exact dq0); intro gb261 hg w3 hbox hb; have n0_ := Aside0.mk (below_step dq18 hb); have n1_ := Aside0.mk (hbox); have n2_ := Aside0.mk ((dq17 : w.heap.size ≤ gb261)); have n3_ := Aside0.mk ((dq17 : w.heap.size ≤ gb261)); clear HB; have HB := n0_; have BK261 := n1_; have GW261 := n2_; have GE261 := n3_; clear n0_ n1_ n2_ n3_; clear hb hbox hg; obtain ⟨⟨hcz4_0, hcz4_1, hcz4_2, hcz4_3, hcz4_4, hcz4_5, hcz4_6⟩, hfz4_0, hfz4_1, hfz4_2, hfz4_3, hfz4_4, hfz4_5, hfz4_6⟩ := blkC7 BK261.out))
  go_loopg [12] k (fun kq v12 w' => ∃ (x12_1 : Int), v12 = .int .i64 x12_1 ∧ Aside0 (impl_RNode_fits.l0 kq l0_2 (l0_2.length : Int) x12_1 a0_0 a0_1 l0_2 a0_3 a0_4 a0_5 a0_6 = some r) ∧ Aside0 (kq ≤ k) ∧ Aside0 (w'.heap[gb261]? = some (.cells #[.int .i64 a0_0, .bool a0_1, (.slice A0_2 l0_2.length c0_2), .int .i64 a0_3, .int .i64 a0_4, .int .i64 a0_5, .int .i64 a0_6] 93 (0, 0))) ∧ Aside0 (Below w.heap.size w w'))
  case atStart => exact ⟨(0), dq14, H', ⟨Nat.le_refl _⟩, ⟨dq73⟩, ⟨dq72⟩⟩
  case round =>
   clear H'
   try clear c2
   try clear c2b0
   try clear c2b1
   try clear p2
   try clear hcz4_0
   try clear hcz4_1
   try clear hcz4_2
   try clear hcz4_3
   try clear hcz4_4
   try clear hcz4_5
   try clear hcz4_6
   try clear hfz4_0
   try clear hfz4_1
   try clear hfz4_2
   try clear hfz4_3
   try clear hfz4_4
   try clear hfz4_5
   try clear hfz4_6
   obtain ⟨x12_1, rfl, HA, HK1, BK261, HB⟩ := hrel
   cases gk with
   | zero => exact absurd HA.out (by simp [impl_RNode_fits.l0])
   | succ k1 =>
    have H := HA.out
    clear HA
    simp only [impl_RNode_fits.l0] at H
    by_cases c5 : x12_1 < (l0_2.length : Int)
    ·rw [if_pos c5] at H
     have c5b0 := decide_eq_true c5
     clear c5
     by_cases c6 : 0 ≤ x12_1
     ·rw [if_pos c6] at H
      have c6b0 := decide_eq_true c6
      clear c6
      by_cases c7 : x12_1 < (l0_2.length : Int)
      ·rw [if_pos c7] at H
       have c7b0 := decide_eq_true c7
       clear c7
       replace H := Option.bind_eq_some_iff.mp H
       obtain ⟨t265, A80, H⟩ := H
       replace H : (if t265 = true then ((impl_isRune.f ((rd_T100 l0_2 x12_1).f1)).bind fun t266 => (if t266 = true then (if ((rd_T100 l0_2 x12_1).f0) > ((rd_T100 l0_2 x12_1).f1) then (some false) else (impl_RNode_fits.l0 k1 l0_2 (l0_2.length : Int) (wrap64 (x12_1 + 1)) a0_0 a0_1 l0_2 a0_3 a0_4 a0_5 a0_6)) else (some false))) else (some false)) = some r := H
       have A8 := Aside0.mk A80
       clear A80
       by_cases c9 : t265 = true
       ·subst c9
        have H1 : ((impl_isRune.f ((rd_T100 l0_2 x12_1).f1)).bind fun t266 => (if t266 = true then (if ((rd_T100 l0_2 x12_1).f0) > ((rd_T100 l0_2 x12_1).f1) then (some false) else (impl_RNode_fits.l0 k1 l0_2 (l0_2.length : Int) (wrap64 (x12_1 + 1)) a0_0 a0_1 l0_2 a0_3 a0_4 a0_5 a0_6)) else (some false))) = some r := by rw [if_pos rfl] at H; exact H
        clear H
        have H := H1
        clear H1
        replace H := Option.bind_eq_some_iff.mp H
        obtain ⟨t266, A100, H⟩ := H
        replace H : (if t266 = true then (if ((rd_T100 l0_2 x12_1).f0) > ((rd_T100 l0_2 x12_1).f1) then (some false) else (impl_RNode_fits.l0 k1 l0_2 (l0_2.length : Int) (wrap64 (x12_1 + 1)) a0_0 a0_1 l0_2 a0_3 a0_4 a0_5 a0_6)) else (some false)) = some r := H
        have A10 := Aside0.mk A100
        clear A100
        by_cases c11 : t266 = true
        ·subst c11
         have H1 : (if ((rd_T100 l0_2 x12_1).f0) > ((rd_T100 l0_2 x12_1).f1) then (some false) else (impl_RNode_fits.l0 k1 l0_2 (l0_2.length : Int) (wrap64 (x12_1 + 1)) a0_0 a0_1 l0_2 a0_3 a0_4 a0_5 a0_6)) = some r := by rw [if_pos rfl] at H; exact H
         clear H
         have H := H1
         clear H1
         by_cases c12 : ((rd_T100 l0_2 x12_1).f0) > ((rd_T100 l0_2 x12_1).f1)
         ·rw [if_pos c12] at H
          have c12b0 : decide (((rd_T100 l0_2 x12_1).f1) < ((rd_T100 l0_2 x12_1).f0)) = true := decide_eq_true c12
          clear c12
          obtain rfl := Option.some.inj H
          have p263 : 0 ≤ (x12_1 : Int) := of_decide_eq_true dq21
          have q263 : x12_1 < (l0_2.length : Int) := of_decide_eq_true dq21
          obtain ⟨ad263, e263, hx263_0, hx263_1⟩ := at_T100 HR0_2.out x12_1 p263 q263
          cases e263
          replace hx263_0 := (HB.out.cell (World.block_lt_of_cell? w _ hx263_0)).trans hx263_0
          replace hx263_1 := (HB.out.cell (World.block_lt_of_cell? w _ hx263_1)).trans hx263_1
          replace p263 := eq_true p263
          replace q263 := eq_true q263
          go_wp2_with (first | ((with_reducible refine gate_dst (N := 4) rfl ?_); (try (refine gate_guard dq29 ?_; dsimp only)); refine box_event ?hg (N := 4) ?hd (cs := #[.int .i64 0, .int .i64 0]) (t := 100) ?hr ?_; (case hd => rfl); (case hg => rfl); (case hr => exact dq0); intro gb264 hg w13 hbox hb; have n0_ := Aside0.mk (blk_below (g := gb261) (o := .cells #[.int .i64 a0_0, .bool a0_1, .slice (some ad263) l0_2.length c0_2, .int .i64 a0_3, .int .i64 a0_4, .int .i64 a0_5, .int .i64 a0_6] 93 (0, 0)) dq73 hb); have n1_ := Aside0.mk (below_step dq72 hb); have n2_ := Aside0.mk (hbox); have n3_ := Aside0.mk ((dq76 : w.heap.size ≤ gb264)); have n4_ := Aside0.mk ((dq76 : w.heap.size ≤ gb264)); have n5_ := Aside0.mk ((dq75 : gb261 ≠ gb264)); have n6_ := Aside0.mk ((dq74 : gb264 ≠ gb261)); clear BK261; clear HB; have BK261 := n0_; have HB := n1_; have BK264 := n2_; have GW264 := n3_; have GE264 := n4_; have NB261_264 := n5_; have NB264_261 := n6_; clear n0_ n1_ n2_ n3_ n4_ n5_ n6_; clear hb hbox hg; have hnb14 := NB264_261.out; have hnc14 := NB261_264.out; obtain ⟨⟨hcz15_0, hcz15_1⟩, hfz15_0, hfz15_1⟩ := blkC2 BK264.out) | ((with_reducible refine gate_callee (f := 118) rfl ?_); refine goesL_ (some 18) rfl rfl Tryd.func118 dq16 rfl #[.int .i64 ((rd_T100 l0_2 x12_1).f0)] rfl dq15 ?_; (with_reducible refine (impl_isRune.calls ((rd_T100 l0_2 x12_1).f0) true _ A8.out).mono ?_); rintro e w' ⟨rfl, ⟨nd, rfl⟩⟩; refine ⟨_, rfl, ?_⟩) | (go_at_call 118; (with_reducible refine (impl_isRune.calls ((rd_T100 l0_2 x12_1).f1) true _ A10.out).mono ?_); rintro e w' ⟨rfl, ⟨nd, rfl⟩⟩))
          go_ret
          exact ⟨dq20, dq77⟩
         ·rw [if_neg c12] at H
          have c12b0 : decide (((rd_T100 l0_2 x12_1).f1) < ((rd_T100 l0_2 x12_1).f0)) = false := decide_eq_false c12
          clear c12
          have H' := Aside0.mk H
          clear H
          have p263 : 0 ≤ (x12_1 : Int) := of_decide_eq_true dq21
          have q263 : x12_1 < (l0_2.length : Int) := of_decide_eq_true dq21
          obtain ⟨ad263, e263, hx263_0, hx263_1⟩ := at_T100 HR0_2.out x12_1 p263 q263
          cases e263
          replace hx263_0 := (HB.out.cell (World.block_lt_of_cell? w _ hx263_0)).trans hx263_0
          replace hx263_1 := (HB.out.cell (World.block_lt_of_cell? w _ hx263_1)).trans hx263_1
          replace p263 := eq_true p263
          replace q263 := eq_true q263
          go_wp2_with (first | ((with_reducible refine gate_dst (N := 4) rfl ?_); (try (refine gate_guard dq29 ?_; dsimp only)); refine box_event ?hg (N := 4) ?hd (cs := #[.int .i64 0, .int .i64 0]) (t := 100) ?hr ?_; (case hd => rfl); (case hg => rfl); (case hr => exact dq0); intro gb264 hg w16 hbox hb; have n0_ := Aside0.mk (blk_below (g := gb261) (o := .cells #[.int .i64 a0_0, .bool a0_1, .slice (some ad263) l0_2.length c0_2, .int .i64 a0_3, .int .i64 a0_4, .int .i64 a0_5, .int .i64 a0_6] 93 (0, 0)) dq73 hb); have n1_ := Aside0.mk (below_step dq72 hb); have n2_ := Aside0.mk (hbox); have n3_ := Aside0.mk ((dq76 : w.heap.size ≤ gb264)); have n4_ := Aside0.mk ((dq76 : w.heap.size ≤ gb264)); have n5_ := Aside0.mk ((dq75 : gb261 ≠ gb264)); have n6_ := Aside0.mk ((dq74 : gb264 ≠ gb261)); clear BK261; clear HB; have BK261 := n0_; have HB := n1_; have BK264 := n2_; have GW264 := n3_; have GE264 := n4_; have NB261_264 := n5_; have NB264_261 := n6_; clear n0_ n1_ n2_ n3_ n4_ n5_ n6_; clear hb hbox hg; have hnb17 := NB264_261.out; have hnc17 := NB261_264.out; obtain ⟨⟨hcz18_0, hcz18_1⟩, hfz18_0, hfz18_1⟩ := blkC2 BK264.out) | ((with_reducible refine gate_callee (f := 118) rfl ?_); refine goesL_ (some 18) rfl rfl Tryd.func118 dq16 rfl #[.int .i64 ((rd_T100 l0_2 x12_1).f0)] rfl dq15 ?_; (with_reducible refine (impl_isRune.calls ((rd_T100 l0_2 x12_1).f0) true _ A8.out).mono ?_); rintro e w' ⟨rfl, ⟨nd, rfl⟩⟩; refine ⟨_, rfl, ?_⟩) | (go_at_call 118; (with_reducible refine (impl_isRune.calls ((rd_T100 l0_2 x12_1).f1) true _ A10.out).mono ?_); rintro e w' ⟨rfl, ⟨nd, rfl⟩⟩))
          go_roundg k1
          case measure => have := HK1.out; omega
          case rel => exact ⟨(wrap64 (x12_1 + 1)), dq14, H', ⟨dq22⟩, ⟨by refine blk_up ?_; refine blk_far ?_ NB261_264.out _; refine blk_up ?_; refine blk_far ?_ NB261_264.out _; refine blk_up ?_; exact BK261.out⟩, ⟨dq77⟩⟩
        ·replace c11 := Bool.eq_false_iff.mpr c11
         subst c11
         have H1 : (some false) = some r := by rw [if_neg (show ¬ (false = true) by decide)] at H; exact H
         clear H
         have H := H1
         clear H1
         obtain rfl := Option.some.inj H
         have p263 : 0 ≤ (x12_1 : Int) := of_decide_eq_true dq21
         have q263 : x12_1 < (l0_2.length : Int) := of_decide_eq_true dq21
         obtain ⟨ad263, e263, hx263_0, hx263_1⟩ := at_T100 HR0_2.out x12_1 p263 q263
         cases e263
         replace hx263_0 := (HB.out.cell (World.block_lt_of_cell? w _ hx263_0)).trans hx263_0
         replace hx263_1 := (HB.out.cell (World.block_lt_of_cell? w _ hx263_1)).trans hx263_1
         replace p263 := eq_true p263
         replace q263 := eq_true q263
         go_wp2_with (first | ((with_reducible refine gate_dst (N := 4) rfl ?_); (try (refine gate_guard dq29 ?_; dsimp only)); refine box_event ?hg (N := 4) ?hd (cs := #[.int .i64 0, .int .i64 0]) (t := 100) ?hr ?_; (case hd => rfl); (case hg => rfl); (case hr => exact dq0); intro gb264 hg w19 hbox hb; have n0_ := Aside0.mk (blk_below (g := gb261) (o := .cells #[.int .i64 a0_0, .bool a0_1, .slice (some ad263) l0_2.length c0_2, .int .i64 a0_3, .int .i64 a0_4, .int .i64 a0_5, .int .i64 a0_6] 93 (0, 0)) dq73 hb); have n1_ := Aside0.mk (below_step dq72 hb); have n2_ := Aside0.mk (hbox); have n3_ := Aside0.mk ((dq76 : w.heap.size ≤ gb264)); have n4_ := Aside0.mk ((dq76 : w.heap.size ≤ gb264)); have n5_ := Aside0.mk ((dq75 : gb261 ≠ gb264)); have n6_ := Aside0.mk ((dq74 : gb264 ≠ gb261)); clear BK261; clear HB; have BK261 := n0_; have HB := n1_; have BK264 := n2_; have GW264 := n3_; have GE264 := n4_; have NB261_264 := n5_; have NB264_261 := n6_; clear n0_ n1_ n2_ n3_ n4_ n5_ n6_; clear hb hbox hg; have hnb20 := NB264_261.out; have hnc20 := NB261_264.out; obtain ⟨⟨hcz21_0, hcz21_1⟩, hfz21_0, hfz21_1⟩ := blkC2 BK264.out) | ((with_reducible refine gate_callee (f := 118) rfl ?_); refine goesL_ (some 18) rfl rfl Tryd.func118 dq16 rfl #[.int .i64 ((rd_T100 l0_2 x12_1).f0)] rfl dq15 ?_; (with_reducible refine (impl_isRune.calls ((rd_T100 l0_2 x12_1).f0) true _ A8.out).mono ?_); rintro e w' ⟨rfl, ⟨nd, rfl⟩⟩; refine ⟨_, rfl, ?_⟩) | (go_at_call 118; (with_reducible refine (impl_isRune.calls ((rd_T100 l0_2 x12_1).f1) false _ A10.out).mono ?_); rintro e w' ⟨rfl, ⟨nd, rfl⟩⟩))
         go_ret
         exact ⟨dq20, dq77⟩
       ·replace c9 := Bool.eq_false_iff.mpr c9
        subst c9
        have H1 : (some false) = some r := by rw [if_neg (show ¬ (false = true) by decide)] at H; exact H
        clear H
        have H := H1
        clear H1
        obtain rfl := Option.some.inj H
        have p263 : 0 ≤ (x12_1 : Int) := of_decide_eq_true dq21
        have q263 : x12_1 < (l0_2.length : Int) := of_decide_eq_true dq21
        obtain ⟨ad263, e263, hx263_0, hx263_1⟩ := at_T100 HR0_2.out x12_1 p263 q263
        cases e263
        replace hx263_0 := (HB.out.cell (World.block_lt_of_cell? w _ hx263_0)).trans hx263_0
        replace hx263_1 := (HB.out.cell (World.block_lt_of_cell? w _ hx263_1)).trans hx263_1
        replace p263 := eq_true p263
        replace q263 := eq_true q263
        go_wp2_with (first | ((with_reducible refine gate_dst (N := 4) rfl ?_); (try (refine gate_guard dq29 ?_; dsimp only)); refine box_event ?hg (N := 4) ?hd (cs := #[.int .i64 0, .int .i64 0]) (t := 100) ?hr ?_; (case hd => rfl); (case hg => rfl); (case hr => exact dq0); intro gb264 hg w22 hbox hb; have n0_ := Aside0.mk (blk_below (g := gb261) (o := .cells #[.int .i64 a0_0, .bool a0_1, .slice (some ad263) l0_2.length c0_2, .int .i64 a0_3, .int .i64 a0_4, .int .i64 a0_5, .int .i64 a0_6] 93 (0, 0)) dq73 hb); have n1_ := Aside0.mk (below_step dq72 hb); have n2_ := Aside0.mk (hbox); have n3_ := Aside0.mk ((dq76 : w.heap.size ≤ gb264)); have n4_ := Aside0.mk ((dq76 : w.heap.size ≤ gb264)); have n5_ := Aside0.mk ((dq75 : gb261 ≠ gb264)); have n6_ := Aside0.mk ((dq74 : gb264 ≠ gb261)); clear BK261; clear HB; have BK261 := n0_; have HB := n1_; have BK264 := n2_; have GW264 := n3_; have GE264 := n4_; have NB261_264 := n5_; have NB264_261 := n6_; clear n0_ n1_ n2_ n3_ n4_ n5_ n6_; clear hb hbox hg; have hnb23 := NB264_261.out; have hnc23 := NB261_264.out; obtain ⟨⟨hcz24_0, hcz24_1⟩, hfz24_0, hfz24_1⟩ := blkC2 BK264.out) | ((with_reducible refine gate_callee (f := 118) rfl ?_); refine goesL_ (some 18) rfl rfl Tryd.func118 dq16 rfl #[.int .i64 ((rd_T100 l0_2 x12_1).f0)] rfl dq15 ?_; (with_reducible refine (impl_isRune.calls ((rd_T100 l0_2 x12_1).f0) false _ A8.out).mono ?_); rintro e w' ⟨rfl, ⟨nd, rfl⟩⟩; refine ⟨_, rfl, ?_⟩))
        go_ret
        exact ⟨dq20, dq77⟩
      ·rw [if_neg c7] at H
       exact absurd H dq23
     ·rw [if_neg c6] at H
      exact absurd H dq23
    ·rw [if_neg c5] at H
     have c5b0 := decide_eq_false c5
     clear c5
     replace H := Option.bind_eq_some_iff.mp H
     obtain ⟨t262, A250, H⟩ := H
     replace H : (if t262 = true then (if a0_3 = 0 then (if a0_4 = 0 then (if a0_5 = 0 then (some (a0_6 == 0)) else (some false)) else (some false)) else (some false)) else (some false)) = some r := H
     have A25 := Aside0.mk A250
     clear A250
     by_cases c26 : t262 = true
     ·subst c26
      have H1 : (if a0_3 = 0 then (if a0_4 = 0 then (if a0_5 = 0 then (some (a0_6 == 0)) else (some false)) else (some false)) else (some false)) = some r := by rw [if_pos rfl] at H; exact H
      clear H
      have H := H1
      clear H1
      by_cases c27 : a0_3 = 0
      ·rw [if_pos c27] at H
       have c27b0 := beq_iff_eq.mpr c27
       have c27b1 := bne_eq_false_iff_eq.mpr c27
       clear c27
       by_cases c28 : a0_4 = 0
       ·rw [if_pos c28] at H
        have c28b0 := beq_iff_eq.mpr c28
        have c28b1 := bne_eq_false_iff_eq.mpr c28
        clear c28
        by_cases c29 : a0_5 = 0
        ·rw [if_pos c29] at H
         have c29b0 := beq_iff_eq.mpr c29
         have c29b1 := bne_eq_false_iff_eq.mpr c29
         clear c29
         obtain rfl := Option.some.inj H
         obtain ⟨⟨hcz30_0, hcz30_1, hcz30_2, hcz30_3, hcz30_4, hcz30_5, hcz30_6⟩, hfz30_0, hfz30_1, hfz30_2, hfz30_3, hfz30_4, hfz30_5, hfz30_6⟩ := blkC7 BK261.out
         go_wp2_with (first | ((with_reducible refine gate_callee (f := 68) rfl ?_); refine goesL_ (some 37) rfl rfl Tryd.func68 dq16 rfl #[.int .i64 (l0_2.length : Int), .int .i64 1, .int .i64 12] rfl dq15 ?_; (with_reducible refine (impl_in.calls (l0_2.length : Int) 1 12 true _ A25.out).mono ?_); rintro e w' ⟨rfl, ⟨nd, rfl⟩⟩; refine ⟨_, rfl, ?_⟩))
         go_ret
         exact ⟨dq20, dq72⟩
        ·rw [if_neg c29] at H
         have c29b0 := beq_eq_false_iff_ne.mpr c29
         have c29b1 := bne_iff_ne.mpr c29
         obtain rfl := Option.some.inj H
         obtain ⟨⟨hcz31_0, hcz31_1, hcz31_2, hcz31_3, hcz31_4, hcz31_5, hcz31_6⟩, hfz31_0, hfz31_1, hfz31_2, hfz31_3, hfz31_4, hfz31_5, hfz31_6⟩ := blkC7 BK261.out
         go_wp2_with (first | ((with_reducible refine gate_callee (f := 68) rfl ?_); refine goesL_ (some 37) rfl rfl Tryd.func68 dq16 rfl #[.int .i64 (l0_2.length : Int), .int .i64 1, .int .i64 12] rfl dq15 ?_; (with_reducible refine (impl_in.calls (l0_2.length : Int) 1 12 true _ A25.out).mono ?_); rintro e w' ⟨rfl, ⟨nd, rfl⟩⟩; refine ⟨_, rfl, ?_⟩))
         go_ret
         exact ⟨dq20, dq72⟩
       ·rw [if_neg c28] at H
        have c28b0 := beq_eq_false_iff_ne.mpr c28
        have c28b1 := bne_iff_ne.mpr c28
        obtain rfl := Option.some.inj H
        obtain ⟨⟨hcz32_0, hcz32_1, hcz32_2, hcz32_3, hcz32_4, hcz32_5, hcz32_6⟩, hfz32_0, hfz32_1, hfz32_2, hfz32_3, hfz32_4, hfz32_5, hfz32_6⟩ := blkC7 BK261.out
        go_wp2_with (first | ((with_reducible refine gate_callee (f := 68) rfl ?_); refine goesL_ (some 37) rfl rfl Tryd.func68 dq16 rfl #[.int .i64 (l0_2.length : Int), .int .i64 1, .int .i64 12] rfl dq15 ?_; (with_reducible refine (impl_in.calls (l0_2.length : Int) 1 12 true _ A25.out).mono ?_); rintro e w' ⟨rfl, ⟨nd, rfl⟩⟩; refine ⟨_, rfl, ?_⟩))
        go_ret
        exact ⟨dq20, dq72⟩
      ·rw [if_neg c27] at H
       have c27b0 := beq_eq_false_iff_ne.mpr c27
       have c27b1 := bne_iff_ne.mpr c27
       obtain rfl := Option.some.inj H
       obtain ⟨⟨hcz33_0, hcz33_1, hcz33_2, hcz33_3, hcz33_4, hcz33_5, hcz33_6⟩, hfz33_0, hfz33_1, hfz33_2, hfz33_3, hfz33_4, hfz33_5, hfz33_6⟩ := blkC7 BK261.out
       go_wp2_with (first | ((with_reducible refine gate_callee (f := 68) rfl ?_); refine goesL_ (some 37) rfl rfl Tryd.func68 dq16 rfl #[.int .i64 (l0_2.length : Int), .int .i64 1, .int .i64 12] rfl dq15 ?_; (with_reducible refine (impl_in.calls (l0_2.length : Int) 1 12 true _ A25.out).mono ?_); rintro e w' ⟨rfl, ⟨nd, rfl⟩⟩; refine ⟨_, rfl, ?_⟩))
       go_ret
       exact ⟨dq20, dq72⟩
     ·replace c26 := Bool.eq_false_iff.mpr c26
      subst c26
      have H1 : (some false) = some r := by rw [if_neg (show ¬ (false = true) by decide)] at H; exact H
      clear H
      have H := H1
      clear H1
      obtain rfl := Option.some.inj H
      obtain ⟨⟨hcz34_0, hcz34_1, hcz34_2, hcz34_3, hcz34_4, hcz34_5, hcz34_6⟩, hfz34_0, hfz34_1, hfz34_2, hfz34_3, hfz34_4, hfz34_5, hfz34_6⟩ := blkC7 BK261.out
      go_wp2_with (first | ((with_reducible refine gate_callee (f := 68) rfl ?_); refine goesL_ (some 37) rfl rfl Tryd.func68 dq16 rfl #[.int .i64 (l0_2.length : Int), .int .i64 1, .int .i64 12] rfl dq15 ?_; (with_reducible refine (impl_in.calls (l0_2.length : Int) 1 12 false _ A25.out).mono ?_); rintro e w' ⟨rfl, ⟨nd, rfl⟩⟩; refine ⟨_, rfl, ?_⟩))
      go_ret
      exact ⟨dq20, dq72⟩
 ·rw [if_neg c2] at H
  have c2b0 := beq_eq_false_iff_ne.mpr c2
  have c2b1 := bne_iff_ne.mpr c2
  by_cases c35 : a0_0 = 5
  ·rw [if_pos c35] at H
   have c35b0 := beq_iff_eq.mpr c35
   have c35b1 := bne_eq_false_iff_eq.mpr c35
   clear c35
   by_cases c36 : (l0_2.length : Int) = 0
   ·rw [if_pos c36] at H
    have c36b0 := beq_iff_eq.mpr c36
    have c36b1 := bne_eq_false_iff_eq.mpr c36
    clear c36
    by_cases c37 : a0_1 = true
    ·subst c37
     have H1 : (some false) = some r := by rw [if_pos rfl] at H; exact H
     clear H
     have H := H1
     clear H1
     obtain rfl := Option.some.inj H
     go_enter Tryd.func82, Tryd.ntmps82
     go_wp2_with (first | ((with_reducible refine gate_dst (N := 1) rfl ?_); (try (refine gate_guard dq29 ?_; dsimp only)); refine box_event ?hg (N := 1) ?hd (cs := #[.int .i64 a0_0, .bool true, .slice A0_2 l0_2.length c0_2, .int .i64 a0_3, .int .i64 a0_4, .int .i64 a0_5, .int .i64 a0_6]) (t := 93) ?hr ?_; (case hd => rfl); (case hg => rfl); (case hr => exact dq0); intro gb261 hg w38 hbox hb; have n0_ := Aside0.mk (below_step dq18 hb); have n1_ := Aside0.mk (hbox); have n2_ := Aside0.mk ((dq17 : w.heap.size ≤ gb261)); have n3_ := Aside0.mk ((dq17 : w.heap.size ≤ gb261)); clear HB; have HB := n0_; have BK261 := n1_; have GW261 := n2_; have GE261 := n3_; clear n0_ n1_ n2_ n3_; clear hb hbox hg; obtain ⟨⟨hcz39_0, hcz39_1, hcz39_2, hcz39_3, hcz39_4, hcz39_5, hcz39_6⟩, hfz39_0, hfz39_1, hfz39_2, hfz39_3, hfz39_4, hfz39_5, hfz39_6⟩ := blkC7 BK261.out))
     go_ret
     exact ⟨dq20, dq72⟩
    ·replace c37 := Bool.eq_false_iff.mpr c37
     subst c37
     have H1 : (if a0_4 = 0 then ((impl_in.f a0_5 0 20).bind fun t267 => (if t267 = true then (if a0_6 = (-1) then (some true) else ((impl_in.f a0_6 a0_5 20).bind fun t268 => (some t268))) else (some false))) else (some false)) = some r := by rw [if_neg (show ¬ (false = true) by decide)] at H; exact H
     clear H
     have H := H1
     clear H1
     by_cases c40 : a0_4 = 0
     ·rw [if_pos c40] at H
      have c40b0 := beq_iff_eq.mpr c40
      have c40b1 := bne_eq_false_iff_eq.mpr c40
      clear c40
      replace H := Option.bind_eq_some_iff.mp H
      obtain ⟨t267, A410, H⟩ := H
      replace H : (if t267 = true then (if a0_6 = (-1) then (some true) else ((impl_in.f a0_6 a0_5 20).bind fun t268 => (some t268))) else (some false)) = some r := H
      have A41 := Aside0.mk A410
      clear A410
      by_cases c42 : t267 = true
      ·subst c42
       have H1 : (if a0_6 = (-1) then (some true) else ((impl_in.f a0_6 a0_5 20).bind fun t268 => (some t268))) = some r := by rw [if_pos rfl] at H; exact H
       clear H
       have H := H1
       clear H1
       by_cases c43 : a0_6 = (-1)
       ·rw [if_pos c43] at H
        have c43b0 := beq_iff_eq.mpr c43
        have c43b1 := bne_eq_false_iff_eq.mpr c43
        clear c43
        obtain rfl := Option.some.inj H
        go_enter Tryd.func82, Tryd.ntmps82
        go_wp2_with (first | ((with_reducible refine gate_dst (N := 1) rfl ?_); (try (refine gate_guard dq29 ?_; dsimp only)); refine box_event ?hg (N := 1) ?hd (cs := #[.int .i64 a0_0, .bool false, .slice A0_2 l0_2.length c0_2, .int .i64 a0_3, .int .i64 a0_4, .int .i64 a0_5, .int .i64 a0_6]) (t := 93) ?hr ?_; (case hd => rfl); (case hg => rfl); (case hr => exact dq0); intro gb261 hg w44 hbox hb; have n0_ := Aside0.mk (below_step dq18 hb); have n1_ := Aside0.mk (hbox); have n2_ := Aside0.mk ((dq17 : w.heap.size ≤ gb261)); have n3_ := Aside0.mk ((dq17 : w.heap.size ≤ gb261)); clear HB; have HB := n0_; have BK261 := n1_; have GW261 := n2_; have GE261 := n3_; clear n0_ n1_ n2_ n3_; clear hb hbox hg; obtain ⟨⟨hcz45_0, hcz45_1, hcz45_2, hcz45_3, hcz45_4, hcz45_5, hcz45_6⟩, hfz45_0, hfz45_1, hfz45_2, hfz45_3, hfz45_4, hfz45_5, hfz45_6⟩ := blkC7 BK261.out) | (go_at_call 68; (with_reducible refine (impl_in.calls a0_5 0 20 true _ A41.out).mono ?_); rintro e w' ⟨rfl, ⟨nd, rfl⟩⟩))
        go_ret
        exact ⟨dq20, dq72⟩
       ·rw [if_neg c43] at H
        have c43b0 := beq_eq_false_iff_ne.mpr c43
        have c43b1 := bne_iff_ne.mpr c43
        replace H := Option.bind_eq_some_iff.mp H
        obtain ⟨t268, A460, H⟩ := H
        replace H : (some t268) = some r := H
        have A46 := Aside0.mk A460
        clear A460
        obtain rfl := Option.some.inj H
        go_enter Tryd.func82, Tryd.ntmps82
        go_wp2_with (first | ((with_reducible refine gate_dst (N := 1) rfl ?_); (try (refine gate_guard dq29 ?_; dsimp only)); refine box_event ?hg (N := 1) ?hd (cs := #[.int .i64 a0_0, .bool false, .slice A0_2 l0_2.length c0_2, .int .i64 a0_3, .int .i64 a0_4, .int .i64 a0_5, .int .i64 a0_6]) (t := 93) ?hr ?_; (case hd => rfl); (case hg => rfl); (case hr => exact dq0); intro gb261 hg w47 hbox hb; have n0_ := Aside0.mk (below_step dq18 hb); have n1_ := Aside0.mk (hbox); have n2_ := Aside0.mk ((dq17 : w.heap.size ≤ gb261)); have n3_ := Aside0.mk ((dq17 : w.heap.size ≤ gb261)); clear HB; have HB := n0_; have BK261 := n1_; have GW261 := n2_; have GE261 := n3_; clear n0_ n1_ n2_ n3_; clear hb hbox hg; obtain ⟨⟨hcz48_0, hcz48_1, hcz48_2, hcz48_3, hcz48_4, hcz48_5, hcz48_6⟩, hfz48_0, hfz48_1, hfz48_2, hfz48_3, hfz48_4, hfz48_5, hfz48_6⟩ := blkC7 BK261.out) | (go_at_call 68; (with_reducible refine (impl_in.calls a0_5 0 20 true _ A41.out).mono ?_); rintro e w' ⟨rfl, ⟨nd, rfl⟩⟩) | (go_at_call 68; (with_reducible refine (impl_in.calls a0_6 a0_5 20 t268 _ A46.out).mono ?_); rintro e w' ⟨rfl, ⟨nd, rfl⟩⟩))
        go_ret
        exact ⟨dq20, dq72⟩
      ·replace c42 := Bool.eq_false_iff.mpr c42
       subst c42
       have H1 : (some false) = some r := by rw [if_neg (show ¬ (false = true) by decide)] at H; exact H
       clear H
       have H := H1
       clear H1
       obtain rfl := Option.some.inj H
       go_enter Tryd.func82, Tryd.ntmps82
       go_wp2_with (first | ((with_reducible refine gate_dst (N := 1) rfl ?_); (try (refine gate_guard dq29 ?_; dsimp only)); refine box_event ?hg (N := 1) ?hd (cs := #[.int .i64 a0_0, .bool false, .slice A0_2 l0_2.length c0_2, .int .i64 a0_3, .int .i64 a0_4, .int .i64 a0_5, .int .i64 a0_6]) (t := 93) ?hr ?_; (case hd => rfl); (case hg => rfl); (case hr => exact dq0); intro gb261 hg w49 hbox hb; have n0_ := Aside0.mk (below_step dq18 hb); have n1_ := Aside0.mk (hbox); have n2_ := Aside0.mk ((dq17 : w.heap.size ≤ gb261)); have n3_ := Aside0.mk ((dq17 : w.heap.size ≤ gb261)); clear HB; have HB := n0_; have BK261 := n1_; have GW261 := n2_; have GE261 := n3_; clear n0_ n1_ n2_ n3_; clear hb hbox hg; obtain ⟨⟨hcz50_0, hcz50_1, hcz50_2, hcz50_3, hcz50_4, hcz50_5, hcz50_6⟩, hfz50_0, hfz50_1, hfz50_2, hfz50_3, hfz50_4, hfz50_5, hfz50_6⟩ := blkC7 BK261.out) | (go_at_call 68; (with_reducible refine (impl_in.calls a0_5 0 20 false _ A41.out).mono ?_); rintro e w' ⟨rfl, ⟨nd, rfl⟩⟩))
       go_ret
       exact ⟨dq20, dq72⟩
     ·rw [if_neg c40] at H
      have c40b0 := beq_eq_false_iff_ne.mpr c40
      have c40b1 := bne_iff_ne.mpr c40
      obtain rfl := Option.some.inj H
      go_enter Tryd.func82, Tryd.ntmps82
      go_wp2_with (first | ((with_reducible refine gate_dst (N := 1) rfl ?_); (try (refine gate_guard dq29 ?_; dsimp only)); refine box_event ?hg (N := 1) ?hd (cs := #[.int .i64 a0_0, .bool false, .slice A0_2 l0_2.length c0_2, .int .i64 a0_3, .int .i64 a0_4, .int .i64 a0_5, .int .i64 a0_6]) (t := 93) ?hr ?_; (case hd => rfl); (case hg => rfl); (case hr => exact dq0); intro gb261 hg w51 hbox hb; have n0_ := Aside0.mk (below_step dq18 hb); have n1_ := Aside0.mk (hbox); have n2_ := Aside0.mk ((dq17 : w.heap.size ≤ gb261)); have n3_ := Aside0.mk ((dq17 : w.heap.size ≤ gb261)); clear HB; have HB := n0_; have BK261 := n1_; have GW261 := n2_; have GE261 := n3_; clear n0_ n1_ n2_ n3_; clear hb hbox hg; obtain ⟨⟨hcz52_0, hcz52_1, hcz52_2, hcz52_3, hcz52_4, hcz52_5, hcz52_6⟩, hfz52_0, hfz52_1, hfz52_2, hfz52_3, hfz52_4, hfz52_5, hfz52_6⟩ := blkC7 BK261.out))
      go_ret
      exact ⟨dq20, dq72⟩
   ·rw [if_neg c36] at H
    have c36b0 := beq_eq_false_iff_ne.mpr c36
    have c36b1 := bne_iff_ne.mpr c36
    have c36b2 : ¬ (l0_2 = []) := fun h_ => c36 (by rw [h_]; rfl)
    obtain rfl := Option.some.inj H
    go_enter Tryd.func82, Tryd.ntmps82
    go_wp2_with (first | ((with_reducible refine gate_dst (N := 1) rfl ?_); (try (refine gate_guard dq29 ?_; dsimp only)); refine box_event ?hg (N := 1) ?hd (cs := #[.int .i64 a0_0, .bool a0_1, .slice A0_2 l0_2.length c0_2, .int .i64 a0_3, .int .i64 a0_4, .int .i64 a0_5, .int .i64 a0_6]) (t := 93) ?hr ?_; (case hd => rfl); (case hg => rfl); (case hr => exact dq0); intro gb261 hg w53 hbox hb; have n0_ := Aside0.mk (below_step dq18 hb); have n1_ := Aside0.mk (hbox); have n2_ := Aside0.mk ((dq17 : w.heap.size ≤ gb261)); have n3_ := Aside0.mk ((dq17 : w.heap.size ≤ gb261)); clear HB; have HB := n0_; have BK261 := n1_; have GW261 := n2_; have GE261 := n3_; clear n0_ n1_ n2_ n3_; clear hb hbox hg; obtain ⟨⟨hcz54_0, hcz54_1, hcz54_2, hcz54_3, hcz54_4, hcz54_5, hcz54_6⟩, hfz54_0, hfz54_1, hfz54_2, hfz54_3, hfz54_4, hfz54_5, hfz54_6⟩ := blkC7 BK261.out))
    go_ret
    exact ⟨dq20, dq72⟩
  ·rw [if_neg c35] at H
   have c35b0 := beq_eq_false_iff_ne.mpr c35
   have c35b1 := bne_iff_ne.mpr c35
   by_cases c55 : a0_0 = 1
   ·rw [if_pos c55] at H
    have c55b0 := beq_iff_eq.mpr c55
    have c55b1 := bne_eq_false_iff_eq.mpr c55
    clear c55
    by_cases c56 : (l0_2.length : Int) = 0
    ·rw [if_pos c56] at H
     have c56b0 := beq_iff_eq.mpr c56
     have c56b1 := bne_eq_false_iff_eq.mpr c56
     clear c56
     by_cases c57 : a0_1 = true
     ·subst c57
      have H1 : (some false) = some r := by rw [if_pos rfl] at H; exact H
      clear H
      have H := H1
      clear H1
      obtain rfl := Option.some.inj H
      go_enter Tryd.func82, Tryd.ntmps82
      go_wp2_with (first | ((with_reducible refine gate_dst (N := 1) rfl ?_); (try (refine gate_guard dq29 ?_; dsimp only)); refine box_event ?hg (N := 1) ?hd (cs := #[.int .i64 a0_0, .bool true, .slice A0_2 l0_2.length c0_2, .int .i64 a0_3, .int .i64 a0_4, .int .i64 a0_5, .int .i64 a0_6]) (t := 93) ?hr ?_; (case hd => rfl); (case hg => rfl); (case hr => exact dq0); intro gb261 hg w58 hbox hb; have n0_ := Aside0.mk (below_step dq18 hb); have n1_ := Aside0.mk (hbox); have n2_ := Aside0.mk ((dq17 : w.heap.size ≤ gb261)); have n3_ := Aside0.mk ((dq17 : w.heap.size ≤ gb261)); clear HB; have HB := n0_; have BK261 := n1_; have GW261 := n2_; have GE261 := n3_; clear n0_ n1_ n2_ n3_; clear hb hbox hg; obtain ⟨⟨hcz59_0, hcz59_1, hcz59_2, hcz59_3, hcz59_4, hcz59_5, hcz59_6⟩, hfz59_0, hfz59_1, hfz59_2, hfz59_3, hfz59_4, hfz59_5, hfz59_6⟩ := blkC7 BK261.out))
      go_ret
      exact ⟨dq20, dq72⟩
     ·replace c57 := Bool.eq_false_iff.mpr c57
      subst c57
      have H1 : (if a0_3 = 0 then (if a0_4 = 0 then (if a0_5 = 0 then (some (a0_6 == 0)) else (some false)) else (some false)) else (some false)) = some r := by rw [if_neg (show ¬ (false = true) by decide)] at H; exact H
      clear H
      have H := H1
      clear H1
      by_cases c60 : a0_3 = 0
      ·rw [if_pos c60] at H
       have c60b0 := beq_iff_eq.mpr c60
       have c60b1 := bne_eq_false_iff_eq.mpr c60
       clear c60
       by_cases c61 : a0_4 = 0
       ·rw [if_pos c61] at H
        have c61b0 := beq_iff_eq.mpr c61
        have c61b1 := bne_eq_false_iff_eq.mpr c61
        clear c61
        by_cases c62 : a0_5 = 0
        ·rw [if_pos c62] at H
         have c62b0 := beq_iff_eq.mpr c62
         have c62b1 := bne_eq_false_iff_eq.mpr c62
         clear c62
         obtain rfl := Option.some.inj H
         go_enter Tryd.func82, Tryd.ntmps82
         go_wp2_with (first | ((with_reducible refine gate_dst (N := 1) rfl ?_); (try (refine gate_guard dq29 ?_; dsimp only)); refine box_event ?hg (N := 1) ?hd (cs := #[.int .i64 a0_0, .bool false, .slice A0_2 l0_2.length c0_2, .int .i64 a0_3, .int .i64 a0_4, .int .i64 a0_5, .int .i64 a0_6]) (t := 93) ?hr ?_; (case hd => rfl); (case hg => rfl); (case hr => exact dq0); intro gb261 hg w63 hbox hb; have n0_ := Aside0.mk (below_step dq18 hb); have n1_ := Aside0.mk (hbox); have n2_ := Aside0.mk ((dq17 : w.heap.size ≤ gb261)); have n3_ := Aside0.mk ((dq17 : w.heap.size ≤ gb261)); clear HB; have HB := n0_; have BK261 := n1_; have GW261 := n2_; have GE261 := n3_; clear n0_ n1_ n2_ n3_; clear hb hbox hg; obtain ⟨⟨hcz64_0, hcz64_1, hcz64_2, hcz64_3, hcz64_4, hcz64_5, hcz64_6⟩, hfz64_0, hfz64_1, hfz64_2, hfz64_3, hfz64_4, hfz64_5, hfz64_6⟩ := blkC7 BK261.out))
         go_ret
         exact ⟨dq20, dq72⟩
        ·rw [if_neg c62] at H
         have c62b0 := beq_eq_false_iff_ne.mpr c62
         have c62b1 := bne_iff_ne.mpr c62
         obtain rfl := Option.some.inj H
         go_enter Tryd.func82, Tryd.ntmps82
         go_wp2_with (first | ((with_reducible refine gate_dst (N := 1) rfl ?_); (try (refine gate_guard dq29 ?_; dsimp only)); refine box_event ?hg (N := 1) ?hd (cs := #[.int .i64 a0_0, .bool false, .slice A0_2 l0_2.length c0_2, .int .i64 a0_3, .int .i64 a0_4, .int .i64 a0_5, .int .i64 a0_6]) (t := 93) ?hr ?_; (case hd => rfl); (case hg => rfl); (case hr => exact dq0); intro gb261 hg w65 hbox hb; have n0_ := Aside0.mk (below_step dq18 hb); have n1_ := Aside0.mk (hbox); have n2_ := Aside0.mk ((dq17 : w.heap.size ≤ gb261)); have n3_ := Aside0.mk ((dq17 : w.heap.size ≤ gb261)); clear HB; have HB := n0_; have BK261 := n1_; have GW261 := n2_; have GE261 := n3_; clear n0_ n1_ n2_ n3_; clear hb hbox hg; obtain ⟨⟨hcz66_0, hcz66_1, hcz66_2, hcz66_3, hcz66_4, hcz66_5, hcz66_6⟩, hfz66_0, hfz66_1, hfz66_2, hfz66_3, hfz66_4, hfz66_5, hfz66_6⟩ := blkC7 BK261.out))
         go_ret
         exact ⟨dq20, dq72⟩
       ·rw [if_neg c61] at H
        have c61b0 := beq_eq_false_iff_ne.mpr c61
        have c61b1 := bne_iff_ne.mpr c61
        obtain rfl := Option.some.inj H
        go_enter Tryd.func82, Tryd.ntmps82
        go_wp2_with (first | ((with_reducible refine gate_dst (N := 1) rfl ?_); (try (refine gate_guard dq29 ?_; dsimp only)); refine box_event ?hg (N := 1) ?hd (cs := #[.int .i64 a0_0, .bool false, .slice A0_2 l0_2.length c0_2, .int .i64 a0_3, .int .i64 a0_4, .int .i64 a0_5, .int .i64 a0_6]) (t := 93) ?hr ?_; (case hd => rfl); (case hg => rfl); (case hr => exact dq0); intro gb261 hg w67 hbox hb; have n0_ := Aside0.mk (below_step dq18 hb); have n1_ := Aside0.mk (hbox); have n2_ := Aside0.mk ((dq17 : w.heap.size ≤ gb261)); have n3_ := Aside0.mk ((dq17 : w.heap.size ≤ gb261)); clear HB; have HB := n0_; have BK261 := n1_; have GW261 := n2_; have GE261 := n3_; clear n0_ n1_ n2_ n3_; clear hb hbox hg; obtain ⟨⟨hcz68_0, hcz68_1, hcz68_2, hcz68_3, hcz68_4, hcz68_5, hcz68_6⟩, hfz68_0, hfz68_1, hfz68_2, hfz68_3, hfz68_4, hfz68_5, hfz68_6⟩ := blkC7 BK261.out))
        go_ret
        exact ⟨dq20, dq72⟩
      ·rw [if_neg c60] at H
       have c60b0 := beq_eq_false_iff_ne.mpr c60
       have c60b1 := bne_iff_ne.mpr c60
       obtain rfl := Option.some.inj H
       go_enter Tryd.func82, Tryd.ntmps82
       go_wp2_with (first | ((with_reducible refine gate_dst (N := 1) rfl ?_); (try (refine gate_guard dq29 ?_; dsimp only)); refine box_event ?hg (N := 1) ?hd (cs := #[.int .i64 a0_0, .bool false, .slice A0_2 l0_2.length c0_2, .int .i64 a0_3, .int .i64 a0_4, .int .i64 a0_5, .int .i64 a0_6]) (t := 93) ?hr ?_; (case hd => rfl); (case hg => rfl); (case hr => exact dq0); intro gb261 hg w69 hbox hb; have n0_ := Aside0.mk (below_step dq18 hb); have n1_ := Aside0.mk (hbox); have n2_ := Aside0.mk ((dq17 : w.heap.size ≤ gb261)); have n3_ := Aside0.mk ((dq17 : w.heap.size ≤ gb261)); clear HB; have HB := n0_; have BK261 := n1_; have GW261 := n2_; have GE261 := n3_; clear n0_ n1_ n2_ n3_; clear hb hbox hg; obtain ⟨⟨hcz70_0, hcz70_1, hcz70_2, hcz70_3, hcz70_4, hcz70_5, hcz70_6⟩, hfz70_0, hfz70_1, hfz70_2, hfz70_3, hfz70_4, hfz70_5, hfz70_6⟩ := blkC7 BK261.out))
       go_ret
       exact ⟨dq20, dq72⟩
    ·rw [if_neg c56] at H
     have c56b0 := beq_eq_false_iff_ne.mpr c56
     have c56b1 := bne_iff_ne.mpr c56
     have c56b2 : ¬ (l0_2 = []) := fun h_ => c56 (by rw [h_]; rfl)
     obtain rfl := Option.some.inj H
     go_enter Tryd.func82, Tryd.ntmps82
     go_wp2_with (first | ((with_reducible refine gate_dst (N := 1) rfl ?_); (try (refine gate_guard dq29 ?_; dsimp only)); refine box_event ?hg (N := 1) ?hd (cs := #[.int .i64 a0_0, .bool a0_1, .slice A0_2 l0_2.length c0_2, .int .i64 a0_3, .int .i64 a0_4, .int .i64 a0_5, .int .i64 a0_6]) (t := 93) ?hr ?_; (case hd => rfl); (case hg => rfl); (case hr => exact dq0); intro gb261 hg w71 hbox hb; have n0_ := Aside0.mk (below_step dq18 hb); have n1_ := Aside0.mk (hbox); have n2_ := Aside0.mk ((dq17 : w.heap.size ≤ gb261)); have n3_ := Aside0.mk ((dq17 : w.heap.size ≤ gb261)); clear HB; have HB := n0_; have BK261 := n1_; have GW261 := n2_; have GE261 := n3_; clear n0_ n1_ n2_ n3_; clear hb hbox hg; obtain ⟨⟨hcz72_0, hcz72_1, hcz72_2, hcz72_3, hcz72_4, hcz72_5, hcz72_6⟩, hfz72_0, hfz72_1, hfz72_2, hfz72_3, hfz72_4, hfz72_5, hfz72_6⟩ := blkC7 BK261.out))
     go_ret
     exact ⟨dq20, dq72⟩
   ·rw [if_neg c55] at H
    have c55b0 := beq_eq_false_iff_ne.mpr c55
    have c55b1 := bne_iff_ne.mpr c55
    by_cases c73 : a0_0 = 3
    ·rw [if_pos c73] at H
     have c73b0 := beq_iff_eq.mpr c73
     have c73b1 := bne_eq_false_iff_eq.mpr c73
     clear c73
     by_cases c74 : (l0_2.length : Int) = 0
     ·rw [if_pos c74] at H
      have c74b0 := beq_iff_eq.mpr c74
      have c74b1 := bne_eq_false_iff_eq.mpr c74
      clear c74
      by_cases c75 : a0_1 = true
      ·subst c75
       have H1 : (some false) = some r := by rw [if_pos rfl] at H; exact H
       clear H
       have H := H1
       clear H1
       obtain rfl := Option.some.inj H
       go_enter Tryd.func82, Tryd.ntmps82
       go_wp2_with (first | ((with_reducible refine gate_dst (N := 1) rfl ?_); (try (refine gate_guard dq29 ?_; dsimp only)); refine box_event ?hg (N := 1) ?hd (cs := #[.int .i64 a0_0, .bool true, .slice A0_2 l0_2.length c0_2, .int .i64 a0_3, .int .i64 a0_4, .int .i64 a0_5, .int .i64 a0_6]) (t := 93) ?hr ?_; (case hd => rfl); (case hg => rfl); (case hr => exact dq0); intro gb261 hg w76 hbox hb; have n0_ := Aside0.mk (below_step dq18 hb); have n1_ := Aside0.mk (hbox); have n2_ := Aside0.mk ((dq17 : w.heap.size ≤ gb261)); have n3_ := Aside0.mk ((dq17 : w.heap.size ≤ gb261)); clear HB; have HB := n0_; have BK261 := n1_; have GW261 := n2_; have GE261 := n3_; clear n0_ n1_ n2_ n3_; clear hb hbox hg; obtain ⟨⟨hcz77_0, hcz77_1, hcz77_2, hcz77_3, hcz77_4, hcz77_5, hcz77_6⟩, hfz77_0, hfz77_1, hfz77_2, hfz77_3, hfz77_4, hfz77_5, hfz77_6⟩ := blkC7 BK261.out))
       go_ret
       exact ⟨dq20, dq72⟩
      ·replace c75 := Bool.eq_false_iff.mpr c75
       subst c75
       have H1 : (if a0_5 = 0 then (some (a0_6 == 0)) else (some false)) = some r := by rw [if_neg (show ¬ (false = true) by decide)] at H; exact H
       clear H
       have H := H1
       clear H1
       by_cases c78 : a0_5 = 0
       ·rw [if_pos c78] at H
        have c78b0 := beq_iff_eq.mpr c78
        have c78b1 := bne_eq_false_iff_eq.mpr c78
        clear c78
        obtain rfl := Option.some.inj H
        go_enter Tryd.func82, Tryd.ntmps82
        go_wp2_with (first | ((with_reducible refine gate_dst (N := 1) rfl ?_); (try (refine gate_guard dq29 ?_; dsimp only)); refine box_event ?hg (N := 1) ?hd (cs := #[.int .i64 a0_0, .bool false, .slice A0_2 l0_2.length c0_2, .int .i64 a0_3, .int .i64 a0_4, .int .i64 a0_5, .int .i64 a0_6]) (t := 93) ?hr ?_; (case hd => rfl); (case hg => rfl); (case hr => exact dq0); intro gb261 hg w79 hbox hb; have n0_ := Aside0.mk (below_step dq18 hb); have n1_ := Aside0.mk (hbox); have n2_ := Aside0.mk ((dq17 : w.heap.size ≤ gb261)); have n3_ := Aside0.mk ((dq17 : w.heap.size ≤ gb261)); clear HB; have HB := n0_; have BK261 := n1_; have GW261 := n2_; have GE261 := n3_; clear n0_ n1_ n2_ n3_; clear hb hbox hg; obtain ⟨⟨hcz80_0, hcz80_1, hcz80_2, hcz80_3, hcz80_4, hcz80_5, hcz80_6⟩, hfz80_0, hfz80_1, hfz80_2, hfz80_3, hfz80_4, hfz80_5, hfz80_6⟩ := blkC7 BK261.out))
        go_ret
        exact ⟨dq20, dq72⟩
       ·rw [if_neg c78] at H
        have c78b0 := beq_eq_false_iff_ne.mpr c78
        have c78b1 := bne_iff_ne.mpr c78
        obtain rfl := Option.some.inj H
        go_enter Tryd.func82, Tryd.ntmps82
        go_wp2_with (first | ((with_reducible refine gate_dst (N := 1) rfl ?_); (try (refine gate_guard dq29 ?_; dsimp only)); refine box_event ?hg (N := 1) ?hd (cs := #[.int .i64 a0_0, .bool false, .slice A0_2 l0_2.length c0_2, .int .i64 a0_3, .int .i64 a0_4, .int .i64 a0_5, .int .i64 a0_6]) (t := 93) ?hr ?_; (case hd => rfl); (case hg => rfl); (case hr => exact dq0); intro gb261 hg w81 hbox hb; have n0_ := Aside0.mk (below_step dq18 hb); have n1_ := Aside0.mk (hbox); have n2_ := Aside0.mk ((dq17 : w.heap.size ≤ gb261)); have n3_ := Aside0.mk ((dq17 : w.heap.size ≤ gb261)); clear HB; have HB := n0_; have BK261 := n1_; have GW261 := n2_; have GE261 := n3_; clear n0_ n1_ n2_ n3_; clear hb hbox hg; obtain ⟨⟨hcz82_0, hcz82_1, hcz82_2, hcz82_3, hcz82_4, hcz82_5, hcz82_6⟩, hfz82_0, hfz82_1, hfz82_2, hfz82_3, hfz82_4, hfz82_5, hfz82_6⟩ := blkC7 BK261.out))
        go_ret
        exact ⟨dq20, dq72⟩
     ·rw [if_neg c74] at H
      have c74b0 := beq_eq_false_iff_ne.mpr c74
      have c74b1 := bne_iff_ne.mpr c74
      have c74b2 : ¬ (l0_2 = []) := fun h_ => c74 (by rw [h_]; rfl)
      obtain rfl := Option.some.inj H
      go_enter Tryd.func82, Tryd.ntmps82
      go_wp2_with (first | ((with_reducible refine gate_dst (N := 1) rfl ?_); (try (refine gate_guard dq29 ?_; dsimp only)); refine box_event ?hg (N := 1) ?hd (cs := #[.int .i64 a0_0, .bool a0_1, .slice A0_2 l0_2.length c0_2, .int .i64 a0_3, .int .i64 a0_4, .int .i64 a0_5, .int .i64 a0_6]) (t := 93) ?hr ?_; (case hd => rfl); (case hg => rfl); (case hr => exact dq0); intro gb261 hg w83 hbox hb; have n0_ := Aside0.mk (below_step dq18 hb); have n1_ := Aside0.mk (hbox); have n2_ := Aside0.mk ((dq17 : w.heap.size ≤ gb261)); have n3_ := Aside0.mk ((dq17 : w.heap.size ≤ gb261)); clear HB; have HB := n0_; have BK261 := n1_; have GW261 := n2_; have GE261 := n3_; clear n0_ n1_ n2_ n3_; clear hb hbox hg; obtain ⟨⟨hcz84_0, hcz84_1, hcz84_2, hcz84_3, hcz84_4, hcz84_5, hcz84_6⟩, hfz84_0, hfz84_1, hfz84_2, hfz84_3, hfz84_4, hfz84_5, hfz84_6⟩ := blkC7 BK261.out))
      go_ret
      exact ⟨dq20, dq72⟩
    ·rw [if_neg c73] at H
     have c73b0 := beq_eq_false_iff_ne.mpr c73
     have c73b1 := bne_iff_ne.mpr c73
     by_cases c85 : a0_0 = 4
     ·rw [if_pos c85] at H
      have c85b0 := beq_iff_eq.mpr c85
      have c85b1 := bne_eq_false_iff_eq.mpr c85
      clear c85
      by_cases c86 : (l0_2.length : Int) = 0
      ·rw [if_pos c86] at H
       have c86b0 := beq_iff_eq.mpr c86
       have c86b1 := bne_eq_false_iff_eq.mpr c86
       clear c86
       by_cases c87 : a0_1 = true
       ·subst c87
        have H1 : (some false) = some r := by rw [if_pos rfl] at H; exact H
        clear H
        have H := H1
        clear H1
        obtain rfl := Option.some.inj H
        go_enter Tryd.func82, Tryd.ntmps82
        go_wp2_with (first | ((with_reducible refine gate_dst (N := 1) rfl ?_); (try (refine gate_guard dq29 ?_; dsimp only)); refine box_event ?hg (N := 1) ?hd (cs := #[.int .i64 a0_0, .bool true, .slice A0_2 l0_2.length c0_2, .int .i64 a0_3, .int .i64 a0_4, .int .i64 a0_5, .int .i64 a0_6]) (t := 93) ?hr ?_; (case hd => rfl); (case hg => rfl); (case hr => exact dq0); intro gb261 hg w88 hbox hb; have n0_ := Aside0.mk (below_step dq18 hb); have n1_ := Aside0.mk (hbox); have n2_ := Aside0.mk ((dq17 : w.heap.size ≤ gb261)); have n3_ := Aside0.mk ((dq17 : w.heap.size ≤ gb261)); clear HB; have HB := n0_; have BK261 := n1_; have GW261 := n2_; have GE261 := n3_; clear n0_ n1_ n2_ n3_; clear hb hbox hg; obtain ⟨⟨hcz89_0, hcz89_1, hcz89_2, hcz89_3, hcz89_4, hcz89_5, hcz89_6⟩, hfz89_0, hfz89_1, hfz89_2, hfz89_3, hfz89_4, hfz89_5, hfz89_6⟩ := blkC7 BK261.out))
        go_ret
        exact ⟨dq20, dq72⟩
       ·replace c87 := Bool.eq_false_iff.mpr c87
        subst c87
        have H1 : (if a0_5 = 0 then (some (a0_6 == 0)) else (some false)) = some r := by rw [if_neg (show ¬ (false = true) by decide)] at H; exact H
        clear H
        have H := H1
        clear H1
        by_cases c90 : a0_5 = 0
        ·rw [if_pos c90] at H
         have c90b0 := beq_iff_eq.mpr c90
         have c90b1 := bne_eq_false_iff_eq.mpr c90
         clear c90
         obtain rfl := Option.some.inj H
         go_enter Tryd.func82, Tryd.ntmps82
         go_wp2_with (first | ((with_reducible refine gate_dst (N := 1) rfl ?_); (try (refine gate_guard dq29 ?_; dsimp only)); refine box_event ?hg (N := 1) ?hd (cs := #[.int .i64 a0_0, .bool false, .slice A0_2 l0_2.length c0_2, .int .i64 a0_3, .int .i64 a0_4, .int .i64 a0_5, .int .i64 a0_6]) (t := 93) ?hr ?_; (case hd => rfl); (case hg => rfl); (case hr => exact dq0); intro gb261 hg w91 hbox hb; have n0_ := Aside0.mk (below_step dq18 hb); have n1_ := Aside0.mk (hbox); have n2_ := Aside0.mk ((dq17 : w.heap.size ≤ gb261)); have n3_ := Aside0.mk ((dq17 : w.heap.size ≤ gb261)); clear HB; have HB := n0_; have BK261 := n1_; have GW261 := n2_; have GE261 := n3_; clear n0_ n1_ n2_ n3_; clear hb hbox hg; obtain ⟨⟨hcz92_0, hcz92_1, hcz92_2, hcz92_3, hcz92_4, hcz92_5, hcz92_6⟩, hfz92_0, hfz92_1, hfz92_2, hfz92_3, hfz92_4, hfz92_5, hfz92_6⟩ := blkC7 BK261.out))
         go_ret
         exact ⟨dq20, dq72⟩
        ·rw [if_neg c90] at H
         have c90b0 := beq_eq_false_iff_ne.mpr c90
         have c90b1 := bne_iff_ne.mpr c90
         obtain rfl := Option.some.inj H
         go_enter Tryd.func82, Tryd.ntmps82
         go_wp2_with (first | ((with_reducible refine gate_dst (N := 1) rfl ?_); (try (refine gate_guard dq29 ?_; dsimp only)); refine box_event ?hg (N := 1) ?hd (cs := #[.int .i64 a0_0, .bool false, .slice A0_2 l0_2.length c0_2, .int .i64 a0_3, .int .i64 a0_4, .int .i64 a0_5, .int .i64 a0_6]) (t := 93) ?hr ?_; (case hd => rfl); (case hg => rfl); (case hr => exact dq0); intro gb261 hg w93 hbox hb; have n0_ := Aside0.mk (below_step dq18 hb); have n1_ := Aside0.mk (hbox); have n2_ := Aside0.mk ((dq17 : w.heap.size ≤ gb261)); have n3_ := Aside0.mk ((dq17 : w.heap.size ≤ gb261)); clear HB; have HB := n0_; have BK261 := n1_; have GW261 := n2_; have GE261 := n3_; clear n0_ n1_ n2_ n3_; clear hb hbox hg; obtain ⟨⟨hcz94_0, hcz94_1, hcz94_2, hcz94_3, hcz94_4, hcz94_5, hcz94_6⟩, hfz94_0, hfz94_1, hfz94_2, hfz94_3, hfz94_4, hfz94_5, hfz94_6⟩ := blkC7 BK261.out))
         go_ret
         exact ⟨dq20, dq72⟩
      ·rw [if_neg c86] at H
       have c86b0 := beq_eq_false_iff_ne.mpr c86
       have c86b1 := bne_iff_ne.mpr c86
       have c86b2 : ¬ (l0_2 = []) := fun h_ => c86 (by rw [h_]; rfl)
       obtain rfl := Option.some.inj H
       go_enter Tryd.func82, Tryd.ntmps82
       go_wp2_with (first | ((with_reducible refine gate_dst (N := 1) rfl ?_); (try (refine gate_guard dq29 ?_; dsimp only)); refine box_event ?hg (N := 1) ?hd (cs := #[.int .i64 a0_0, .bool a0_1, .slice A0_2 l0_2.length c0_2, .int .i64 a0_3, .int .i64 a0_4, .int .i64 a0_5, .int .i64 a0_6]) (t := 93) ?hr ?_; (case hd => rfl); (case hg => rfl); (case hr => exact dq0); intro gb261 hg w95 hbox hb; have n0_ := Aside0.mk (below_step dq18 hb); have n1_ := Aside0.mk (hbox); have n2_ := Aside0.mk ((dq17 : w.heap.size ≤ gb261)); have n3_ := Aside0.mk ((dq17 : w.heap.size ≤ gb261)); clear HB; have HB := n0_; have BK261 := n1_; have GW261 := n2_; have GE261 := n3_; clear n0_ n1_ n2_ n3_; clear hb hbox hg; obtain ⟨⟨hcz96_0, hcz96_1, hcz96_2, hcz96_3, hcz96_4, hcz96_5, hcz96_6⟩, hfz96_0, hfz96_1, hfz96_2, hfz96_3, hfz96_4, hfz96_5, hfz96_6⟩ := blkC7 BK261.out))
       go_ret
       exact ⟨dq20, dq72⟩
     ·rw [if_neg c85] at H
      have c85b0 := beq_eq_false_iff_ne.mpr c85
      have c85b1 := bne_iff_ne.mpr c85
      obtain rfl := Option.some.inj H
      go_enter Tryd.func82, Tryd.ntmps82
      go_wp2_with (first | ((with_reducible refine gate_dst (N := 1) rfl ?_); (try (refine gate_guard dq29 ?_; dsimp only)); refine box_event ?hg (N := 1) ?hd (cs := #[.int .i64 a0_0, .bool a0_1, .slice A0_2 l0_2.length c0_2, .int .i64 a0_3, .int .i64 a0_4, .int .i64 a0_5, .int .i64 a0_6]) (t := 93) ?hr ?_; (case hd => rfl); (case hg => rfl); (case hr => exact dq0); intro gb261 hg w97 hbox hb; have n0_ := Aside0.mk (below_step dq18 hb); have n1_ := Aside0.mk (hbox); have n2_ := Aside0.mk ((dq17 : w.heap.size ≤ gb261)); have n3_ := Aside0.mk ((dq17 : w.heap.size ≤ gb261)); clear HB; have HB := n0_; have BK261 := n1_; have GW261 := n2_; have GE261 := n3_; clear n0_ n1_ n2_ n3_; clear hb hbox hg; obtain ⟨⟨hcz98_0, hcz98_1, hcz98_2, hcz98_3, hcz98_4, hcz98_5, hcz98_6⟩, hfz98_0, hfz98_1, hfz98_2, hfz98_3, hfz98_4, hfz98_5, hfz98_6⟩ := blkC7 BK261.out))
      go_ret
      exact ⟨dq20, dq72⟩

/-! ### impl_RegexOk: function 42 -/
mutual
def impl_RegexOk.l0 : Nat → List (S93) → List Int → List Int → List (S93) → Int → Int → Option (Bool)
 | 0, _, _, _, _, _, _ => none
 | k + 1, x0, x3, x4, x19, x20, x21 => if x21 < x20 then (if 0 ≤ x21 then (if x21 < (x19.length : Int) then (if x21 < (x3.length : Int) then ((some (x3.set (x21 : Int).toNat x21 : List Int)).bind fun y280 => (if x21 < (x4.length : Int) then ((some (x4.set (x21 : Int).toNat 1 : List Int)).bind fun y281 => ((impl_RNode_fits.f k ((rd_T93 x19 x21).f0) ((rd_T93 x19 x21).f1) ((rd_T93 x19 x21).f2) ((rd_T93 x19 x21).f3) ((rd_T93 x19 x21).f4) ((rd_T93 x19 x21).f5) ((rd_T93 x19 x21).f6)).bind fun t282 => (if t282 = true then (if ((rd_T93 x19 x21).f0) = 3 then (impl_RegexOk.j1 k x0 y280 y281 x21 x21 x19 x20 x21 ((rd_T93 x19 x21).f0) (((rd_T93 x19 x21).f0) == 3) ((rd_T93 x19 x21).f0) ((rd_T93 x19 x21).f1) ((rd_T93 x19 x21).f2) ((rd_T93 x19 x21).f3) ((rd_T93 x19 x21).f4) ((rd_T93 x19 x21).f5) ((rd_T93 x19 x21).f6)) else (impl_RegexOk.j1 k x0 y280 y281 x21 x21 x19 x20 x21 ((rd_T93 x19 x21).f0) (((rd_T93 x19 x21).f0) == 4) ((rd_T93 x19 x21).f0) ((rd_T93 x19 x21).f1) ((rd_T93 x19 x21).f2) ((rd_T93 x19 x21).f3) ((rd_T93 x19 x21).f4) ((rd_T93 x19 x21).f5) ((rd_T93 x19 x21).f6))) else (some false)))) else (none))) else (none)) else (none)) else (none)) else (if 0 ≤ (wrap64 ((x0.length : Int) - 1)) then (if (wrap64 ((x0.length : Int) - 1)) < (x3.length : Int) then (if (rd x3 (wrap64 ((x0.length : Int) - 1))) = 0 then (if (wrap64 ((x0.length : Int) - 1)) < (x4.length : Int) then (some (decide ((rd x4 (wrap64 ((x0.length : Int) - 1))) ≤ 2000))) else (none)) else (some false)) else (none)) else (none))
def impl_RegexOk.j1 : Nat → List (S93) → List Int → List Int → Int → Int → List (S93) → Int → Int → Int → Bool → Int → Bool → List (S100) → Int → Int → Int → Int → Option (Bool)
 | 0, _, _, _, _, _, _, _, _, _, _, _, _, _, _, _, _, _ => none
 | k + 1, x0, x3, x4, x5, x7, x19, x20, x21, x38, x39, x280000, x280001, x280002, x280003, x280004, x280005, x280006 => if x39 = true then (if x7 = 0 then (some false) else (if x280004 = (wrap64 (x7 - 1)) then (if 0 ≤ x280004 then (if x280004 < (x3.length : Int) then (if (rd x3 x280004) = 0 then (some false) else (if x280003 = (wrap64 ((rd x3 x280004) - 1)) then (if 0 ≤ x280003 then (if x280003 < (x3.length : Int) then (if x280003 < (x4.length : Int) then (if x280004 < (x4.length : Int) then (if 0 ≤ x5 then (if x5 < (x3.length : Int) then (if x5 < (x4.length : Int) then (impl_RegexOk.l0 k x0 (x3.set (x5 : Int).toNat (rd x3 x280003)) ((x4.set (x5 : Int).toNat (wrap64 ((rd x4 x280003) + (rd x4 x280004)))).set (x5 : Int).toNat (mn (wrap64 ((rd x4 x280003) + (rd x4 x280004))) 2001)) x19 x20 (wrap64 (x21 + 1))) else (none)) else (none)) else (none)) else (none)) else (none)) else (none)) else (none)) else (some false))) else (none)) else (none)) else (some false))) else (if x38 = 5 then (if x7 = 0 then (some false) else (if x280003 = (wrap64 (x7 - 1)) then (if 0 ≤ x280003 then (if x280003 < (x3.length : Int) then (if x280003 < (x4.length : Int) then (if 0 ≤ x5 then (if x5 < (x3.length : Int) then (if x5 < (x4.length : Int) then (impl_RegexOk.l0 k x0 (x3.set (x5 : Int).toNat (rd x3 x280003)) ((x4.set (x5 : Int).toNat (wrap64 ((rd x4 x280003) * (mx (mx 1 (wrap64 (x280005 + 1))) x280006)))).set (x5 : Int).toNat (mn (wrap64 ((rd x4 x280003) * (mx (mx 1 (wrap64 (x280005 + 1))) x280006))) 2001)) x19 x20 (wrap64 (x21 + 1))) else (none)) else (none)) else (none)) else (none)) else (none)) else (none)) else (some false))) else (if 0 ≤ x5 then (if x5 < (x4.length : Int) then (impl_RegexOk.l0 k x0 x3 (x4.set (x5 : Int).toNat (mn (rd x4 x5) 2001)) x19 x20 (wrap64 (x21 + 1))) else (none)) else (none)))
end
def impl_RegexOk.f (k : Nat) (l0 : List (S93)) : Option (Bool) := (impl_in.f (l0.length : Int) 1 120).bind fun t269 => (if t269 = true then (if 0 ≤ (l0.length : Int) then (if ((l0.length : Int) : Int).toNat ≤ 35184372088832 then (impl_RegexOk.l0 k l0 (List.replicate ((l0.length : Int) : Int).toNat 0) (List.replicate ((l0.length : Int) : Int).toNat 0) l0 (l0.length : Int) 0) else (none)) else (none)) else (some false))
theorem cell_same {W : World} {p a : Addr} {v : Value} (h : W.cell? a = some v) (hs : a.spot = none) : (W.setCell p v).cell? a = some v := by
 by_cases hb : a.block = p.block
 ·unfold World.cell? at h ⊢
  unfold World.setCell
  simp only [Array.getElem?_modify, hb, if_true] at h ⊢
  cases hw : W.heap[p.block]? with
  | none => rw [hw] at h; exact absurd h dq23
  | some o =>
   rw [hw] at h
   cases o with
   | cells c e f =>
    simp only [Option.map_some, hs, Option.isSome_none, Bool.false_eq_true, if_false] at h ⊢
    by_cases hp : p.spot.isSome = true
    ·rw [if_pos hp]; exact h
    ·rw [if_neg hp, Array.getElem?_setIfInBounds]
     split
     ·rename_i e_
      have hl : p.off < c.size := by
       rw [e_]
       exact (Array.getElem?_eq_some_iff.1 h).1
      rw [if_pos hl]
     ·exact h
   | _ => simp at h
 ·rw [cell_far hb]; exact h
theorem rdOf_put {y z : List Int} {i v : Int} (h : z = y.set i.toNat v) (h0 : 0 ≤ i) (h1 : i < (y.length : Int)) : rdOf 0 z i = v := by
 subst h
 unfold rdOf
 have : i.toNat < y.length := by omega
 simp [this]
def impl_RegexOk.T3 : Bool × List (List Nat × List Nat) := (true, [([], []), ([0], [0]), ([1, 1], [1]), ([], []), ([3], [3]), ([4, 4], [4]), ([2, 0, 1, 2], [2]), ([5, 6, 0, 1, 2, 3, 4, 5, 6], [5])])
def impl_RegexOk.B3 : List Nat := [0, 1, 3, 0, 8, 24, 7, 127]
theorem impl_RegexOk.tab3 : rtab .any (opsOf Tryd.f42 3) = impl_RegexOk.T3 := by kernel_rfl
theorem impl_RegexOk.bits3 : waitsOk impl_RegexOk.T3.2 impl_RegexOk.B3 = true := by kernel_rfl
def impl_RegexOk.T14 : Bool × List (List Nat × List Nat) := (true, [([], []), ([0], [0]), ([1], [1]), ([2], [2]), ([3, 2], [2, 3]), ([2], [2]), ([5, 2], [2, 5]), ([4, 6, 2], [2, 4, 6]), ([2, 7], [2, 7]), ([8, 2], [8]), ([9], [9]), ([9], [9]), ([11, 9], [9, 11]), ([10, 12, 9], [9, 10, 12]), ([13, 9], [9, 13]), ([14, 9], [9, 14]), ([9, 15], [9, 15]), ([16, 9], [16]), ([17], [17]), ([18, 17], [17, 18]), ([17], [17]), ([17], [17]), ([21, 17], [17, 21]), ([20, 22, 17], [17, 20, 22]), ([23, 17], [17, 23]), ([24, 17], [17, 24]), ([19, 25, 17], [17, 19, 25]), ([17, 26], [17, 26])])
def impl_RegexOk.B14 : List Nat := [0, 1, 3, 7, 15, 7, 39, 127, 255, 511, 1023, 1023, 3071, 8191, 16383, 32767, 65535, 131071, 262143, 524287, 262143, 262143, 2359295, 7602175, 15990783, 32767999, 67108863, 134217727]
theorem impl_RegexOk.tab14 : rtab .any (opsOf Tryd.f42 14) = impl_RegexOk.T14 := by kernel_rfl
theorem impl_RegexOk.bits14 : waitsOk impl_RegexOk.T14.2 impl_RegexOk.B14 = true := by kernel_rfl
def impl_RegexOk.T16 : Bool × List (List Nat × List Nat) := (true, [([], []), ([], []), ([], []), ([], []), ([], []), ([], []), ([5], [5]), ([4, 6], [4, 6]), ([7], [7]), ([], []), ([], []), ([10], [10]), ([9, 11], [9, 11]), ([12], [12]), ([], []), ([], []), ([15], [15]), ([14, 16], [14, 16]), ([17], [17]), ([13, 18], [13, 18]), ([0, 1, 0, 1, 4, 5, 6, 7, 8, 13, 18], [0, 1]), ([20, 8, 0, 1, 4, 5, 6, 7, 8, 13, 18], [8, 20]), ([2, 3, 0, 1, 2, 3, 4, 5, 6, 7, 8, 9, 10, 11, 12, 13, 14, 15, 16, 17, 18, 19, 20, 21], [2, 3]), ([22, 19, 21, 0, 1, 2, 3, 4, 5, 6, 7, 8, 9, 10, 11, 12, 13, 14, 15, 16, 17, 18, 19, 20, 21], [19, 22])])
def impl_RegexOk.B16 : List Nat := [0, 0, 0, 0, 0, 0, 32, 112, 240, 0, 0, 1024, 3584, 7680, 0, 0, 32768, 114688, 245760, 523776, 524275, 1572851, 4194303, 8388607]
theorem impl_RegexOk.tab16 : rtab .any (opsOf Tryd.f42 16) = impl_RegexOk.T16 := by kernel_rfl
theorem impl_RegexOk.bits16 : waitsOk impl_RegexOk.T16.2 impl_RegexOk.B16 = true := by kernel_rfl
def impl_RegexOk.T20 : Bool × List (List Nat × List Nat) := (true, [([], []), ([], []), ([], []), ([], []), ([], []), ([], []), ([5], [5]), ([4, 6], [4, 6]), ([7], [7]), ([], []), ([], []), ([10], [10]), ([9, 11], [9, 11]), ([12], [12]), ([], []), ([14], [14]), ([15], [15]), ([], []), ([17], [17]), ([16, 18], [16, 18]), ([13, 19], [13, 19]), ([0, 1, 0, 1, 4, 5, 6, 7, 8, 13], [0, 1]), ([21, 8, 0, 1, 4, 5, 6, 7, 8, 13], [8, 21]), ([2, 3, 0, 1, 2, 3, 4, 5, 6, 7, 8, 9, 10, 11, 12, 13, 14, 15, 16, 17, 18, 19, 20, 21, 22], [2, 3]), ([23, 20, 22, 0, 1, 2, 3, 4, 5, 6, 7, 8, 9, 10, 11, 12, 13, 14, 15, 16, 17, 18, 19, 20, 21, 22], [20, 23])])
def impl_RegexOk.B20 : List Nat := [0, 0, 0, 0, 0, 0, 32, 112, 240, 0, 0, 1024, 3584, 7680, 0, 16384, 49152, 0, 131072, 507904, 1048064, 16371, 2113523, 8388607, 16777215]
theorem impl_RegexOk.tab20 : rtab .any (opsOf Tryd.f42 20) = impl_RegexOk.T20 := by kernel_rfl
theorem impl_RegexOk.bits20 : waitsOk impl_RegexOk.T20.2 impl_RegexOk.B20 = true := by kernel_rfl
set_option maxHeartbeats 8000000 in
set_option maxRecDepth 100000 in
theorem impl_RegexOk.calls (k : Nat) (A0 : Option Addr) (c0 : Nat) (l0 : List (S93)) (r : Bool) (w : World) (hr0 : Kd.C k93 w A0 l0.length l0) (hc0 : l0.length ≤ c0) (h : impl_RegexOk.f k l0 = some r) :
  Calls Tryd.prog 42 #[.slice A0 l0.length c0] w fun e w' => e = .returned (.bool r) ∧ Below w.heap.size w w' := by
 have hu93 := Tryd.underlying93
 have HR0 := Aside0.mk hr0
 have HC0 := Aside0.mk hc0
 clear hr0 hc0
 have HB := Aside0.mk (Below.refl w.heap.size w)
 have H : ((impl_in.f (l0.length : Int) 1 120).bind fun t269 => (if t269 = true then (if 0 ≤ (l0.length : Int) then (if ((l0.length : Int) : Int).toNat ≤ 35184372088832 then (impl_RegexOk.l0 k l0 (List.replicate ((l0.length : Int) : Int).toNat 0) (List.replicate ((l0.length : Int) : Int).toNat 0) l0 (l0.length : Int) 0) else (none)) else (none)) else (some false))) = some r := h
 clear h
 replace H := Option.bind_eq_some_iff.mp H
 obtain ⟨t269, A20, H⟩ := H
 replace H : (if t269 = true then (if 0 ≤ (l0.length : Int) then (if ((l0.length : Int) : Int).toNat ≤ 35184372088832 then (impl_RegexOk.l0 k l0 (List.replicate ((l0.length : Int) : Int).toNat 0) (List.replicate ((l0.length : Int) : Int).toNat 0) l0 (l0.length : Int) 0) else (none)) else (none)) else (some false)) = some r := H
 have A2 := Aside0.mk A20
 clear A20
 by_cases c3 : t269 = true
 ·subst c3
  have H1 : (if 0 ≤ (l0.length : Int) then (if ((l0.length : Int) : Int).toNat ≤ 35184372088832 then (impl_RegexOk.l0 k l0 (List.replicate ((l0.length : Int) : Int).toNat 0) (List.replicate ((l0.length : Int) : Int).toNat 0) l0 (l0.length : Int) 0) else (none)) else (none)) = some r := by rw [if_pos rfl] at H; exact H
  clear H
  have H := H1
  clear H1
  by_cases c4 : 0 ≤ (l0.length : Int)
  ·rw [if_pos c4] at H
   have c4b0 := eq_true c4
   have c4b1 := decide_eq_true c4
   clear c4
   by_cases c5 : ((l0.length : Int) : Int).toNat ≤ 35184372088832
   ·rw [if_pos c5] at H
    have c5b0 := eq_true c5
    have c5b1 := decide_eq_true c5
    clear c5
    obtain ⟨y270, hy270⟩ : ∃ y_ : List Int, y_ = (List.replicate ((l0.length : Int) : Int).toNat 0) := ⟨_, rfl⟩
    replace H : (impl_RegexOk.l0 k l0 y270 (List.replicate ((l0.length : Int) : Int).toNat 0) l0 (l0.length : Int) 0) = some r := by first | (rw [hy270]; with_reducible exact H) | (have H2_ := (Option.bind_some _ _).symm.trans H; rw [hy270]; with_reducible exact H2_) | (have H2_ := (Option.bind_some _ _).symm.trans H; with_reducible exact H2_) | with_reducible exact H | (rw [hy270]; exact H) | exact H
    have Ny270 := Aside0.mk hy270
    clear hy270
    obtain ⟨y273, hy273⟩ : ∃ y_ : List Int, y_ = (List.replicate ((l0.length : Int) : Int).toNat 0) := ⟨_, rfl⟩
    replace H : (impl_RegexOk.l0 k l0 y270 y273 l0 (l0.length : Int) 0) = some r := by first | (rw [hy273]; with_reducible exact H) | (have H2_ := (Option.bind_some _ _).symm.trans H; rw [hy273]; with_reducible exact H2_) | (have H2_ := (Option.bind_some _ _).symm.trans H; with_reducible exact H2_) | with_reducible exact H | (rw [hy273]; exact H) | exact H
    have Ny273 := Aside0.mk hy273
    clear hy273
    have H' := Aside0.mk H
    clear H
    go_enter Tryd.func42, Tryd.ntmps42
    try go_wp2_with (first | ((with_reducible refine gate_callee (f := 68) rfl ?_); refine goesL_ (some 11) rfl rfl Tryd.func68 dq16 rfl #[.int .i64 (l0.length : Int), .int .i64 1, .int .i64 120] rfl dq15 ?_; (with_reducible refine (impl_in.calls (l0.length : Int) 1 120 true _ A2.out).mono ?_); rintro e w' ⟨rfl, ⟨nd, rfl⟩⟩; refine ⟨_, rfl, ?_⟩))
    have n0_ : Aside0 (Below w.heap.size w (w.drewN nd).drew) := ⟨below_drew1 (pw_below_drewN HB.out _)⟩
    clear HB
    have HB := n0_
    clear n0_
    refine start_ (n := 8) (S := fun w' => True) (ds := []) #[false, false, false, false, false, false, false, false] dq16 rfl rfl trivial (fun hHeld => ?_); refine with_tabW impl_RegexOk.tab3 impl_RegexOk.bits3 (fun HT_ HW_ => ?_)
    generalize (w.drewN nd).drew = w6 at HB hHeld ⊢
    refine pureA (i := 0) (N := some 13) #[true, false, false, false, false, false, false, false] ?_
    refine pureA (i := 1) (N := some 14) #[true, true, false, false, false, false, false, false] ?_
    refine pureA (i := 3) (N := some 16) #[true, true, false, true, false, false, false, false] ?_
    refine pureA (i := 4) (N := some 17) #[true, true, false, true, true, false, false, false] ?_
    refine join_ (σ := Value × Value) 1 #[true, true, true, true, true, true, true, false] (fun s_ => [(15, s_.1), (18, s_.2), (3, s_.1)]) (fun s_ w' => (Kd.R (Kd.int .i64) 2 w' w.heap.size (fun k_ => some k_ ≠ (s_.2 : Value).ownBlock) s_.1 y270) ∧ (Kd.R (Kd.int .i64) 2 w' w.heap.size (fun k_ => some k_ ≠ (s_.1 : Value).ownBlock) s_.2 y273) ∧ (Below w.heap.size w w')) ?_ ?_
    rotate_left
    ·intro hCont
     refine two_ (i := 2) (j := 5) (Ni := some 15) (Nj := some 18) #[true, true, true, true, true, false, false, false] #[true, true, false, true, true, true, false, false] rfl rfl rfl rfl (two_of HT_.out dq16) dq28 dq28 (fun K hK => ?_) (fun K hK => ?_)
     ·skip
      refine Kd.R_make_step (Kd.int .i64) _ 2 dq29 (N := 15) rfl 56 _ _ rfl (l0.length : Int) rfl rfl Tryd.underlying56 (.int .i64 0) 8 info2 rfl dq28 dq24 0 (ok := fun _ => True) (okp := fun _ => True) rfl (fun _ hk => hk) trivial (of_decide_eq_true dq21) (Nat.le_trans (Nat.mul_le_mul_right _ (of_decide_eq_true dq21 : (l0.length : Int).toNat ≤ 35184372088832)) dq24) (Below.refl _ _) (Nat.le_refl _) ?_
      intro v271 w7 ho8 hb hg_ hnew_
      clear hg_ hnew_
      (first | rw [← Ny270.out] at ho8 | (simp only [Int.reduceToNat] at ho8; rw [← Ny270.out] at ho8))
      have n0_ := Aside0.mk (Kd.R_lower ho8 (below_size dq18))
      have n1_ := Aside0.mk (below_step dq18 hb)
      clear HB
      have HO272 := n0_
      have HB := n1_
      clear n0_ n1_
      clear hb ho8
      refine hK.out _ _ trivial (fun hHeld => ?_)
      clear hK K
      refine norm_ (a' := ?_) ?_ ?_
      rotate_left
      ·show Act.put _ (some 15) _ = _
       simp only [Act.put, List.setIfInBounds_toArray, List.set_cons_zero, List.set_cons_succ, i64_w, i32_w]
       rfl
      refine pureA (i := 6) (N := some 3) #[true, true, true, true, true, false, true, false] ?_
      refine one_ (i := 5) (N := some 18) #[true, true, true, true, true, true, true, false] rfl rfl (one_of HT_.out dq16) dq28 (fun K hK => ?_)
      refine Kd.R_make_step (Kd.int .i64) _ 2 dq29 (N := 18) rfl 56 _ _ rfl (l0.length : Int) rfl rfl Tryd.underlying56 (.int .i64 0) 8 info2 rfl dq28 dq24 0 (ok := fun _ => True) (okp := fun _ => True) rfl (fun _ hk => hk) trivial (of_decide_eq_true dq21) (Nat.le_trans (Nat.mul_le_mul_right _ (of_decide_eq_true dq21 : (l0.length : Int).toNat ≤ 35184372088832)) dq24) (Below.refl _ _) (Nat.le_refl _) ?_
      intro v274 w9 ho10 hb hg_ hnew_
      clear hg_ hnew_
      (first | rw [← Ny273.out] at ho10 | (simp only [Int.reduceToNat] at ho10; rw [← Ny273.out] at ho10))
      have n0_ := Aside0.mk (Kd.R_elder' dq78 (Kd.R_base ho10) hb)
      have n1_ := Aside0.mk (Kd.R_lower (Kd.R_new' ho10 (Kd.R_lt dq78)) (below_size dq18))
      have n2_ := Aside0.mk (below_step dq18 hb)
      clear HO272
      clear HB
      have HO272 := n0_
      have HO275 := n1_
      have HB := n2_
      clear n0_ n1_ n2_
      clear hb ho10
      refine hK.out _ _ trivial (fun hHeld => ?_)
      clear hK K
      refine norm_ (a' := ?_) ?_ ?_
      rotate_left
      ·show Act.put _ (some 18) _ = _
       simp only [Act.put, List.setIfInBounds_toArray, List.set_cons_zero, List.set_cons_succ, i64_w, i32_w]
       rfl
      exact norm_ (by simp only [putAll, Act.put, List.setIfInBounds_toArray, List.set_cons_zero, List.set_cons_succ]) (hCont (v271, v274) _ ⟨dq80, dq79, dq18⟩)
     ·skip
      refine Kd.R_make_step (Kd.int .i64) _ 2 dq29 (N := 18) rfl 56 _ _ rfl (l0.length : Int) rfl rfl Tryd.underlying56 (.int .i64 0) 8 info2 rfl dq28 dq24 0 (ok := fun _ => True) (okp := fun _ => True) rfl (fun _ hk => hk) trivial (of_decide_eq_true dq21) (Nat.le_trans (Nat.mul_le_mul_right _ (of_decide_eq_true dq21 : (l0.length : Int).toNat ≤ 35184372088832)) dq24) (Below.refl _ _) (Nat.le_refl _) ?_
      intro v274 w7 ho8 hb hg_ hnew_
      clear hg_ hnew_
      (first | rw [← Ny273.out] at ho8 | (simp only [Int.reduceToNat] at ho8; rw [← Ny273.out] at ho8))
      have n0_ := Aside0.mk (Kd.R_lower ho8 (below_size dq18))
      have n1_ := Aside0.mk (below_step dq18 hb)
      clear HB
      have HO275 := n0_
      have HB := n1_
      clear n0_ n1_
      clear hb ho8
      refine hK.out _ _ trivial (fun hHeld => ?_)
      clear hK K
      refine norm_ (a' := ?_) ?_ ?_
      rotate_left
      ·show Act.put _ (some 18) _ = _
       simp only [Act.put, List.setIfInBounds_toArray, List.set_cons_zero, List.set_cons_succ, i64_w, i32_w]
       rfl
      refine one_ (i := 2) (N := some 15) #[true, true, true, true, true, true, false, false] rfl rfl (one_of HT_.out dq16) dq28 (fun K hK => ?_)
      refine Kd.R_make_step (Kd.int .i64) _ 2 dq29 (N := 15) rfl 56 _ _ rfl (l0.length : Int) rfl rfl Tryd.underlying56 (.int .i64 0) 8 info2 rfl dq28 dq24 0 (ok := fun _ => True) (okp := fun _ => True) rfl (fun _ hk => hk) trivial (of_decide_eq_true dq21) (Nat.le_trans (Nat.mul_le_mul_right _ (of_decide_eq_true dq21 : (l0.length : Int).toNat ≤ 35184372088832)) dq24) (Below.refl _ _) (Nat.le_refl _) ?_
      intro v271 w9 ho10 hb hg_ hnew_
      clear hg_ hnew_
      (first | rw [← Ny270.out] at ho10 | (simp only [Int.reduceToNat] at ho10; rw [← Ny270.out] at ho10))
      have n0_ := Aside0.mk (Kd.R_elder' dq81 (Kd.R_base ho10) hb)
      have n1_ := Aside0.mk (Kd.R_lower (Kd.R_new' ho10 (Kd.R_lt dq81)) (below_size dq18))
      have n2_ := Aside0.mk (below_step dq18 hb)
      clear HO275
      clear HB
      have HO275 := n0_
      have HO272 := n1_
      have HB := n2_
      clear n0_ n1_ n2_
      clear hb ho10
      refine hK.out _ _ trivial (fun hHeld => ?_)
      clear hK K
      refine norm_ (a' := ?_) ?_ ?_
      rotate_left
      ·show Act.put _ (some 15) _ = _
       simp only [Act.put, List.setIfInBounds_toArray, List.set_cons_zero, List.set_cons_succ, i64_w, i32_w]
       rfl
      refine pureA (i := 6) (N := some 3) #[true, true, true, true, true, true, true, false] ?_
      exact norm_ (by simp only [putAll, Act.put, List.setIfInBounds_toArray, List.set_cons_zero, List.set_cons_succ]) (hCont (v271, v274) _ ⟨dq80, dq79, dq18⟩)
    rintro ⟨v271, v274⟩ w11 ⟨h0_, h1_, h2_⟩
    have n0_ : Aside0 (Kd.R (Kd.int .i64) 2 w11 w.heap.size (fun k_ => some k_ ≠ (v274 : Value).ownBlock) v271 y270) := ⟨h0_⟩
    have n1_ : Aside0 (Kd.R (Kd.int .i64) 2 w11 w.heap.size (fun k_ => some k_ ≠ (v271 : Value).ownBlock) v274 y273) := ⟨h1_⟩
    have n2_ : Aside0 (Below w.heap.size w w11) := ⟨h2_⟩
    clear HB
    clear h0_ h1_ h2_
    have HO272 := n0_
    have HO275 := n1_
    have HB := n2_
    clear n0_ n1_ n2_
    have hHeld := trivial
    refine norm_ (a' := ?_) ?_ ?_
    rotate_left
    ·simp only [putAll, Act.put, List.setIfInBounds_toArray, List.set_cons_zero, List.set_cons_succ]
     rfl
    refine pureA (i := 7) (N := some 4) #[true, true, true, true, true, true, true, true] ?_
    refine done_ (done_of HT_.out dq16) ?_
    try go_wp2
    go_loopg [21] k (fun kq v21 w' => ∃ (x3_1 : List Int) (x4_1 : List Int) (x21_1 : Int), v21 = .int .i64 x21_1 ∧ Aside0 (impl_RegexOk.l0 kq l0 x3_1 x4_1 l0 (l0.length : Int) x21_1 = some r) ∧ Aside0 (kq ≤ k) ∧ Aside0 (Kd.R (Kd.int .i64) 2 w' w.heap.size (fun k_ => some k_ ≠ (v274 : Value).ownBlock) v271 x3_1) ∧ Aside0 (Kd.R (Kd.int .i64) 2 w' w.heap.size (fun k_ => some k_ ≠ (v271 : Value).ownBlock) v274 x4_1) ∧ Aside0 (Below w.heap.size w w'))
    case atStart => exact ⟨(y270), (y273), (0), dq14, H', ⟨Nat.le_refl _⟩, ⟨dq78⟩, ⟨dq81⟩, ⟨dq18⟩⟩
    case round =>
     clear H'
     try clear p2
     try clear c3
     try clear c4
     try clear c4b0
     try clear c4b1
     try clear c5
     try clear c5b0
     try clear c5b1
     try clear c6
     obtain ⟨x3_1, x4_1, x21_1, rfl, HA, HK1, HO_3, HO_4, HB⟩ := hrel
     cases gk with
     | zero => exact absurd HA.out (by simp [impl_RegexOk.l0])
     | succ k1 =>
      have H := HA.out
      clear HA
      simp only [impl_RegexOk.l0] at H
      by_cases c12 : x21_1 < (l0.length : Int)
      ·rw [if_pos c12] at H
       have c12b0 := decide_eq_true c12
       clear c12
       by_cases c13 : 0 ≤ x21_1
       ·rw [if_pos c13] at H
        have c13b0 := decide_eq_true c13
        clear c13
        by_cases c14 : x21_1 < (l0.length : Int)
        ·rw [if_pos c14] at H
         have c14b0 := decide_eq_true c14
         clear c14
         by_cases c15 : x21_1 < (x3_1.length : Int)
         ·rw [if_pos c15] at H
          have c15b0 := decide_eq_true c15
          clear c15
          obtain ⟨y280, hy280⟩ : ∃ y_ : List Int, y_ = (x3_1.set (x21_1 : Int).toNat x21_1) := ⟨_, rfl⟩
          replace H : (if x21_1 < (x4_1.length : Int) then ((some (x4_1.set (x21_1 : Int).toNat 1 : List Int)).bind fun y281 => ((impl_RNode_fits.f k1 ((rd_T93 l0 x21_1).f0) ((rd_T93 l0 x21_1).f1) ((rd_T93 l0 x21_1).f2) ((rd_T93 l0 x21_1).f3) ((rd_T93 l0 x21_1).f4) ((rd_T93 l0 x21_1).f5) ((rd_T93 l0 x21_1).f6)).bind fun t282 => (if t282 = true then (if ((rd_T93 l0 x21_1).f0) = 3 then (impl_RegexOk.j1 k1 l0 y280 y281 x21_1 x21_1 l0 (l0.length : Int) x21_1 ((rd_T93 l0 x21_1).f0) (((rd_T93 l0 x21_1).f0) == 3) ((rd_T93 l0 x21_1).f0) ((rd_T93 l0 x21_1).f1) ((rd_T93 l0 x21_1).f2) ((rd_T93 l0 x21_1).f3) ((rd_T93 l0 x21_1).f4) ((rd_T93 l0 x21_1).f5) ((rd_T93 l0 x21_1).f6)) else (impl_RegexOk.j1 k1 l0 y280 y281 x21_1 x21_1 l0 (l0.length : Int) x21_1 ((rd_T93 l0 x21_1).f0) (((rd_T93 l0 x21_1).f0) == 4) ((rd_T93 l0 x21_1).f0) ((rd_T93 l0 x21_1).f1) ((rd_T93 l0 x21_1).f2) ((rd_T93 l0 x21_1).f3) ((rd_T93 l0 x21_1).f4) ((rd_T93 l0 x21_1).f5) ((rd_T93 l0 x21_1).f6))) else (some false)))) else (none)) = some r := by first | (rw [hy280]; with_reducible exact H) | (have H2_ := (Option.bind_some _ _).symm.trans H; rw [hy280]; with_reducible exact H2_) | (have H2_ := (Option.bind_some _ _).symm.trans H; with_reducible exact H2_) | with_reducible exact H | (rw [hy280]; exact H) | exact H
          have Ny280 := Aside0.mk hy280
          clear hy280
          by_cases c17 : x21_1 < (x4_1.length : Int)
          ·rw [if_pos c17] at H
           have c17b0 := decide_eq_true c17
           clear c17
           obtain ⟨y281, hy281⟩ : ∃ y_ : List Int, y_ = (x4_1.set (x21_1 : Int).toNat 1) := ⟨_, rfl⟩
           replace H : ((impl_RNode_fits.f k1 ((rd_T93 l0 x21_1).f0) ((rd_T93 l0 x21_1).f1) ((rd_T93 l0 x21_1).f2) ((rd_T93 l0 x21_1).f3) ((rd_T93 l0 x21_1).f4) ((rd_T93 l0 x21_1).f5) ((rd_T93 l0 x21_1).f6)).bind fun t282 => (if t282 = true then (if ((rd_T93 l0 x21_1).f0) = 3 then (impl_RegexOk.j1 k1 l0 y280 y281 x21_1 x21_1 l0 (l0.length : Int) x21_1 ((rd_T93 l0 x21_1).f0) (((rd_T93 l0 x21_1).f0) == 3) ((rd_T93 l0 x21_1).f0) ((rd_T93 l0 x21_1).f1) ((rd_T93 l0 x21_1).f2) ((rd_T93 l0 x21_1).f3) ((rd_T93 l0 x21_1).f4) ((rd_T93 l0 x21_1).f5) ((rd_T93 l0 x21_1).f6)) else (impl_RegexOk.j1 k1 l0 y280 y281 x21_1 x21_1 l0 (l0.length : Int) x21_1 ((rd_T93 l0 x21_1).f0) (((rd_T93 l0 x21_1).f0) == 4) ((rd_T93 l0 x21_1).f0) ((rd_T93 l0 x21_1).f1) ((rd_T93 l0 x21_1).f2) ((rd_T93 l0 x21_1).f3) ((rd_T93 l0 x21_1).f4) ((rd_T93 l0 x21_1).f5) ((rd_T93 l0 x21_1).f6))) else (some false))) = some r := by first | (rw [hy281]; with_reducible exact H) | (have H2_ := (Option.bind_some _ _).symm.trans H; rw [hy281]; with_reducible exact H2_) | (have H2_ := (Option.bind_some _ _).symm.trans H; with_reducible exact H2_) | with_reducible exact H | (rw [hy281]; exact H) | exact H
           have Ny281 := Aside0.mk hy281
           clear hy281
           replace H := Option.bind_eq_some_iff.mp H
           obtain ⟨t282, A190, H⟩ := H
           replace H : (if t282 = true then (if ((rd_T93 l0 x21_1).f0) = 3 then (impl_RegexOk.j1 k1 l0 y280 y281 x21_1 x21_1 l0 (l0.length : Int) x21_1 ((rd_T93 l0 x21_1).f0) (((rd_T93 l0 x21_1).f0) == 3) ((rd_T93 l0 x21_1).f0) ((rd_T93 l0 x21_1).f1) ((rd_T93 l0 x21_1).f2) ((rd_T93 l0 x21_1).f3) ((rd_T93 l0 x21_1).f4) ((rd_T93 l0 x21_1).f5) ((rd_T93 l0 x21_1).f6)) else (impl_RegexOk.j1 k1 l0 y280 y281 x21_1 x21_1 l0 (l0.length : Int) x21_1 ((rd_T93 l0 x21_1).f0) (((rd_T93 l0 x21_1).f0) == 4) ((rd_T93 l0 x21_1).f0) ((rd_T93 l0 x21_1).f1) ((rd_T93 l0 x21_1).f2) ((rd_T93 l0 x21_1).f3) ((rd_T93 l0 x21_1).f4) ((rd_T93 l0 x21_1).f5) ((rd_T93 l0 x21_1).f6))) else (some false)) = some r := H
           have A19 := Aside0.mk A190
           clear A190
           by_cases c20 : t282 = true
           ·subst c20
            have H1 : (if ((rd_T93 l0 x21_1).f0) = 3 then (impl_RegexOk.j1 k1 l0 y280 y281 x21_1 x21_1 l0 (l0.length : Int) x21_1 ((rd_T93 l0 x21_1).f0) (((rd_T93 l0 x21_1).f0) == 3) ((rd_T93 l0 x21_1).f0) ((rd_T93 l0 x21_1).f1) ((rd_T93 l0 x21_1).f2) ((rd_T93 l0 x21_1).f3) ((rd_T93 l0 x21_1).f4) ((rd_T93 l0 x21_1).f5) ((rd_T93 l0 x21_1).f6)) else (impl_RegexOk.j1 k1 l0 y280 y281 x21_1 x21_1 l0 (l0.length : Int) x21_1 ((rd_T93 l0 x21_1).f0) (((rd_T93 l0 x21_1).f0) == 4) ((rd_T93 l0 x21_1).f0) ((rd_T93 l0 x21_1).f1) ((rd_T93 l0 x21_1).f2) ((rd_T93 l0 x21_1).f3) ((rd_T93 l0 x21_1).f4) ((rd_T93 l0 x21_1).f5) ((rd_T93 l0 x21_1).f6))) = some r := by rw [if_pos rfl] at H; exact H
            clear H
            have H := H1
            clear H1
            have HC21 := Aside0.mk H
            clear H
            have p278 : 0 ≤ (x21_1 : Int) := of_decide_eq_true dq21
            have q278 : x21_1 < (l0.length : Int) := of_decide_eq_true dq21
            obtain ⟨ad278, A278_2, c278_2, e278, hx278_0, hx278_1, hx278_2, hx278_3, hx278_4, hx278_5, hx278_6, hl278_2, hi278_2⟩ := at_T93 HR0.out x21_1 p278 q278
            cases e278
            replace hx278_0 := (HB.out.cell (World.block_lt_of_cell? w _ hx278_0)).trans hx278_0
            replace hx278_1 := (HB.out.cell (World.block_lt_of_cell? w _ hx278_1)).trans hx278_1
            replace hx278_2 := (HB.out.cell (World.block_lt_of_cell? w _ hx278_2)).trans hx278_2
            replace hx278_3 := (HB.out.cell (World.block_lt_of_cell? w _ hx278_3)).trans hx278_3
            replace hx278_4 := (HB.out.cell (World.block_lt_of_cell? w _ hx278_4)).trans hx278_4
            replace hx278_5 := (HB.out.cell (World.block_lt_of_cell? w _ hx278_5)).trans hx278_5
            replace hx278_6 := (HB.out.cell (World.block_lt_of_cell? w _ hx278_6)).trans hx278_6
            have HR278_2 := Aside0.mk hi278_2
            have HC278_2 := Aside0.mk hl278_2
            clear hi278_2 hl278_2
            replace p278 := eq_true p278
            replace q278 := eq_true q278
            go_upto_if 39 with (first | ((with_reducible refine gate_dst (N := 6) rfl ?_); refine box_event ?hg (N := 6) ?hd (cs := #[.int .i64 0, .bool false, .slice none 0 0, .int .i64 0, .int .i64 0, .int .i64 0, .int .i64 0]) (t := 93) ?hr ?_; (case hd => rfl); (case hg => rfl); (case hr => exact dq0); intro gb279 hg w22 hbox hb; have n0_ := Aside0.mk (Kd.R_below dq61 hb); have n1_ := Aside0.mk (Kd.R_below dq27 hb); have n2_ := Aside0.mk (below_step dq18 hb); have n3_ := Aside0.mk (hbox); have n4_ := Aside0.mk ((dq17 : w.heap.size ≤ gb279)); have n5_ := Aside0.mk ((dq17 : w.heap.size ≤ gb279)); clear HO_3; clear HO_4; clear HB; have HO_3 := n0_; have HO_4 := n1_; have HB := n2_; have BK279 := n3_; have GW279 := n4_; have GE279 := n5_; clear n0_ n1_ n2_ n3_ n4_ n5_; clear hb hbox hg; obtain ⟨⟨hcz23_0, hcz23_1, hcz23_2, hcz23_3, hcz23_4, hcz23_5, hcz23_6⟩, hfz23_0, hfz23_1, hfz23_2, hfz23_3, hfz23_4, hfz23_5, hfz23_6⟩ := blkC7 BK279.out) | ((with_reducible refine gate_store (t := 93) (p := 6) rfl ?_); refine store_event (t := 93) (p := 6) (v := ?vo_w24) (w1 := (((((((w22.setCell ⟨gb279, 0, none⟩ (.int .i64 ((rd_T93 l0 x21_1).f0))).setCell ⟨gb279, 1, none⟩ (.bool ((rd_T93 l0 x21_1).f1))).setCell ⟨gb279, 2, none⟩ (.slice A278_2 ((rd_T93 l0 x21_1).f2).length c278_2)).setCell ⟨gb279, 3, none⟩ (.int .i64 ((rd_T93 l0 x21_1).f3))).setCell ⟨gb279, 4, none⟩ (.int .i64 ((rd_T93 l0 x21_1).f4))).setCell ⟨gb279, 5, none⟩ (.int .i64 ((rd_T93 l0 x21_1).f5))).setCell ⟨gb279, 6, none⟩ (.int .i64 ((rd_T93 l0 x21_1).f6)))) ?hg ?ho ?hn ?hr ?_; (case ho => rfl); (case hg => rfl); (case hn => rfl); (case hr => exact dq0); intro w24 hw; have n0_ : Aside0 (Kd.R (Kd.int .i64) 2 w24 w.heap.size (fun k_ => some k_ ≠ (v274 : Value).ownBlock) v271 x3_1) := ⟨dq90⟩; have n1_ : Aside0 (Kd.R (Kd.int .i64) 2 w24 w.heap.size (fun k_ => some k_ ≠ (v271 : Value).ownBlock) v274 x4_1) := ⟨dq89⟩; have n2_ : Aside0 (w24.heap[gb279]? = some (.cells #[.int .i64 ((rd_T93 l0 x21_1).f0), .bool ((rd_T93 l0 x21_1).f1), .slice A278_2 ((rd_T93 l0 x21_1).f2).length c278_2, .int .i64 ((rd_T93 l0 x21_1).f3), .int .i64 ((rd_T93 l0 x21_1).f4), .int .i64 ((rd_T93 l0 x21_1).f5), .int .i64 ((rd_T93 l0 x21_1).f6)] 93 (0, 0))) := ⟨dq88⟩; have n3_ : Aside0 (Below w.heap.size w w24) := ⟨dq87⟩; clear hw; clear HO_3; clear HO_4; clear BK279; clear HB; have HO_3 := n0_; have HO_4 := n1_; have BK279 := n2_; have HB := n3_; clear n0_ n1_ n2_ n3_; have p16 : 0 ≤ (x21_1 : Int) := of_decide_eq_true dq21; have q16 : (x21_1 : Int) < ((x3_1.length : Int) : Int) := of_decide_eq_true dq21; obtain ⟨go16, co16, eo16, gb16, gl16, cl16, HG16⟩ := Kd.R_form HO_3.out dq24; (first | cases eo16 | (injection eo16 with ea_ en_ ec_; (first | subst ea_ | (injection ea_ with ea_; subst ea_)); subst ec_; clear en_)); have GB16 := Aside0.mk gb16; have GG16 := Aside0.mk HG16; clear gb16 gl16 HG16; obtain ⟨hx16_0, hf16_0⟩ := Kd.R_celln 0 HO_3.out (x21_1 : Int) p16 q16; replace p16 := eq_true p16; replace q16 := eq_true q16; obtain ⟨hy25_, hz25_⟩ := Kd.R_celln 0 HO_3.out (x21_1 : Int) (of_decide_eq_true dq21) (of_decide_eq_true dq21); have HP25 := Kd.R_putg HO_3.out (x21_1 : Int) x21_1) | ((with_reducible refine gate_store (t := 2) (p := 32) rfl ?_); refine store_event (t := 2) (p := 32) (v := ?vo_w26) (w1 := (w24.setCell ⟨go16, (x21_1 : Int).toNat, none⟩ (.int .i64 x21_1))) ?hg ?ho ?hn ?hr ?_; (case ho => rfl); (case hg => rfl); (case hn => rfl); (case hr => exact dq0); intro w26 hw; have hg : w24.grownBy w26 (some go16) := (by rw [hw]; exact HP25.2); have hp_ : Kd.R (Kd.int .i64) 2 w26 w.heap.size (fun k_ => some k_ ≠ (v274 : Value).ownBlock) (.slice (some ⟨go16, 0, none⟩) x3_1.length co16) y280 := (by rw [hw, Ny280.out]; exact HP25.1); clear HP25; have n0_ := Aside0.mk (hp_); have n1_ := Aside0.mk (Kd.R_after (v := (.slice (some ⟨go16, 0, none⟩) x3_1.length co16)) (v1 := (.slice (some ⟨go16, 0, none⟩) x3_1.length co16)) (ok := (fun _ => True)) dq86 hg (.inl rfl)); have n2_ := Aside0.mk (blk_grown (g := gb279) (o := .cells #[.int .i64 ((rd_T93 l0 x21_1).f0), .bool ((rd_T93 l0 x21_1).f1), .slice A278_2 ((rd_T93 l0 x21_1).f2).length c278_2, .int .i64 ((rd_T93 l0 x21_1).f3), .int .i64 ((rd_T93 l0 x21_1).f4), .int .i64 ((rd_T93 l0 x21_1).f5), .int .i64 ((rd_T93 l0 x21_1).f6)] 93 (0, 0)) dq83 hg (Kd.R_ne HO_3.out BK279.out dq28)); have n3_ := Aside0.mk ((by rw [hw]; exact below_set (HB.out) GB16.out : Below w.heap.size w w26)); clear HO_3; clear HO_4; clear BK279; clear HB; have HO_3 := n0_; have HO_4 := n1_; have BK279 := n2_; have HB := n3_; clear n0_ n1_ n2_ n3_; clear hg hw hp_; have p18 : 0 ≤ (x21_1 : Int) := of_decide_eq_true dq21; have q18 : (x21_1 : Int) < ((x4_1.length : Int) : Int) := of_decide_eq_true dq21; obtain ⟨go18, co18, eo18, gb18, gl18, cl18, HG18⟩ := Kd.R_form HO_4.out dq24; (first | cases eo18 | (injection eo18 with ea_ en_ ec_; (first | subst ea_ | (injection ea_ with ea_; subst ea_)); subst ec_; clear en_)); have GB18 := Aside0.mk gb18; have GG18 := Aside0.mk HG18; clear gb18 gl18 HG18; obtain ⟨hx18_0, hf18_0⟩ := Kd.R_celln 0 HO_4.out (x21_1 : Int) p18 q18; replace p18 := eq_true p18; replace q18 := eq_true q18; have n_ := Aside0.mk (Kd.R_mono (ok' := (fun k_ => some k_ ≠ (.slice (some ⟨go16, 0, none⟩) x3_1.length co16 : Value).ownBlock)) HO_4.out (fun k_ hk => hk.2)); clear HO_4; have HO_4 := n_; clear n_; obtain ⟨hy27_, hz27_⟩ := Kd.R_celln 0 HO_4.out (x21_1 : Int) (of_decide_eq_true dq21) (of_decide_eq_true dq21); have HP27 := Kd.R_putg HO_4.out (x21_1 : Int) 1) | ((with_reducible refine gate_store (t := 2) (p := 33) rfl ?_); refine store_event (t := 2) (p := 33) (v := ?vo_w28) (w1 := (w26.setCell ⟨go18, (x21_1 : Int).toNat, none⟩ (.int .i64 1))) ?hg ?ho ?hn ?hr ?_; (case ho => rfl); (case hg => rfl); (case hn => rfl); (case hr => exact dq0); intro w28 hw; have hg : w26.grownBy w28 (some go18) := (by rw [hw]; exact HP27.2); have hp_ : Kd.R (Kd.int .i64) 2 w28 w.heap.size (fun k_ => some k_ ≠ (.slice (some ⟨go16, 0, none⟩) x3_1.length co16 : Value).ownBlock) (.slice (some ⟨go18, 0, none⟩) x4_1.length co18) y281 := (by rw [hw, Ny281.out]; exact HP27.1); clear HP27; have n0_ := Aside0.mk (Kd.R_after (v := (.slice (some ⟨go18, 0, none⟩) x4_1.length co18)) (v1 := (.slice (some ⟨go18, 0, none⟩) x4_1.length co18)) (ok := (fun _ => True)) dq85 hg (.inl rfl)); have n1_ := Aside0.mk (hp_); have n2_ := Aside0.mk (blk_grown (g := gb279) (o := .cells #[.int .i64 ((rd_T93 l0 x21_1).f0), .bool ((rd_T93 l0 x21_1).f1), .slice A278_2 ((rd_T93 l0 x21_1).f2).length c278_2, .int .i64 ((rd_T93 l0 x21_1).f3), .int .i64 ((rd_T93 l0 x21_1).f4), .int .i64 ((rd_T93 l0 x21_1).f5), .int .i64 ((rd_T93 l0 x21_1).f6)] 93 (0, 0)) dq83 hg (Kd.R_ne HO_4.out BK279.out dq28)); have n3_ := Aside0.mk ((dq84 : Below w.heap.size w w28)); clear HO_3; clear HO_4; clear BK279; clear HB; have HO_3 := n0_; have HO_4 := n1_; have BK279 := n2_; have HB := n3_; clear n0_ n1_ n2_ n3_; clear hg hw hp_; obtain ⟨⟨hcz29_0, hcz29_1, hcz29_2, hcz29_3, hcz29_4, hcz29_5, hcz29_6⟩, hfz29_0, hfz29_1, hfz29_2, hfz29_3, hfz29_4, hfz29_5, hfz29_6⟩ := blkC7 BK279.out) | ((with_reducible refine gate_callee (f := 82) rfl ?_); refine goesL_ (some 35) rfl rfl Tryd.func82 dq16 rfl #[.agg #[.int .i64 ((rd_T93 l0 x21_1).f0), .bool ((rd_T93 l0 x21_1).f1), .slice A278_2 ((rd_T93 l0 x21_1).f2).length c278_2, .int .i64 ((rd_T93 l0 x21_1).f3), .int .i64 ((rd_T93 l0 x21_1).f4), .int .i64 ((rd_T93 l0 x21_1).f5), .int .i64 ((rd_T93 l0 x21_1).f6)]] rfl dq15 ?_; (with_reducible refine (impl_RNode_fits.calls k1 ((rd_T93 l0 x21_1).f0) ((rd_T93 l0 x21_1).f1) _ _ ((rd_T93 l0 x21_1).f2) ((rd_T93 l0 x21_1).f3) ((rd_T93 l0 x21_1).f4) ((rd_T93 l0 x21_1).f5) ((rd_T93 l0 x21_1).f6) true _ ?side1 ?side2 A19.out).mono ?_); (case side1 => repeat (first | exact (Kd.C_below HR278_2.out HB.out) | (with_reducible refine Kd.C_alloc ?_ _) | (with_reducible refine Kd.C_drewN ?_ _) | (with_reducible refine Kd.C_drew ?_))); (case side2 => exact HC278_2.out); rintro e w30 ⟨rfl, hb⟩; refine ⟨_, rfl, ?_⟩; have n0_ := Aside0.mk (Kd.R_below dq61 hb); have n1_ := Aside0.mk (Kd.R_below dq27 hb); have n2_ := Aside0.mk (blk_below (g := gb279) (o := .cells #[.int .i64 ((rd_T93 l0 x21_1).f0), .bool ((rd_T93 l0 x21_1).f1), .slice A278_2 ((rd_T93 l0 x21_1).f2).length c278_2, .int .i64 ((rd_T93 l0 x21_1).f3), .int .i64 ((rd_T93 l0 x21_1).f4), .int .i64 ((rd_T93 l0 x21_1).f5), .int .i64 ((rd_T93 l0 x21_1).f6)] 93 (0, 0)) dq83 hb); have n3_ := Aside0.mk (below_step dq82 hb); clear HO_3; clear HO_4; clear BK279; clear HB; have HO_3 := n0_; have HO_4 := n1_; have BK279 := n2_; have HB := n3_; clear n0_ n1_ n2_ n3_; (try clear hb); (try clear hb2); (try clear hk); (try clear hi); obtain ⟨⟨hcz31_0, hcz31_1, hcz31_2, hcz31_3, hcz31_4, hcz31_5, hcz31_6⟩, hfz31_0, hfz31_1, hfz31_2, hfz31_3, hfz31_4, hfz31_5, hfz31_6⟩ := blkC7 BK279.out))
            (try simp only [Act.put, List.setIfInBounds_toArray, List.set_cons_zero, List.set_cons_succ])
            go_cut [39] (fun v39 wc => ∃ (kq : Nat) (x39_20 : Bool), v39 = .bool x39_20 ∧ Aside0 (impl_RegexOk.j1 kq l0 y280 y281 x21_1 x21_1 l0 (l0.length : Int) x21_1 ((rd_T93 l0 x21_1).f0) x39_20 ((rd_T93 l0 x21_1).f0) ((rd_T93 l0 x21_1).f1) ((rd_T93 l0 x21_1).f2) ((rd_T93 l0 x21_1).f3) ((rd_T93 l0 x21_1).f4) ((rd_T93 l0 x21_1).f5) ((rd_T93 l0 x21_1).f6) = some r) ∧ Aside0 (kq ≤ k1) ∧ Aside0 (Kd.R (Kd.int .i64) 2 wc w.heap.size (fun k_ => some k_ ≠ ((.slice (some ⟨go18, 0, none⟩) x4_1.length co18) : Value).ownBlock) (.slice (some ⟨go16, 0, none⟩) x3_1.length co16) y280) ∧ Aside0 (Kd.R (Kd.int .i64) 2 wc w.heap.size (fun k_ => some k_ ≠ ((.slice (some ⟨go16, 0, none⟩) x3_1.length co16) : Value).ownBlock) (.slice (some ⟨go18, 0, none⟩) x4_1.length co18) y281) ∧ Aside0 (wc.heap[gb279]? = some (.cells #[.int .i64 ((rd_T93 l0 x21_1).f0), .bool ((rd_T93 l0 x21_1).f1), (.slice A278_2 ((rd_T93 l0 x21_1).f2).length c278_2), .int .i64 ((rd_T93 l0 x21_1).f3), .int .i64 ((rd_T93 l0 x21_1).f4), .int .i64 ((rd_T93 l0 x21_1).f5), .int .i64 ((rd_T93 l0 x21_1).f6)] 93 (0, 0))) ∧ Aside0 (Below w.heap.size w wc))
            case first =>
             have H := HC21.out
             clear HC21
             by_cases c32 : ((rd_T93 l0 x21_1).f0) = 3
             ·rw [if_pos c32] at H
              have c32b0 := beq_iff_eq.mpr c32
              have c32b1 := bne_eq_false_iff_eq.mpr c32
              clear c32
              (first | rw [c32b0] | (simp only [i64_w, i32_w]; rw [c32b0]) | skip)
              have H' := Aside0.mk H
              clear H
              go_wp2
              go_meet
              case rel => exact ⟨_, ((((rd_T93 l0 x21_1).f0) == 3)), dq14, H', ⟨by have := HK1.out; first | omega | exact Nat.le_refl _⟩, ⟨dq91⟩, ⟨dq27⟩, ⟨dq83⟩, ⟨dq82⟩⟩
             ·rw [if_neg c32] at H
              have c32b0 := beq_eq_false_iff_ne.mpr c32
              have c32b1 := bne_iff_ne.mpr c32
              (first | rw [c32b0] | (simp only [i64_w, i32_w]; rw [c32b0]) | skip)
              have H' := Aside0.mk H
              clear H
              go_wp2
              go_meet
              case rel => exact ⟨_, ((((rd_T93 l0 x21_1).f0) == 4)), dq14, H', ⟨by have := HK1.out; first | omega | exact Nat.le_refl _⟩, ⟨dq91⟩, ⟨dq27⟩, ⟨dq83⟩, ⟨dq82⟩⟩
            case rest =>
             clear HC21
             try clear c1
             try clear p1
             try clear q1
             try clear hx1
             try clear hf1
             try clear c2
             try clear p2
             try clear q2
             try clear hx2
             try clear c3
             try clear c4
             try clear c4b0
             try clear c4b1
             try clear c5
             try clear c5b0
             try clear c5b1
             try clear c6
             try clear c8
             try clear c12
             try clear c12b0
             try clear c13
             try clear c13b0
             try clear c14
             try clear c14b0
             try clear c15
             try clear c15b0
             try clear p16
             try clear q16
             try clear hx16
             try clear hf16
             try clear c17
             try clear c17b0
             try clear p18
             try clear q18
             try clear hx18
             try clear hf18
             try clear c20
             try clear c27
             try clear p27
             try clear q27
             try clear hx27
             try clear c32
             try clear c32b0
             try clear c32b1
             try clear hcz23_0
             try clear hcz23_1
             try clear hcz23_2
             try clear hcz23_3
             try clear hcz23_4
             try clear hcz23_5
             try clear hcz23_6
             try clear hcz29_0
             try clear hcz29_1
             try clear hcz29_2
             try clear hcz29_3
             try clear hcz29_4
             try clear hcz29_5
             try clear hcz29_6
             try clear hcz31_0
             try clear hcz31_1
             try clear hcz31_2
             try clear hcz31_3
             try clear hcz31_4
             try clear hcz31_5
             try clear hcz31_6
             try clear hfz23_0
             try clear hfz23_1
             try clear hfz23_2
             try clear hfz23_3
             try clear hfz23_4
             try clear hfz23_5
             try clear hfz23_6
             try clear hfz29_0
             try clear hfz29_1
             try clear hfz29_2
             try clear hfz29_3
             try clear hfz29_4
             try clear hfz29_5
             try clear hfz29_6
             try clear hfz31_0
             try clear hfz31_1
             try clear hfz31_2
             try clear hfz31_3
             try clear hfz31_4
             try clear hfz31_5
             try clear hfz31_6
             try clear hx16_0
             try clear hx18_0
             try clear hx278_0
             try clear hx278_1
             try clear hx278_2
             try clear hx278_3
             try clear hx278_4
             try clear hx278_5
             try clear hx278_6
             try clear p16
             try clear p18
             try clear p2
             try clear p278
             try clear q16
             try clear q18
             try clear q278
             obtain ⟨kq, x39_20, rfl, HA, HJ20, HO_3, HO_4, BK279, HB⟩ := hcut
             have hl3_20 := (Kd.R_reads' HO_3.out).1
             rw [hl3_20] at HO_3
             (try simp only [hl3_20])
             (try simp only [hl3_20] at BK279)
             (try simp only [hl3_20] at HO_4)
             have hl4_20 := (Kd.R_reads' HO_4.out).1
             rw [hl4_20] at HO_4
             (try simp only [hl4_20])
             (try simp only [hl4_20] at BK279)
             (try simp only [hl4_20] at HO_3)
             cases kq with
             | zero => exact absurd HA.out (by simp [impl_RegexOk.j1])
             | succ kj20 =>
              have H := HA.out
              clear HA
              simp only [impl_RegexOk.j1] at H
              by_cases c33 : x39_20 = true
              ·subst c33
               have H1 : (if x21_1 = 0 then (some false) else (if ((rd_T93 l0 x21_1).f4) = (wrap64 (x21_1 - 1)) then (if 0 ≤ ((rd_T93 l0 x21_1).f4) then (if ((rd_T93 l0 x21_1).f4) < (y280.length : Int) then (if (rd y280 ((rd_T93 l0 x21_1).f4)) = 0 then (some false) else (if ((rd_T93 l0 x21_1).f3) = (wrap64 ((rd y280 ((rd_T93 l0 x21_1).f4)) - 1)) then (if 0 ≤ ((rd_T93 l0 x21_1).f3) then (if ((rd_T93 l0 x21_1).f3) < (y280.length : Int) then (if ((rd_T93 l0 x21_1).f3) < (y281.length : Int) then (if ((rd_T93 l0 x21_1).f4) < (y281.length : Int) then (if 0 ≤ x21_1 then (if x21_1 < (y280.length : Int) then (if x21_1 < (y281.length : Int) then (impl_RegexOk.l0 kj20 l0 (y280.set (x21_1 : Int).toNat (rd y280 ((rd_T93 l0 x21_1).f3))) ((y281.set (x21_1 : Int).toNat (wrap64 ((rd y281 ((rd_T93 l0 x21_1).f3)) + (rd y281 ((rd_T93 l0 x21_1).f4))))).set (x21_1 : Int).toNat (mn (wrap64 ((rd y281 ((rd_T93 l0 x21_1).f3)) + (rd y281 ((rd_T93 l0 x21_1).f4)))) 2001)) l0 (l0.length : Int) (wrap64 (x21_1 + 1))) else (none)) else (none)) else (none)) else (none)) else (none)) else (none)) else (none)) else (some false))) else (none)) else (none)) else (some false))) = some r := by rw [if_pos rfl] at H; exact H
               clear H
               have H := H1
               clear H1
               by_cases c34 : x21_1 = 0
               ·rw [if_pos c34] at H
                have c34b0 := beq_iff_eq.mpr c34
                have c34b1 := bne_eq_false_iff_eq.mpr c34
                clear c34
                obtain rfl := Option.some.inj H
                try go_wp2
                have n0_ := Aside0.mk (Kd.R_drew HO_3.out)
                have n1_ := Aside0.mk (Kd.R_drew HO_4.out)
                have n2_ := Aside0.mk (blk_drew BK279.out)
                have n3_ := Aside0.mk (below_drew1 HB.out)
                clear HO_3
                clear HO_4
                clear BK279
                clear HB
                have HO_3 := n0_
                have HO_4 := n1_
                have BK279 := n2_
                have HB := n3_
                clear n0_ n1_ n2_ n3_
                refine start_ (n := 28) (S := fun w' => True) (ds := []) #[false, false, false, false, false, false, false, false, false, false, false, false, false, false, false, false, false, false, false, false, false, false, false, false, false, false, false, false] dq16 rfl rfl trivial (fun hHeld => ?_); refine with_tabW impl_RegexOk.tab14 impl_RegexOk.bits14 (fun HT_ HW_ => ?_)
                generalize wc.drew = w35 at HO_3 HO_4 BK279 HB hHeld ⊢
                refine pureA (i := 0) (N := some 42) #[true, false, false, false, false, false, false, false, false, false, false, false, false, false, false, false, false, false, false, false, false, false, false, false, false, false, false, false] ?_
                refine pureA (i := 1) (N := some 43) #[true, true, false, false, false, false, false, false, false, false, false, false, false, false, false, false, false, false, false, false, false, false, false, false, false, false, false, false] ?_
                refine pureA (i := 2) (N := some 44) #[true, true, true, false, false, false, false, false, false, false, false, false, false, false, false, false, false, false, false, false, false, false, false, false, false, false, false, false] ?_
                refine pure_ (i := 3) (N := some 45) (v := undef) (a' := ?_) #[true, true, true, true, false, false, false, false, false, false, false, false, false, false, false, false, false, false, false, false, false, false, false, false, false, false, false, false] rfl rfl (any_of HT_.out dq16) (fun _ _ _ h => h) (Or.inr ⟨dq29, rfl⟩) ?_ ?_
                rotate_left
                ·exact dAct
                refine pure_ (i := 4) (N := some 46) (v := undef) (a' := ?_) #[true, true, true, true, true, false, false, false, false, false, false, false, false, false, false, false, false, false, false, false, false, false, false, false, false, false, false, false] rfl rfl (any_of HT_.out dq16) (fun _ _ _ h => h) (Or.inr ⟨dq29, rfl⟩) ?_ ?_
                rotate_left
                ·exact dAct
                refine pure_ (i := 5) (N := some 47) (v := undef) (a' := ?_) #[true, true, true, true, true, true, false, false, false, false, false, false, false, false, false, false, false, false, false, false, false, false, false, false, false, false, false, false] rfl rfl (any_of HT_.out dq16) (fun _ _ _ h => h) (Or.inr ⟨dq29, rfl⟩) ?_ ?_
                rotate_left
                ·exact dAct
                refine pure_ (i := 6) (N := some 48) (v := undef) (a' := ?_) #[true, true, true, true, true, true, true, false, false, false, false, false, false, false, false, false, false, false, false, false, false, false, false, false, false, false, false, false] rfl rfl (any_of HT_.out dq16) (fun _ _ _ h => h) (Or.inr ⟨dq29, rfl⟩) ?_ ?_
                rotate_left
                ·exact dAct
                refine pure_ (i := 7) (N := some 49) (v := undef) (a' := ?_) #[true, true, true, true, true, true, true, true, false, false, false, false, false, false, false, false, false, false, false, false, false, false, false, false, false, false, false, false] rfl rfl (any_of HT_.out dq16) (fun _ _ _ h => h) (Or.inr ⟨dq29, rfl⟩) ?_ ?_
                rotate_left
                ·exact dAct
                refine pureA (i := 8) (N := some 50) #[true, true, true, true, true, true, true, true, true, false, false, false, false, false, false, false, false, false, false, false, false, false, false, false, false, false, false, false] ?_
                refine pureA (i := 9) (N := some 51) #[true, true, true, true, true, true, true, true, true, true, false, false, false, false, false, false, false, false, false, false, false, false, false, false, false, false, false, false] ?_
                refine pure_ (i := 10) (N := some 52) (v := undef) (a' := ?_) #[true, true, true, true, true, true, true, true, true, true, true, false, false, false, false, false, false, false, false, false, false, false, false, false, false, false, false, false] rfl rfl (any_of HT_.out dq16) (fun _ _ _ h => h) (Or.inr ⟨dq29, rfl⟩) ?_ ?_
                rotate_left
                ·exact dAct
                refine pure_ (i := 11) (N := some 53) (v := undef) (a' := ?_) #[true, true, true, true, true, true, true, true, true, true, true, true, false, false, false, false, false, false, false, false, false, false, false, false, false, false, false, false] rfl rfl (any_of HT_.out dq16) (fun _ _ _ h => h) (Or.inr ⟨dq29, rfl⟩) ?_ ?_
                rotate_left
                ·exact dAct
                refine pure_ (i := 12) (N := some 54) (v := undef) (a' := ?_) #[true, true, true, true, true, true, true, true, true, true, true, true, true, false, false, false, false, false, false, false, false, false, false, false, false, false, false, false] rfl rfl (any_of HT_.out dq16) (fun _ _ _ h => h) (Or.inr ⟨dq29, rfl⟩) ?_ ?_
                rotate_left
                ·exact dAct
                refine pure_ (i := 13) (N := some 55) (v := undef) (a' := ?_) #[true, true, true, true, true, true, true, true, true, true, true, true, true, true, false, false, false, false, false, false, false, false, false, false, false, false, false, false] rfl rfl (any_of HT_.out dq16) (fun _ _ _ h => h) (Or.inr ⟨dq29, rfl⟩) ?_ ?_
                rotate_left
                ·exact dAct
                refine pure_ (i := 14) (N := some 56) (v := undef) (a' := ?_) #[true, true, true, true, true, true, true, true, true, true, true, true, true, true, true, false, false, false, false, false, false, false, false, false, false, false, false, false] rfl rfl (any_of HT_.out dq16) (fun _ _ _ h => h) (Or.inr ⟨dq29, rfl⟩) ?_ ?_
                rotate_left
                ·exact dAct
                refine pure_ (i := 15) (N := some 57) (v := undef) (a' := ?_) #[true, true, true, true, true, true, true, true, true, true, true, true, true, true, true, true, false, false, false, false, false, false, false, false, false, false, false, false] rfl rfl (any_of HT_.out dq16) (fun _ _ _ h => h) (Or.inr ⟨dq29, rfl⟩) ?_ ?_
                rotate_left
                ·exact dAct
                refine pureA (i := 16) (N := some 58) #[true, true, true, true, true, true, true, true, true, true, true, true, true, true, true, true, true, false, false, false, false, false, false, false, false, false, false, false] ?_
                refine pureA (i := 17) (N := some 59) #[true, true, true, true, true, true, true, true, true, true, true, true, true, true, true, true, true, true, false, false, false, false, false, false, false, false, false, false] ?_
                refine pure_ (i := 18) (N := some 60) (v := undef) (a' := ?_) #[true, true, true, true, true, true, true, true, true, true, true, true, true, true, true, true, true, true, true, false, false, false, false, false, false, false, false, false] rfl rfl (any_of HT_.out dq16) (fun _ _ _ h => h) (Or.inr ⟨dq29, rfl⟩) ?_ ?_
                rotate_left
                ·exact dAct
                refine pure_ (i := 19) (N := some 61) (v := undef) (a' := ?_) #[true, true, true, true, true, true, true, true, true, true, true, true, true, true, true, true, true, true, true, true, false, false, false, false, false, false, false, false] rfl rfl (any_of HT_.out dq16) (fun _ _ _ h => h) (Or.inr ⟨dq29, rfl⟩) ?_ ?_
                rotate_left
                ·exact dAct
                refine pure_ (i := 20) (N := some 62) (v := undef) (a' := ?_) #[true, true, true, true, true, true, true, true, true, true, true, true, true, true, true, true, true, true, true, true, true, false, false, false, false, false, false, false] rfl rfl (any_of HT_.out dq16) (fun _ _ _ h => h) (Or.inr ⟨dq29, rfl⟩) ?_ ?_
                rotate_left
                ·exact dAct
                refine pure_ (i := 21) (N := some 63) (v := undef) (a' := ?_) #[true, true, true, true, true, true, true, true, true, true, true, true, true, true, true, true, true, true, true, true, true, true, false, false, false, false, false, false] rfl rfl (any_of HT_.out dq16) (fun _ _ _ h => h) (Or.inr ⟨dq29, rfl⟩) ?_ ?_
                rotate_left
                ·exact dAct
                refine pure_ (i := 22) (N := some 64) (v := undef) (a' := ?_) #[true, true, true, true, true, true, true, true, true, true, true, true, true, true, true, true, true, true, true, true, true, true, true, false, false, false, false, false] rfl rfl (any_of HT_.out dq16) (fun _ _ _ h => h) (Or.inr ⟨dq29, rfl⟩) ?_ ?_
                rotate_left
                ·exact dAct
                refine pure_ (i := 23) (N := some 65) (v := undef) (a' := ?_) #[true, true, true, true, true, true, true, true, true, true, true, true, true, true, true, true, true, true, true, true, true, true, true, true, false, false, false, false] rfl rfl (any_of HT_.out dq16) (fun _ _ _ h => h) (Or.inr ⟨dq29, rfl⟩) ?_ ?_
                rotate_left
                ·exact dAct
                refine pure_ (i := 24) (N := some 66) (v := undef) (a' := ?_) #[true, true, true, true, true, true, true, true, true, true, true, true, true, true, true, true, true, true, true, true, true, true, true, true, true, false, false, false] rfl rfl (any_of HT_.out dq16) (fun _ _ _ h => h) (Or.inr ⟨dq29, rfl⟩) ?_ ?_
                rotate_left
                ·exact dAct
                refine pure_ (i := 25) (N := some 67) (v := undef) (a' := ?_) #[true, true, true, true, true, true, true, true, true, true, true, true, true, true, true, true, true, true, true, true, true, true, true, true, true, true, false, false] rfl rfl (any_of HT_.out dq16) (fun _ _ _ h => h) (Or.inr ⟨dq29, rfl⟩) ?_ ?_
                rotate_left
                ·exact dAct
                refine pure_ (i := 26) (N := some 68) (v := undef) (a' := ?_) #[true, true, true, true, true, true, true, true, true, true, true, true, true, true, true, true, true, true, true, true, true, true, true, true, true, true, true, false] rfl rfl (any_of HT_.out dq16) (fun _ _ _ h => h) (Or.inr ⟨dq29, rfl⟩) ?_ ?_
                rotate_left
                ·exact dAct
                refine pureA (i := 27) (N := some 69) #[true, true, true, true, true, true, true, true, true, true, true, true, true, true, true, true, true, true, true, true, true, true, true, true, true, true, true, true] ?_
                refine done_ (done_of HT_.out dq16) ?_
                try go_wp2
                go_ret
                exact ⟨dq20, dq82⟩
               ·rw [if_neg c34] at H
                have c34b0 := beq_eq_false_iff_ne.mpr c34
                have c34b1 := bne_iff_ne.mpr c34
                by_cases c36 : ((rd_T93 l0 x21_1).f4) = (wrap64 (x21_1 - 1))
                ·rw [if_pos c36] at H
                 have c36b0 := beq_iff_eq.mpr c36
                 have c36b1 := bne_eq_false_iff_eq.mpr c36
                 clear c36
                 by_cases c37 : 0 ≤ ((rd_T93 l0 x21_1).f4)
                 ·rw [if_pos c37] at H
                  have c37b0 := decide_eq_true c37
                  clear c37
                  by_cases c38 : ((rd_T93 l0 x21_1).f4) < (y280.length : Int)
                  ·rw [if_pos c38] at H
                   have c38b0 := decide_eq_true c38
                   clear c38
                   by_cases c39 : (rd y280 ((rd_T93 l0 x21_1).f4)) = 0
                   ·rw [if_pos c39] at H
                    have c39b0 := beq_iff_eq.mpr c39
                    have c39b1 := bne_eq_false_iff_eq.mpr c39
                    clear c39
                    obtain rfl := Option.some.inj H
                    try go_wp2
                    have n0_ := Aside0.mk (Kd.R_drew HO_3.out)
                    have n1_ := Aside0.mk (Kd.R_drew HO_4.out)
                    have n2_ := Aside0.mk (blk_drew BK279.out)
                    have n3_ := Aside0.mk (below_drew1 HB.out)
                    clear HO_3
                    clear HO_4
                    clear BK279
                    clear HB
                    have HO_3 := n0_
                    have HO_4 := n1_
                    have BK279 := n2_
                    have HB := n3_
                    clear n0_ n1_ n2_ n3_
                    have p283 : 0 ≤ (((rd_T93 l0 x21_1).f4) : Int) := of_decide_eq_true dq21
                    have q283 : ((rd_T93 l0 x21_1).f4) < (y280.length : Int) := of_decide_eq_true dq21
                    obtain ⟨ad283, e283, hx283_0⟩ := Kd.at_int (Kd.R_reads' HO_3.out).2.2 ((rd_T93 l0 x21_1).f4) p283 q283
                    obtain rfl : (⟨go16, 0, none⟩ : Addr) = ad283 := (by injection e283)
                    (first | simp only [add_plain] at hx283_0 | simp only [add_at] at hx283_0 | simp only [Addr.add, Nat.zero_add] at hx283_0 | skip)
                    replace p283 := eq_true p283
                    replace q283 := eq_true q283
                    refine start_ (n := 28) (S := fun w' => w'.cell? ⟨gb279, 0, none⟩ = some (.int .i64 ((rd_T93 l0 x21_1).f0)) ∧ w'.cell? ⟨gb279, 1, none⟩ = some (.bool ((rd_T93 l0 x21_1).f1)) ∧ w'.cell? ⟨gb279, 2, none⟩ = some (.slice A278_2 ((rd_T93 l0 x21_1).f2).length c278_2) ∧ w'.cell? ⟨gb279, 3, none⟩ = some (.int .i64 ((rd_T93 l0 x21_1).f3)) ∧ w'.cell? ⟨gb279, 4, none⟩ = some (.int .i64 ((rd_T93 l0 x21_1).f4)) ∧ w'.cell? ⟨gb279, 5, none⟩ = some (.int .i64 ((rd_T93 l0 x21_1).f5)) ∧ w'.cell? ⟨gb279, 6, none⟩ = some (.int .i64 ((rd_T93 l0 x21_1).f6)) ∧ w'.cell? ⟨go16, (((rd_T93 l0 x21_1).f4)).toNat, none⟩ = some (.int .i64 (rd y280 ((rd_T93 l0 x21_1).f4)))) (ds := []) #[false, false, false, false, false, false, false, false, false, false, false, false, false, false, false, false, false, false, false, false, false, false, false, false, false, false, false, false] dq16 rfl rfl ⟨(blk_cell BK279.out 0).trans rfl, (blk_cell BK279.out 1).trans rfl, (blk_cell BK279.out 2).trans rfl, (blk_cell BK279.out 3).trans rfl, (blk_cell BK279.out 4).trans rfl, (blk_cell BK279.out 5).trans rfl, (blk_cell BK279.out 6).trans rfl, hx283_0⟩ (fun hHeld => ?_); refine with_tabW impl_RegexOk.tab14 impl_RegexOk.bits14 (fun HT_ HW_ => ?_)
                    generalize wc.drew = w40 at HO_3 HO_4 BK279 HB hx283_0 hHeld ⊢
                    refine pureA (i := 0) (N := some 42) #[true, false, false, false, false, false, false, false, false, false, false, false, false, false, false, false, false, false, false, false, false, false, false, false, false, false, false, false] ?_
                    refine pureA (i := 1) (N := some 43) #[true, true, false, false, false, false, false, false, false, false, false, false, false, false, false, false, false, false, false, false, false, false, false, false, false, false, false, false] ?_
                    refine pureA (i := 2) (N := some 44) #[true, true, true, false, false, false, false, false, false, false, false, false, false, false, false, false, false, false, false, false, false, false, false, false, false, false, false, false] ?_
                    refine pureA (i := 3) (N := some 45) #[true, true, true, true, false, false, false, false, false, false, false, false, false, false, false, false, false, false, false, false, false, false, false, false, false, false, false, false] ?_
                    refine pureA (i := 5) (N := some 47) #[true, true, true, true, false, true, false, false, false, false, false, false, false, false, false, false, false, false, false, false, false, false, false, false, false, false, false, false] ?_
                    refine pureA (i := 6) (N := some 48) #[true, true, true, true, false, true, true, false, false, false, false, false, false, false, false, false, false, false, false, false, false, false, false, false, false, false, false, false] ?_
                    refine takeA8 (i := 4) (N := some 46) #[true, true, true, true, true, true, true, false, false, false, false, false, false, false, false, false, false, false, false, false, false, false, false, false, false, false, false, false] ?_
                    refine pureA (i := 7) (N := some 49) #[true, true, true, true, true, true, true, true, false, false, false, false, false, false, false, false, false, false, false, false, false, false, false, false, false, false, false, false] ?_
                    refine pureA (i := 8) (N := some 50) #[true, true, true, true, true, true, true, true, true, false, false, false, false, false, false, false, false, false, false, false, false, false, false, false, false, false, false, false] ?_
                    refine pureA (i := 9) (N := some 51) #[true, true, true, true, true, true, true, true, true, true, false, false, false, false, false, false, false, false, false, false, false, false, false, false, false, false, false, false] ?_
                    refine pureA (i := 10) (N := some 52) #[true, true, true, true, true, true, true, true, true, true, true, false, false, false, false, false, false, false, false, false, false, false, false, false, false, false, false, false] ?_
                    refine pureA (i := 11) (N := some 53) #[true, true, true, true, true, true, true, true, true, true, true, true, false, false, false, false, false, false, false, false, false, false, false, false, false, false, false, false] ?_
                    refine takeA8 (i := 12) (N := some 54) #[true, true, true, true, true, true, true, true, true, true, true, true, true, false, false, false, false, false, false, false, false, false, false, false, false, false, false, false] ?_
                    refine pureA (i := 13) (N := some 55) #[true, true, true, true, true, true, true, true, true, true, true, true, true, true, false, false, false, false, false, false, false, false, false, false, false, false, false, false] ?_
                    refine takeA8 (i := 14) (N := some 56) #[true, true, true, true, true, true, true, true, true, true, true, true, true, true, true, false, false, false, false, false, false, false, false, false, false, false, false, false] ?_
                    refine pureA (i := 15) (N := some 57) #[true, true, true, true, true, true, true, true, true, true, true, true, true, true, true, true, false, false, false, false, false, false, false, false, false, false, false, false] ?_
                    refine pureA (i := 16) (N := some 58) #[true, true, true, true, true, true, true, true, true, true, true, true, true, true, true, true, true, false, false, false, false, false, false, false, false, false, false, false] ?_
                    refine pureA (i := 17) (N := some 59) #[true, true, true, true, true, true, true, true, true, true, true, true, true, true, true, true, true, true, false, false, false, false, false, false, false, false, false, false] ?_
                    refine pure_ (i := 18) (N := some 60) (v := undef) (a' := ?_) #[true, true, true, true, true, true, true, true, true, true, true, true, true, true, true, true, true, true, true, false, false, false, false, false, false, false, false, false] rfl rfl (any_of HT_.out dq16) (fun _ _ _ h => h) (Or.inr ⟨dq29, rfl⟩) ?_ ?_
                    rotate_left
                    ·exact dAct
                    refine pure_ (i := 19) (N := some 61) (v := undef) (a' := ?_) #[true, true, true, true, true, true, true, true, true, true, true, true, true, true, true, true, true, true, true, true, false, false, false, false, false, false, false, false] rfl rfl (any_of HT_.out dq16) (fun _ _ _ h => h) (Or.inr ⟨dq29, rfl⟩) ?_ ?_
                    rotate_left
                    ·exact dAct
                    refine pure_ (i := 20) (N := some 62) (v := undef) (a' := ?_) #[true, true, true, true, true, true, true, true, true, true, true, true, true, true, true, true, true, true, true, true, true, false, false, false, false, false, false, false] rfl rfl (any_of HT_.out dq16) (fun _ _ _ h => h) (Or.inr ⟨dq29, rfl⟩) ?_ ?_
                    rotate_left
                    ·exact dAct
                    refine pure_ (i := 21) (N := some 63) (v := undef) (a' := ?_) #[true, true, true, true, true, true, true, true, true, true, true, true, true, true, true, true, true, true, true, true, true, true, false, false, false, false, false, false] rfl rfl (any_of HT_.out dq16) (fun _ _ _ h => h) (Or.inr ⟨dq29, rfl⟩) ?_ ?_
                    rotate_left
                    ·exact dAct
                    refine pure_ (i := 22) (N := some 64) (v := undef) (a' := ?_) #[true, true, true, true, true, true, true, true, true, true, true, true, true, true, true, true, true, true, true, true, true, true, true, false, false, false, false, false] rfl rfl (any_of HT_.out dq16) (fun _ _ _ h => h) (Or.inr ⟨dq29, rfl⟩) ?_ ?_
                    rotate_left
                    ·exact dAct
                    refine pure_ (i := 23) (N := some 65) (v := undef) (a' := ?_) #[true, true, true, true, true, true, true, true, true, true, true, true, true, true, true, true, true, true, true, true, true, true, true, true, false, false, false, false] rfl rfl (any_of HT_.out dq16) (fun _ _ _ h => h) (Or.inr ⟨dq29, rfl⟩) ?_ ?_
                    rotate_left
                    ·exact dAct
                    refine pure_ (i := 24) (N := some 66) (v := undef) (a' := ?_) #[true, true, true, true, true, true, true, true, true, true, true, true, true, true, true, true, true, true, true, true, true, true, true, true, true, false, false, false] rfl rfl (any_of HT_.out dq16) (fun _ _ _ h => h) (Or.inr ⟨dq29, rfl⟩) ?_ ?_
                    rotate_left
                    ·exact dAct
                    refine pure_ (i := 25) (N := some 67) (v := undef) (a' := ?_) #[true, true, true, true, true, true, true, true, true, true, true, true, true, true, true, true, true, true, true, true, true, true, true, true, true, true, false, false] rfl rfl (any_of HT_.out dq16) (fun _ _ _ h => h) (Or.inr ⟨dq29, rfl⟩) ?_ ?_
                    rotate_left
                    ·exact dAct
                    refine pure_ (i := 26) (N := some 68) (v := undef) (a' := ?_) #[true, true, true, true, true, true, true, true, true, true, true, true, true, true, true, true, true, true, true, true, true, true, true, true, true, true, true, false] rfl rfl (any_of HT_.out dq16) (fun _ _ _ h => h) (Or.inr ⟨dq29, rfl⟩) ?_ ?_
                    rotate_left
                    ·exact dAct
                    refine pureA (i := 27) (N := some 69) #[true, true, true, true, true, true, true, true, true, true, true, true, true, true, true, true, true, true, true, true, true, true, true, true, true, true, true, true] ?_
                    refine done_ (done_of HT_.out dq16) ?_
                    try go_wp2
                    go_ret
                    exact ⟨dq20, dq82⟩
                   ·rw [if_neg c39] at H
                    have c39b0 := beq_eq_false_iff_ne.mpr c39
                    have c39b1 := bne_iff_ne.mpr c39
                    by_cases c41 : ((rd_T93 l0 x21_1).f3) = (wrap64 ((rd y280 ((rd_T93 l0 x21_1).f4)) - 1))
                    ·rw [if_pos c41] at H
                     have c41b0 := beq_iff_eq.mpr c41
                     have c41b1 := bne_eq_false_iff_eq.mpr c41
                     clear c41
                     by_cases c42 : 0 ≤ ((rd_T93 l0 x21_1).f3)
                     ·rw [if_pos c42] at H
                      have c42b0 := decide_eq_true c42
                      clear c42
                      by_cases c43 : ((rd_T93 l0 x21_1).f3) < (y280.length : Int)
                      ·rw [if_pos c43] at H
                       have c43b0 := decide_eq_true c43
                       clear c43
                       by_cases c44 : ((rd_T93 l0 x21_1).f3) < (y281.length : Int)
                       ·rw [if_pos c44] at H
                        have c44b0 := decide_eq_true c44
                        clear c44
                        by_cases c45 : ((rd_T93 l0 x21_1).f4) < (y281.length : Int)
                        ·rw [if_pos c45] at H
                         have c45b0 := decide_eq_true c45
                         clear c45
                         by_cases c46 : 0 ≤ x21_1
                         ·rw [if_pos c46] at H
                          have c46b0 := decide_eq_true c46
                          clear c46
                          by_cases c47 : x21_1 < (y280.length : Int)
                          ·rw [if_pos c47] at H
                           have c47b0 := decide_eq_true c47
                           clear c47
                           obtain ⟨y288, hy288⟩ : ∃ y_ : List Int, y_ = (y280.set (x21_1 : Int).toNat (rd y280 ((rd_T93 l0 x21_1).f3))) := ⟨_, rfl⟩
                           replace H : (if x21_1 < (y281.length : Int) then (impl_RegexOk.l0 kj20 l0 y288 ((y281.set (x21_1 : Int).toNat (wrap64 ((rd y281 ((rd_T93 l0 x21_1).f3)) + (rd y281 ((rd_T93 l0 x21_1).f4))))).set (x21_1 : Int).toNat (mn (wrap64 ((rd y281 ((rd_T93 l0 x21_1).f3)) + (rd y281 ((rd_T93 l0 x21_1).f4)))) 2001)) l0 (l0.length : Int) (wrap64 (x21_1 + 1))) else (none)) = some r := by first | (rw [hy288]; with_reducible exact H) | (have H2_ := (Option.bind_some _ _).symm.trans H; rw [hy288]; with_reducible exact H2_) | (have H2_ := (Option.bind_some _ _).symm.trans H; with_reducible exact H2_) | with_reducible exact H | (rw [hy288]; exact H) | exact H
                           have Ny288 := Aside0.mk hy288
                           clear hy288
                           by_cases c49 : x21_1 < (y281.length : Int)
                           ·rw [if_pos c49] at H
                            have c49b0 := decide_eq_true c49
                            clear c49
                            obtain ⟨y289, hy289⟩ : ∃ y_ : List Int, y_ = (y281.set (x21_1 : Int).toNat (wrap64 ((rd y281 ((rd_T93 l0 x21_1).f3)) + (rd y281 ((rd_T93 l0 x21_1).f4))))) := ⟨_, rfl⟩
                            replace H : (impl_RegexOk.l0 kj20 l0 y288 (y289.set (x21_1 : Int).toNat (mn (wrap64 ((rd y281 ((rd_T93 l0 x21_1).f3)) + (rd y281 ((rd_T93 l0 x21_1).f4)))) 2001)) l0 (l0.length : Int) (wrap64 (x21_1 + 1))) = some r := by first | (rw [hy289]; with_reducible exact H) | (have H2_ := (Option.bind_some _ _).symm.trans H; rw [hy289]; with_reducible exact H2_) | (have H2_ := (Option.bind_some _ _).symm.trans H; with_reducible exact H2_) | with_reducible exact H | (rw [hy289]; exact H) | exact H
                            have Ny289 := Aside0.mk hy289
                            clear hy289
                            obtain ⟨ji52, hji52⟩ : ∃ j_ : Int, (mn (wrap64 ((rd y281 ((rd_T93 l0 x21_1).f3)) + (rd y281 ((rd_T93 l0 x21_1).f4)))) 2001) = j_ := ⟨_, rfl⟩
                            replace H : (impl_RegexOk.l0 kj20 l0 y288 (y289.set (x21_1 : Int).toNat (ji52)) l0 (l0.length : Int) (wrap64 (x21_1 + 1))) = some r := by first | (rw [hji52] at H; exact H) | (simp only [hji52] at H ⊢; exact H)
                            have hji52_ : (if 2001 < (wrap64 ((rd y281 ((rd_T93 l0 x21_1).f3)) + (rd y281 ((rd_T93 l0 x21_1).f4)))) then 2001 else (wrap64 ((rd y281 ((rd_T93 l0 x21_1).f3)) + (rd y281 ((rd_T93 l0 x21_1).f4))))) = ji52 := hji52
                            obtain ⟨y291, hy291⟩ : ∃ y_ : List Int, y_ = (y289.set (x21_1 : Int).toNat (ji52)) := ⟨_, rfl⟩
                            replace H : (impl_RegexOk.l0 kj20 l0 y288 y291 l0 (l0.length : Int) (wrap64 (x21_1 + 1))) = some r := by first | (rw [hy291]; with_reducible exact H) | (have H2_ := (Option.bind_some _ _).symm.trans H; rw [hy291]; with_reducible exact H2_) | (have H2_ := (Option.bind_some _ _).symm.trans H; with_reducible exact H2_) | with_reducible exact H | (rw [hy291]; exact H) | exact H
                            have Ny291 := Aside0.mk hy291
                            clear hy291
                            have H' := Aside0.mk H
                            clear H
                            try go_wp2
                            have n0_ := Aside0.mk (Kd.R_drew HO_3.out)
                            have n1_ := Aside0.mk (Kd.R_drew HO_4.out)
                            have n2_ := Aside0.mk (blk_drew BK279.out)
                            have n3_ := Aside0.mk (below_drew1 HB.out)
                            clear HO_3
                            clear HO_4
                            clear BK279
                            clear HB
                            have HO_3 := n0_
                            have HO_4 := n1_
                            have BK279 := n2_
                            have HB := n3_
                            clear n0_ n1_ n2_ n3_
                            have p283 : 0 ≤ (((rd_T93 l0 x21_1).f4) : Int) := of_decide_eq_true dq21
                            have q283 : ((rd_T93 l0 x21_1).f4) < (y280.length : Int) := of_decide_eq_true dq21
                            obtain ⟨ad283, e283, hx283_0⟩ := Kd.at_int (Kd.R_reads' HO_3.out).2.2 ((rd_T93 l0 x21_1).f4) p283 q283
                            obtain rfl : (⟨go16, 0, none⟩ : Addr) = ad283 := (by injection e283)
                            (first | simp only [add_plain] at hx283_0 | simp only [add_at] at hx283_0 | simp only [Addr.add, Nat.zero_add] at hx283_0 | skip)
                            replace p283 := eq_true p283
                            replace q283 := eq_true q283
                            have p284 : 0 ≤ (((rd_T93 l0 x21_1).f4) : Int) := of_decide_eq_true dq21
                            have q284 : ((rd_T93 l0 x21_1).f4) < (y280.length : Int) := of_decide_eq_true dq21
                            obtain ⟨ad284, e284, hx284_0⟩ := Kd.at_int (Kd.R_reads' HO_3.out).2.2 ((rd_T93 l0 x21_1).f4) p284 q284
                            obtain rfl : (⟨go16, 0, none⟩ : Addr) = ad284 := (by injection e284)
                            (first | simp only [add_plain] at hx284_0 | simp only [add_at] at hx284_0 | simp only [Addr.add, Nat.zero_add] at hx284_0 | skip)
                            replace p284 := eq_true p284
                            replace q284 := eq_true q284
                            refine start_ (n := 28) (S := fun w' => w'.cell? ⟨gb279, 0, none⟩ = some (.int .i64 ((rd_T93 l0 x21_1).f0)) ∧ w'.cell? ⟨gb279, 1, none⟩ = some (.bool ((rd_T93 l0 x21_1).f1)) ∧ w'.cell? ⟨gb279, 2, none⟩ = some (.slice A278_2 ((rd_T93 l0 x21_1).f2).length c278_2) ∧ w'.cell? ⟨gb279, 3, none⟩ = some (.int .i64 ((rd_T93 l0 x21_1).f3)) ∧ w'.cell? ⟨gb279, 4, none⟩ = some (.int .i64 ((rd_T93 l0 x21_1).f4)) ∧ w'.cell? ⟨gb279, 5, none⟩ = some (.int .i64 ((rd_T93 l0 x21_1).f5)) ∧ w'.cell? ⟨gb279, 6, none⟩ = some (.int .i64 ((rd_T93 l0 x21_1).f6)) ∧ w'.cell? ⟨go16, (((rd_T93 l0 x21_1).f4)).toNat, none⟩ = some (.int .i64 (rd y280 ((rd_T93 l0 x21_1).f4))) ∧ w'.cell? ⟨go16, (((rd_T93 l0 x21_1).f4)).toNat, none⟩ = some (.int .i64 (rd y280 ((rd_T93 l0 x21_1).f4)))) (ds := []) #[false, false, false, false, false, false, false, false, false, false, false, false, false, false, false, false, false, false, false, false, false, false, false, false, false, false, false, false] dq16 rfl rfl ⟨(blk_cell BK279.out 0).trans rfl, (blk_cell BK279.out 1).trans rfl, (blk_cell BK279.out 2).trans rfl, (blk_cell BK279.out 3).trans rfl, (blk_cell BK279.out 4).trans rfl, (blk_cell BK279.out 5).trans rfl, (blk_cell BK279.out 6).trans rfl, hx283_0, hx284_0⟩ (fun hHeld => ?_); refine with_tabW impl_RegexOk.tab14 impl_RegexOk.bits14 (fun HT_ HW_ => ?_)
                            generalize wc.drew = w54 at HO_3 HO_4 BK279 HB hx283_0 hx284_0 hHeld ⊢
                            refine pureA (i := 0) (N := some 42) #[true, false, false, false, false, false, false, false, false, false, false, false, false, false, false, false, false, false, false, false, false, false, false, false, false, false, false, false] ?_
                            refine pureA (i := 1) (N := some 43) #[true, true, false, false, false, false, false, false, false, false, false, false, false, false, false, false, false, false, false, false, false, false, false, false, false, false, false, false] ?_
                            refine pureA (i := 2) (N := some 44) #[true, true, true, false, false, false, false, false, false, false, false, false, false, false, false, false, false, false, false, false, false, false, false, false, false, false, false, false] ?_
                            refine pureA (i := 3) (N := some 45) #[true, true, true, true, false, false, false, false, false, false, false, false, false, false, false, false, false, false, false, false, false, false, false, false, false, false, false, false] ?_
                            refine pureA (i := 5) (N := some 47) #[true, true, true, true, false, true, false, false, false, false, false, false, false, false, false, false, false, false, false, false, false, false, false, false, false, false, false, false] ?_
                            refine pureA (i := 6) (N := some 48) #[true, true, true, true, false, true, true, false, false, false, false, false, false, false, false, false, false, false, false, false, false, false, false, false, false, false, false, false] ?_
                            refine takeA9 (i := 4) (N := some 46) #[true, true, true, true, true, true, true, false, false, false, false, false, false, false, false, false, false, false, false, false, false, false, false, false, false, false, false, false] ?_
                            refine pureA (i := 7) (N := some 49) #[true, true, true, true, true, true, true, true, false, false, false, false, false, false, false, false, false, false, false, false, false, false, false, false, false, false, false, false] ?_
                            refine pureA (i := 8) (N := some 50) #[true, true, true, true, true, true, true, true, true, false, false, false, false, false, false, false, false, false, false, false, false, false, false, false, false, false, false, false] ?_
                            refine pureA (i := 9) (N := some 51) #[true, true, true, true, true, true, true, true, true, true, false, false, false, false, false, false, false, false, false, false, false, false, false, false, false, false, false, false] ?_
                            refine pureA (i := 10) (N := some 52) #[true, true, true, true, true, true, true, true, true, true, true, false, false, false, false, false, false, false, false, false, false, false, false, false, false, false, false, false] ?_
                            refine pureA (i := 11) (N := some 53) #[true, true, true, true, true, true, true, true, true, true, true, true, false, false, false, false, false, false, false, false, false, false, false, false, false, false, false, false] ?_
                            refine takeA9 (i := 12) (N := some 54) #[true, true, true, true, true, true, true, true, true, true, true, true, true, false, false, false, false, false, false, false, false, false, false, false, false, false, false, false] ?_
                            refine pureA (i := 13) (N := some 55) #[true, true, true, true, true, true, true, true, true, true, true, true, true, true, false, false, false, false, false, false, false, false, false, false, false, false, false, false] ?_
                            refine takeA9 (i := 14) (N := some 56) #[true, true, true, true, true, true, true, true, true, true, true, true, true, true, true, false, false, false, false, false, false, false, false, false, false, false, false, false] ?_
                            refine pureA (i := 15) (N := some 57) #[true, true, true, true, true, true, true, true, true, true, true, true, true, true, true, true, false, false, false, false, false, false, false, false, false, false, false, false] ?_
                            refine pureA (i := 16) (N := some 58) #[true, true, true, true, true, true, true, true, true, true, true, true, true, true, true, true, true, false, false, false, false, false, false, false, false, false, false, false] ?_
                            refine pureA (i := 17) (N := some 59) #[true, true, true, true, true, true, true, true, true, true, true, true, true, true, true, true, true, true, false, false, false, false, false, false, false, false, false, false] ?_
                            refine pureA (i := 18) (N := some 60) #[true, true, true, true, true, true, true, true, true, true, true, true, true, true, true, true, true, true, true, false, false, false, false, false, false, false, false, false] ?_
                            refine pureA (i := 20) (N := some 62) #[true, true, true, true, true, true, true, true, true, true, true, true, true, true, true, true, true, true, true, false, true, false, false, false, false, false, false, false] ?_
                            refine pureA (i := 21) (N := some 63) #[true, true, true, true, true, true, true, true, true, true, true, true, true, true, true, true, true, true, true, false, true, true, false, false, false, false, false, false] ?_
                            refine takeA9 (i := 19) (N := some 61) #[true, true, true, true, true, true, true, true, true, true, true, true, true, true, true, true, true, true, true, true, true, true, false, false, false, false, false, false] ?_
                            refine takeA9 (i := 22) (N := some 64) #[true, true, true, true, true, true, true, true, true, true, true, true, true, true, true, true, true, true, true, true, true, true, true, false, false, false, false, false] ?_
                            refine pureA (i := 23) (N := some 65) #[true, true, true, true, true, true, true, true, true, true, true, true, true, true, true, true, true, true, true, true, true, true, true, true, false, false, false, false] ?_
                            refine takeA9 (i := 24) (N := some 66) #[true, true, true, true, true, true, true, true, true, true, true, true, true, true, true, true, true, true, true, true, true, true, true, true, true, false, false, false] ?_
                            refine pureA (i := 25) (N := some 67) #[true, true, true, true, true, true, true, true, true, true, true, true, true, true, true, true, true, true, true, true, true, true, true, true, true, true, false, false] ?_
                            refine pureA (i := 26) (N := some 68) #[true, true, true, true, true, true, true, true, true, true, true, true, true, true, true, true, true, true, true, true, true, true, true, true, true, true, true, false] ?_
                            refine pureA (i := 27) (N := some 69) #[true, true, true, true, true, true, true, true, true, true, true, true, true, true, true, true, true, true, true, true, true, true, true, true, true, true, true, true] ?_
                            refine done_ (done_of HT_.out dq16) ?_
                            try go_wp2
                            have n0_ := Aside0.mk (Kd.R_drew HO_3.out)
                            have n1_ := Aside0.mk (Kd.R_drew HO_4.out)
                            have n2_ := Aside0.mk (blk_drew BK279.out)
                            have n3_ := Aside0.mk (below_drew1 HB.out)
                            clear HO_3
                            clear HO_4
                            clear BK279
                            clear HB
                            have HO_3 := n0_
                            have HO_4 := n1_
                            have BK279 := n2_
                            have HB := n3_
                            clear n0_ n1_ n2_ n3_
                            have p285 : 0 ≤ (((rd_T93 l0 x21_1).f3) : Int) := of_decide_eq_true dq21
                            have q285 : ((rd_T93 l0 x21_1).f3) < (y280.length : Int) := of_decide_eq_true dq21
                            obtain ⟨ad285, e285, hx285_0⟩ := Kd.at_int (Kd.R_reads' HO_3.out).2.2 ((rd_T93 l0 x21_1).f3) p285 q285
                            obtain rfl : (⟨go16, 0, none⟩ : Addr) = ad285 := (by injection e285)
                            (first | simp only [add_plain] at hx285_0 | simp only [add_at] at hx285_0 | simp only [Addr.add, Nat.zero_add] at hx285_0 | skip)
                            replace p285 := eq_true p285
                            replace q285 := eq_true q285
                            have p286 : 0 ≤ (((rd_T93 l0 x21_1).f3) : Int) := of_decide_eq_true dq21
                            have q286 : ((rd_T93 l0 x21_1).f3) < (y281.length : Int) := of_decide_eq_true dq21
                            obtain ⟨ad286, e286, hx286_0⟩ := Kd.at_int (Kd.R_reads' HO_4.out).2.2 ((rd_T93 l0 x21_1).f3) p286 q286
                            obtain rfl : (⟨go18, 0, none⟩ : Addr) = ad286 := (by injection e286)
                            (first | simp only [add_plain] at hx286_0 | simp only [add_at] at hx286_0 | simp only [Addr.add, Nat.zero_add] at hx286_0 | skip)
                            replace p286 := eq_true p286
                            replace q286 := eq_true q286
                            have p287 : 0 ≤ (((rd_T93 l0 x21_1).f4) : Int) := of_decide_eq_true dq21
                            have q287 : ((rd_T93 l0 x21_1).f4) < (y281.length : Int) := of_decide_eq_true dq21
                            obtain ⟨ad287, e287, hx287_0⟩ := Kd.at_int (Kd.R_reads' HO_4.out).2.2 ((rd_T93 l0 x21_1).f4) p287 q287
                            obtain rfl : (⟨go18, 0, none⟩ : Addr) = ad287 := (by injection e287)
                            (first | simp only [add_plain] at hx287_0 | simp only [add_at] at hx287_0 | simp only [Addr.add, Nat.zero_add] at hx287_0 | skip)
                            replace p287 := eq_true p287
                            replace q287 := eq_true q287
                            have p48 : 0 ≤ (x21_1 : Int) := of_decide_eq_true dq21
                            have q48 : (x21_1 : Int) < ((y280.length : Int) : Int) := of_decide_eq_true dq21
                            obtain ⟨hx48_0, hf48_0⟩ := Kd.R_celln 0 HO_3.out (x21_1 : Int) p48 q48
                            replace p48 := eq_true p48
                            replace q48 := eq_true q48
                            have HP56 := Kd.R_putn HO_3.out (x21_1 : Int) (rd y280 ((rd_T93 l0 x21_1).f3))
                            rw [← Ny288.out] at HP56
                            have HQ56 := Aside0.mk HP56
                            clear HP56
                            have p50 : 0 ≤ (x21_1 : Int) := of_decide_eq_true dq21
                            have q50 : (x21_1 : Int) < ((y281.length : Int) : Int) := of_decide_eq_true dq21
                            obtain ⟨hx50_0, hf50_0⟩ := Kd.R_celln 0 (Kd.R_far (p := ⟨go16, (x21_1 : Int).toNat, none⟩) (Kd.R_mono HO_4.out (fun k_ hk => (⟨hk, fun e_ => hk dq70⟩ : _ ∧ k_ ≠ go16))) (fun _ hk => hk.2) (.int .i64 (rd y280 ((rd_T93 l0 x21_1).f3)))) (x21_1 : Int) p50 q50
                            replace p50 := eq_true p50
                            replace q50 := eq_true q50
                            have HP57 := Kd.R_putn (Kd.R_far (p := ⟨go16, (x21_1 : Int).toNat, none⟩) (Kd.R_mono HO_4.out (fun k_ hk => (⟨hk, fun e_ => hk dq70⟩ : _ ∧ k_ ≠ go16))) (fun _ hk => hk.2) (.int .i64 (rd y280 ((rd_T93 l0 x21_1).f3)))) (x21_1 : Int) (wrap64 ((rd y281 ((rd_T93 l0 x21_1).f3)) + (rd y281 ((rd_T93 l0 x21_1).f4))))
                            rw [← Ny289.out] at HP57
                            have HQ57 := Aside0.mk HP57
                            clear HP57
                            refine start_ (n := 24) (S := fun w' => w'.cell? ⟨gb279, 0, none⟩ = some (.int .i64 ((rd_T93 l0 x21_1).f0)) ∧ w'.cell? ⟨gb279, 1, none⟩ = some (.bool ((rd_T93 l0 x21_1).f1)) ∧ w'.cell? ⟨gb279, 2, none⟩ = some (.slice A278_2 ((rd_T93 l0 x21_1).f2).length c278_2) ∧ w'.cell? ⟨gb279, 3, none⟩ = some (.int .i64 ((rd_T93 l0 x21_1).f3)) ∧ w'.cell? ⟨gb279, 4, none⟩ = some (.int .i64 ((rd_T93 l0 x21_1).f4)) ∧ w'.cell? ⟨gb279, 5, none⟩ = some (.int .i64 ((rd_T93 l0 x21_1).f5)) ∧ w'.cell? ⟨gb279, 6, none⟩ = some (.int .i64 ((rd_T93 l0 x21_1).f6)) ∧ w'.cell? ⟨go16, (((rd_T93 l0 x21_1).f3)).toNat, none⟩ = some (.int .i64 (rd y280 ((rd_T93 l0 x21_1).f3))) ∧ w'.cell? ⟨go18, (((rd_T93 l0 x21_1).f3)).toNat, none⟩ = some (.int .i64 (rd y281 ((rd_T93 l0 x21_1).f3))) ∧ w'.cell? ⟨go18, (((rd_T93 l0 x21_1).f4)).toNat, none⟩ = some (.int .i64 (rd y281 ((rd_T93 l0 x21_1).f4)))) (ds := [21, 23]) #[false, false, false, false, false, false, false, false, false, false, false, false, false, false, false, false, false, false, false, false, false, false, false, false] dq16 rfl rfl ⟨(blk_cell BK279.out 0).trans rfl, (blk_cell BK279.out 1).trans rfl, (blk_cell BK279.out 2).trans rfl, (blk_cell BK279.out 3).trans rfl, (blk_cell BK279.out 4).trans rfl, (blk_cell BK279.out 5).trans rfl, (blk_cell BK279.out 6).trans rfl, hx285_0, hx286_0, hx287_0⟩ (fun hHeld => ?_); refine with_tabW impl_RegexOk.tab16 impl_RegexOk.bits16 (fun HT_ HW_ => ?_)
                            generalize w54.drew = w55 at HO_3 HO_4 BK279 HB HQ56 HQ57 hf48_0 hf50_0 hx285_0 hx286_0 hx287_0 hx48_0 hx50_0 hHeld ⊢
                            refine pureA (i := 0) (N := some 70) #[true, false, false, false, false, false, false, false, false, false, false, false, false, false, false, false, false, false, false, false, false, false, false, false] ?_
                            refine pureA (i := 1) (N := some 71) #[true, true, false, false, false, false, false, false, false, false, false, false, false, false, false, false, false, false, false, false, false, false, false, false] ?_
                            refine pureA (i := 2) (N := some 72) #[true, true, true, false, false, false, false, false, false, false, false, false, false, false, false, false, false, false, false, false, false, false, false, false] ?_
                            refine pureA (i := 3) (N := some 73) #[true, true, true, true, false, false, false, false, false, false, false, false, false, false, false, false, false, false, false, false, false, false, false, false] ?_
                            refine pureA (i := 4) (N := some 74) #[true, true, true, true, true, false, false, false, false, false, false, false, false, false, false, false, false, false, false, false, false, false, false, false] ?_
                            refine pureA (i := 5) (N := some 75) #[true, true, true, true, true, true, false, false, false, false, false, false, false, false, false, false, false, false, false, false, false, false, false, false] ?_
                            refine pureA (i := 9) (N := some 79) #[true, true, true, true, true, true, false, false, false, true, false, false, false, false, false, false, false, false, false, false, false, false, false, false] ?_
                            refine pureA (i := 10) (N := some 80) #[true, true, true, true, true, true, false, false, false, true, true, false, false, false, false, false, false, false, false, false, false, false, false, false] ?_
                            refine pureA (i := 14) (N := some 84) #[true, true, true, true, true, true, false, false, false, true, true, false, false, false, true, false, false, false, false, false, false, false, false, false] ?_
                            refine pureA (i := 15) (N := some 85) #[true, true, true, true, true, true, false, false, false, true, true, false, false, false, true, true, false, false, false, false, false, false, false, false] ?_
                            refine takeA10 (i := 6) (N := some 76) #[true, true, true, true, true, true, true, false, false, true, true, false, false, false, true, true, false, false, false, false, false, false, false, false] ?_
                            refine pureA (i := 7) (N := some 77) #[true, true, true, true, true, true, true, true, false, true, true, false, false, false, true, true, false, false, false, false, false, false, false, false] ?_
                            refine takeA10 (i := 8) (N := some 78) #[true, true, true, true, true, true, true, true, true, true, true, false, false, false, true, true, false, false, false, false, false, false, false, false] ?_
                            refine takeA10 (i := 11) (N := some 81) #[true, true, true, true, true, true, true, true, true, true, true, true, false, false, true, true, false, false, false, false, false, false, false, false] ?_
                            refine pureA (i := 12) (N := some 82) #[true, true, true, true, true, true, true, true, true, true, true, true, true, false, true, true, false, false, false, false, false, false, false, false] ?_
                            refine takeA10 (i := 13) (N := some 83) #[true, true, true, true, true, true, true, true, true, true, true, true, true, true, true, true, false, false, false, false, false, false, false, false] ?_
                            refine takeA10 (i := 16) (N := some 86) #[true, true, true, true, true, true, true, true, true, true, true, true, true, true, true, true, true, false, false, false, false, false, false, false] ?_
                            refine pureA (i := 17) (N := some 87) #[true, true, true, true, true, true, true, true, true, true, true, true, true, true, true, true, true, true, false, false, false, false, false, false] ?_
                            refine takeA10 (i := 18) (N := some 88) #[true, true, true, true, true, true, true, true, true, true, true, true, true, true, true, true, true, true, true, false, false, false, false, false] ?_
                            refine pureA (i := 19) (N := some 89) #[true, true, true, true, true, true, true, true, true, true, true, true, true, true, true, true, true, true, true, true, false, false, false, false] ?_
                            refine pureA (i := 20) (N := some 90) #[true, true, true, true, true, true, true, true, true, true, true, true, true, true, true, true, true, true, true, true, true, false, false, false] ?_
                            refine last_ (i := 21) (N := none) #[true, true, true, true, true, true, true, true, true, true, true, true, true, true, true, true, true, true, true, true, true, true, false, false] rfl rfl (one_of HT_.out dq16) dq28 (fun K hK => ?_)
                            refine skip_ (w1 := ?_) dq29 rfl ?_ ?_
                            rotate_left
                            ·go_simp
                             rfl
                            refine hK.out _ _ ?_
                            clear hK K
                            refine pureA (i := 22) (N := some 91) #[true, true, true, true, true, true, true, true, true, true, true, true, true, true, true, true, true, true, true, true, true, true, true, false] ?_
                            refine last_ (i := 23) (N := none) #[true, true, true, true, true, true, true, true, true, true, true, true, true, true, true, true, true, true, true, true, true, true, true, true] rfl rfl (one_of HT_.out dq16) dq28 (fun K hK => ?_)
                            refine skip_ (w1 := ?_) dq29 rfl ?_ ?_
                            rotate_left
                            ·go_simp
                             rfl
                            refine hK.out _ _ ?_
                            clear hK K
                            refine done_ (done_of HT_.out dq16) ?_
                            have n0_ : Aside0 (Kd.R (Kd.int .i64) 2 ((w55.setCell ⟨go16, (x21_1 : Int).toNat, none⟩ (.int .i64 (rd y280 ((rd_T93 l0 x21_1).f3)))).setCell ⟨go18, (x21_1 : Int).toNat, none⟩ (.int .i64 (wrap64 ((rd y281 ((rd_T93 l0 x21_1).f3)) + (rd y281 ((rd_T93 l0 x21_1).f4)))))) w.heap.size (fun k_ => some k_ ≠ (.slice (some ⟨go18, 0, none⟩) y281.length co18 : Value).ownBlock) (.slice (some ⟨go16, 0, none⟩) y280.length co16) y288) := ⟨by (with_reducible repeat (first | apply Kd.R_alloc | apply Kd.R_drewN | apply Kd.R_drew)); exact Kd.R_mono (Kd.R_far (p := ⟨go18, (x21_1 : Int).toNat, none⟩) (Kd.R_mono HQ56.out (fun k_ hk => (⟨hk, fun e_ => hk dq70⟩ : _ ∧ k_ ≠ go18))) (fun _ hk => hk.2) (.int .i64 (wrap64 ((rd y281 ((rd_T93 l0 x21_1).f3)) + (rd y281 ((rd_T93 l0 x21_1).f4)))))) (fun _ hk => hk.1)⟩
                            have n1_ : Aside0 (Kd.R (Kd.int .i64) 2 ((w55.setCell ⟨go16, (x21_1 : Int).toNat, none⟩ (.int .i64 (rd y280 ((rd_T93 l0 x21_1).f3)))).setCell ⟨go18, (x21_1 : Int).toNat, none⟩ (.int .i64 (wrap64 ((rd y281 ((rd_T93 l0 x21_1).f3)) + (rd y281 ((rd_T93 l0 x21_1).f4)))))) w.heap.size (fun k_ => some k_ ≠ (.slice (some ⟨go16, 0, none⟩) y280.length co16 : Value).ownBlock) (.slice (some ⟨go18, 0, none⟩) y281.length co18) y289) := ⟨by (with_reducible repeat (first | apply Kd.R_alloc | apply Kd.R_drewN | apply Kd.R_drew)); exact Kd.R_mono HQ57.out (fun _ hk => hk.1)⟩
                            have n2_ : Aside0 (((w55.setCell ⟨go16, (x21_1 : Int).toNat, none⟩ (.int .i64 (rd y280 ((rd_T93 l0 x21_1).f3)))).setCell ⟨go18, (x21_1 : Int).toNat, none⟩ (.int .i64 (wrap64 ((rd y281 ((rd_T93 l0 x21_1).f3)) + (rd y281 ((rd_T93 l0 x21_1).f4)))))).heap[gb279]? = some (.cells #[.int .i64 ((rd_T93 l0 x21_1).f0), .bool ((rd_T93 l0 x21_1).f1), .slice A278_2 ((rd_T93 l0 x21_1).f2).length c278_2, .int .i64 ((rd_T93 l0 x21_1).f3), .int .i64 ((rd_T93 l0 x21_1).f4), .int .i64 ((rd_T93 l0 x21_1).f5), .int .i64 ((rd_T93 l0 x21_1).f6)] 93 (0, 0))) := ⟨dq92⟩
                            have n3_ : Aside0 (Below w.heap.size w ((w55.setCell ⟨go16, (x21_1 : Int).toNat, none⟩ (.int .i64 (rd y280 ((rd_T93 l0 x21_1).f3)))).setCell ⟨go18, (x21_1 : Int).toNat, none⟩ (.int .i64 (wrap64 ((rd y281 ((rd_T93 l0 x21_1).f3)) + (rd y281 ((rd_T93 l0 x21_1).f4))))))) := ⟨dq93⟩
                            (try clear HO_3)
                            (try clear HO_4)
                            (try clear BK279)
                            (try clear HB)
                            generalize ((w55.setCell ⟨go16, (x21_1 : Int).toNat, none⟩ (.int .i64 (rd y280 ((rd_T93 l0 x21_1).f3)))).setCell ⟨go18, (x21_1 : Int).toNat, none⟩ (.int .i64 (wrap64 ((rd y281 ((rd_T93 l0 x21_1).f3)) + (rd y281 ((rd_T93 l0 x21_1).f4)))))) = w58 at n0_ n1_ n2_ n3_ ⊢
                            have HO_3 := n0_
                            have HO_4 := n1_
                            have BK279 := n2_
                            have HB := n3_
                            clear n0_ n1_ n2_ n3_
                            have p51 : 0 ≤ (x21_1 : Int) := of_decide_eq_true dq21
                            have q51 : (x21_1 : Int) < ((y281.length : Int) : Int) := of_decide_eq_true dq21
                            replace p51 := eq_true p51
                            replace q51 := eq_true q51
                            have p53 : 0 ≤ (x21_1 : Int) := of_decide_eq_true dq21
                            have q53 : (x21_1 : Int) < ((y281.length : Int) : Int) := of_decide_eq_true dq21
                            replace p53 := eq_true p53
                            replace q53 := eq_true q53
                            obtain ⟨hy59_, hz59_⟩ := Kd.R_celln 0 HO_4.out (x21_1 : Int) (of_decide_eq_true dq21) (of_decide_eq_true dq21)
                            rw [rdOf_put Ny289.out (of_decide_eq_true dq21) (of_decide_eq_true dq21)] at hy59_
                            have HP59 := Kd.R_putg HO_4.out (x21_1 : Int) ji52
                            try go_wp2_with (first | ((with_reducible refine gate_store (t := 2) (p := 133) rfl ?_); refine store_event (t := 2) (p := 133) (v := ?vo_w60) (w1 := (w58.setCell ⟨go18, (x21_1 : Int).toNat, none⟩ (.int .i64 ji52))) ?hg ?ho ?hn ?hr ?_; (case ho => rfl); (case hg => rfl); (case hn => rfl); (case hr => exact dq0); intro w60 hw; have hg : w58.grownBy w60 (some go18) := (by rw [hw]; exact HP59.2); have hp_ : Kd.R (Kd.int .i64) 2 w60 w.heap.size (fun k_ => some k_ ≠ (.slice (some ⟨go16, 0, none⟩) y280.length co16 : Value).ownBlock) (.slice (some ⟨go18, 0, none⟩) y281.length co18) y291 := (by rw [hw, Ny291.out]; exact HP59.1); clear HP59; have n0_ := Aside0.mk (Kd.R_after (v := (.slice (some ⟨go18, 0, none⟩) y281.length co18)) (v1 := (.slice (some ⟨go18, 0, none⟩) y281.length co18)) (ok := (fun _ => True)) dq85 hg (.inl rfl)); have n1_ := Aside0.mk (hp_); have n2_ := Aside0.mk (blk_grown (g := gb279) (o := .cells #[.int .i64 ((rd_T93 l0 x21_1).f0), .bool ((rd_T93 l0 x21_1).f1), .slice A278_2 ((rd_T93 l0 x21_1).f2).length c278_2, .int .i64 ((rd_T93 l0 x21_1).f3), .int .i64 ((rd_T93 l0 x21_1).f4), .int .i64 ((rd_T93 l0 x21_1).f5), .int .i64 ((rd_T93 l0 x21_1).f6)] 93 (0, 0)) dq83 hg (Kd.R_ne HO_4.out BK279.out dq28)); have n3_ := Aside0.mk ((dq84 : Below w.heap.size w w60)); clear HO_3; clear HO_4; clear BK279; clear HB; have HO_3 := n0_; have HO_4 := n1_; have BK279 := n2_; have HB := n3_; clear n0_ n1_ n2_ n3_; clear hg hw hp_))
                            (try simp only [← hl3_20, ← hl4_20])
                            go_roundg kj20
                            case measure => have := HK1.out; have := HJ20.out; omega
                            case rel => exact ⟨(y288), (y291), (wrap64 (x21_1 + 1)), dq14, H', ⟨by have := HK1.out; have := HJ20.out; omega⟩, ⟨dq95⟩, ⟨dq94⟩, ⟨dq82⟩⟩
                           ·rw [if_neg c49] at H
                            exact absurd H dq23
                          ·rw [if_neg c47] at H
                           exact absurd H dq23
                         ·rw [if_neg c46] at H
                          exact absurd H dq23
                        ·rw [if_neg c45] at H
                         exact absurd H dq23
                       ·rw [if_neg c44] at H
                        exact absurd H dq23
                      ·rw [if_neg c43] at H
                       exact absurd H dq23
                     ·rw [if_neg c42] at H
                      exact absurd H dq23
                    ·rw [if_neg c41] at H
                     have c41b0 := beq_eq_false_iff_ne.mpr c41
                     have c41b1 := bne_iff_ne.mpr c41
                     obtain rfl := Option.some.inj H
                     try go_wp2
                     have n0_ := Aside0.mk (Kd.R_drew HO_3.out)
                     have n1_ := Aside0.mk (Kd.R_drew HO_4.out)
                     have n2_ := Aside0.mk (blk_drew BK279.out)
                     have n3_ := Aside0.mk (below_drew1 HB.out)
                     clear HO_3
                     clear HO_4
                     clear BK279
                     clear HB
                     have HO_3 := n0_
                     have HO_4 := n1_
                     have BK279 := n2_
                     have HB := n3_
                     clear n0_ n1_ n2_ n3_
                     have p283 : 0 ≤ (((rd_T93 l0 x21_1).f4) : Int) := of_decide_eq_true dq21
                     have q283 : ((rd_T93 l0 x21_1).f4) < (y280.length : Int) := of_decide_eq_true dq21
                     obtain ⟨ad283, e283, hx283_0⟩ := Kd.at_int (Kd.R_reads' HO_3.out).2.2 ((rd_T93 l0 x21_1).f4) p283 q283
                     obtain rfl : (⟨go16, 0, none⟩ : Addr) = ad283 := (by injection e283)
                     (first | simp only [add_plain] at hx283_0 | simp only [add_at] at hx283_0 | simp only [Addr.add, Nat.zero_add] at hx283_0 | skip)
                     replace p283 := eq_true p283
                     replace q283 := eq_true q283
                     have p284 : 0 ≤ (((rd_T93 l0 x21_1).f4) : Int) := of_decide_eq_true dq21
                     have q284 : ((rd_T93 l0 x21_1).f4) < (y280.length : Int) := of_decide_eq_true dq21
                     obtain ⟨ad284, e284, hx284_0⟩ := Kd.at_int (Kd.R_reads' HO_3.out).2.2 ((rd_T93 l0 x21_1).f4) p284 q284
                     obtain rfl : (⟨go16, 0, none⟩ : Addr) = ad284 := (by injection e284)
                     (first | simp only [add_plain] at hx284_0 | simp only [add_at] at hx284_0 | simp only [Addr.add, Nat.zero_add] at hx284_0 | skip)
                     replace p284 := eq_true p284
                     replace q284 := eq_true q284
                     refine start_ (n := 28) (S := fun w' => w'.cell? ⟨gb279, 0, none⟩ = some (.int .i64 ((rd_T93 l0 x21_1).f0)) ∧ w'.cell? ⟨gb279, 1, none⟩ = some (.bool ((rd_T93 l0 x21_1).f1)) ∧ w'.cell? ⟨gb279, 2, none⟩ = some (.slice A278_2 ((rd_T93 l0 x21_1).f2).length c278_2) ∧ w'.cell? ⟨gb279, 3, none⟩ = some (.int .i64 ((rd_T93 l0 x21_1).f3)) ∧ w'.cell? ⟨gb279, 4, none⟩ = some (.int .i64 ((rd_T93 l0 x21_1).f4)) ∧ w'.cell? ⟨gb279, 5, none⟩ = some (.int .i64 ((rd_T93 l0 x21_1).f5)) ∧ w'.cell? ⟨gb279, 6, none⟩ = some (.int .i64 ((rd_T93 l0 x21_1).f6)) ∧ w'.cell? ⟨go16, (((rd_T93 l0 x21_1).f4)).toNat, none⟩ = some (.int .i64 (rd y280 ((rd_T93 l0 x21_1).f4))) ∧ w'.cell? ⟨go16, (((rd_T93 l0 x21_1).f4)).toNat, none⟩ = some (.int .i64 (rd y280 ((rd_T93 l0 x21_1).f4)))) (ds := []) #[false, false, false, false, false, false, false, false, false, false, false, false, false, false, false, false, false, false, false, false, false, false, false, false, false, false, false, false] dq16 rfl rfl ⟨(blk_cell BK279.out 0).trans rfl, (blk_cell BK279.out 1).trans rfl, (blk_cell BK279.out 2).trans rfl, (blk_cell BK279.out 3).trans rfl, (blk_cell BK279.out 4).trans rfl, (blk_cell BK279.out 5).trans rfl, (blk_cell BK279.out 6).trans rfl, hx283_0, hx284_0⟩ (fun hHeld => ?_); refine with_tabW impl_RegexOk.tab14 impl_RegexOk.bits14 (fun HT_ HW_ => ?_)
                     generalize wc.drew = w61 at HO_3 HO_4 BK279 HB hx283_0 hx284_0 hHeld ⊢
                     refine pureA (i := 0) (N := some 42) #[true, false, false, false, false, false, false, false, false, false, false, false, false, false, false, false, false, false, false, false, false, false, false, false, false, false, false, false] ?_
                     refine pureA (i := 1) (N := some 43) #[true, true, false, false, false, false, false, false, false, false, false, false, false, false, false, false, false, false, false, false, false, false, false, false, false, false, false, false] ?_
                     refine pureA (i := 2) (N := some 44) #[true, true, true, false, false, false, false, false, false, false, false, false, false, false, false, false, false, false, false, false, false, false, false, false, false, false, false, false] ?_
                     refine pureA (i := 3) (N := some 45) #[true, true, true, true, false, false, false, false, false, false, false, false, false, false, false, false, false, false, false, false, false, false, false, false, false, false, false, false] ?_
                     refine pureA (i := 5) (N := some 47) #[true, true, true, true, false, true, false, false, false, false, false, false, false, false, false, false, false, false, false, false, false, false, false, false, false, false, false, false] ?_
                     refine pureA (i := 6) (N := some 48) #[true, true, true, true, false, true, true, false, false, false, false, false, false, false, false, false, false, false, false, false, false, false, false, false, false, false, false, false] ?_
                     refine takeA9 (i := 4) (N := some 46) #[true, true, true, true, true, true, true, false, false, false, false, false, false, false, false, false, false, false, false, false, false, false, false, false, false, false, false, false] ?_
                     refine pureA (i := 7) (N := some 49) #[true, true, true, true, true, true, true, true, false, false, false, false, false, false, false, false, false, false, false, false, false, false, false, false, false, false, false, false] ?_
                     refine pureA (i := 8) (N := some 50) #[true, true, true, true, true, true, true, true, true, false, false, false, false, false, false, false, false, false, false, false, false, false, false, false, false, false, false, false] ?_
                     refine pureA (i := 9) (N := some 51) #[true, true, true, true, true, true, true, true, true, true, false, false, false, false, false, false, false, false, false, false, false, false, false, false, false, false, false, false] ?_
                     refine pureA (i := 10) (N := some 52) #[true, true, true, true, true, true, true, true, true, true, true, false, false, false, false, false, false, false, false, false, false, false, false, false, false, false, false, false] ?_
                     refine pureA (i := 11) (N := some 53) #[true, true, true, true, true, true, true, true, true, true, true, true, false, false, false, false, false, false, false, false, false, false, false, false, false, false, false, false] ?_
                     refine takeA9 (i := 12) (N := some 54) #[true, true, true, true, true, true, true, true, true, true, true, true, true, false, false, false, false, false, false, false, false, false, false, false, false, false, false, false] ?_
                     refine pureA (i := 13) (N := some 55) #[true, true, true, true, true, true, true, true, true, true, true, true, true, true, false, false, false, false, false, false, false, false, false, false, false, false, false, false] ?_
                     refine takeA9 (i := 14) (N := some 56) #[true, true, true, true, true, true, true, true, true, true, true, true, true, true, true, false, false, false, false, false, false, false, false, false, false, false, false, false] ?_
                     refine pureA (i := 15) (N := some 57) #[true, true, true, true, true, true, true, true, true, true, true, true, true, true, true, true, false, false, false, false, false, false, false, false, false, false, false, false] ?_
                     refine pureA (i := 16) (N := some 58) #[true, true, true, true, true, true, true, true, true, true, true, true, true, true, true, true, true, false, false, false, false, false, false, false, false, false, false, false] ?_
                     refine pureA (i := 17) (N := some 59) #[true, true, true, true, true, true, true, true, true, true, true, true, true, true, true, true, true, true, false, false, false, false, false, false, false, false, false, false] ?_
                     refine pureA (i := 18) (N := some 60) #[true, true, true, true, true, true, true, true, true, true, true, true, true, true, true, true, true, true, true, false, false, false, false, false, false, false, false, false] ?_
                     refine pureA (i := 20) (N := some 62) #[true, true, true, true, true, true, true, true, true, true, true, true, true, true, true, true, true, true, true, false, true, false, false, false, false, false, false, false] ?_
                     refine pureA (i := 21) (N := some 63) #[true, true, true, true, true, true, true, true, true, true, true, true, true, true, true, true, true, true, true, false, true, true, false, false, false, false, false, false] ?_
                     refine takeA9 (i := 19) (N := some 61) #[true, true, true, true, true, true, true, true, true, true, true, true, true, true, true, true, true, true, true, true, true, true, false, false, false, false, false, false] ?_
                     refine takeA9 (i := 22) (N := some 64) #[true, true, true, true, true, true, true, true, true, true, true, true, true, true, true, true, true, true, true, true, true, true, true, false, false, false, false, false] ?_
                     refine pureA (i := 23) (N := some 65) #[true, true, true, true, true, true, true, true, true, true, true, true, true, true, true, true, true, true, true, true, true, true, true, true, false, false, false, false] ?_
                     refine takeA9 (i := 24) (N := some 66) #[true, true, true, true, true, true, true, true, true, true, true, true, true, true, true, true, true, true, true, true, true, true, true, true, true, false, false, false] ?_
                     refine pureA (i := 25) (N := some 67) #[true, true, true, true, true, true, true, true, true, true, true, true, true, true, true, true, true, true, true, true, true, true, true, true, true, true, false, false] ?_
                     refine pureA (i := 26) (N := some 68) #[true, true, true, true, true, true, true, true, true, true, true, true, true, true, true, true, true, true, true, true, true, true, true, true, true, true, true, false] ?_
                     refine pureA (i := 27) (N := some 69) #[true, true, true, true, true, true, true, true, true, true, true, true, true, true, true, true, true, true, true, true, true, true, true, true, true, true, true, true] ?_
                     refine done_ (done_of HT_.out dq16) ?_
                     try go_wp2
                     go_ret
                     exact ⟨dq20, dq82⟩
                  ·rw [if_neg c38] at H
                   exact absurd H dq23
                 ·rw [if_neg c37] at H
                  exact absurd H dq23
                ·rw [if_neg c36] at H
                 have c36b0 := beq_eq_false_iff_ne.mpr c36
                 have c36b1 := bne_iff_ne.mpr c36
                 obtain rfl := Option.some.inj H
                 try go_wp2
                 have n0_ := Aside0.mk (Kd.R_drew HO_3.out)
                 have n1_ := Aside0.mk (Kd.R_drew HO_4.out)
                 have n2_ := Aside0.mk (blk_drew BK279.out)
                 have n3_ := Aside0.mk (below_drew1 HB.out)
                 clear HO_3
                 clear HO_4
                 clear BK279
                 clear HB
                 have HO_3 := n0_
                 have HO_4 := n1_
                 have BK279 := n2_
                 have HB := n3_
                 clear n0_ n1_ n2_ n3_
                 refine start_ (n := 28) (S := fun w' => w'.cell? ⟨gb279, 0, none⟩ = some (.int .i64 ((rd_T93 l0 x21_1).f0)) ∧ w'.cell? ⟨gb279, 1, none⟩ = some (.bool ((rd_T93 l0 x21_1).f1)) ∧ w'.cell? ⟨gb279, 2, none⟩ = some (.slice A278_2 ((rd_T93 l0 x21_1).f2).length c278_2) ∧ w'.cell? ⟨gb279, 3, none⟩ = some (.int .i64 ((rd_T93 l0 x21_1).f3)) ∧ w'.cell? ⟨gb279, 4, none⟩ = some (.int .i64 ((rd_T93 l0 x21_1).f4)) ∧ w'.cell? ⟨gb279, 5, none⟩ = some (.int .i64 ((rd_T93 l0 x21_1).f5)) ∧ w'.cell? ⟨gb279, 6, none⟩ = some (.int .i64 ((rd_T93 l0 x21_1).f6))) (ds := []) #[false, false, false, false, false, false, false, false, false, false, false, false, false, false, false, false, false, false, false, false, false, false, false, false, false, false, false, false] dq16 rfl rfl ⟨(blk_cell BK279.out 0).trans rfl, (blk_cell BK279.out 1).trans rfl, (blk_cell BK279.out 2).trans rfl, (blk_cell BK279.out 3).trans rfl, (blk_cell BK279.out 4).trans rfl, (blk_cell BK279.out 5).trans rfl, (blk_cell BK279.out 6).trans rfl⟩ (fun hHeld => ?_); refine with_tabW impl_RegexOk.tab14 impl_RegexOk.bits14 (fun HT_ HW_ => ?_)
                 generalize wc.drew = w62 at HO_3 HO_4 BK279 HB hHeld ⊢
                 refine pureA (i := 0) (N := some 42) #[true, false, false, false, false, false, false, false, false, false, false, false, false, false, false, false, false, false, false, false, false, false, false, false, false, false, false, false] ?_
                 refine pureA (i := 1) (N := some 43) #[true, true, false, false, false, false, false, false, false, false, false, false, false, false, false, false, false, false, false, false, false, false, false, false, false, false, false, false] ?_
                 refine pureA (i := 2) (N := some 44) #[true, true, true, false, false, false, false, false, false, false, false, false, false, false, false, false, false, false, false, false, false, false, false, false, false, false, false, false] ?_
                 refine pureA (i := 3) (N := some 45) #[true, true, true, true, false, false, false, false, false, false, false, false, false, false, false, false, false, false, false, false, false, false, false, false, false, false, false, false] ?_
                 refine pureA (i := 5) (N := some 47) #[true, true, true, true, false, true, false, false, false, false, false, false, false, false, false, false, false, false, false, false, false, false, false, false, false, false, false, false] ?_
                 refine pureA (i := 6) (N := some 48) #[true, true, true, true, false, true, true, false, false, false, false, false, false, false, false, false, false, false, false, false, false, false, false, false, false, false, false, false] ?_
                 refine takeA7 (i := 4) (N := some 46) #[true, true, true, true, true, true, true, false, false, false, false, false, false, false, false, false, false, false, false, false, false, false, false, false, false, false, false, false] ?_
                 refine pureA (i := 7) (N := some 49) #[true, true, true, true, true, true, true, true, false, false, false, false, false, false, false, false, false, false, false, false, false, false, false, false, false, false, false, false] ?_
                 refine pureA (i := 8) (N := some 50) #[true, true, true, true, true, true, true, true, true, false, false, false, false, false, false, false, false, false, false, false, false, false, false, false, false, false, false, false] ?_
                 refine pureA (i := 9) (N := some 51) #[true, true, true, true, true, true, true, true, true, true, false, false, false, false, false, false, false, false, false, false, false, false, false, false, false, false, false, false] ?_
                 refine pure_ (i := 10) (N := some 52) (v := undef) (a' := ?_) #[true, true, true, true, true, true, true, true, true, true, true, false, false, false, false, false, false, false, false, false, false, false, false, false, false, false, false, false] rfl rfl (any_of HT_.out dq16) (fun _ _ _ h => h) (Or.inr ⟨dq29, rfl⟩) ?_ ?_
                 rotate_left
                 ·exact dAct
                 refine pure_ (i := 11) (N := some 53) (v := undef) (a' := ?_) #[true, true, true, true, true, true, true, true, true, true, true, true, false, false, false, false, false, false, false, false, false, false, false, false, false, false, false, false] rfl rfl (any_of HT_.out dq16) (fun _ _ _ h => h) (Or.inr ⟨dq29, rfl⟩) ?_ ?_
                 rotate_left
                 ·exact dAct
                 refine pure_ (i := 12) (N := some 54) (v := undef) (a' := ?_) #[true, true, true, true, true, true, true, true, true, true, true, true, true, false, false, false, false, false, false, false, false, false, false, false, false, false, false, false] rfl rfl (any_of HT_.out dq16) (fun _ _ _ h => h) (Or.inr ⟨dq29, rfl⟩) ?_ ?_
                 rotate_left
                 ·exact dAct
                 refine pure_ (i := 13) (N := some 55) (v := undef) (a' := ?_) #[true, true, true, true, true, true, true, true, true, true, true, true, true, true, false, false, false, false, false, false, false, false, false, false, false, false, false, false] rfl rfl (any_of HT_.out dq16) (fun _ _ _ h => h) (Or.inr ⟨dq29, rfl⟩) ?_ ?_
                 rotate_left
                 ·exact dAct
                 refine pure_ (i := 14) (N := some 56) (v := undef) (a' := ?_) #[true, true, true, true, true, true, true, true, true, true, true, true, true, true, true, false, false, false, false, false, false, false, false, false, false, false, false, false] rfl rfl (any_of HT_.out dq16) (fun _ _ _ h => h) (Or.inr ⟨dq29, rfl⟩) ?_ ?_
                 rotate_left
                 ·exact dAct
                 refine pure_ (i := 15) (N := some 57) (v := undef) (a' := ?_) #[true, true, true, true, true, true, true, true, true, true, true, true, true, true, true, true, false, false, false, false, false, false, false, false, false, false, false, false] rfl rfl (any_of HT_.out dq16) (fun _ _ _ h => h) (Or.inr ⟨dq29, rfl⟩) ?_ ?_
                 rotate_left
                 ·exact dAct
                 refine pureA (i := 16) (N := some 58) #[true, true, true, true, true, true, true, true, true, true, true, true, true, true, true, true, true, false, false, false, false, false, false, false, false, false, false, false] ?_
                 refine pureA (i := 17) (N := some 59) #[true, true, true, true, true, true, true, true, true, true, true, true, true, true, true, true, true, true, false, false, false, false, false, false, false, false, false, false] ?_
                 refine pure_ (i := 18) (N := some 60) (v := undef) (a' := ?_) #[true, true, true, true, true, true, true, true, true, true, true, true, true, true, true, true, true, true, true, false, false, false, false, false, false, false, false, false] rfl rfl (any_of HT_.out dq16) (fun _ _ _ h => h) (Or.inr ⟨dq29, rfl⟩) ?_ ?_
                 rotate_left
                 ·exact dAct
                 refine pure_ (i := 19) (N := some 61) (v := undef) (a' := ?_) #[true, true, true, true, true, true, true, true, true, true, true, true, true, true, true, true, true, true, true, true, false, false, false, false, false, false, false, false] rfl rfl (any_of HT_.out dq16) (fun _ _ _ h => h) (Or.inr ⟨dq29, rfl⟩) ?_ ?_
                 rotate_left
                 ·exact dAct
                 refine pure_ (i := 20) (N := some 62) (v := undef) (a' := ?_) #[true, true, true, true, true, true, true, true, true, true, true, true, true, true, true, true, true, true, true, true, true, false, false, false, false, false, false, false] rfl rfl (any_of HT_.out dq16) (fun _ _ _ h => h) (Or.inr ⟨dq29, rfl⟩) ?_ ?_
                 rotate_left
                 ·exact dAct
                 refine pure_ (i := 21) (N := some 63) (v := undef) (a' := ?_) #[true, true, true, true, true, true, true, true, true, true, true, true, true, true, true, true, true, true, true, true, true, true, false, false, false, false, false, false] rfl rfl (any_of HT_.out dq16) (fun _ _ _ h => h) (Or.inr ⟨dq29, rfl⟩) ?_ ?_
                 rotate_left
                 ·exact dAct
                 refine pure_ (i := 22) (N := some 64) (v := undef) (a' := ?_) #[true, true, true, true, true, true, true, true, true, true, true, true, true, true, true, true, true, true, true, true, true, true, true, false, false, false, false, false] rfl rfl (any_of HT_.out dq16) (fun _ _ _ h => h) (Or.inr ⟨dq29, rfl⟩) ?_ ?_
                 rotate_left
                 ·exact dAct
                 refine pure_ (i := 23) (N := some 65) (v := undef) (a' := ?_) #[true, true, true, true, true, true, true, true, true, true, true, true, true, true, true, true, true, true, true, true, true, true, true, true, false, false, false, false] rfl rfl (any_of HT_.out dq16) (fun _ _ _ h => h) (Or.inr ⟨dq29, rfl⟩) ?_ ?_
                 rotate_left
                 ·exact dAct
                 refine pure_ (i := 24) (N := some 66) (v := undef) (a' := ?_) #[true, true, true, true, true, true, true, true, true, true, true, true, true, true, true, true, true, true, true, true, true, true, true, true, true, false, false, false] rfl rfl (any_of HT_.out dq16) (fun _ _ _ h => h) (Or.inr ⟨dq29, rfl⟩) ?_ ?_
                 rotate_left
                 ·exact dAct
                 refine pure_ (i := 25) (N := some 67) (v := undef) (a' := ?_) #[true, true, true, true, true, true, true, true, true, true, true, true, true, true, true, true, true, true, true, true, true, true, true, true, true, true, false, false] rfl rfl (any_of HT_.out dq16) (fun _ _ _ h => h) (Or.inr ⟨dq29, rfl⟩) ?_ ?_
                 rotate_left
                 ·exact dAct
                 refine pure_ (i := 26) (N := some 68) (v := undef) (a' := ?_) #[true, true, true, true, true, true, true, true, true, true, true, true, true, true, true, true, true, true, true, true, true, true, true, true, true, true, true, false] rfl rfl (any_of HT_.out dq16) (fun _ _ _ h => h) (Or.inr ⟨dq29, rfl⟩) ?_ ?_
                 rotate_left
                 ·exact dAct
                 refine pureA (i := 27) (N := some 69) #[true, true, true, true, true, true, true, true, true, true, true, true, true, true, true, true, true, true, true, true, true, true, true, true, true, true, true, true] ?_
                 refine done_ (done_of HT_.out dq16) ?_
                 try go_wp2
                 go_ret
                 exact ⟨dq20, dq82⟩
              ·replace c33 := Bool.eq_false_iff.mpr c33
               subst c33
               have H1 : (if ((rd_T93 l0 x21_1).f0) = 5 then (if x21_1 = 0 then (some false) else (if ((rd_T93 l0 x21_1).f3) = (wrap64 (x21_1 - 1)) then (if 0 ≤ ((rd_T93 l0 x21_1).f3) then (if ((rd_T93 l0 x21_1).f3) < (y280.length : Int) then (if ((rd_T93 l0 x21_1).f3) < (y281.length : Int) then (if 0 ≤ x21_1 then (if x21_1 < (y280.length : Int) then (if x21_1 < (y281.length : Int) then (impl_RegexOk.l0 kj20 l0 (y280.set (x21_1 : Int).toNat (rd y280 ((rd_T93 l0 x21_1).f3))) ((y281.set (x21_1 : Int).toNat (wrap64 ((rd y281 ((rd_T93 l0 x21_1).f3)) * (mx (mx 1 (wrap64 (((rd_T93 l0 x21_1).f5) + 1))) ((rd_T93 l0 x21_1).f6))))).set (x21_1 : Int).toNat (mn (wrap64 ((rd y281 ((rd_T93 l0 x21_1).f3)) * (mx (mx 1 (wrap64 (((rd_T93 l0 x21_1).f5) + 1))) ((rd_T93 l0 x21_1).f6)))) 2001)) l0 (l0.length : Int) (wrap64 (x21_1 + 1))) else (none)) else (none)) else (none)) else (none)) else (none)) else (none)) else (some false))) else (if 0 ≤ x21_1 then (if x21_1 < (y281.length : Int) then (impl_RegexOk.l0 kj20 l0 y280 (y281.set (x21_1 : Int).toNat (mn (rd y281 x21_1) 2001)) l0 (l0.length : Int) (wrap64 (x21_1 + 1))) else (none)) else (none))) = some r := by rw [if_neg (show ¬ (false = true) by decide)] at H; exact H
               clear H
               have H := H1
               clear H1
               by_cases c63 : ((rd_T93 l0 x21_1).f0) = 5
               ·rw [if_pos c63] at H
                have c63b0 := beq_iff_eq.mpr c63
                have c63b1 := bne_eq_false_iff_eq.mpr c63
                clear c63
                by_cases c64 : x21_1 = 0
                ·rw [if_pos c64] at H
                 have c64b0 := beq_iff_eq.mpr c64
                 have c64b1 := bne_eq_false_iff_eq.mpr c64
                 clear c64
                 obtain rfl := Option.some.inj H
                 go_wp2
                 go_ret
                 exact ⟨dq20, dq82⟩
                ·rw [if_neg c64] at H
                 have c64b0 := beq_eq_false_iff_ne.mpr c64
                 have c64b1 := bne_iff_ne.mpr c64
                 by_cases c65 : ((rd_T93 l0 x21_1).f3) = (wrap64 (x21_1 - 1))
                 ·rw [if_pos c65] at H
                  have c65b0 := beq_iff_eq.mpr c65
                  have c65b1 := bne_eq_false_iff_eq.mpr c65
                  clear c65
                  by_cases c66 : 0 ≤ ((rd_T93 l0 x21_1).f3)
                  ·rw [if_pos c66] at H
                   have c66b0 := decide_eq_true c66
                   clear c66
                   by_cases c67 : ((rd_T93 l0 x21_1).f3) < (y280.length : Int)
                   ·rw [if_pos c67] at H
                    have c67b0 := decide_eq_true c67
                    clear c67
                    by_cases c68 : ((rd_T93 l0 x21_1).f3) < (y281.length : Int)
                    ·rw [if_pos c68] at H
                     have c68b0 := decide_eq_true c68
                     clear c68
                     obtain ⟨ji69, hji69⟩ : ∃ j_ : Int, (mx 1 (wrap64 (((rd_T93 l0 x21_1).f5) + 1))) = j_ := ⟨_, rfl⟩
                     replace H : (if 0 ≤ x21_1 then (if x21_1 < (y280.length : Int) then (if x21_1 < (y281.length : Int) then (impl_RegexOk.l0 kj20 l0 (y280.set (x21_1 : Int).toNat (rd y280 ((rd_T93 l0 x21_1).f3))) ((y281.set (x21_1 : Int).toNat (wrap64 ((rd y281 ((rd_T93 l0 x21_1).f3)) * (mx (ji69) ((rd_T93 l0 x21_1).f6))))).set (x21_1 : Int).toNat (mn (wrap64 ((rd y281 ((rd_T93 l0 x21_1).f3)) * (mx (ji69) ((rd_T93 l0 x21_1).f6)))) 2001)) l0 (l0.length : Int) (wrap64 (x21_1 + 1))) else (none)) else (none)) else (none)) = some r := by first | (rw [hji69] at H; exact H) | (simp only [hji69] at H ⊢; exact H)
                     have hji69_ : (if 1 < (wrap64 (((rd_T93 l0 x21_1).f5) + 1)) then (wrap64 (((rd_T93 l0 x21_1).f5) + 1)) else 1) = ji69 := hji69
                     obtain ⟨ji70, hji70⟩ : ∃ j_ : Int, (mx (ji69) ((rd_T93 l0 x21_1).f6)) = j_ := ⟨_, rfl⟩
                     replace H : (if 0 ≤ x21_1 then (if x21_1 < (y280.length : Int) then (if x21_1 < (y281.length : Int) then (impl_RegexOk.l0 kj20 l0 (y280.set (x21_1 : Int).toNat (rd y280 ((rd_T93 l0 x21_1).f3))) ((y281.set (x21_1 : Int).toNat (wrap64 ((rd y281 ((rd_T93 l0 x21_1).f3)) * (ji70)))).set (x21_1 : Int).toNat (mn (wrap64 ((rd y281 ((rd_T93 l0 x21_1).f3)) * (ji70))) 2001)) l0 (l0.length : Int) (wrap64 (x21_1 + 1))) else (none)) else (none)) else (none)) = some r := by first | (rw [hji70] at H; exact H) | (simp only [hji70] at H ⊢; exact H)
                     have hji70_ : (if (ji69) < ((rd_T93 l0 x21_1).f6) then ((rd_T93 l0 x21_1).f6) else (ji69)) = ji70 := hji70
                     by_cases c71 : 0 ≤ x21_1
                     ·rw [if_pos c71] at H
                      have c71b0 := decide_eq_true c71
                      clear c71
                      by_cases c72 : x21_1 < (y280.length : Int)
                      ·rw [if_pos c72] at H
                       have c72b0 := decide_eq_true c72
                       clear c72
                       obtain ⟨y294, hy294⟩ : ∃ y_ : List Int, y_ = (y280.set (x21_1 : Int).toNat (rd y280 ((rd_T93 l0 x21_1).f3))) := ⟨_, rfl⟩
                       replace H : (if x21_1 < (y281.length : Int) then (impl_RegexOk.l0 kj20 l0 y294 ((y281.set (x21_1 : Int).toNat (wrap64 ((rd y281 ((rd_T93 l0 x21_1).f3)) * (ji70)))).set (x21_1 : Int).toNat (mn (wrap64 ((rd y281 ((rd_T93 l0 x21_1).f3)) * (ji70))) 2001)) l0 (l0.length : Int) (wrap64 (x21_1 + 1))) else (none)) = some r := by first | (rw [hy294]; with_reducible exact H) | (have H2_ := (Option.bind_some _ _).symm.trans H; rw [hy294]; with_reducible exact H2_) | (have H2_ := (Option.bind_some _ _).symm.trans H; with_reducible exact H2_) | with_reducible exact H | (rw [hy294]; exact H) | exact H
                       have Ny294 := Aside0.mk hy294
                       clear hy294
                       by_cases c74 : x21_1 < (y281.length : Int)
                       ·rw [if_pos c74] at H
                        have c74b0 := decide_eq_true c74
                        clear c74
                        obtain ⟨y295, hy295⟩ : ∃ y_ : List Int, y_ = (y281.set (x21_1 : Int).toNat (wrap64 ((rd y281 ((rd_T93 l0 x21_1).f3)) * (ji70)))) := ⟨_, rfl⟩
                        replace H : (impl_RegexOk.l0 kj20 l0 y294 (y295.set (x21_1 : Int).toNat (mn (wrap64 ((rd y281 ((rd_T93 l0 x21_1).f3)) * (ji70))) 2001)) l0 (l0.length : Int) (wrap64 (x21_1 + 1))) = some r := by first | (rw [hy295]; with_reducible exact H) | (have H2_ := (Option.bind_some _ _).symm.trans H; rw [hy295]; with_reducible exact H2_) | (have H2_ := (Option.bind_some _ _).symm.trans H; with_reducible exact H2_) | with_reducible exact H | (rw [hy295]; exact H) | exact H
                        have Ny295 := Aside0.mk hy295
                        clear hy295
                        obtain ⟨ji77, hji77⟩ : ∃ j_ : Int, (mn (wrap64 ((rd y281 ((rd_T93 l0 x21_1).f3)) * (ji70))) 2001) = j_ := ⟨_, rfl⟩
                        replace H : (impl_RegexOk.l0 kj20 l0 y294 (y295.set (x21_1 : Int).toNat (ji77)) l0 (l0.length : Int) (wrap64 (x21_1 + 1))) = some r := by first | (rw [hji77] at H; exact H) | (simp only [hji77] at H ⊢; exact H)
                        have hji77_ : (if 2001 < (wrap64 ((rd y281 ((rd_T93 l0 x21_1).f3)) * (ji70))) then 2001 else (wrap64 ((rd y281 ((rd_T93 l0 x21_1).f3)) * (ji70)))) = ji77 := hji77
                        obtain ⟨y297, hy297⟩ : ∃ y_ : List Int, y_ = (y295.set (x21_1 : Int).toNat (ji77)) := ⟨_, rfl⟩
                        replace H : (impl_RegexOk.l0 kj20 l0 y294 y297 l0 (l0.length : Int) (wrap64 (x21_1 + 1))) = some r := by first | (rw [hy297]; with_reducible exact H) | (have H2_ := (Option.bind_some _ _).symm.trans H; rw [hy297]; with_reducible exact H2_) | (have H2_ := (Option.bind_some _ _).symm.trans H; with_reducible exact H2_) | with_reducible exact H | (rw [hy297]; exact H) | exact H
                        have Ny297 := Aside0.mk hy297
                        clear hy297
                        have H' := Aside0.mk H
                        clear H
                        obtain ⟨⟨hcz79_0, hcz79_1, hcz79_2, hcz79_3, hcz79_4, hcz79_5, hcz79_6⟩, hfz79_0, hfz79_1, hfz79_2, hfz79_3, hfz79_4, hfz79_5, hfz79_6⟩ := blkC7 BK279.out
                        try go_wp2
                        have n0_ := Aside0.mk (Kd.R_drew HO_3.out)
                        have n1_ := Aside0.mk (Kd.R_drew HO_4.out)
                        have n2_ := Aside0.mk (blk_drew BK279.out)
                        have n3_ := Aside0.mk (below_drew1 HB.out)
                        clear HO_3
                        clear HO_4
                        clear BK279
                        clear HB
                        have HO_3 := n0_
                        have HO_4 := n1_
                        have BK279 := n2_
                        have HB := n3_
                        clear n0_ n1_ n2_ n3_
                        have p292 : 0 ≤ (((rd_T93 l0 x21_1).f3) : Int) := of_decide_eq_true dq21
                        have q292 : ((rd_T93 l0 x21_1).f3) < (y280.length : Int) := of_decide_eq_true dq21
                        obtain ⟨ad292, e292, hx292_0⟩ := Kd.at_int (Kd.R_reads' HO_3.out).2.2 ((rd_T93 l0 x21_1).f3) p292 q292
                        obtain rfl : (⟨go16, 0, none⟩ : Addr) = ad292 := (by injection e292)
                        (first | simp only [add_plain] at hx292_0 | simp only [add_at] at hx292_0 | simp only [Addr.add, Nat.zero_add] at hx292_0 | skip)
                        replace p292 := eq_true p292
                        replace q292 := eq_true q292
                        have p293 : 0 ≤ (((rd_T93 l0 x21_1).f3) : Int) := of_decide_eq_true dq21
                        have q293 : ((rd_T93 l0 x21_1).f3) < (y281.length : Int) := of_decide_eq_true dq21
                        obtain ⟨ad293, e293, hx293_0⟩ := Kd.at_int (Kd.R_reads' HO_4.out).2.2 ((rd_T93 l0 x21_1).f3) p293 q293
                        obtain rfl : (⟨go18, 0, none⟩ : Addr) = ad293 := (by injection e293)
                        (first | simp only [add_plain] at hx293_0 | simp only [add_at] at hx293_0 | simp only [Addr.add, Nat.zero_add] at hx293_0 | skip)
                        replace p293 := eq_true p293
                        replace q293 := eq_true q293
                        have p73 : 0 ≤ (x21_1 : Int) := of_decide_eq_true dq21
                        have q73 : (x21_1 : Int) < ((y280.length : Int) : Int) := of_decide_eq_true dq21
                        obtain ⟨hx73_0, hf73_0⟩ := Kd.R_celln 0 HO_3.out (x21_1 : Int) p73 q73
                        replace p73 := eq_true p73
                        replace q73 := eq_true q73
                        have HP81 := Kd.R_putn HO_3.out (x21_1 : Int) (rd y280 ((rd_T93 l0 x21_1).f3))
                        rw [← Ny294.out] at HP81
                        have HQ81 := Aside0.mk HP81
                        clear HP81
                        have p75 : 0 ≤ (x21_1 : Int) := of_decide_eq_true dq21
                        have q75 : (x21_1 : Int) < ((y281.length : Int) : Int) := of_decide_eq_true dq21
                        obtain ⟨hx75_0, hf75_0⟩ := Kd.R_celln 0 (Kd.R_far (p := ⟨go16, (x21_1 : Int).toNat, none⟩) (Kd.R_mono HO_4.out (fun k_ hk => (⟨hk, fun e_ => hk dq70⟩ : _ ∧ k_ ≠ go16))) (fun _ hk => hk.2) (.int .i64 (rd y280 ((rd_T93 l0 x21_1).f3)))) (x21_1 : Int) p75 q75
                        replace p75 := eq_true p75
                        replace q75 := eq_true q75
                        have HP82 := Kd.R_putn (Kd.R_far (p := ⟨go16, (x21_1 : Int).toNat, none⟩) (Kd.R_mono HO_4.out (fun k_ hk => (⟨hk, fun e_ => hk dq70⟩ : _ ∧ k_ ≠ go16))) (fun _ hk => hk.2) (.int .i64 (rd y280 ((rd_T93 l0 x21_1).f3)))) (x21_1 : Int) (wrap64 ((rd y281 ((rd_T93 l0 x21_1).f3)) * (ji70)))
                        rw [← Ny295.out] at HP82
                        have HQ82 := Aside0.mk HP82
                        clear HP82
                        have hne279 : ∀ {o : Nat}, (⟨gb279, o, none⟩ : Addr).block ≠ (⟨go16, (x21_1 : Int).toNat, none⟩ : Addr).block := by
                         intro o e_
                         exact Kd.R_ne HO_3.out BK279.out dq28 (by show some gb279 = some go16; rw [show gb279 = go16 from e_])
                        have hne18 : ∀ {o : Nat}, (⟨go18, o, none⟩ : Addr).block ≠ (⟨go16, (x21_1 : Int).toNat, none⟩ : Addr).block := by
                         intro o e_
                         exact HO_4.out.1 go18 rfl (by show some go18 = some go16; rw [show go18 = go16 from e_])
                        refine start_ (n := 25) (S := fun w' => w'.cell? ⟨gb279, 0, none⟩ = some (.int .i64 ((rd_T93 l0 x21_1).f0)) ∧ w'.cell? ⟨gb279, 1, none⟩ = some (.bool ((rd_T93 l0 x21_1).f1)) ∧ w'.cell? ⟨gb279, 2, none⟩ = some (.slice A278_2 ((rd_T93 l0 x21_1).f2).length c278_2) ∧ w'.cell? ⟨gb279, 3, none⟩ = some (.int .i64 ((rd_T93 l0 x21_1).f3)) ∧ w'.cell? ⟨gb279, 4, none⟩ = some (.int .i64 ((rd_T93 l0 x21_1).f4)) ∧ w'.cell? ⟨gb279, 5, none⟩ = some (.int .i64 ((rd_T93 l0 x21_1).f5)) ∧ w'.cell? ⟨gb279, 6, none⟩ = some (.int .i64 ((rd_T93 l0 x21_1).f6)) ∧ w'.cell? ⟨go16, (((rd_T93 l0 x21_1).f3)).toNat, none⟩ = some (.int .i64 (rd y280 ((rd_T93 l0 x21_1).f3))) ∧ w'.cell? ⟨go18, (((rd_T93 l0 x21_1).f3)).toNat, none⟩ = some (.int .i64 (rd y281 ((rd_T93 l0 x21_1).f3)))) (ds := [24]) #[false, false, false, false, false, false, false, false, false, false, false, false, false, false, false, false, false, false, false, false, false, false, false, false, false] dq16 rfl rfl ⟨(blk_cell BK279.out 0).trans rfl, (blk_cell BK279.out 1).trans rfl, (blk_cell BK279.out 2).trans rfl, (blk_cell BK279.out 3).trans rfl, (blk_cell BK279.out 4).trans rfl, (blk_cell BK279.out 5).trans rfl, (blk_cell BK279.out 6).trans rfl, hx292_0, hx293_0⟩ (fun hHeld => ?_); refine with_tabW impl_RegexOk.tab20 impl_RegexOk.bits20 (fun HT_ HW_ => ?_)
                        generalize wc.drew = w80 at HO_3 HO_4 BK279 HB HQ81 HQ82 hf73_0 hf75_0 hx292_0 hx293_0 hx73_0 hx75_0 hHeld ⊢
                        refine pureA (i := 0) (N := some 103) #[true, false, false, false, false, false, false, false, false, false, false, false, false, false, false, false, false, false, false, false, false, false, false, false, false] ?_
                        refine pureA (i := 1) (N := some 104) #[true, true, false, false, false, false, false, false, false, false, false, false, false, false, false, false, false, false, false, false, false, false, false, false, false] ?_
                        refine pureA (i := 2) (N := some 105) #[true, true, true, false, false, false, false, false, false, false, false, false, false, false, false, false, false, false, false, false, false, false, false, false, false] ?_
                        refine pureA (i := 3) (N := some 106) #[true, true, true, true, false, false, false, false, false, false, false, false, false, false, false, false, false, false, false, false, false, false, false, false, false] ?_
                        refine pureA (i := 4) (N := some 107) #[true, true, true, true, true, false, false, false, false, false, false, false, false, false, false, false, false, false, false, false, false, false, false, false, false] ?_
                        refine pureA (i := 5) (N := some 108) #[true, true, true, true, true, true, false, false, false, false, false, false, false, false, false, false, false, false, false, false, false, false, false, false, false] ?_
                        refine pureA (i := 9) (N := some 112) #[true, true, true, true, true, true, false, false, false, true, false, false, false, false, false, false, false, false, false, false, false, false, false, false, false] ?_
                        refine pureA (i := 10) (N := some 113) #[true, true, true, true, true, true, false, false, false, true, true, false, false, false, false, false, false, false, false, false, false, false, false, false, false] ?_
                        refine pureA (i := 14) (N := some 117) #[true, true, true, true, true, true, false, false, false, true, true, false, false, false, true, false, false, false, false, false, false, false, false, false, false] ?_
                        refine pureA (i := 17) (N := some 120) #[true, true, true, true, true, true, false, false, false, true, true, false, false, false, true, false, false, true, false, false, false, false, false, false, false] ?_
                        refine takeA9 (i := 6) (N := some 109) #[true, true, true, true, true, true, true, false, false, true, true, false, false, false, true, false, false, true, false, false, false, false, false, false, false] ?_
                        refine pureA (i := 7) (N := some 110) #[true, true, true, true, true, true, true, true, false, true, true, false, false, false, true, false, false, true, false, false, false, false, false, false, false] ?_
                        refine takeA9 (i := 8) (N := some 111) #[true, true, true, true, true, true, true, true, true, true, true, false, false, false, true, false, false, true, false, false, false, false, false, false, false] ?_
                        refine takeA9 (i := 11) (N := some 114) #[true, true, true, true, true, true, true, true, true, true, true, true, false, false, true, false, false, true, false, false, false, false, false, false, false] ?_
                        refine pureA (i := 12) (N := some 115) #[true, true, true, true, true, true, true, true, true, true, true, true, true, false, true, false, false, true, false, false, false, false, false, false, false] ?_
                        refine takeA9 (i := 13) (N := some 116) #[true, true, true, true, true, true, true, true, true, true, true, true, true, true, true, false, false, true, false, false, false, false, false, false, false] ?_
                        refine takeA9 (i := 15) (N := some 118) #[true, true, true, true, true, true, true, true, true, true, true, true, true, true, true, true, false, true, false, false, false, false, false, false, false] ?_
                        refine pureA (i := 16) (N := some 119) #[true, true, true, true, true, true, true, true, true, true, true, true, true, true, true, true, true, true, false, false, false, false, false, false, false] ?_
                        refine takeA9 (i := 18) (N := some 121) #[true, true, true, true, true, true, true, true, true, true, true, true, true, true, true, true, true, true, true, false, false, false, false, false, false] ?_
                        refine pureA (i := 19) (N := some 122) #[true, true, true, true, true, true, true, true, true, true, true, true, true, true, true, true, true, true, true, true, false, false, false, false, false] ?_
                        refine pureA (i := 20) (N := some 123) #[true, true, true, true, true, true, true, true, true, true, true, true, true, true, true, true, true, true, true, true, true, false, false, false, false] ?_
                        refine pureA (i := 21) (N := some 124) #[true, true, true, true, true, true, true, true, true, true, true, true, true, true, true, true, true, true, true, true, true, true, false, false, false] ?_
                        refine one_ (i := 22) (N := none) #[true, true, true, true, true, true, true, true, true, true, true, true, true, true, true, true, true, true, true, true, true, true, true, false, false] rfl rfl (one_of HT_.out dq16) dq28 (fun K hK => ?_)
                        refine skip_ (w1 := ?_) dq29 rfl ?_ ?_
                        rotate_left
                        ·go_simp
                         rfl
                        refine hK.out _ _ (by obtain ⟨s0, s1, s2, s3, s4, s5, s6, s7, s8⟩ := hHeld; exact ⟨(cell_far hne279 _).trans s0, (cell_far hne279 _).trans s1, (cell_far hne279 _).trans s2, (cell_far hne279 _).trans s3, (cell_far hne279 _).trans s4, (cell_far hne279 _).trans s5, (cell_far hne279 _).trans s6, cell_same s7 rfl, (cell_far hne18 _).trans s8⟩) (fun hHeld2 => ?_)
                        clear hK K
                        refine pureA (i := 23) (N := some 125) #[true, true, true, true, true, true, true, true, true, true, true, true, true, true, true, true, true, true, true, true, true, true, true, true, false] ?_
                        refine last_ (i := 24) (N := none) #[true, true, true, true, true, true, true, true, true, true, true, true, true, true, true, true, true, true, true, true, true, true, true, true, true] rfl rfl (one_of HT_.out dq16) dq28 (fun K hK => ?_)
                        refine skip_ (w1 := ?_) dq29 rfl ?_ ?_
                        rotate_left
                        ·go_simp
                         rfl
                        refine hK.out _ _ ?_
                        clear hK K
                        refine done_ (done_of HT_.out dq16) ?_
                        have n0_ : Aside0 (Kd.R (Kd.int .i64) 2 ((w80.setCell ⟨go16, (x21_1 : Int).toNat, none⟩ (.int .i64 (rd y280 ((rd_T93 l0 x21_1).f3)))).setCell ⟨go18, (x21_1 : Int).toNat, none⟩ (.int .i64 (wrap64 ((rd y281 ((rd_T93 l0 x21_1).f3)) * (ji70))))) w.heap.size (fun k_ => some k_ ≠ (.slice (some ⟨go18, 0, none⟩) y281.length co18 : Value).ownBlock) (.slice (some ⟨go16, 0, none⟩) y280.length co16) y294) := ⟨by (with_reducible repeat (first | apply Kd.R_alloc | apply Kd.R_drewN | apply Kd.R_drew)); exact Kd.R_mono (Kd.R_far (p := ⟨go18, (x21_1 : Int).toNat, none⟩) (Kd.R_mono HQ81.out (fun k_ hk => (⟨hk, fun e_ => hk dq70⟩ : _ ∧ k_ ≠ go18))) (fun _ hk => hk.2) (.int .i64 (wrap64 ((rd y281 ((rd_T93 l0 x21_1).f3)) * (ji70))))) (fun _ hk => hk.1)⟩
                        have n1_ : Aside0 (Kd.R (Kd.int .i64) 2 ((w80.setCell ⟨go16, (x21_1 : Int).toNat, none⟩ (.int .i64 (rd y280 ((rd_T93 l0 x21_1).f3)))).setCell ⟨go18, (x21_1 : Int).toNat, none⟩ (.int .i64 (wrap64 ((rd y281 ((rd_T93 l0 x21_1).f3)) * (ji70))))) w.heap.size (fun k_ => some k_ ≠ (.slice (some ⟨go16, 0, none⟩) y280.length co16 : Value).ownBlock) (.slice (some ⟨go18, 0, none⟩) y281.length co18) y295) := ⟨by (with_reducible repeat (first | apply Kd.R_alloc | apply Kd.R_drewN | apply Kd.R_drew)); exact Kd.R_mono HQ82.out (fun _ hk => hk.1)⟩
                        have n2_ : Aside0 (((w80.setCell ⟨go16, (x21_1 : Int).toNat, none⟩ (.int .i64 (rd y280 ((rd_T93 l0 x21_1).f3)))).setCell ⟨go18, (x21_1 : Int).toNat, none⟩ (.int .i64 (wrap64 ((rd y281 ((rd_T93 l0 x21_1).f3)) * (ji70))))).heap[gb279]? = some (.cells #[.int .i64 ((rd_T93 l0 x21_1).f0), .bool ((rd_T93 l0 x21_1).f1), .slice A278_2 ((rd_T93 l0 x21_1).f2).length c278_2, .int .i64 ((rd_T93 l0 x21_1).f3), .int .i64 ((rd_T93 l0 x21_1).f4), .int .i64 ((rd_T93 l0 x21_1).f5), .int .i64 ((rd_T93 l0 x21_1).f6)] 93 (0, 0))) := ⟨dq92⟩
                        have n3_ : Aside0 (Below w.heap.size w ((w80.setCell ⟨go16, (x21_1 : Int).toNat, none⟩ (.int .i64 (rd y280 ((rd_T93 l0 x21_1).f3)))).setCell ⟨go18, (x21_1 : Int).toNat, none⟩ (.int .i64 (wrap64 ((rd y281 ((rd_T93 l0 x21_1).f3)) * (ji70)))))) := ⟨dq93⟩
                        (try clear HO_3)
                        (try clear HO_4)
                        (try clear BK279)
                        (try clear HB)
                        generalize ((w80.setCell ⟨go16, (x21_1 : Int).toNat, none⟩ (.int .i64 (rd y280 ((rd_T93 l0 x21_1).f3)))).setCell ⟨go18, (x21_1 : Int).toNat, none⟩ (.int .i64 (wrap64 ((rd y281 ((rd_T93 l0 x21_1).f3)) * (ji70))))) = w83 at n0_ n1_ n2_ n3_ ⊢
                        have HO_3 := n0_
                        have HO_4 := n1_
                        have BK279 := n2_
                        have HB := n3_
                        clear n0_ n1_ n2_ n3_
                        have p76 : 0 ≤ (x21_1 : Int) := of_decide_eq_true dq21
                        have q76 : (x21_1 : Int) < ((y281.length : Int) : Int) := of_decide_eq_true dq21
                        replace p76 := eq_true p76
                        replace q76 := eq_true q76
                        have p78 : 0 ≤ (x21_1 : Int) := of_decide_eq_true dq21
                        have q78 : (x21_1 : Int) < ((y281.length : Int) : Int) := of_decide_eq_true dq21
                        replace p78 := eq_true p78
                        replace q78 := eq_true q78
                        obtain ⟨hy84_, hz84_⟩ := Kd.R_celln 0 HO_4.out (x21_1 : Int) (of_decide_eq_true dq21) (of_decide_eq_true dq21)
                        rw [rdOf_put Ny295.out (of_decide_eq_true dq21) (of_decide_eq_true dq21)] at hy84_
                        have HP84 := Kd.R_putg HO_4.out (x21_1 : Int) ji77
                        try go_wp2_with (first | ((with_reducible refine gate_store (t := 2) (p := 133) rfl ?_); refine store_event (t := 2) (p := 133) (v := ?vo_w85) (w1 := (w83.setCell ⟨go18, (x21_1 : Int).toNat, none⟩ (.int .i64 ji77))) ?hg ?ho ?hn ?hr ?_; (case ho => rfl); (case hg => rfl); (case hn => rfl); (case hr => exact dq0); intro w85 hw; have hg : w83.grownBy w85 (some go18) := (by rw [hw]; exact HP84.2); have hp_ : Kd.R (Kd.int .i64) 2 w85 w.heap.size (fun k_ => some k_ ≠ (.slice (some ⟨go16, 0, none⟩) y280.length co16 : Value).ownBlock) (.slice (some ⟨go18, 0, none⟩) y281.length co18) y297 := (by rw [hw, Ny297.out]; exact HP84.1); clear HP84; have n0_ := Aside0.mk (Kd.R_after (v := (.slice (some ⟨go18, 0, none⟩) y281.length co18)) (v1 := (.slice (some ⟨go18, 0, none⟩) y281.length co18)) (ok := (fun _ => True)) dq85 hg (.inl rfl)); have n1_ := Aside0.mk (hp_); have n2_ := Aside0.mk (blk_grown (g := gb279) (o := .cells #[.int .i64 ((rd_T93 l0 x21_1).f0), .bool ((rd_T93 l0 x21_1).f1), .slice A278_2 ((rd_T93 l0 x21_1).f2).length c278_2, .int .i64 ((rd_T93 l0 x21_1).f3), .int .i64 ((rd_T93 l0 x21_1).f4), .int .i64 ((rd_T93 l0 x21_1).f5), .int .i64 ((rd_T93 l0 x21_1).f6)] 93 (0, 0)) dq83 hg (Kd.R_ne HO_4.out BK279.out dq28)); have n3_ := Aside0.mk ((dq84 : Below w.heap.size w w85)); clear HO_3; clear HO_4; clear BK279; clear HB; have HO_3 := n0_; have HO_4 := n1_; have BK279 := n2_; have HB := n3_; clear n0_ n1_ n2_ n3_; clear hg hw hp_))
                        (try simp only [← hl3_20, ← hl4_20])
                        go_roundg kj20
                        case measure => have := HK1.out; have := HJ20.out; omega
                        case rel => exact ⟨(y294), (y297), (wrap64 (x21_1 + 1)), dq14, H', ⟨by have := HK1.out; have := HJ20.out; omega⟩, ⟨dq95⟩, ⟨dq94⟩, ⟨dq82⟩⟩
                       ·rw [if_neg c74] at H
                        exact absurd H dq23
                      ·rw [if_neg c72] at H
                       exact absurd H dq23
                     ·rw [if_neg c71] at H
                      exact absurd H dq23
                    ·rw [if_neg c68] at H
                     exact absurd H dq23
                   ·rw [if_neg c67] at H
                    exact absurd H dq23
                  ·rw [if_neg c66] at H
                   exact absurd H dq23
                 ·rw [if_neg c65] at H
                  have c65b0 := beq_eq_false_iff_ne.mpr c65
                  have c65b1 := bne_iff_ne.mpr c65
                  obtain rfl := Option.some.inj H
                  obtain ⟨⟨hcz86_0, hcz86_1, hcz86_2, hcz86_3, hcz86_4, hcz86_5, hcz86_6⟩, hfz86_0, hfz86_1, hfz86_2, hfz86_3, hfz86_4, hfz86_5, hfz86_6⟩ := blkC7 BK279.out
                  go_wp2
                  go_ret
                  exact ⟨dq20, dq82⟩
               ·rw [if_neg c63] at H
                have c63b0 := beq_eq_false_iff_ne.mpr c63
                have c63b1 := bne_iff_ne.mpr c63
                by_cases c87 : 0 ≤ x21_1
                ·rw [if_pos c87] at H
                 have c87b0 := decide_eq_true c87
                 clear c87
                 by_cases c88 : x21_1 < (y281.length : Int)
                 ·rw [if_pos c88] at H
                  have c88b0 := decide_eq_true c88
                  clear c88
                  obtain ⟨ji89, hji89⟩ : ∃ j_ : Int, (mn (rd y281 x21_1) 2001) = j_ := ⟨_, rfl⟩
                  replace H : (impl_RegexOk.l0 kj20 l0 y280 (y281.set (x21_1 : Int).toNat (ji89)) l0 (l0.length : Int) (wrap64 (x21_1 + 1))) = some r := by first | (rw [hji89] at H; exact H) | (simp only [hji89] at H ⊢; exact H)
                  have hji89_ : (if 2001 < (rd y281 x21_1) then 2001 else (rd y281 x21_1)) = ji89 := hji89
                  obtain ⟨y299, hy299⟩ : ∃ y_ : List Int, y_ = (y281.set (x21_1 : Int).toNat (ji89)) := ⟨_, rfl⟩
                  replace H : (impl_RegexOk.l0 kj20 l0 y280 y299 l0 (l0.length : Int) (wrap64 (x21_1 + 1))) = some r := by first | (rw [hy299]; with_reducible exact H) | (have H2_ := (Option.bind_some _ _).symm.trans H; rw [hy299]; with_reducible exact H2_) | (have H2_ := (Option.bind_some _ _).symm.trans H; with_reducible exact H2_) | with_reducible exact H | (rw [hy299]; exact H) | exact H
                  have Ny299 := Aside0.mk hy299
                  clear hy299
                  have H' := Aside0.mk H
                  clear H
                  have p298 : 0 ≤ (x21_1 : Int) := of_decide_eq_true dq21
                  have q298 : x21_1 < (y281.length : Int) := of_decide_eq_true dq21
                  obtain ⟨ad298, e298, hx298_0⟩ := Kd.at_int (Kd.R_reads' HO_4.out).2.2 x21_1 p298 q298
                  obtain rfl : (⟨go18, 0, none⟩ : Addr) = ad298 := (by injection e298)
                  (first | simp only [add_plain] at hx298_0 | simp only [add_at] at hx298_0 | simp only [Addr.add, Nat.zero_add] at hx298_0 | skip)
                  replace p298 := eq_true p298
                  replace q298 := eq_true q298
                  have p90 : 0 ≤ (x21_1 : Int) := of_decide_eq_true dq21
                  have q90 : (x21_1 : Int) < ((y281.length : Int) : Int) := of_decide_eq_true dq21
                  obtain ⟨hx90_0, hf90_0⟩ := Kd.R_celln 0 HO_4.out (x21_1 : Int) p90 q90
                  replace p90 := eq_true p90
                  replace q90 := eq_true q90
                  have HP91 := Kd.R_putg HO_4.out (x21_1 : Int) ji89
                  go_wp2_with (first | ((with_reducible refine gate_store (t := 2) (p := 133) rfl ?_); refine store_event (t := 2) (p := 133) (v := ?vo_w92) (w1 := (wc.setCell ⟨go18, (x21_1 : Int).toNat, none⟩ (.int .i64 ji89))) ?hg ?ho ?hn ?hr ?_; (case ho => rfl); (case hg => rfl); (case hn => rfl); (case hr => exact dq0); intro w92 hw; have hg : wc.grownBy w92 (some go18) := (by rw [hw]; exact HP91.2); have hp_ : Kd.R (Kd.int .i64) 2 w92 w.heap.size (fun k_ => some k_ ≠ (.slice (some ⟨go16, 0, none⟩) y280.length co16 : Value).ownBlock) (.slice (some ⟨go18, 0, none⟩) y281.length co18) y299 := (by rw [hw, Ny299.out]; exact HP91.1); clear HP91; have n0_ := Aside0.mk (Kd.R_after (v := (.slice (some ⟨go18, 0, none⟩) y281.length co18)) (v1 := (.slice (some ⟨go18, 0, none⟩) y281.length co18)) (ok := (fun _ => True)) dq85 hg (.inl rfl)); have n1_ := Aside0.mk (hp_); have n2_ := Aside0.mk (blk_grown (g := gb279) (o := .cells #[.int .i64 ((rd_T93 l0 x21_1).f0), .bool ((rd_T93 l0 x21_1).f1), .slice A278_2 ((rd_T93 l0 x21_1).f2).length c278_2, .int .i64 ((rd_T93 l0 x21_1).f3), .int .i64 ((rd_T93 l0 x21_1).f4), .int .i64 ((rd_T93 l0 x21_1).f5), .int .i64 ((rd_T93 l0 x21_1).f6)] 93 (0, 0)) dq83 hg (Kd.R_ne HO_4.out BK279.out dq28)); have n3_ := Aside0.mk ((dq84 : Below w.heap.size w w92)); clear HO_3; clear HO_4; clear BK279; clear HB; have HO_3 := n0_; have HO_4 := n1_; have BK279 := n2_; have HB := n3_; clear n0_ n1_ n2_ n3_; clear hg hw hp_))
                  (try simp only [← hl3_20, ← hl4_20])
                  go_roundg kj20
                  case measure => have := HK1.out; have := HJ20.out; omega
                  case rel => exact ⟨(y280), (y299), (wrap64 (x21_1 + 1)), dq14, H', ⟨by have := HK1.out; have := HJ20.out; omega⟩, ⟨dq95⟩, ⟨dq94⟩, ⟨dq82⟩⟩
                 ·rw [if_neg c88] at H
                  exact absurd H dq23
                ·rw [if_neg c87] at H
                 exact absurd H dq23
           ·replace c20 := Bool.eq_false_iff.mpr c20
            subst c20
            have H1 : (some false) = some r := by rw [if_neg (show ¬ (false = true) by decide)] at H; exact H
            clear H
            have H := H1
            clear H1
            obtain rfl := Option.some.inj H
            have p278 : 0 ≤ (x21_1 : Int) := of_decide_eq_true dq21
            have q278 : x21_1 < (l0.length : Int) := of_decide_eq_true dq21
            obtain ⟨ad278, A278_2, c278_2, e278, hx278_0, hx278_1, hx278_2, hx278_3, hx278_4, hx278_5, hx278_6, hl278_2, hi278_2⟩ := at_T93 HR0.out x21_1 p278 q278
            cases e278
            replace hx278_0 := (HB.out.cell (World.block_lt_of_cell? w _ hx278_0)).trans hx278_0
            replace hx278_1 := (HB.out.cell (World.block_lt_of_cell? w _ hx278_1)).trans hx278_1
            replace hx278_2 := (HB.out.cell (World.block_lt_of_cell? w _ hx278_2)).trans hx278_2
            replace hx278_3 := (HB.out.cell (World.block_lt_of_cell? w _ hx278_3)).trans hx278_3
            replace hx278_4 := (HB.out.cell (World.block_lt_of_cell? w _ hx278_4)).trans hx278_4
            replace hx278_5 := (HB.out.cell (World.block_lt_of_cell? w _ hx278_5)).trans hx278_5
            replace hx278_6 := (HB.out.cell (World.block_lt_of_cell? w _ hx278_6)).trans hx278_6
            have HR278_2 := Aside0.mk hi278_2
            have HC278_2 := Aside0.mk hl278_2
            clear hi278_2 hl278_2
            replace p278 := eq_true p278
            replace q278 := eq_true q278
            go_wp2_with (first | ((with_reducible refine gate_dst (N := 6) rfl ?_); refine box_event ?hg (N := 6) ?hd (cs := #[.int .i64 0, .bool false, .slice none 0 0, .int .i64 0, .int .i64 0, .int .i64 0, .int .i64 0]) (t := 93) ?hr ?_; (case hd => rfl); (case hg => rfl); (case hr => exact dq0); intro gb279 hg w93 hbox hb; have n0_ := Aside0.mk (Kd.R_below dq61 hb); have n1_ := Aside0.mk (Kd.R_below dq27 hb); have n2_ := Aside0.mk (below_step dq18 hb); have n3_ := Aside0.mk (hbox); have n4_ := Aside0.mk ((dq17 : w.heap.size ≤ gb279)); have n5_ := Aside0.mk ((dq17 : w.heap.size ≤ gb279)); clear HO_3; clear HO_4; clear HB; have HO_3 := n0_; have HO_4 := n1_; have HB := n2_; have BK279 := n3_; have GW279 := n4_; have GE279 := n5_; clear n0_ n1_ n2_ n3_ n4_ n5_; clear hb hbox hg; obtain ⟨⟨hcz94_0, hcz94_1, hcz94_2, hcz94_3, hcz94_4, hcz94_5, hcz94_6⟩, hfz94_0, hfz94_1, hfz94_2, hfz94_3, hfz94_4, hfz94_5, hfz94_6⟩ := blkC7 BK279.out) | ((with_reducible refine gate_store (t := 93) (p := 6) rfl ?_); refine store_event (t := 93) (p := 6) (v := ?vo_w95) (w1 := (((((((w93.setCell ⟨gb279, 0, none⟩ (.int .i64 ((rd_T93 l0 x21_1).f0))).setCell ⟨gb279, 1, none⟩ (.bool ((rd_T93 l0 x21_1).f1))).setCell ⟨gb279, 2, none⟩ (.slice A278_2 ((rd_T93 l0 x21_1).f2).length c278_2)).setCell ⟨gb279, 3, none⟩ (.int .i64 ((rd_T93 l0 x21_1).f3))).setCell ⟨gb279, 4, none⟩ (.int .i64 ((rd_T93 l0 x21_1).f4))).setCell ⟨gb279, 5, none⟩ (.int .i64 ((rd_T93 l0 x21_1).f5))).setCell ⟨gb279, 6, none⟩ (.int .i64 ((rd_T93 l0 x21_1).f6)))) ?hg ?ho ?hn ?hr ?_; (case ho => rfl); (case hg => rfl); (case hn => rfl); (case hr => exact dq0); intro w95 hw; have n0_ : Aside0 (Kd.R (Kd.int .i64) 2 w95 w.heap.size (fun k_ => some k_ ≠ (v274 : Value).ownBlock) v271 x3_1) := ⟨dq90⟩; have n1_ : Aside0 (Kd.R (Kd.int .i64) 2 w95 w.heap.size (fun k_ => some k_ ≠ (v271 : Value).ownBlock) v274 x4_1) := ⟨dq89⟩; have n2_ : Aside0 (w95.heap[gb279]? = some (.cells #[.int .i64 ((rd_T93 l0 x21_1).f0), .bool ((rd_T93 l0 x21_1).f1), .slice A278_2 ((rd_T93 l0 x21_1).f2).length c278_2, .int .i64 ((rd_T93 l0 x21_1).f3), .int .i64 ((rd_T93 l0 x21_1).f4), .int .i64 ((rd_T93 l0 x21_1).f5), .int .i64 ((rd_T93 l0 x21_1).f6)] 93 (0, 0))) := ⟨dq88⟩; have n3_ : Aside0 (Below w.heap.size w w95) := ⟨dq87⟩; clear hw; clear HO_3; clear HO_4; clear BK279; clear HB; have HO_3 := n0_; have HO_4 := n1_; have BK279 := n2_; have HB := n3_; clear n0_ n1_ n2_ n3_; have p16 : 0 ≤ (x21_1 : Int) := of_decide_eq_true dq21; have q16 : (x21_1 : Int) < ((x3_1.length : Int) : Int) := of_decide_eq_true dq21; obtain ⟨go16, co16, eo16, gb16, gl16, cl16, HG16⟩ := Kd.R_form HO_3.out dq24; (first | cases eo16 | (injection eo16 with ea_ en_ ec_; (first | subst ea_ | (injection ea_ with ea_; subst ea_)); subst ec_; clear en_)); have GB16 := Aside0.mk gb16; have GG16 := Aside0.mk HG16; clear gb16 gl16 HG16; obtain ⟨hx16_0, hf16_0⟩ := Kd.R_celln 0 HO_3.out (x21_1 : Int) p16 q16; replace p16 := eq_true p16; replace q16 := eq_true q16; obtain ⟨hy96_, hz96_⟩ := Kd.R_celln 0 HO_3.out (x21_1 : Int) (of_decide_eq_true dq21) (of_decide_eq_true dq21); have HP96 := Kd.R_putg HO_3.out (x21_1 : Int) x21_1) | ((with_reducible refine gate_store (t := 2) (p := 32) rfl ?_); refine store_event (t := 2) (p := 32) (v := ?vo_w97) (w1 := (w95.setCell ⟨go16, (x21_1 : Int).toNat, none⟩ (.int .i64 x21_1))) ?hg ?ho ?hn ?hr ?_; (case ho => rfl); (case hg => rfl); (case hn => rfl); (case hr => exact dq0); intro w97 hw; have hg : w95.grownBy w97 (some go16) := (by rw [hw]; exact HP96.2); have hp_ : Kd.R (Kd.int .i64) 2 w97 w.heap.size (fun k_ => some k_ ≠ (v274 : Value).ownBlock) (.slice (some ⟨go16, 0, none⟩) x3_1.length co16) y280 := (by rw [hw, Ny280.out]; exact HP96.1); clear HP96; have n0_ := Aside0.mk (hp_); have n1_ := Aside0.mk (Kd.R_after (v := (.slice (some ⟨go16, 0, none⟩) x3_1.length co16)) (v1 := (.slice (some ⟨go16, 0, none⟩) x3_1.length co16)) (ok := (fun _ => True)) dq86 hg (.inl rfl)); have n2_ := Aside0.mk (blk_grown (g := gb279) (o := .cells #[.int .i64 ((rd_T93 l0 x21_1).f0), .bool ((rd_T93 l0 x21_1).f1), .slice A278_2 ((rd_T93 l0 x21_1).f2).length c278_2, .int .i64 ((rd_T93 l0 x21_1).f3), .int .i64 ((rd_T93 l0 x21_1).f4), .int .i64 ((rd_T93 l0 x21_1).f5), .int .i64 ((rd_T93 l0 x21_1).f6)] 93 (0, 0)) dq83 hg (Kd.R_ne HO_3.out BK279.out dq28)); have n3_ := Aside0.mk ((by rw [hw]; exact below_set (HB.out) GB16.out : Below w.heap.size w w97)); clear HO_3; clear HO_4; clear BK279; clear HB; have HO_3 := n0_; have HO_4 := n1_; have BK279 := n2_; have HB := n3_; clear n0_ n1_ n2_ n3_; clear hg hw hp_; have p18 : 0 ≤ (x21_1 : Int) := of_decide_eq_true dq21; have q18 : (x21_1 : Int) < ((x4_1.length : Int) : Int) := of_decide_eq_true dq21; obtain ⟨go18, co18, eo18, gb18, gl18, cl18, HG18⟩ := Kd.R_form HO_4.out dq24; (first | cases eo18 | (injection eo18 with ea_ en_ ec_; (first | subst ea_ | (injection ea_ with ea_; subst ea_)); subst ec_; clear en_)); have GB18 := Aside0.mk gb18; have GG18 := Aside0.mk HG18; clear gb18 gl18 HG18; obtain ⟨hx18_0, hf18_0⟩ := Kd.R_celln 0 HO_4.out (x21_1 : Int) p18 q18; replace p18 := eq_true p18; replace q18 := eq_true q18; have n_ := Aside0.mk (Kd.R_mono (ok' := (fun k_ => some k_ ≠ (.slice (some ⟨go16, 0, none⟩) x3_1.length co16 : Value).ownBlock)) HO_4.out (fun k_ hk => hk.2)); clear HO_4; have HO_4 := n_; clear n_; obtain ⟨hy98_, hz98_⟩ := Kd.R_celln 0 HO_4.out (x21_1 : Int) (of_decide_eq_true dq21) (of_decide_eq_true dq21); have HP98 := Kd.R_putg HO_4.out (x21_1 : Int) 1) | ((with_reducible refine gate_store (t := 2) (p := 33) rfl ?_); refine store_event (t := 2) (p := 33) (v := ?vo_w99) (w1 := (w97.setCell ⟨go18, (x21_1 : Int).toNat, none⟩ (.int .i64 1))) ?hg ?ho ?hn ?hr ?_; (case ho => rfl); (case hg => rfl); (case hn => rfl); (case hr => exact dq0); intro w99 hw; have hg : w97.grownBy w99 (some go18) := (by rw [hw]; exact HP98.2); have hp_ : Kd.R (Kd.int .i64) 2 w99 w.heap.size (fun k_ => some k_ ≠ (.slice (some ⟨go16, 0, none⟩) x3_1.length co16 : Value).ownBlock) (.slice (some ⟨go18, 0, none⟩) x4_1.length co18) y281 := (by rw [hw, Ny281.out]; exact HP98.1); clear HP98; have n0_ := Aside0.mk (Kd.R_after (v := (.slice (some ⟨go18, 0, none⟩) x4_1.length co18)) (v1 := (.slice (some ⟨go18, 0, none⟩) x4_1.length co18)) (ok := (fun _ => True)) dq85 hg (.inl rfl)); have n1_ := Aside0.mk (hp_); have n2_ := Aside0.mk (blk_grown (g := gb279) (o := .cells #[.int .i64 ((rd_T93 l0 x21_1).f0), .bool ((rd_T93 l0 x21_1).f1), .slice A278_2 ((rd_T93 l0 x21_1).f2).length c278_2, .int .i64 ((rd_T93 l0 x21_1).f3), .int .i64 ((rd_T93 l0 x21_1).f4), .int .i64 ((rd_T93 l0 x21_1).f5), .int .i64 ((rd_T93 l0 x21_1).f6)] 93 (0, 0)) dq83 hg (Kd.R_ne HO_4.out BK279.out dq28)); have n3_ := Aside0.mk ((dq84 : Below w.heap.size w w99)); clear HO_3; clear HO_4; clear BK279; clear HB; have HO_3 := n0_; have HO_4 := n1_; have BK279 := n2_; have HB := n3_; clear n0_ n1_ n2_ n3_; clear hg hw hp_; obtain ⟨⟨hcz100_0, hcz100_1, hcz100_2, hcz100_3, hcz100_4, hcz100_5, hcz100_6⟩, hfz100_0, hfz100_1, hfz100_2, hfz100_3, hfz100_4, hfz100_5, hfz100_6⟩ := blkC7 BK279.out) | ((with_reducible refine gate_callee (f := 82) rfl ?_); refine goesL_ (some 35) rfl rfl Tryd.func82 dq16 rfl #[.agg #[.int .i64 ((rd_T93 l0 x21_1).f0), .bool ((rd_T93 l0 x21_1).f1), .slice A278_2 ((rd_T93 l0 x21_1).f2).length c278_2, .int .i64 ((rd_T93 l0 x21_1).f3), .int .i64 ((rd_T93 l0 x21_1).f4), .int .i64 ((rd_T93 l0 x21_1).f5), .int .i64 ((rd_T93 l0 x21_1).f6)]] rfl dq15 ?_; (with_reducible refine (impl_RNode_fits.calls k1 ((rd_T93 l0 x21_1).f0) ((rd_T93 l0 x21_1).f1) _ _ ((rd_T93 l0 x21_1).f2) ((rd_T93 l0 x21_1).f3) ((rd_T93 l0 x21_1).f4) ((rd_T93 l0 x21_1).f5) ((rd_T93 l0 x21_1).f6) false _ ?side1 ?side2 A19.out).mono ?_); (case side1 => repeat (first | exact (Kd.C_below HR278_2.out HB.out) | (with_reducible refine Kd.C_alloc ?_ _) | (with_reducible refine Kd.C_drewN ?_ _) | (with_reducible refine Kd.C_drew ?_))); (case side2 => exact HC278_2.out); rintro e w101 ⟨rfl, hb⟩; refine ⟨_, rfl, ?_⟩; have n0_ := Aside0.mk (Kd.R_below dq61 hb); have n1_ := Aside0.mk (Kd.R_below dq27 hb); have n2_ := Aside0.mk (blk_below (g := gb279) (o := .cells #[.int .i64 ((rd_T93 l0 x21_1).f0), .bool ((rd_T93 l0 x21_1).f1), .slice A278_2 ((rd_T93 l0 x21_1).f2).length c278_2, .int .i64 ((rd_T93 l0 x21_1).f3), .int .i64 ((rd_T93 l0 x21_1).f4), .int .i64 ((rd_T93 l0 x21_1).f5), .int .i64 ((rd_T93 l0 x21_1).f6)] 93 (0, 0)) dq83 hb); have n3_ := Aside0.mk (below_step dq82 hb); clear HO_3; clear HO_4; clear BK279; clear HB; have HO_3 := n0_; have HO_4 := n1_; have BK279 := n2_; have HB := n3_; clear n0_ n1_ n2_ n3_; (try clear hb); (try clear hb2); (try clear hk); (try clear hi)))
            go_ret
            exact ⟨dq20, dq82⟩
          ·rw [if_neg c17] at H
           exact absurd H dq23
         ·rw [if_neg c15] at H
          exact absurd H dq23
        ·rw [if_neg c14] at H
         exact absurd H dq23
       ·rw [if_neg c13] at H
        exact absurd H dq23
      ·rw [if_neg c12] at H
       have c12b0 := decide_eq_false c12
       clear c12
       obtain ⟨ji102, hji102⟩ : ∃ j_ : Int, (wrap64 ((l0.length : Int) - 1)) = j_ := ⟨_, rfl⟩
       replace H : (if 0 ≤ (ji102) then (if (ji102) < (x3_1.length : Int) then (if (rd x3_1 (ji102)) = 0 then (if (ji102) < (x4_1.length : Int) then (some (decide ((rd x4_1 (ji102)) ≤ 2000))) else (none)) else (some false)) else (none)) else (none)) = some r := by first | (rw [hji102] at H; exact H) | (simp only [hji102] at H ⊢; exact H)
       have hji102w : (IntKind.i64.wrap ((l0.length : Int) - 1)) = ji102 := (i64_w _).trans hji102
       by_cases c103 : 0 ≤ (ji102)
       ·rw [if_pos c103] at H
        have c103b0 := decide_eq_true c103
        clear c103
        by_cases c104 : (ji102) < (x3_1.length : Int)
        ·rw [if_pos c104] at H
         have c104b0 := decide_eq_true c104
         clear c104
         by_cases c105 : (rd x3_1 (ji102)) = 0
         ·rw [if_pos c105] at H
          have c105b0 := beq_iff_eq.mpr c105
          have c105b1 := bne_eq_false_iff_eq.mpr c105
          clear c105
          by_cases c106 : (ji102) < (x4_1.length : Int)
          ·rw [if_pos c106] at H
           have c106b0 := decide_eq_true c106
           clear c106
           obtain rfl := Option.some.inj H
           obtain ⟨Ao107, co107, eo107⟩ := Kd.R_slice HO_3.out
           subst eo107
           have p276 : 0 ≤ ((ji102) : Int) := of_decide_eq_true dq21
           have q276 : (ji102) < (x3_1.length : Int) := of_decide_eq_true dq21
           obtain ⟨ad276, e276, hx276_0⟩ := Kd.at_int (Kd.R_reads' HO_3.out).2.2 (ji102) p276 q276
           cases e276
           replace p276 := eq_true p276
           replace q276 := eq_true q276
           obtain ⟨Ao108, co108, eo108⟩ := Kd.R_slice HO_4.out
           subst eo108
           have p277 : 0 ≤ ((ji102) : Int) := of_decide_eq_true dq21
           have q277 : (ji102) < (x4_1.length : Int) := of_decide_eq_true dq21
           obtain ⟨ad277, e277, hx277_0⟩ := Kd.at_int (Kd.R_reads' HO_4.out).2.2 (ji102) p277 q277
           cases e277
           replace p277 := eq_true p277
           replace q277 := eq_true q277
           go_wp2
           go_ret
           exact ⟨dq96, dq18⟩
          ·rw [if_neg c106] at H
           exact absurd H dq23
         ·rw [if_neg c105] at H
          have c105b0 := beq_eq_false_iff_ne.mpr c105
          have c105b1 := bne_iff_ne.mpr c105
          obtain rfl := Option.some.inj H
          obtain ⟨Ao109, co109, eo109⟩ := Kd.R_slice HO_3.out
          subst eo109
          have p276 : 0 ≤ ((ji102) : Int) := of_decide_eq_true dq21
          have q276 : (ji102) < (x3_1.length : Int) := of_decide_eq_true dq21
          obtain ⟨ad276, e276, hx276_0⟩ := Kd.at_int (Kd.R_reads' HO_3.out).2.2 (ji102) p276 q276
          cases e276
          replace p276 := eq_true p276
          replace q276 := eq_true q276
          go_wp2
          go_ret
          exact ⟨dq96, dq18⟩
        ·rw [if_neg c104] at H
         exact absurd H dq23
       ·rw [if_neg c103] at H
        exact absurd H dq23
   ·rw [if_neg c5] at H
    exact absurd H dq23
  ·rw [if_neg c4] at H
   exact absurd H dq23
 ·replace c3 := Bool.eq_false_iff.mpr c3
  subst c3
  have H1 : (some false) = some r := by rw [if_neg (show ¬ (false = true) by decide)] at H; exact H
  clear H
  have H := H1
  clear H1
  obtain rfl := Option.some.inj H
  go_enter Tryd.func42, Tryd.ntmps42
  go_wp2_with (first | ((with_reducible refine gate_callee (f := 68) rfl ?_); refine goesL_ (some 11) rfl rfl Tryd.func68 dq16 rfl #[.int .i64 (l0.length : Int), .int .i64 1, .int .i64 120] rfl dq15 ?_; (with_reducible refine (impl_in.calls (l0.length : Int) 1 120 false _ A2.out).mono ?_); rintro e w' ⟨rfl, ⟨nd, rfl⟩⟩; refine ⟨_, rfl, ?_⟩))
  go_ret
  exact ⟨dq20, dq18⟩

end Go.Proofs.YtilmhfkbpnejeaaDoor.L

namespace Go.Proofs.YtilmhfkbpnejeaaDoor.L
open Go.RowKit Go.Proofs.YtilmhfkbpnejeaaDoorW.PrintWords Go.Proofs.YtilmhfkbpnejeaaDoorW.PrintLast Go.Proofs.YtilmhfkbpnejeaaDoorW.PrintMore
set_option linter.unusedVariables false
set_option linter.unusedSimpArgs false

def impl_places_bool_142.f (l0 : List Bool) : Option (List Bool) := if l0.length < 8796093022208 then some l0 else none
set_option maxHeartbeats 1000000 in
set_option maxRecDepth 100000 in
theorem impl_places_bool_142.calls (A0 : Option Addr) (c0 : Nat) (l0 : List Bool) (r : List Bool) (w : World) (hr0 : Kd.C Kd.bool w A0 l0.length l0) (hc0 : l0.length ≤ c0) (h : impl_places_bool_142.f l0 = some r) :
    Calls Tryd.prog 142 #[.slice A0 l0.length c0] w fun e w' => ∃ v0_ : Value, e = .returned (v0_) ∧ Kd.R Kd.bool 4 w' w.heap.size (fun _ => True) v0_ r ∧ Below w.heap.size w w' := by
  unfold impl_places_bool_142.f at h
  by_cases c : l0.length < 8796093022208
  · rw [if_pos c] at h
    obtain rfl := Option.some.inj h
    clear h
    have HL := Aside0.mk c
    have HR := Aside0.mk hr0
    have HB := Aside0.mk (Below.refl w.heap.size w)
    clear c
    cases A0 with
    | none =>
      have hz : l0 = [] := by
        cases l0 with
        | nil => rfl
        | cons x t =>
          obtain ⟨ad, e, _⟩ := hr0.2.2 (by simp)
          cases e
      subst hz
      clear hr0
      have he := fun w' : World => Lib.run_eql_slice_nil w' 95 4 none 0 c0 0 0 Tryd.underlying95
      simp only [List.length_nil]
      go_enter Tryd.func142, Tryd.ntmps142
      go_wp2
      go_ret
      exact ⟨_, rfl, Kd.R_nil _ _ _ _ _, by repeat (first | (with_reducible first | exact HB.out | apply below_alloc | apply pw_below_drewN | apply below_drew1) | exact HB.out)⟩
    | some ad =>
      clear hr0
      have he := fun w' : World => Lib.run_eql_slice_nil w' 95 4 (some ad) l0.length c0 0 0 Tryd.underlying95
      go_enter Tryd.func142, Tryd.ntmps142
      go_wp2_with (first | ((with_reducible refine gate_dst (N := 5) rfl ?_); refine Kd.R_lit Kd.bool _ 4 ?hg (N := 5) ?hd (xs := ([] : List Bool)) (inner := []) (ok := fun _ => True) (okp := fun _ => True) ?hr ?hp (fun _ hk => hk) trivial (Below.refl _ _) (Nat.le_refl _) (by simp) ?_; (case hd => rfl); (case hg => rfl); (case hr => first | (go_simp; done) | (go_simp; rfl)); (case hp => exact (Reps.none _ _)); intro v109 w3 ho4 hb hg_ hnew_; clear hg_ hnew_; have n0_ := Aside0.mk (Kd.R_lower ho4 (below_size (by repeat (first | (with_reducible first | exact HB.out | apply below_alloc | apply pw_below_drewN | apply below_drew1) | exact HB.out)))); have n1_ := Aside0.mk (below_step (by repeat (first | (with_reducible first | exact HB.out | apply below_alloc | apply pw_below_drewN | apply below_drew1) | exact HB.out)) hb); clear HB; have HO := n0_; have HB := n1_; clear n0_ n1_; clear hb ho4) | ((with_reducible refine gate_builtin (b := .append) (xs := #[.tmp 5, .tmp 6]) rfl ?_); at_builtin; refine Kd.R_append_rows Kd.bool (w0 := w) w.heap.size rfl (.tmp 5) (.tmp 6) 95 4 (.bool false) 1 rfl Tryd.underlying95 info4 rfl (by decide) (by omega) v109 [] l0 _ _ _ (fun _ => True) (fun _ => False) rfl rfl ?aO ?aR (fun _ _ h => h) (fun _ h => h.elim) (fun _ _ => trivial) ?aB ?aS ?aL ?_; (case aO => exact HO.out); (case aR => exact Kd.C_below HR.out HB.out); (case aB => exact (by repeat (first | (with_reducible first | exact HB.out | apply below_alloc | apply pw_below_drewN | apply below_drew1) | exact HB.out))); (case aS => exact HB.out.size); (case aL => have := HL.out; simp; omega); intro v1 w11 ho hb hg hat; have n0_ := Aside0.mk hb; have n1_ := Aside0.mk ho; clear HB HO; have HB := n0_; have HO := n1_; clear n0_ n1_ ho hb hg hat))
      go_ret
      exact ⟨_, rfl, HO.out, by repeat (first | (with_reducible first | exact HB.out | apply below_alloc | apply pw_below_drewN | apply below_drew1) | exact HB.out)⟩
  · rw [if_neg c] at h
    cases h
end Go.Proofs.YtilmhfkbpnejeaaDoor.L

namespace Go.Proofs.YtilmhfkbpnejeaaDoor.L
open Go.RowKit Go.Proofs.YtilmhfkbpnejeaaDoorW.PrintWords Go.Proofs.YtilmhfkbpnejeaaDoorW.PrintLast Go.Proofs.YtilmhfkbpnejeaaDoorW.PrintMore
attribute [local go_sem] max2_int min2_int max_two min_two max_three min_three max_four min_four
set_option linter.unusedVariables false
set_option linter.unusedSimpArgs false

/-! ### impl_places_joined: function 113 -/
def impl_places_joined.l0 : Nat → List Bool → List Bool → Int → Int → Option (List Bool)
 | 0, _, _, _, _ => none
 | k + 1, x5, x10, x11, x12 => if x12 < x11 then (if 0 ≤ x12 then (if x12 < (x10.length : Int) then (if x12 < (x5.length : Int) then (if rdOf false x5 x12 = true then (impl_places_joined.l0 k (x5.set (x12 : Int).toNat true) x10 x11 (wrap64 (x12 + 1))) else (impl_places_joined.l0 k (x5.set (x12 : Int).toNat (rdOf false x10 x12)) x10 x11 (wrap64 (x12 + 1)))) else (none)) else (none)) else (none)) else (some x5)
def impl_places_joined.f (k : Nat) (l0 : List Bool) (l1 : List Bool) : Option (List Bool) := (impl_places_bool_142.f l0).bind fun t300 => (impl_places_joined.l0 k t300 l1 (l1.length : Int) 0)
set_option maxHeartbeats 8000000 in
set_option maxRecDepth 100000 in
theorem impl_places_joined.calls (k : Nat) (A0 : Option Addr) (c0 : Nat) (l0 : List Bool) (A1 : Option Addr) (c1 : Nat) (l1 : List Bool) (r : List Bool) (w : World) (hr0 : Kd.C Kd.bool w A0 l0.length l0) (hc0 : l0.length ≤ c0) (hr1 : Kd.C Kd.bool w A1 l1.length l1) (hc1 : l1.length ≤ c1) (h : impl_places_joined.f k l0 l1 = some r) :
  Calls Tryd.prog 113 #[.slice A0 l0.length c0, .slice A1 l1.length c1] w fun e w' => ∃ v0_ : Value, e = .returned (v0_) ∧ Kd.R Kd.bool 4 w' w.heap.size (fun _ => True) v0_ r ∧ Below w.heap.size w w' := by
 have HR0 := Aside0.mk hr0
 have HC0 := Aside0.mk hc0
 clear hr0 hc0
 have HR1 := Aside0.mk hr1
 have HC1 := Aside0.mk hc1
 clear hr1 hc1
 have HB := Aside0.mk (Below.refl w.heap.size w)
 have H : ((impl_places_bool_142.f l0).bind fun t300 => (impl_places_joined.l0 k t300 l1 (l1.length : Int) 0)) = some r := h
 clear h
 replace H := Option.bind_eq_some_iff.mp H
 obtain ⟨t300, A30, H⟩ := H
 replace H : (impl_places_joined.l0 k t300 l1 (l1.length : Int) 0) = some r := H
 have A3 := Aside0.mk A30
 clear A30
 have H' := Aside0.mk H
 clear H
 go_enter Tryd.func113, Tryd.ntmps113
 go_wp2_with (first | ((with_reducible refine gate_callee (f := 142) rfl ?_); refine goesL_ (some 9) rfl rfl Tryd.func142 dq16 rfl #[.slice A0 l0.length c0] rfl dq15 ?_; (with_reducible refine (impl_places_bool_142.calls _ _ l0 t300 _ ?side1 ?side2 A3.out).mono ?_); (case side1 => exact dq2); (case side2 => exact dq3); rintro e w4 ⟨v301, rfl, ho0, hb⟩; refine ⟨_, rfl, ?_⟩; have n0_ := Aside0.mk (Kd.R_lower ho0 (below_size dq18)); have n1_ := Aside0.mk (below_step dq18 hb); clear HB; have HO302 := n0_; have HB := n1_; clear n0_ n1_; (try clear hb); (try clear hb2); (try clear hk); (try clear hi); (try clear ho0)))
 go_loopg [12] k (fun kq v12 w' => ∃ (x5_1 : List Bool) (x12_1 : Int), v12 = .int .i64 x12_1 ∧ Aside0 (impl_places_joined.l0 kq x5_1 l1 (l1.length : Int) x12_1 = some r) ∧ Aside0 (kq ≤ k) ∧ Aside0 (Kd.R Kd.bool 4 w' w.heap.size (fun _ => True) v301 x5_1) ∧ Aside0 (Below w.heap.size w w'))
 case atStart => exact ⟨(t300), (0), dq14, H', ⟨Nat.le_refl _⟩, ⟨by (with_reducible repeat (first | apply Kd.R_alloc | apply Kd.R_drewN | apply Kd.R_drew)); exact HO302.out⟩, ⟨dq18⟩⟩
 case round =>
  clear H'
  try clear c1
  try clear p2
  obtain ⟨x5_1, x12_1, rfl, HA, HK1, HO_5, HB⟩ := hrel
  cases gk with
  | zero => exact absurd HA.out (by simp [impl_places_joined.l0])
  | succ k1 =>
   have H := HA.out
   clear HA
   simp only [impl_places_joined.l0] at H
   by_cases c5 : x12_1 < (l1.length : Int)
   ·rw [if_pos c5] at H
    have c5b0 := decide_eq_true c5
    clear c5
    by_cases c6 : 0 ≤ x12_1
    ·rw [if_pos c6] at H
     have c6b0 := decide_eq_true c6
     clear c6
     by_cases c7 : x12_1 < (l1.length : Int)
     ·rw [if_pos c7] at H
      have c7b0 := decide_eq_true c7
      clear c7
      by_cases c8 : x12_1 < (x5_1.length : Int)
      ·rw [if_pos c8] at H
       have c8b0 := decide_eq_true c8
       clear c8
       obtain ⟨bq9, hbq9⟩ : ∃ b_ : Bool, b_ = (rdOf false x5_1 x12_1) := ⟨_, rfl⟩
       replace H : (if bq9 = true then (impl_places_joined.l0 k1 (x5_1.set (x12_1 : Int).toNat true) l1 (l1.length : Int) (wrap64 (x12_1 + 1))) else (impl_places_joined.l0 k1 (x5_1.set (x12_1 : Int).toNat (rdOf false l1 x12_1)) l1 (l1.length : Int) (wrap64 (x12_1 + 1)))) = some r := by rw [← hbq9] at H; exact H
       have Nbq9 := Aside0.mk hbq9
       clear hbq9
       by_cases c10 : bq9 = true
       ·subst c10
        have H1 : (impl_places_joined.l0 k1 (x5_1.set (x12_1 : Int).toNat true) l1 (l1.length : Int) (wrap64 (x12_1 + 1))) = some r := by rw [if_pos rfl] at H; exact H
        clear H
        have H := H1
        clear H1
        obtain ⟨y305, hy305⟩ : ∃ y_ : List Bool, y_ = (x5_1.set (x12_1 : Int).toNat true) := ⟨_, rfl⟩
        replace H : (impl_places_joined.l0 k1 y305 l1 (l1.length : Int) (wrap64 (x12_1 + 1))) = some r := by first | (rw [hy305]; with_reducible exact H) | (have H2_ := (Option.bind_some _ _).symm.trans H; rw [hy305]; with_reducible exact H2_) | (have H2_ := (Option.bind_some _ _).symm.trans H; with_reducible exact H2_) | with_reducible exact H | (rw [hy305]; exact H) | exact H
        have Ny305 := Aside0.mk hy305
        clear hy305
        have H' := Aside0.mk H
        clear H
        have p303 : 0 ≤ (x12_1 : Int) := of_decide_eq_true dq21
        have q303 : x12_1 < (l1.length : Int) := of_decide_eq_true dq21
        obtain ⟨ad303, e303, hx303_0⟩ := Kd.at_bool HR1.out x12_1 p303 q303
        (try rw [← Nbq9.out] at hx303_0)
        cases e303
        replace hx303_0 := (HB.out.cell (World.block_lt_of_cell? w _ hx303_0)).trans hx303_0
        replace p303 := eq_true p303
        replace q303 := eq_true q303
        obtain ⟨Ao12, co12, eo12⟩ := Kd.R_slice HO_5.out
        subst eo12
        have p304 : 0 ≤ (x12_1 : Int) := of_decide_eq_true dq21
        have q304 : x12_1 < (x5_1.length : Int) := of_decide_eq_true dq21
        obtain ⟨ad304, e304, hx304_0⟩ := Kd.at_bool (Kd.R_reads' HO_5.out).2.2 x12_1 p304 q304
        (try rw [← Nbq9.out] at hx304_0)
        cases e304
        replace p304 := eq_true p304
        replace q304 := eq_true q304
        have p11 : 0 ≤ (x12_1 : Int) := of_decide_eq_true dq21
        have q11 : (x12_1 : Int) < ((x5_1.length : Int) : Int) := of_decide_eq_true dq21
        obtain ⟨go11, co11, eo11, gb11, gl11, cl11, HG11⟩ := Kd.R_form HO_5.out dq24
        (first | cases eo11 | (injection eo11 with ea_ en_ ec_; (first | subst ea_ | (injection ea_ with ea_; subst ea_)); subst ec_; clear en_))
        have GB11 := Aside0.mk gb11
        have GG11 := Aside0.mk HG11
        clear gb11 gl11 HG11
        (first | simp only [add_plain] at hx304_0 | skip)
        obtain ⟨hx11_0, hf11_0⟩ := Kd.R_celln false HO_5.out (x12_1 : Int) p11 q11
        replace p11 := eq_true p11
        replace q11 := eq_true q11
        have HP13 := Kd.R_putg HO_5.out (x12_1 : Int) true
        go_wp2_with (first | ((with_reducible refine gate_store (t := 4) (p := 26) rfl ?_); refine store_event (t := 4) (p := 26) (v := ?vo_w14) (w1 := (wr.setCell ⟨go11, (x12_1 : Int).toNat, none⟩ (.bool true))) ?hg ?ho ?hn ?hr ?_; (case ho => rfl); (case hg => rfl); (case hn => rfl); (case hr => exact dq0); intro w14 hw; have hg : wr.grownBy w14 (some go11) := (by rw [hw]; exact HP13.2); have hp_ : Kd.R Kd.bool 4 w14 w.heap.size (fun _ => True) (.slice (some ⟨go11, 0, none⟩) x5_1.length co12) y305 := (by rw [hw, Ny305.out]; exact HP13.1); clear HP13; have n0_ := Aside0.mk (hp_); have n1_ := Aside0.mk ((by rw [hw]; exact below_set (HB.out) GB11.out : Below w.heap.size w w14)); clear HO_5; clear HB; have HO_5 := n0_; have HB := n1_; clear n0_ n1_; clear hg hw hp_))
        go_roundg k1
        case measure => have := HK1.out; omega
        case rel => exact ⟨(y305), (wrap64 (x12_1 + 1)), dq14, H', ⟨dq22⟩, ⟨dq97⟩, ⟨dq18⟩⟩
       ·replace c10 := Bool.eq_false_iff.mpr c10
        subst c10
        have H1 : (impl_places_joined.l0 k1 (x5_1.set (x12_1 : Int).toNat (rdOf false l1 x12_1)) l1 (l1.length : Int) (wrap64 (x12_1 + 1))) = some r := by rw [if_neg (show ¬ (false = true) by decide)] at H; exact H
        clear H
        have H := H1
        clear H1
        obtain ⟨y306, hy306⟩ : ∃ y_ : List Bool, y_ = (x5_1.set (x12_1 : Int).toNat (rdOf false l1 x12_1)) := ⟨_, rfl⟩
        replace H : (impl_places_joined.l0 k1 y306 l1 (l1.length : Int) (wrap64 (x12_1 + 1))) = some r := by first | (rw [hy306]; with_reducible exact H) | (have H2_ := (Option.bind_some _ _).symm.trans H; rw [hy306]; with_reducible exact H2_) | (have H2_ := (Option.bind_some _ _).symm.trans H; with_reducible exact H2_) | with_reducible exact H | (rw [hy306]; exact H) | exact H
        have Ny306 := Aside0.mk hy306
        clear hy306
        have H' := Aside0.mk H
        clear H
        have p303 : 0 ≤ (x12_1 : Int) := of_decide_eq_true dq21
        have q303 : x12_1 < (l1.length : Int) := of_decide_eq_true dq21
        obtain ⟨ad303, e303, hx303_0⟩ := Kd.at_bool HR1.out x12_1 p303 q303
        (try rw [← Nbq9.out] at hx303_0)
        cases e303
        replace hx303_0 := (HB.out.cell (World.block_lt_of_cell? w _ hx303_0)).trans hx303_0
        replace p303 := eq_true p303
        replace q303 := eq_true q303
        obtain ⟨Ao16, co16, eo16⟩ := Kd.R_slice HO_5.out
        subst eo16
        have p304 : 0 ≤ (x12_1 : Int) := of_decide_eq_true dq21
        have q304 : x12_1 < (x5_1.length : Int) := of_decide_eq_true dq21
        obtain ⟨ad304, e304, hx304_0⟩ := Kd.at_bool (Kd.R_reads' HO_5.out).2.2 x12_1 p304 q304
        (try rw [← Nbq9.out] at hx304_0)
        cases e304
        replace p304 := eq_true p304
        replace q304 := eq_true q304
        have p15 : 0 ≤ (x12_1 : Int) := of_decide_eq_true dq21
        have q15 : (x12_1 : Int) < ((x5_1.length : Int) : Int) := of_decide_eq_true dq21
        obtain ⟨go15, co15, eo15, gb15, gl15, cl15, HG15⟩ := Kd.R_form HO_5.out dq24
        (first | cases eo15 | (injection eo15 with ea_ en_ ec_; (first | subst ea_ | (injection ea_ with ea_; subst ea_)); subst ec_; clear en_))
        have GB15 := Aside0.mk gb15
        have GG15 := Aside0.mk HG15
        clear gb15 gl15 HG15
        (first | simp only [add_plain] at hx304_0 | skip)
        obtain ⟨hx15_0, hf15_0⟩ := Kd.R_celln false HO_5.out (x12_1 : Int) p15 q15
        replace p15 := eq_true p15
        replace q15 := eq_true q15
        have HP17 := Kd.R_putg HO_5.out (x12_1 : Int) (rdOf false l1 x12_1)
        go_wp2_with (first | ((with_reducible refine gate_store (t := 4) (p := 26) rfl ?_); refine store_event (t := 4) (p := 26) (v := ?vo_w18) (w1 := (wr.setCell ⟨go15, (x12_1 : Int).toNat, none⟩ (.bool (rdOf false l1 x12_1)))) ?hg ?ho ?hn ?hr ?_; (case ho => rfl); (case hg => rfl); (case hn => rfl); (case hr => exact dq0); intro w18 hw; have hg : wr.grownBy w18 (some go15) := (by rw [hw]; exact HP17.2); have hp_ : Kd.R Kd.bool 4 w18 w.heap.size (fun _ => True) (.slice (some ⟨go15, 0, none⟩) x5_1.length co16) y306 := (by rw [hw, Ny306.out]; exact HP17.1); clear HP17; have n0_ := Aside0.mk (hp_); have n1_ := Aside0.mk ((by rw [hw]; exact below_set (HB.out) GB15.out : Below w.heap.size w w18)); clear HO_5; clear HB; have HO_5 := n0_; have HB := n1_; clear n0_ n1_; clear hg hw hp_))
        go_roundg k1
        case measure => have := HK1.out; omega
        case rel => exact ⟨(y306), (wrap64 (x12_1 + 1)), dq14, H', ⟨dq22⟩, ⟨dq97⟩, ⟨dq18⟩⟩
      ·rw [if_neg c8] at H
       exact absurd H dq23
     ·rw [if_neg c7] at H
      exact absurd H dq23
    ·rw [if_neg c6] at H
     exact absurd H dq23
   ·rw [if_neg c5] at H
    have c5b0 := decide_eq_false c5
    clear c5
    obtain rfl := Option.some.inj H
    go_wp2
    go_ret
    exact ⟨_, dq20, dq97, dq18⟩

/-! ### impl_places_bool_114: function 114 -/
def impl_places_bool_114.l0 : Nat → List Bool → List Bool → Int → Int → Option (Bool)
 | 0, _, _, _, _ => none
 | k + 1, x0, x1, x12, x13 => if x13 < x12 then (if 0 ≤ x13 then (if x13 < (x0.length : Int) then (if x13 < (x1.length : Int) then (if ((rdOf false x0 x13) != (rdOf false x1 x13)) = true then (some false) else (impl_places_bool_114.l0 k x0 x1 x12 (wrap64 (x13 + 1)))) else (none)) else (none)) else (none)) else (some true)
def impl_places_bool_114.f (k : Nat) (l0 : List Bool) (l1 : List Bool) : Option (Bool) := if (l0.length : Int) = (l1.length : Int) then (impl_places_bool_114.l0 k l0 l1 (l0.length : Int) 0) else (some false)
set_option maxHeartbeats 8000000 in
set_option maxRecDepth 100000 in
theorem impl_places_bool_114.calls (k : Nat) (A0 : Option Addr) (c0 : Nat) (l0 : List Bool) (A1 : Option Addr) (c1 : Nat) (l1 : List Bool) (r : Bool) (w : World) (hr0 : Kd.C Kd.bool w A0 l0.length l0) (hc0 : l0.length ≤ c0) (hr1 : Kd.C Kd.bool w A1 l1.length l1) (hc1 : l1.length ≤ c1) (h : impl_places_bool_114.f k l0 l1 = some r) :
  Calls Tryd.prog 114 #[.slice A0 l0.length c0, .slice A1 l1.length c1] w fun e w' => e = .returned (.bool r) ∧ Drawn0 w w' := by
 have HR0 := Aside0.mk hr0
 have HC0 := Aside0.mk hc0
 clear hr0 hc0
 have HR1 := Aside0.mk hr1
 have HC1 := Aside0.mk hc1
 clear hr1 hc1
 have H : (if (l0.length : Int) = (l1.length : Int) then (impl_places_bool_114.l0 k l0 l1 (l0.length : Int) 0) else (some false)) = some r := h
 clear h
 by_cases c3 : (l0.length : Int) = (l1.length : Int)
 ·rw [if_pos c3] at H
  have c3b0 := beq_iff_eq.mpr c3
  have c3b1 := bne_eq_false_iff_eq.mpr c3
  have c3b2 : (l0.length == l1.length) = true := by first | simpa using c3 | (simp at c3 ⊢; omega)
  clear c3
  have H' := Aside0.mk H
  clear H
  go_enter Tryd.func114, Tryd.ntmps114
  go_wp2
  repeat (go_quiet (fail); try go_wp2)
  go_loopg [13] k (fun kq v13 w' => ∃ (x13_1 : Int), v13 = .int .i64 x13_1 ∧ Aside0 (impl_places_bool_114.l0 kq l0 l1 (l0.length : Int) x13_1 = some r) ∧ Aside0 (kq ≤ k) ∧ Drawn0 w w')
  case atStart => exact ⟨(0), dq14, H', ⟨Nat.le_refl _⟩, dq13⟩
  case round =>
   clear H'
   try clear c1
   try clear p2
   try clear c3
   try clear c3b0
   try clear c3b1
   try clear c3b2
   obtain ⟨x13_1, rfl, HA, HK1, ⟨m1, rfl⟩⟩ := hrel
   cases gk with
   | zero => exact absurd HA.out (by simp [impl_places_bool_114.l0])
   | succ k1 =>
    have H := HA.out
    clear HA
    simp only [impl_places_bool_114.l0] at H
    by_cases c4 : x13_1 < (l0.length : Int)
    ·rw [if_pos c4] at H
     have c4b0 := decide_eq_true c4
     clear c4
     by_cases c5 : 0 ≤ x13_1
     ·rw [if_pos c5] at H
      have c5b0 := decide_eq_true c5
      clear c5
      by_cases c6 : x13_1 < (l0.length : Int)
      ·rw [if_pos c6] at H
       have c6b0 := decide_eq_true c6
       clear c6
       by_cases c7 : x13_1 < (l1.length : Int)
       ·rw [if_pos c7] at H
        have c7b0 := decide_eq_true c7
        clear c7
        by_cases c8 : ((rdOf false l0 x13_1) != (rdOf false l1 x13_1)) = true
        ·rw [if_pos c8] at H
         have c8b0 : ((rdOf false l0 x13_1) != (rdOf false l1 x13_1)) = true := c8
         (try (have c8b1 : decide ((rdOf false l0 x13_1) = (rdOf false l1 x13_1)) = false := by simpa using c8))
         (try (have c8b2 : ((rdOf false l0 x13_1) == (rdOf false l1 x13_1)) = false := by simpa using c8))
         (try (have c8b3 : ¬ ((rdOf false l0 x13_1) = (rdOf false l1 x13_1)) := by simpa using c8))
         clear c8
         obtain rfl := Option.some.inj H
         have p307 : 0 ≤ (x13_1 : Int) := of_decide_eq_true dq21
         have q307 : x13_1 < (l0.length : Int) := of_decide_eq_true dq21
         obtain ⟨ad307, e307, hx307_0⟩ := Kd.at_bool HR0.out x13_1 p307 q307
         cases e307
         replace p307 := eq_true p307
         replace q307 := eq_true q307
         have p308 : 0 ≤ (x13_1 : Int) := of_decide_eq_true dq21
         have q308 : x13_1 < (l1.length : Int) := of_decide_eq_true dq21
         obtain ⟨ad308, e308, hx308_0⟩ := Kd.at_bool HR1.out x13_1 p308 q308
         cases e308
         replace p308 := eq_true p308
         replace q308 := eq_true q308
         go_wp2
         repeat (go_quiet (fail); try go_wp2)
         go_ret
         exact ⟨dq14, dq13⟩
        ·rw [if_neg c8] at H
         have c8b0 : ((rdOf false l0 x13_1) != (rdOf false l1 x13_1)) = false := by simpa using c8
         (try (have c8b1 : decide ((rdOf false l0 x13_1) = (rdOf false l1 x13_1)) = true := by simpa using c8))
         (try (have c8b2 : ((rdOf false l0 x13_1) == (rdOf false l1 x13_1)) = true := by simpa using c8))
         clear c8
         have H' := Aside0.mk H
         clear H
         have p307 : 0 ≤ (x13_1 : Int) := of_decide_eq_true dq21
         have q307 : x13_1 < (l0.length : Int) := of_decide_eq_true dq21
         obtain ⟨ad307, e307, hx307_0⟩ := Kd.at_bool HR0.out x13_1 p307 q307
         cases e307
         replace p307 := eq_true p307
         replace q307 := eq_true q307
         have p308 : 0 ≤ (x13_1 : Int) := of_decide_eq_true dq21
         have q308 : x13_1 < (l1.length : Int) := of_decide_eq_true dq21
         obtain ⟨ad308, e308, hx308_0⟩ := Kd.at_bool HR1.out x13_1 p308 q308
         cases e308
         replace p308 := eq_true p308
         replace q308 := eq_true q308
         go_wp2
         repeat (go_quiet (fail); try go_wp2)
         go_roundg k1
         case measure => have := HK1.out; omega
         case rel => exact ⟨(wrap64 (x13_1 + 1)), dq14, H', ⟨dq22⟩, dq13⟩
       ·rw [if_neg c7] at H
        exact absurd H dq23
      ·rw [if_neg c6] at H
       exact absurd H dq23
     ·rw [if_neg c5] at H
      exact absurd H dq23
    ·rw [if_neg c4] at H
     have c4b0 := decide_eq_false c4
     clear c4
     obtain rfl := Option.some.inj H
     go_wp2
     repeat (go_quiet (fail); try go_wp2)
     go_ret
     exact ⟨dq14, dq13⟩
 ·rw [if_neg c3] at H
  have c3b0 := beq_eq_false_iff_ne.mpr c3
  have c3b1 := bne_iff_ne.mpr c3
  have c3b2 : (l0.length == l1.length) = false := by first | simpa using c3 | (simp at c3 ⊢; omega)
  obtain rfl := Option.some.inj H
  go_enter Tryd.func114, Tryd.ntmps114
  go_wp2
  repeat (go_quiet (fail); try go_wp2)
  go_ret
  exact ⟨dq14, dq13⟩

end Go.Proofs.YtilmhfkbpnejeaaDoor.L
