/- Words and contracts for the row RowFnExactAccepts: what the Go functions answer that it calls; printed by programs of the kit and of this session, and merged. -/
import Derived.Test.YtejkkdjfiebmfaaQe3
namespace Go.Proofs.Ytejkkdjfiebmfaa.L
open Go.RowKit Go.Proofs.YtejkkdjfiebmfaaW.PrintWords Go.Proofs.YtejkkdjfiebmfaaW.PrintLast Go.Proofs.YtejkkdjfiebmfaaW.PrintMore
attribute [local go_sem] max2_int min2_int max_two min_two max_three min_three max_four min_four
set_option linter.unusedVariables false
set_option linter.unusedSimpArgs false

/-! ### spec_l8Ends: function 72 -/
mutual
def l8EndsG.j0 (E_ : Nat → List (S49) → Int → List ByteArray → List Bool → Option (List Bool)) : Nat → List (S49) → Int → List ByteArray → List Bool → List Bool → Bool → Option (List Bool)
  | 0, _, _, _, _, _, _ => none
  | k + 1, x0, x1, x2, x3, x10, x35 => if x35 = true then (l8EndsG.l0 E_ k x0 x1 x2 x3 x10 0) else (l8EndsG.j2 E_ k x0 x1 x2 x10)
def l8EndsG.j2 (E_ : Nat → List (S49) → Int → List ByteArray → List Bool → Option (List Bool)) : Nat → List (S49) → Int → List ByteArray → List Bool → Option (List Bool)
  | 0, _, _, _, _ => none
  | k + 1, x0, x1, x2, x10 => if 0 ≤ x1 then (if x1 < (x0.length : Int) then (if ((rd_T49 x0 x1).f3) < 2 then (some x10) else (l8EndsG.l1 E_ k x0 x1 x2 x10)) else (none)) else (none)
def l8EndsG.l1 (E_ : Nat → List (S49) → Int → List ByteArray → List Bool → Option (List Bool)) : Nat → List (S49) → Int → List ByteArray → List Bool → Option (List Bool)
  | 0, _, _, _, _ => none
  | k + 1, x0, x1, x2, x10 => (E_ k x0 x1 x2 x10).bind fun t181 => (l8EndsG.l2 E_ k x0 x1 x2 t181 x10 false 0)
def l8EndsG.l2 (E_ : Nat → List (S49) → Int → List ByteArray → List Bool → Option (List Bool)) : Nat → List (S49) → Int → List ByteArray → List Bool → List Bool → Bool → Int → Option (List Bool)
  | 0, _, _, _, _, _, _, _ => none
  | k + 1, x0, x1, x2, x9, x10, x12, x13 => if x13 < (x10.length : Int) then (if x12 = true then (if 0 ≤ x13 then (if rdOf false x10 x13 = true then (l8EndsG.l2 E_ k x0 x1 x2 x9 (x10.set (x13 : Int).toNat true) true (wrap64 (x13 + 1))) else (if x13 < (x9.length : Int) then (l8EndsG.l2 E_ k x0 x1 x2 x9 (x10.set (x13 : Int).toNat (rdOf false x9 x13)) true (wrap64 (x13 + 1))) else (none))) else (none)) else (if 0 ≤ x13 then (if x13 < (x9.length : Int) then (if rdOf false x9 x13 = true then (if rdOf false x10 x13 = true then (l8EndsG.l2 E_ k x0 x1 x2 x9 (x10.set (x13 : Int).toNat true) (!(rdOf false x10 x13)) (wrap64 (x13 + 1))) else (l8EndsG.l2 E_ k x0 x1 x2 x9 (x10.set (x13 : Int).toNat (rdOf false x9 x13)) (!(rdOf false x10 x13)) (wrap64 (x13 + 1)))) else (if rdOf false x10 x13 = true then (l8EndsG.l2 E_ k x0 x1 x2 x9 (x10.set (x13 : Int).toNat true) false (wrap64 (x13 + 1))) else (l8EndsG.l2 E_ k x0 x1 x2 x9 (x10.set (x13 : Int).toNat (rdOf false x9 x13)) false (wrap64 (x13 + 1))))) else (none)) else (none))) else (if x12 = true then (l8EndsG.l1 E_ k x0 x1 x2 x10) else (some x10))
def l8EndsG.l0 (E_ : Nat → List (S49) → Int → List ByteArray → List Bool → Option (List Bool)) : Nat → List (S49) → Int → List ByteArray → List Bool → List Bool → Int → Option (List Bool)
  | 0, _, _, _, _, _, _ => none
  | k + 1, x0, x1, x2, x3, x10, x11 => if x11 < (x10.length : Int) then (if 0 ≤ x11 then (if rdOf false x10 x11 = true then (l8EndsG.l0 E_ k x0 x1 x2 x3 (x10.set (x11 : Int).toNat true) (wrap64 (x11 + 1))) else (if x11 < (x3.length : Int) then (l8EndsG.l0 E_ k x0 x1 x2 x3 (x10.set (x11 : Int).toNat (rdOf false x3 x11)) (wrap64 (x11 + 1))) else (none))) else (none)) else (l8EndsG.j2 E_ k x0 x1 x2 x10)
end
def l8EndsG.f (E_ : Nat → List (S49) → Int → List ByteArray → List Bool → Option (List Bool)) (k : Nat) (l0 : List (S49)) (a1 : Int) (l2 : List ByteArray) (l3 : List Bool) : Option (List Bool) := (E_ k l0 a1 l2 l3).bind fun t165 => ((some (([] : List Bool) : List Bool)).bind fun y168 => (if y168.length + t165.length < 140737488355328 then ((some (y168 ++ t165 : List Bool)).bind fun y171 => (if 0 ≤ a1 then (if a1 < (l0.length : Int) then (if ((rd_T49 l0 a1).f3) = 1 then (l8EndsG.j0 E_ k l0 a1 l2 l3 y171 true) else (l8EndsG.j0 E_ k l0 a1 l2 l3 y171 (((rd_T49 l0 a1).f3) == 2))) else (none)) else (none))) else (none)))
set_option maxHeartbeats 8000000 in
set_option maxRecDepth 100000 in
theorem l8EndsG.calls (E_ : Nat → List (S49) → Int → List ByteArray → List Bool → Option (List Bool)) (hEc_ : ∀ (k : Nat) (A0 : Option Addr) (c0 : Nat) (l0 : List (S49)) (a1 : Int) (A2 : Option Addr) (c2 : Nat) (l2 : List ByteArray) (A3 : Option Addr) (c3 : Nat) (l3 : List Bool) (r : List Bool) (w : World) (_ : Kd.C k49 w A0 l0.length l0) (_ : l0.length ≤ c0) (_ : Kd.C Kd.string w A2 l2.length l2) (_ : l2.length ≤ c2) (_ : Kd.C Kd.bool w A3 l3.length l3) (_ : l3.length ≤ c3) (_ : E_ k l0 a1 l2 l3 = some r), Calls Try.prog 88 #[.slice A0 l0.length c0, .int .i64 a1, .slice A2 l2.length c2, .slice A3 l3.length c3] w fun e w' => ∃ v0_ : Value, e = .returned (v0_) ∧ Kd.R Kd.bool 4 w' w.heap.size (fun _ => True) v0_ r ∧ Below w.heap.size w w') (k : Nat) (A0 : Option Addr) (c0 : Nat) (l0 : List (S49)) (a1 : Int) (A2 : Option Addr) (c2 : Nat) (l2 : List ByteArray) (A3 : Option Addr) (c3 : Nat) (l3 : List Bool) (r : List Bool) (w : World) (hr0 : Kd.C k49 w A0 l0.length l0) (hc0 : l0.length ≤ c0) (hr2 : Kd.C Kd.string w A2 l2.length l2) (hc2 : l2.length ≤ c2) (hr3 : Kd.C Kd.bool w A3 l3.length l3) (hc3 : l3.length ≤ c3) (h : l8EndsG.f E_ k l0 a1 l2 l3 = some r) :
    Calls Try.prog 72 #[.slice A0 l0.length c0, .int .i64 a1, .slice A2 l2.length c2, .slice A3 l3.length c3] w fun e w' => ∃ v0_ : Value, e = .returned (v0_) ∧ Kd.R Kd.bool 4 w' w.heap.size (fun _ => True) v0_ r ∧ Below w.heap.size w w' := by
  have HE_ := Aside0.mk hEc_
  clear hEc_
  have HR0 := Aside0.mk hr0
  have HC0 := Aside0.mk hc0
  clear hr0 hc0
  have HR2 := Aside0.mk hr2
  have HC2 := Aside0.mk hc2
  clear hr2 hc2
  have HR3 := Aside0.mk hr3
  have HC3 := Aside0.mk hc3
  clear hr3 hc3
  have HB := Aside0.mk (Below.refl w.heap.size w)
  have H : ((E_ k l0 a1 l2 l3).bind fun t165 => ((some (([] : List Bool) : List Bool)).bind fun y168 => (if y168.length + t165.length < 140737488355328 then ((some (y168 ++ t165 : List Bool)).bind fun y171 => (if 0 ≤ a1 then (if a1 < (l0.length : Int) then (if ((rd_T49 l0 a1).f3) = 1 then (l8EndsG.j0 E_ k l0 a1 l2 l3 y171 true) else (l8EndsG.j0 E_ k l0 a1 l2 l3 y171 (((rd_T49 l0 a1).f3) == 2))) else (none)) else (none))) else (none)))) = some r := h
  clear h
  replace H := Option.bind_eq_some_iff.mp H
  obtain ⟨t165, A50, H⟩ := H
  replace H : ((some (([] : List Bool) : List Bool)).bind fun y168 => (if y168.length + t165.length < 140737488355328 then ((some (y168 ++ t165 : List Bool)).bind fun y171 => (if 0 ≤ a1 then (if a1 < (l0.length : Int) then (if ((rd_T49 l0 a1).f3) = 1 then (l8EndsG.j0 E_ k l0 a1 l2 l3 y171 true) else (l8EndsG.j0 E_ k l0 a1 l2 l3 y171 (((rd_T49 l0 a1).f3) == 2))) else (none)) else (none))) else (none))) = some r := H
  have A5 := Aside0.mk A50
  clear A50
  obtain ⟨y168, hy168⟩ : ∃ y_ : List Bool, y_ = (([] : List Bool)) := ⟨_, rfl⟩
  replace H : (if y168.length + t165.length < 140737488355328 then ((some (y168 ++ t165 : List Bool)).bind fun y171 => (if 0 ≤ a1 then (if a1 < (l0.length : Int) then (if ((rd_T49 l0 a1).f3) = 1 then (l8EndsG.j0 E_ k l0 a1 l2 l3 y171 true) else (l8EndsG.j0 E_ k l0 a1 l2 l3 y171 (((rd_T49 l0 a1).f3) == 2))) else (none)) else (none))) else (none)) = some r := by first | (rw [hy168]; with_reducible exact H) | (have H2_ := (Option.bind_some _ _).symm.trans H; rw [hy168]; with_reducible exact H2_) | (have H2_ := (Option.bind_some _ _).symm.trans H; with_reducible exact H2_) | with_reducible exact H | (rw [hy168]; exact H) | exact H
  have Ny168 := Aside0.mk hy168
  clear hy168
  by_cases c6 : y168.length + t165.length < 140737488355328
  · rw [if_pos c6] at H
    have LMc6 := Aside0.mk c6
    clear c6
    obtain ⟨y171, hy171⟩ : ∃ y_ : List Bool, y_ = (y168 ++ t165) := ⟨_, rfl⟩
    replace H : (if 0 ≤ a1 then (if a1 < (l0.length : Int) then (if ((rd_T49 l0 a1).f3) = 1 then (l8EndsG.j0 E_ k l0 a1 l2 l3 y171 true) else (l8EndsG.j0 E_ k l0 a1 l2 l3 y171 (((rd_T49 l0 a1).f3) == 2))) else (none)) else (none)) = some r := by first | (rw [hy171]; with_reducible exact H) | (have H2_ := (Option.bind_some _ _).symm.trans H; rw [hy171]; with_reducible exact H2_) | (have H2_ := (Option.bind_some _ _).symm.trans H; with_reducible exact H2_) | with_reducible exact H | (rw [hy171]; exact H) | exact H
    have Ny171 := Aside0.mk hy171
    clear hy171
    have HC7 := Aside0.mk H
    clear H
    go_enter Try.func72, Try.ntmps72
    go_upto_region 3 with (first | ((with_reducible refine gate_callee (f := 88) rfl ?_); refine goesL_ (some 18) rfl rfl Try.func88 (by kernel_rfl) rfl #[.slice A0 l0.length c0, .int .i64 a1, .slice A2 l2.length c2, .slice A3 l3.length c3] rfl (by (try simp only [List.map_toArray, List.map_cons, List.map_nil]); first | done | rfl | (simp only [List.length_drop, List.length_take]; rfl)) ?_; (with_reducible refine (HE_.out k _ _ l0 a1 _ _ l2 _ _ l3 t165 _ ?side1 ?side2 ?side3 ?side4 ?side5 ?side6 A5.out).mono ?_); (case side1 => repeat (first | exact HR0.out | (with_reducible refine Kd.C_alloc ?_ _) | (with_reducible refine Kd.C_drewN ?_ _) | (with_reducible refine Kd.C_drew ?_))); (case side2 => exact HC0.out); (case side3 => repeat (first | exact HR2.out | (with_reducible refine Kd.C_alloc ?_ _) | (with_reducible refine Kd.C_drewN ?_ _) | (with_reducible refine Kd.C_drew ?_))); (case side4 => exact HC2.out); (case side5 => repeat (first | exact HR3.out | (with_reducible refine Kd.C_alloc ?_ _) | (with_reducible refine Kd.C_drewN ?_ _) | (with_reducible refine Kd.C_drew ?_))); (case side6 => exact HC3.out); rintro e w8 ⟨v166, rfl, ho0, hb⟩; refine ⟨_, rfl, ?_⟩; have n0_ := Aside0.mk (Kd.R_lower ho0 (below_size (by repeat (first | (with_reducible first | exact HB.out | apply below_alloc | apply pw_below_drewN | apply below_drew1) | exact HB.out)))); have n1_ := Aside0.mk (below_step (by repeat (first | (with_reducible first | exact HB.out | apply below_alloc | apply pw_below_drewN | apply below_drew1) | exact HB.out)) hb); clear HB; have HO167 := n0_; have HB := n1_; clear n0_ n1_; (try clear hb); (try clear hb2); (try clear hk); (try clear hi); (try clear ho0)) | ((with_reducible refine gate_dst (N := 19) rfl ?_); refine Kd.R_lit Kd.bool _ 4 ?hg (N := 19) ?hd (xs := ([] : List Bool)) (inner := []) (ok := fun _ => True) (okp := fun _ => True) ?hr ?hp (fun _ hk => hk) trivial (Below.refl _ _) (Nat.le_refl _) (by simp) ?_; (case hd => rfl); (case hg => rfl); (case hr => first | (go_simp; done) | (go_simp; rfl)); (case hp => exact (Reps.none _ _)); intro v169 w9 ho10 hb hg_ hnew_; clear hg_ hnew_; (first | rw [← Ny168.out] at ho10 | (simp only [Int.reduceToNat] at ho10; rw [← Ny168.out] at ho10)); have n0_ := Aside0.mk (Kd.R_elder' (by (with_reducible repeat (first | apply Kd.R_alloc | apply Kd.R_drewN | apply Kd.R_drew)); exact HO167.out) (Kd.R_base ho10) hb); have n1_ := Aside0.mk (Kd.R_lower (Kd.R_new' ho10 (Kd.R_lt (by (with_reducible repeat (first | apply Kd.R_alloc | apply Kd.R_drewN | apply Kd.R_drew)); exact HO167.out))) (below_size (by repeat (first | (with_reducible first | exact HB.out | apply below_alloc | apply pw_below_drewN | apply below_drew1) | exact HB.out)))); have n2_ := Aside0.mk (below_step (by repeat (first | (with_reducible first | exact HB.out | apply below_alloc | apply pw_below_drewN | apply below_drew1) | exact HB.out)) hb); clear HO167; clear HB; have HO167 := n0_; have HO170 := n1_; have HB := n2_; clear n0_ n1_ n2_; clear hb ho10; obtain ⟨Ao12, co12, eo12⟩ := Kd.R_slice HO167.out; subst eo12) | ((with_reducible refine gate_builtin (b := .append) (xs := #[.tmp 19, .tmp 20]) rfl ?_); at_builtin; refine Kd.R_append_rows Kd.bool (w0 := w) w.heap.size rfl (.tmp 19) (.tmp 20) 56 4 (.bool false) 1 rfl Try.underlying56 info4 rfl (by decide) (by omega) v169 y168 t165 _ _ _ (fun k_ => some k_ ≠ (.slice Ao12 t165.length co12 : Value).ownBlock) (fun _ => False) rfl rfl ?aO ?aR (fun _ _ h => h) (fun _ h => h.elim) ?aF ?aB ?aS ?aL ?_; (case aR => repeat (first | exact (Kd.R_reads' HO167.out).2.2 | (with_reducible refine Kd.C_alloc ?_ _) | (with_reducible refine Kd.C_drewN ?_ _) | (with_reducible refine Kd.C_drew ?_))); (case aB => exact (by repeat (first | (with_reducible first | exact HB.out | apply below_alloc | apply pw_below_drewN | apply below_drew1) | exact HB.out))); (case aF => exact (fun k_ hk => Kd.fresh' (Kd.R_lt (by (with_reducible repeat (first | apply Kd.R_alloc | apply Kd.R_drewN | apply Kd.R_drew)); exact HO167.out)) k_ hk)); (case aO => exact (by (with_reducible repeat (first | apply Kd.R_alloc | apply Kd.R_drewN | apply Kd.R_drew)); exact Kd.R_mono HO170.out (fun _ hk => hk.2))); (case aS => exact (below_size (by repeat (first | (with_reducible first | exact HB.out | apply below_alloc | apply pw_below_drewN | apply below_drew1) | exact HB.out)))); (case aL => have := LMc6.out; omega); intro v172 w11 ho hb hg hat; rw [← Ny171.out] at ho; have n0_ := Aside0.mk (Kd.R_after (ok := (fun _ => True)) (by (with_reducible repeat (first | apply Kd.R_alloc | apply Kd.R_drewN | apply Kd.R_drew)); exact HO167.out) hg hat); have n1_ := Aside0.mk (hb); have n2_ := Aside0.mk (ho); clear HO167; clear HB; clear HO170; have HO167 := n0_; have HB := n1_; have HO173 := n2_; clear n0_ n1_ n2_; clear ho hb hg hat))
    (try simp only [Act.put, List.setIfInBounds_toArray, List.set_cons_zero, List.set_cons_succ])
    go_cut [35] (fun v35 wc => ∃ (kq : Nat) (x35_6 : Bool), v35 = .bool x35_6 ∧ Aside0 (l8EndsG.j0 E_ kq l0 a1 l2 l3 y171 x35_6 = some r) ∧ Aside0 (kq ≤ k) ∧ Aside0 (Kd.R Kd.bool 4 wc w.heap.size (fun _ => True) v172 y171) ∧ Aside0 (Below w.heap.size w wc))
    case first =>
      have H := HC7.out
      clear HC7
      by_cases c13 : 0 ≤ a1
      · rw [if_pos c13] at H
        have c13b0 : decide (0 ≤ a1) = true := decide_eq_true c13
        clear c13
        (first | rw [c13b0] | (simp only [i64_w, i32_w]; rw [c13b0]) | skip)
        by_cases c14 : a1 < (l0.length : Int)
        · rw [if_pos c14] at H
          have c14b0 : decide (a1 < (l0.length : Int)) = true := decide_eq_true c14
          clear c14
          by_cases c15 : ((rd_T49 l0 a1).f3) = 1
          · rw [if_pos c15] at H
            have c15b0 : (((rd_T49 l0 a1).f3) == 1) = true := beq_iff_eq.mpr c15
            have c15b1 : (((rd_T49 l0 a1).f3) != 1) = false := bne_eq_false_iff_eq.mpr c15
            clear c15
            have H' := Aside0.mk H
            clear H
            have p174 : 0 ≤ (a1 : Int) := of_decide_eq_true (by first | (with_reducible assumption) | assumption)
            have q174 : a1 < (l0.length : Int) := of_decide_eq_true (by first | (with_reducible assumption) | assumption)
            obtain ⟨ad174, A174_2, c174_2, e174, hx174_0, hx174_1, hx174_2, hx174_3, hl174_2, hi174_2⟩ := at_T49 HR0.out a1 p174 q174
            cases e174
            replace hx174_0 := (HB.out.cell (World.block_lt_of_cell? w _ hx174_0)).trans hx174_0
            replace hx174_1 := (HB.out.cell (World.block_lt_of_cell? w _ hx174_1)).trans hx174_1
            replace hx174_2 := (HB.out.cell (World.block_lt_of_cell? w _ hx174_2)).trans hx174_2
            replace hx174_3 := (HB.out.cell (World.block_lt_of_cell? w _ hx174_3)).trans hx174_3
            have HR174_2 := Aside0.mk hi174_2
            have HC174_2 := Aside0.mk hl174_2
            clear hi174_2 hl174_2
            replace p174 := eq_true p174
            replace q174 := eq_true q174
            go_wp2
            go_meet
            case rel => exact ⟨_, (true), (by first | rfl | (simp; done) | (simp [*]; done)), H', ⟨by first | omega | exact Nat.le_refl _⟩, ⟨by (with_reducible repeat (first | apply Kd.R_alloc | apply Kd.R_drewN | apply Kd.R_drew)); exact Kd.R_mono HO173.out (fun _ hk => trivial)⟩, ⟨by repeat (first | (with_reducible first | exact HB.out | apply below_alloc | apply pw_below_drewN | apply below_drew1) | exact HB.out)⟩⟩
          · rw [if_neg c15] at H
            have c15b0 : (((rd_T49 l0 a1).f3) == 1) = false := beq_eq_false_iff_ne.mpr c15
            have c15b1 : (((rd_T49 l0 a1).f3) != 1) = true := bne_iff_ne.mpr c15
            have H' := Aside0.mk H
            clear H
            have p174 : 0 ≤ (a1 : Int) := of_decide_eq_true (by first | (with_reducible assumption) | assumption)
            have q174 : a1 < (l0.length : Int) := of_decide_eq_true (by first | (with_reducible assumption) | assumption)
            obtain ⟨ad174, A174_2, c174_2, e174, hx174_0, hx174_1, hx174_2, hx174_3, hl174_2, hi174_2⟩ := at_T49 HR0.out a1 p174 q174
            cases e174
            replace hx174_0 := (HB.out.cell (World.block_lt_of_cell? w _ hx174_0)).trans hx174_0
            replace hx174_1 := (HB.out.cell (World.block_lt_of_cell? w _ hx174_1)).trans hx174_1
            replace hx174_2 := (HB.out.cell (World.block_lt_of_cell? w _ hx174_2)).trans hx174_2
            replace hx174_3 := (HB.out.cell (World.block_lt_of_cell? w _ hx174_3)).trans hx174_3
            have HR174_2 := Aside0.mk hi174_2
            have HC174_2 := Aside0.mk hl174_2
            clear hi174_2 hl174_2
            replace p174 := eq_true p174
            replace q174 := eq_true q174
            have p175 : 0 ≤ (a1 : Int) := of_decide_eq_true (by first | (with_reducible assumption) | assumption)
            have q175 : a1 < (l0.length : Int) := of_decide_eq_true (by first | (with_reducible assumption) | assumption)
            obtain ⟨ad175, A175_2, c175_2, e175, hx175_0, hx175_1, hx175_2, hx175_3, hl175_2, hi175_2⟩ := at_T49 HR0.out a1 p175 q175
            obtain rfl : ad174 = ad175 := (by injection e175)
            replace hx175_0 := (HB.out.cell (World.block_lt_of_cell? w _ hx175_0)).trans hx175_0
            replace hx175_1 := (HB.out.cell (World.block_lt_of_cell? w _ hx175_1)).trans hx175_1
            replace hx175_2 := (HB.out.cell (World.block_lt_of_cell? w _ hx175_2)).trans hx175_2
            replace hx175_3 := (HB.out.cell (World.block_lt_of_cell? w _ hx175_3)).trans hx175_3
            have HR175_2 := Aside0.mk hi175_2
            have HC175_2 := Aside0.mk hl175_2
            clear hi175_2 hl175_2
            replace p175 := eq_true p175
            replace q175 := eq_true q175
            have ea_ := Option.some.inj (hx174_2.symm.trans hx175_2)
            injection ea_ with ea_ en_ ec_
            subst ea_
            subst ec_
            clear en_
            go_wp2
            go_meet
            case rel => exact ⟨_, ((((rd_T49 l0 a1).f3) == 2)), (by first | rfl | (simp; done) | (simp [*]; done)), H', ⟨by first | omega | exact Nat.le_refl _⟩, ⟨by (with_reducible repeat (first | apply Kd.R_alloc | apply Kd.R_drewN | apply Kd.R_drew)); exact Kd.R_mono HO173.out (fun _ hk => trivial)⟩, ⟨by repeat (first | (with_reducible first | exact HB.out | apply below_alloc | apply pw_below_drewN | apply below_drew1) | exact HB.out)⟩⟩
        · rw [if_neg c14] at H
          exact absurd H (by simp)
      · rw [if_neg c13] at H
        exact absurd H (by simp)
    case rest =>
      clear HC7
      obtain ⟨kq, x35_6, rfl, HA, HJ6, HO_10, HB⟩ := hcut
      cases kq with
      | zero => exact absurd HA.out (by simp [l8EndsG.j0])
      | succ kj6 =>
        have H := HA.out
        clear HA
        simp only [l8EndsG.j0] at H
        have HC16 := Aside0.mk H
        clear H
        go_upto_if 35 with (fail)
        go_cut [] (fun wc => ∃ (kq : Nat) (x10_15 : List Bool), Aside0 (l8EndsG.j2 E_ kq l0 a1 l2 x10_15 = some r) ∧ Aside0 (kq ≤ kj6) ∧ Aside0 (Kd.R Kd.bool 4 wc w.heap.size (fun _ => True) v172 x10_15) ∧ Aside0 (Below w.heap.size w wc))
        case first =>
          have H := HC16.out
          clear HC16
          by_cases c17 : x35_6 = true
          · subst c17
            have H1 : (l8EndsG.l0 E_ kj6 l0 a1 l2 l3 y171 0) = some r := by rw [if_pos rfl] at H; exact H
            clear H
            have H := H1
            clear H1
            have H' := Aside0.mk H
            clear H
            go_wp2
            go_loopg [11] kj6 (fun kq v11 w' => ∃ (x10_2 : List Bool) (x11_2 : Int), v11 = .int .i64 x11_2 ∧ Aside0 (l8EndsG.l0 E_ kq l0 a1 l2 l3 x10_2 x11_2 = some r) ∧ Aside0 (kq ≤ kj6) ∧ Aside0 (Kd.R Kd.bool 4 w' w.heap.size (fun _ => True) v172 x10_2) ∧ Aside0 (Below w.heap.size w w'))
            case atStart => exact ⟨(y171), (0), (by first | rfl | (simp; done) | (simp [*]; done)), H', ⟨Nat.le_refl _⟩, ⟨by (with_reducible repeat (first | apply Kd.R_alloc | apply Kd.R_drewN | apply Kd.R_drew)); exact HO_10.out⟩, ⟨by repeat (first | (with_reducible first | exact HB.out | apply below_alloc | apply pw_below_drewN | apply below_drew1) | exact HB.out)⟩⟩
            case round =>
              clear H'
              obtain ⟨x10_2, x11_2, rfl, HA, HK2, HO_10, HB⟩ := hrel
              cases gk with
              | zero => exact absurd HA.out (by simp [l8EndsG.l0])
              | succ k2 =>
                have H := HA.out
                clear HA
                simp only [l8EndsG.l0] at H
                by_cases c18 : x11_2 < (x10_2.length : Int)
                · rw [if_pos c18] at H
                  have c18b0 : decide (x11_2 < (x10_2.length : Int)) = true := decide_eq_true c18
                  clear c18
                  (first | rw [c18b0] | (simp only [i64_w, i32_w]; rw [c18b0]) | skip)
                  by_cases c19 : 0 ≤ x11_2
                  · rw [if_pos c19] at H
                    have c19b0 : decide (0 ≤ x11_2) = true := decide_eq_true c19
                    clear c19
                    obtain ⟨bq20, hbq20⟩ : ∃ b_ : Bool, b_ = (rdOf false x10_2 x11_2) := ⟨_, rfl⟩
                    replace H : (if bq20 = true then (l8EndsG.l0 E_ k2 l0 a1 l2 l3 (x10_2.set (x11_2 : Int).toNat true) (wrap64 (x11_2 + 1))) else (if x11_2 < (l3.length : Int) then (l8EndsG.l0 E_ k2 l0 a1 l2 l3 (x10_2.set (x11_2 : Int).toNat (rdOf false l3 x11_2)) (wrap64 (x11_2 + 1))) else (none))) = some r := by rw [← hbq20] at H; exact H
                    have Nbq20 := Aside0.mk hbq20
                    clear hbq20
                    by_cases c21 : bq20 = true
                    · subst c21
                      have H1 : (l8EndsG.l0 E_ k2 l0 a1 l2 l3 (x10_2.set (x11_2 : Int).toNat true) (wrap64 (x11_2 + 1))) = some r := by rw [if_pos rfl] at H; exact H
                      clear H
                      have H := H1
                      clear H1
                      obtain ⟨y177, hy177⟩ : ∃ y_ : List Bool, y_ = (x10_2.set (x11_2 : Int).toNat true) := ⟨_, rfl⟩
                      replace H : (l8EndsG.l0 E_ k2 l0 a1 l2 l3 y177 (wrap64 (x11_2 + 1))) = some r := by first | (rw [hy177]; with_reducible exact H) | (have H2_ := (Option.bind_some _ _).symm.trans H; rw [hy177]; with_reducible exact H2_) | (have H2_ := (Option.bind_some _ _).symm.trans H; with_reducible exact H2_) | with_reducible exact H | (rw [hy177]; exact H) | exact H
                      have Ny177 := Aside0.mk hy177
                      clear hy177
                      have H' := Aside0.mk H
                      clear H
                      obtain ⟨Ao23, co23, eo23⟩ := Kd.R_slice HO_10.out
                      subst eo23
                      have p176 : 0 ≤ (x11_2 : Int) := of_decide_eq_true (by first | (with_reducible assumption) | assumption)
                      have q176 : x11_2 < (x10_2.length : Int) := of_decide_eq_true (by first | (with_reducible assumption) | assumption)
                      obtain ⟨ad176, e176, hx176_0⟩ := Kd.at_bool (Kd.R_reads' HO_10.out).2.2 x11_2 p176 q176
                      (try rw [← Nbq20.out] at hx176_0)
                      cases e176
                      replace p176 := eq_true p176
                      replace q176 := eq_true q176
                      have p22 : 0 ≤ (x11_2 : Int) := of_decide_eq_true (by first | (with_reducible assumption) | assumption)
                      have q22 : (x11_2 : Int) < ((x10_2.length : Int) : Int) := of_decide_eq_true (by first | (with_reducible assumption) | assumption)
                      obtain ⟨go22, co22, eo22, gb22, gl22, cl22, HG22⟩ := Kd.R_form HO_10.out (by omega)
                      (first | cases eo22 | (injection eo22 with ea_ en_ ec_; (first | subst ea_ | (injection ea_ with ea_; subst ea_)); subst ec_; clear en_))
                      have GB22 := Aside0.mk gb22
                      have GG22 := Aside0.mk HG22
                      clear gb22 gl22 HG22
                      (first | simp only [add_plain] at hx176_0 | skip)
                      obtain ⟨hx22_0, hf22_0⟩ := Kd.R_celln false HO_10.out (x11_2 : Int) p22 q22
                      replace p22 := eq_true p22
                      replace q22 := eq_true q22
                      have HP24 := Kd.R_putg HO_10.out (x11_2 : Int) true
                      go_wp2_with (first | ((with_reducible refine gate_store (t := 4) (p := 54) rfl ?_); refine store_event (t := 4) (p := 54) (v := ?vo_w25) (w1 := (wr.setCell ⟨go22, (x11_2 : Int).toNat, none⟩ (.bool true))) ?hg ?ho ?hn ?hr ?_; (case ho => rfl); (case hg => rfl); (case hn => rfl); (case hr => first | (go_simp; done) | (go_simp; rfl)); intro w25 hw; have hg : wr.grownBy w25 (some go22) := (by rw [hw]; exact HP24.2); have hp_ : Kd.R Kd.bool 4 w25 w.heap.size (fun _ => True) (.slice (some ⟨go22, 0, none⟩) x10_2.length co23) y177 := (by rw [hw, Ny177.out]; exact HP24.1); clear HP24; have n0_ := Aside0.mk (hp_); have n1_ := Aside0.mk ((by rw [hw]; exact below_set (HB.out) GB22.out : Below w.heap.size w w25)); clear HO_10; clear HB; have HO_10 := n0_; have HB := n1_; clear n0_ n1_; clear hg hw hp_))
                      go_roundg k2
                      case measure => have := HJ6.out; have := HK2.out; omega
                      case rel => exact ⟨(y177), (wrap64 (x11_2 + 1)), (by first | rfl | (simp; done) | (simp [*]; done)), H', ⟨by have := HJ6.out; have := HK2.out; omega⟩, ⟨by (with_reducible repeat (first | apply Kd.R_alloc | apply Kd.R_drewN | apply Kd.R_drew)); exact HO_10.out⟩, ⟨by repeat (first | (with_reducible first | exact HB.out | apply below_alloc | apply pw_below_drewN | apply below_drew1) | exact HB.out)⟩⟩
                    · replace c21 := Bool.eq_false_iff.mpr c21
                      subst c21
                      have H1 : (if x11_2 < (l3.length : Int) then (l8EndsG.l0 E_ k2 l0 a1 l2 l3 (x10_2.set (x11_2 : Int).toNat (rdOf false l3 x11_2)) (wrap64 (x11_2 + 1))) else (none)) = some r := by rw [if_neg (show ¬ (false = true) by decide)] at H; exact H
                      clear H
                      have H := H1
                      clear H1
                      by_cases c26 : x11_2 < (l3.length : Int)
                      · rw [if_pos c26] at H
                        have c26b0 : decide (x11_2 < (l3.length : Int)) = true := decide_eq_true c26
                        clear c26
                        obtain ⟨y179, hy179⟩ : ∃ y_ : List Bool, y_ = (x10_2.set (x11_2 : Int).toNat (rdOf false l3 x11_2)) := ⟨_, rfl⟩
                        replace H : (l8EndsG.l0 E_ k2 l0 a1 l2 l3 y179 (wrap64 (x11_2 + 1))) = some r := by first | (rw [hy179]; with_reducible exact H) | (have H2_ := (Option.bind_some _ _).symm.trans H; rw [hy179]; with_reducible exact H2_) | (have H2_ := (Option.bind_some _ _).symm.trans H; with_reducible exact H2_) | with_reducible exact H | (rw [hy179]; exact H) | exact H
                        have Ny179 := Aside0.mk hy179
                        clear hy179
                        have H' := Aside0.mk H
                        clear H
                        obtain ⟨Ao28, co28, eo28⟩ := Kd.R_slice HO_10.out
                        subst eo28
                        have p176 : 0 ≤ (x11_2 : Int) := of_decide_eq_true (by first | (with_reducible assumption) | assumption)
                        have q176 : x11_2 < (x10_2.length : Int) := of_decide_eq_true (by first | (with_reducible assumption) | assumption)
                        obtain ⟨ad176, e176, hx176_0⟩ := Kd.at_bool (Kd.R_reads' HO_10.out).2.2 x11_2 p176 q176
                        (try rw [← Nbq20.out] at hx176_0)
                        cases e176
                        replace p176 := eq_true p176
                        replace q176 := eq_true q176
                        have p178 : 0 ≤ (x11_2 : Int) := of_decide_eq_true (by first | (with_reducible assumption) | assumption)
                        have q178 : x11_2 < (l3.length : Int) := of_decide_eq_true (by first | (with_reducible assumption) | assumption)
                        obtain ⟨ad178, e178, hx178_0⟩ := Kd.at_bool HR3.out x11_2 p178 q178
                        (try rw [← Nbq20.out] at hx178_0)
                        cases e178
                        replace hx178_0 := (HB.out.cell (World.block_lt_of_cell? w _ hx178_0)).trans hx178_0
                        replace p178 := eq_true p178
                        replace q178 := eq_true q178
                        have p27 : 0 ≤ (x11_2 : Int) := of_decide_eq_true (by first | (with_reducible assumption) | assumption)
                        have q27 : (x11_2 : Int) < ((x10_2.length : Int) : Int) := of_decide_eq_true (by first | (with_reducible assumption) | assumption)
                        obtain ⟨go27, co27, eo27, gb27, gl27, cl27, HG27⟩ := Kd.R_form HO_10.out (by omega)
                        (first | cases eo27 | (injection eo27 with ea_ en_ ec_; (first | subst ea_ | (injection ea_ with ea_; subst ea_)); subst ec_; clear en_))
                        have GB27 := Aside0.mk gb27
                        have GG27 := Aside0.mk HG27
                        clear gb27 gl27 HG27
                        (first | simp only [add_plain] at hx176_0 | skip)
                        obtain ⟨hx27_0, hf27_0⟩ := Kd.R_celln false HO_10.out (x11_2 : Int) p27 q27
                        replace p27 := eq_true p27
                        replace q27 := eq_true q27
                        have HP29 := Kd.R_putg HO_10.out (x11_2 : Int) (rdOf false l3 x11_2)
                        go_wp2_with (first | ((with_reducible refine gate_store (t := 4) (p := 54) rfl ?_); refine store_event (t := 4) (p := 54) (v := ?vo_w30) (w1 := (wr.setCell ⟨go27, (x11_2 : Int).toNat, none⟩ (.bool (rdOf false l3 x11_2)))) ?hg ?ho ?hn ?hr ?_; (case ho => rfl); (case hg => rfl); (case hn => rfl); (case hr => first | (go_simp; done) | (go_simp; rfl)); intro w30 hw; have hg : wr.grownBy w30 (some go27) := (by rw [hw]; exact HP29.2); have hp_ : Kd.R Kd.bool 4 w30 w.heap.size (fun _ => True) (.slice (some ⟨go27, 0, none⟩) x10_2.length co28) y179 := (by rw [hw, Ny179.out]; exact HP29.1); clear HP29; have n0_ := Aside0.mk (hp_); have n1_ := Aside0.mk ((by rw [hw]; exact below_set (HB.out) GB27.out : Below w.heap.size w w30)); clear HO_10; clear HB; have HO_10 := n0_; have HB := n1_; clear n0_ n1_; clear hg hw hp_))
                        go_roundg k2
                        case measure => have := HJ6.out; have := HK2.out; omega
                        case rel => exact ⟨(y179), (wrap64 (x11_2 + 1)), (by first | rfl | (simp; done) | (simp [*]; done)), H', ⟨by have := HJ6.out; have := HK2.out; omega⟩, ⟨by (with_reducible repeat (first | apply Kd.R_alloc | apply Kd.R_drewN | apply Kd.R_drew)); exact HO_10.out⟩, ⟨by repeat (first | (with_reducible first | exact HB.out | apply below_alloc | apply pw_below_drewN | apply below_drew1) | exact HB.out)⟩⟩
                      · rw [if_neg c26] at H
                        exact absurd H (by simp)
                  · rw [if_neg c19] at H
                    exact absurd H (by simp)
                · rw [if_neg c18] at H
                  have c18b0 : decide (x11_2 < (x10_2.length : Int)) = false := decide_eq_false c18
                  clear c18
                  (first | rw [c18b0] | (simp only [i64_w, i32_w]; rw [c18b0]) | skip)
                  have H' := Aside0.mk H
                  clear H
                  obtain ⟨Ao31, co31, eo31⟩ := Kd.R_slice HO_10.out
                  subst eo31
                  go_wp2
                  go_meet
                  case rel => exact ⟨_, (x10_2), H', ⟨by have := HJ6.out; have := HK2.out; first | omega | exact Nat.le_refl _⟩, ⟨by (with_reducible repeat (first | apply Kd.R_alloc | apply Kd.R_drewN | apply Kd.R_drew)); exact HO_10.out⟩, ⟨by repeat (first | (with_reducible first | exact HB.out | apply below_alloc | apply pw_below_drewN | apply below_drew1) | exact HB.out)⟩⟩
          · replace c17 := Bool.eq_false_iff.mpr c17
            subst c17
            have H1 : (l8EndsG.j2 E_ kj6 l0 a1 l2 y171) = some r := by rw [if_neg (show ¬ (false = true) by decide)] at H; exact H
            clear H
            have H := H1
            clear H1
            have H' := Aside0.mk H
            clear H
            go_wp2
            go_meet
            case rel => exact ⟨_, (y171), H', ⟨by have := HJ6.out; first | omega | exact Nat.le_refl _⟩, ⟨by (with_reducible repeat (first | apply Kd.R_alloc | apply Kd.R_drewN | apply Kd.R_drew)); exact HO_10.out⟩, ⟨by repeat (first | (with_reducible first | exact HB.out | apply below_alloc | apply pw_below_drewN | apply below_drew1) | exact HB.out)⟩⟩
        case rest =>
          clear HC16
          obtain ⟨kq, x10_15, HA, HJ15, HO_10, HB⟩ := hcut
          cases kq with
          | zero => exact absurd HA.out (by simp [l8EndsG.j2])
          | succ kj15 =>
            have H := HA.out
            clear HA
            simp only [l8EndsG.j2] at H
            by_cases c32 : 0 ≤ a1
            · rw [if_pos c32] at H
              have c32b0 : decide (0 ≤ a1) = true := decide_eq_true c32
              clear c32
              by_cases c33 : a1 < (l0.length : Int)
              · rw [if_pos c33] at H
                have c33b0 : decide (a1 < (l0.length : Int)) = true := decide_eq_true c33
                clear c33
                by_cases c34 : ((rd_T49 l0 a1).f3) < 2
                · rw [if_pos c34] at H
                  have c34b0 : decide (((rd_T49 l0 a1).f3) < 2) = true := decide_eq_true c34
                  clear c34
                  obtain rfl := Option.some.inj H
                  have p180 : 0 ≤ (a1 : Int) := of_decide_eq_true (by first | (with_reducible assumption) | assumption)
                  have q180 : a1 < (l0.length : Int) := of_decide_eq_true (by first | (with_reducible assumption) | assumption)
                  obtain ⟨ad180, A180_2, c180_2, e180, hx180_0, hx180_1, hx180_2, hx180_3, hl180_2, hi180_2⟩ := at_T49 HR0.out a1 p180 q180
                  cases e180
                  replace hx180_0 := (HB.out.cell (World.block_lt_of_cell? w _ hx180_0)).trans hx180_0
                  replace hx180_1 := (HB.out.cell (World.block_lt_of_cell? w _ hx180_1)).trans hx180_1
                  replace hx180_2 := (HB.out.cell (World.block_lt_of_cell? w _ hx180_2)).trans hx180_2
                  replace hx180_3 := (HB.out.cell (World.block_lt_of_cell? w _ hx180_3)).trans hx180_3
                  have HR180_2 := Aside0.mk hi180_2
                  have HC180_2 := Aside0.mk hl180_2
                  clear hi180_2 hl180_2
                  replace p180 := eq_true p180
                  replace q180 := eq_true q180
                  go_wp2
                  go_ret
                  exact ⟨_, by first | rfl | (simp [errW_none, errW_some] <;> rfl) | (simp [*, errW_none, errW_some] <;> rfl), by (with_reducible repeat (first | apply Kd.R_alloc | apply Kd.R_drewN | apply Kd.R_drew)); exact HO_10.out, by repeat (first | (with_reducible first | exact HB.out | apply below_alloc | apply pw_below_drewN | apply below_drew1) | exact HB.out)⟩
                · rw [if_neg c34] at H
                  have c34b0 : decide (((rd_T49 l0 a1).f3) < 2) = false := decide_eq_false c34
                  clear c34
                  have H' := Aside0.mk H
                  clear H
                  have p180 : 0 ≤ (a1 : Int) := of_decide_eq_true (by first | (with_reducible assumption) | assumption)
                  have q180 : a1 < (l0.length : Int) := of_decide_eq_true (by first | (with_reducible assumption) | assumption)
                  obtain ⟨ad180, A180_2, c180_2, e180, hx180_0, hx180_1, hx180_2, hx180_3, hl180_2, hi180_2⟩ := at_T49 HR0.out a1 p180 q180
                  cases e180
                  replace hx180_0 := (HB.out.cell (World.block_lt_of_cell? w _ hx180_0)).trans hx180_0
                  replace hx180_1 := (HB.out.cell (World.block_lt_of_cell? w _ hx180_1)).trans hx180_1
                  replace hx180_2 := (HB.out.cell (World.block_lt_of_cell? w _ hx180_2)).trans hx180_2
                  replace hx180_3 := (HB.out.cell (World.block_lt_of_cell? w _ hx180_3)).trans hx180_3
                  have HR180_2 := Aside0.mk hi180_2
                  have HC180_2 := Aside0.mk hl180_2
                  clear hi180_2 hl180_2
                  replace p180 := eq_true p180
                  replace q180 := eq_true q180
                  go_wp2
                  go_loopg [] kj15 (fun kq w' => ∃ (x10_3 : List Bool), Aside0 (l8EndsG.l1 E_ kq l0 a1 l2 x10_3 = some r) ∧ Aside0 (kq ≤ kj15) ∧ Aside0 (Kd.R Kd.bool 4 w' w.heap.size (fun _ => True) v172 x10_3) ∧ Aside0 (Below w.heap.size w w'))
                  case atStart => exact ⟨(x10_15), H', ⟨Nat.le_refl _⟩, ⟨by (with_reducible repeat (first | apply Kd.R_alloc | apply Kd.R_drewN | apply Kd.R_drew)); exact HO_10.out⟩, ⟨by repeat (first | (with_reducible first | exact HB.out | apply below_alloc | apply pw_below_drewN | apply below_drew1) | exact HB.out)⟩⟩
                  case round =>
                    clear H'
                    try clear c32b0
                    try clear c33b0
                    try clear c34b0
                    try clear hx180_0
                    try clear hx180_1
                    try clear hx180_2
                    try clear hx180_3
                    try clear p180
                    try clear q180
                    obtain ⟨x10_3, HA, HK3, HO_10, HB⟩ := hrel
                    cases gk with
                    | zero => exact absurd HA.out (by simp [l8EndsG.l1])
                    | succ k3 =>
                      have H := HA.out
                      clear HA
                      simp only [l8EndsG.l1] at H
                      replace H := Option.bind_eq_some_iff.mp H
                      obtain ⟨t181, A350, H⟩ := H
                      replace H : (l8EndsG.l2 E_ k3 l0 a1 l2 t181 x10_3 false 0) = some r := H
                      have A35 := Aside0.mk A350
                      clear A350
                      have H' := Aside0.mk H
                      clear H
                      obtain ⟨Ao36, co36, eo36⟩ := Kd.R_slice HO_10.out
                      subst eo36
                      go_wp2_with (first | ((with_reducible refine gate_callee (f := 88) rfl ?_); refine goesL_ (some 66) rfl rfl Try.func88 (by kernel_rfl) rfl #[.slice (some ad180) l0.length c0, .int .i64 a1, .slice A2 l2.length c2, .slice Ao36 x10_3.length co36] rfl (by (try simp only [List.map_toArray, List.map_cons, List.map_nil]); first | done | rfl | (simp only [List.length_drop, List.length_take]; rfl)) ?_; (with_reducible refine (HE_.out k3 _ _ l0 a1 _ _ l2 _ _ x10_3 t181 _ ?side1 ?side2 ?side3 ?side4 ?side5 ?side6 A35.out).mono ?_); (case side1 => repeat (first | exact (Kd.C_below HR0.out HB.out) | (with_reducible refine Kd.C_alloc ?_ _) | (with_reducible refine Kd.C_drewN ?_ _) | (with_reducible refine Kd.C_drew ?_))); (case side2 => exact HC0.out); (case side3 => repeat (first | exact (Kd.C_below HR2.out HB.out) | (with_reducible refine Kd.C_alloc ?_ _) | (with_reducible refine Kd.C_drewN ?_ _) | (with_reducible refine Kd.C_drew ?_))); (case side4 => exact HC2.out); (case side5 => repeat (first | exact (Kd.R_reads' HO_10.out).2.2 | (with_reducible refine Kd.C_alloc ?_ _) | (with_reducible refine Kd.C_drewN ?_ _) | (with_reducible refine Kd.C_drew ?_))); (case side6 => exact (Kd.R_reads' HO_10.out).2.1); rintro e w37 ⟨v182, rfl, ho0, hb⟩; refine ⟨_, rfl, ?_⟩; have n0_ := Aside0.mk (Kd.R_elder' (by (with_reducible repeat (first | apply Kd.R_alloc | apply Kd.R_drewN | apply Kd.R_drew)); exact HO_10.out) (Kd.R_base ho0) hb); have n1_ := Aside0.mk (Kd.R_lower (Kd.R_new' ho0 (Kd.R_lt (by (with_reducible repeat (first | apply Kd.R_alloc | apply Kd.R_drewN | apply Kd.R_drew)); exact HO_10.out))) (below_size (by repeat (first | (with_reducible first | exact HB.out | apply below_alloc | apply pw_below_drewN | apply below_drew1) | exact HB.out)))); have n2_ := Aside0.mk (below_step (by repeat (first | (with_reducible first | exact HB.out | apply below_alloc | apply pw_below_drewN | apply below_drew1) | exact HB.out)) hb); clear HO_10; clear HB; have HO_10 := n0_; have HO183 := n1_; have HB := n2_; clear n0_ n1_ n2_; (try clear hb); (try clear hb2); (try clear hk); (try clear hi); (try clear ho0)))
                      go_loopg [12, 13] k3 (fun kq v12 v13 w' => ∃ (x10_4 : List Bool) (x12_4 : Bool) (x13_4 : Int), v12 = .bool x12_4 ∧ v13 = .int .i64 x13_4 ∧ Aside0 (l8EndsG.l2 E_ kq l0 a1 l2 t181 x10_4 x12_4 x13_4 = some r) ∧ Aside0 (kq ≤ k3) ∧ Aside0 (Kd.R Kd.bool 4 w' w.heap.size (fun k_ => some k_ ≠ ((.slice Ao36 x10_3.length co36) : Value).ownBlock) v182 t181) ∧ Aside0 (Kd.R Kd.bool 4 w' w.heap.size (fun k_ => some k_ ≠ (v182 : Value).ownBlock) (.slice Ao36 x10_3.length co36) x10_4) ∧ Aside0 (Below w.heap.size w w'))
                      case atStart => exact ⟨(x10_3), (false), (0), (by first | rfl | (simp; done) | (simp [*]; done)), (by first | rfl | (simp; done) | (simp [*]; done)), H', ⟨Nat.le_refl _⟩, ⟨by (with_reducible repeat (first | apply Kd.R_alloc | apply Kd.R_drewN | apply Kd.R_drew)); exact Kd.R_mono HO183.out (fun _ hk => hk.2)⟩, ⟨by (with_reducible repeat (first | apply Kd.R_alloc | apply Kd.R_drewN | apply Kd.R_drew)); exact Kd.R_mono HO_10.out (fun _ hk => hk.2)⟩, ⟨by repeat (first | (with_reducible first | exact HB.out | apply below_alloc | apply pw_below_drewN | apply below_drew1) | exact HB.out)⟩⟩
                      case round =>
                        clear H'
                        obtain ⟨x10_4, x12_4, x13_4, rfl, rfl, HA, HK4, HO_9, HO_10, HB⟩ := hrel
                        have hl10_4 := (Kd.R_reads' HO_10.out).1
                        rw [hl10_4] at HO_10
                        (try simp only [hl10_4])
                        (try simp only [hl10_4] at HO_9)
                        cases gk with
                        | zero => exact absurd HA.out (by simp [l8EndsG.l2])
                        | succ k4 =>
                          have H := HA.out
                          clear HA
                          simp only [l8EndsG.l2] at H
                          by_cases c38 : x13_4 < (x10_4.length : Int)
                          · rw [if_pos c38] at H
                            have c38b0 : decide (x13_4 < (x10_4.length : Int)) = true := decide_eq_true c38
                            clear c38
                            by_cases c39 : x12_4 = true
                            · subst c39
                              have H1 : (if 0 ≤ x13_4 then (if rdOf false x10_4 x13_4 = true then (l8EndsG.l2 E_ k4 l0 a1 l2 t181 (x10_4.set (x13_4 : Int).toNat true) true (wrap64 (x13_4 + 1))) else (if x13_4 < (t181.length : Int) then (l8EndsG.l2 E_ k4 l0 a1 l2 t181 (x10_4.set (x13_4 : Int).toNat (rdOf false t181 x13_4)) true (wrap64 (x13_4 + 1))) else (none))) else (none)) = some r := by rw [if_pos rfl] at H; exact H
                              clear H
                              have H := H1
                              clear H1
                              by_cases c40 : 0 ≤ x13_4
                              · rw [if_pos c40] at H
                                have c40b0 : decide (0 ≤ x13_4) = true := decide_eq_true c40
                                clear c40
                                obtain ⟨bq41, hbq41⟩ : ∃ b_ : Bool, b_ = (rdOf false x10_4 x13_4) := ⟨_, rfl⟩
                                replace H : (if bq41 = true then (l8EndsG.l2 E_ k4 l0 a1 l2 t181 (x10_4.set (x13_4 : Int).toNat true) true (wrap64 (x13_4 + 1))) else (if x13_4 < (t181.length : Int) then (l8EndsG.l2 E_ k4 l0 a1 l2 t181 (x10_4.set (x13_4 : Int).toNat (rdOf false t181 x13_4)) true (wrap64 (x13_4 + 1))) else (none))) = some r := by rw [← hbq41] at H; exact H
                                have Nbq41 := Aside0.mk hbq41
                                clear hbq41
                                by_cases c42 : bq41 = true
                                · subst c42
                                  have H1 : (l8EndsG.l2 E_ k4 l0 a1 l2 t181 (x10_4.set (x13_4 : Int).toNat true) true (wrap64 (x13_4 + 1))) = some r := by rw [if_pos rfl] at H; exact H
                                  clear H
                                  have H := H1
                                  clear H1
                                  obtain ⟨y185, hy185⟩ : ∃ y_ : List Bool, y_ = (x10_4.set (x13_4 : Int).toNat true) := ⟨_, rfl⟩
                                  replace H : (l8EndsG.l2 E_ k4 l0 a1 l2 t181 y185 true (wrap64 (x13_4 + 1))) = some r := by first | (rw [hy185]; with_reducible exact H) | (have H2_ := (Option.bind_some _ _).symm.trans H; rw [hy185]; with_reducible exact H2_) | (have H2_ := (Option.bind_some _ _).symm.trans H; with_reducible exact H2_) | with_reducible exact H | (rw [hy185]; exact H) | exact H
                                  have Ny185 := Aside0.mk hy185
                                  clear hy185
                                  have H' := Aside0.mk H
                                  clear H
                                  have p184 : 0 ≤ (x13_4 : Int) := of_decide_eq_true (by first | (with_reducible assumption) | assumption)
                                  have q184 : x13_4 < (x10_4.length : Int) := of_decide_eq_true (by first | (with_reducible assumption) | assumption)
                                  obtain ⟨ad184, e184, hx184_0⟩ := Kd.at_bool (Kd.R_reads' HO_10.out).2.2 x13_4 p184 q184
                                  (try rw [← Nbq41.out] at hx184_0)
                                  cases e184
                                  replace p184 := eq_true p184
                                  replace q184 := eq_true q184
                                  have p43 : 0 ≤ (x13_4 : Int) := of_decide_eq_true (by first | (with_reducible assumption) | assumption)
                                  have q43 : (x13_4 : Int) < ((x10_4.length : Int) : Int) := of_decide_eq_true (by first | (with_reducible assumption) | assumption)
                                  obtain ⟨go43, co43, eo43, gb43, gl43, cl43, HG43⟩ := Kd.R_form HO_10.out (by omega)
                                  (first | cases eo43 | (injection eo43 with ea_ en_ ec_; (first | subst ea_ | (injection ea_ with ea_; subst ea_)); subst ec_; clear en_))
                                  have GB43 := Aside0.mk gb43
                                  have GG43 := Aside0.mk HG43
                                  clear gb43 gl43 HG43
                                  (first | simp only [add_plain] at hx184_0 | skip)
                                  obtain ⟨hx43_0, hf43_0⟩ := Kd.R_celln false HO_10.out (x13_4 : Int) p43 q43
                                  replace p43 := eq_true p43
                                  replace q43 := eq_true q43
                                  have HP44 := Kd.R_putg HO_10.out (x13_4 : Int) true
                                  go_wp2_with (first | ((with_reducible refine gate_store (t := 4) (p := 99) rfl ?_); refine store_event (t := 4) (p := 99) (v := ?vo_w45) (w1 := (wr.setCell ⟨go43, (x13_4 : Int).toNat, none⟩ (.bool true))) ?hg ?ho ?hn ?hr ?_; (case ho => rfl); (case hg => rfl); (case hn => rfl); (case hr => first | (go_simp; done) | (go_simp; rfl)); intro w45 hw; have hg : wr.grownBy w45 (some go43) := (by rw [hw]; exact HP44.2); have hp_ : Kd.R Kd.bool 4 w45 w.heap.size (fun k_ => some k_ ≠ (v182 : Value).ownBlock) (.slice (some ⟨go43, 0, none⟩) x10_4.length co36) y185 := (by rw [hw, Ny185.out]; exact HP44.1); clear HP44; have n0_ := Aside0.mk (Kd.R_after (v := (.slice (some ⟨go43, 0, none⟩) x10_4.length co36)) (v1 := (.slice (some ⟨go43, 0, none⟩) x10_4.length co36)) (ok := (fun _ => True)) (by (with_reducible repeat (first | apply Kd.R_alloc | apply Kd.R_drewN | apply Kd.R_drew)); exact Kd.R_mono HO_9.out (fun _ hk => ⟨trivial, hk⟩)) hg (.inl rfl)); have n1_ := Aside0.mk (hp_); have n2_ := Aside0.mk ((by rw [hw]; exact below_set (HB.out) GB43.out : Below w.heap.size w w45)); clear HO_9; clear HO_10; clear HB; have HO_9 := n0_; have HO_10 := n1_; have HB := n2_; clear n0_ n1_ n2_; clear hg hw hp_))
                                  (try simp only [← hl10_4])
                                  go_roundg k4
                                  case measure => have := HJ6.out; have := HJ15.out; have := HK3.out; have := HK4.out; omega
                                  case rel => exact ⟨(y185), (true), (wrap64 (x13_4 + 1)), (by first | rfl | (simp; done) | (simp [*]; done)), (by first | rfl | (simp; done) | (simp [*]; done)), H', ⟨by have := HJ6.out; have := HJ15.out; have := HK3.out; have := HK4.out; omega⟩, ⟨by (try simp only [hl10_4]); (with_reducible repeat (first | apply Kd.R_alloc | apply Kd.R_drewN | apply Kd.R_drew)); exact Kd.R_mono HO_9.out (fun _ hk => hk.2)⟩, ⟨by (try simp only [hl10_4]); (with_reducible repeat (first | apply Kd.R_alloc | apply Kd.R_drewN | apply Kd.R_drew)); exact HO_10.out⟩, ⟨by repeat (first | (with_reducible first | exact HB.out | apply below_alloc | apply pw_below_drewN | apply below_drew1) | exact HB.out)⟩⟩
                                · replace c42 := Bool.eq_false_iff.mpr c42
                                  subst c42
                                  have H1 : (if x13_4 < (t181.length : Int) then (l8EndsG.l2 E_ k4 l0 a1 l2 t181 (x10_4.set (x13_4 : Int).toNat (rdOf false t181 x13_4)) true (wrap64 (x13_4 + 1))) else (none)) = some r := by rw [if_neg (show ¬ (false = true) by decide)] at H; exact H
                                  clear H
                                  have H := H1
                                  clear H1
                                  by_cases c46 : x13_4 < (t181.length : Int)
                                  · rw [if_pos c46] at H
                                    have c46b0 : decide (x13_4 < (t181.length : Int)) = true := decide_eq_true c46
                                    clear c46
                                    obtain ⟨y187, hy187⟩ : ∃ y_ : List Bool, y_ = (x10_4.set (x13_4 : Int).toNat (rdOf false t181 x13_4)) := ⟨_, rfl⟩
                                    replace H : (l8EndsG.l2 E_ k4 l0 a1 l2 t181 y187 true (wrap64 (x13_4 + 1))) = some r := by first | (rw [hy187]; with_reducible exact H) | (have H2_ := (Option.bind_some _ _).symm.trans H; rw [hy187]; with_reducible exact H2_) | (have H2_ := (Option.bind_some _ _).symm.trans H; with_reducible exact H2_) | with_reducible exact H | (rw [hy187]; exact H) | exact H
                                    have Ny187 := Aside0.mk hy187
                                    clear hy187
                                    have H' := Aside0.mk H
                                    clear H
                                    have p184 : 0 ≤ (x13_4 : Int) := of_decide_eq_true (by first | (with_reducible assumption) | assumption)
                                    have q184 : x13_4 < (x10_4.length : Int) := of_decide_eq_true (by first | (with_reducible assumption) | assumption)
                                    obtain ⟨ad184, e184, hx184_0⟩ := Kd.at_bool (Kd.R_reads' HO_10.out).2.2 x13_4 p184 q184
                                    (try rw [← Nbq41.out] at hx184_0)
                                    cases e184
                                    replace p184 := eq_true p184
                                    replace q184 := eq_true q184
                                    obtain ⟨Ao48, co48, eo48⟩ := Kd.R_slice HO_9.out
                                    subst eo48
                                    have p186 : 0 ≤ (x13_4 : Int) := of_decide_eq_true (by first | (with_reducible assumption) | assumption)
                                    have q186 : x13_4 < (t181.length : Int) := of_decide_eq_true (by first | (with_reducible assumption) | assumption)
                                    obtain ⟨ad186, e186, hx186_0⟩ := Kd.at_bool (Kd.R_reads' HO_9.out).2.2 x13_4 p186 q186
                                    (try rw [← Nbq41.out] at hx186_0)
                                    cases e186
                                    replace p186 := eq_true p186
                                    replace q186 := eq_true q186
                                    have p47 : 0 ≤ (x13_4 : Int) := of_decide_eq_true (by first | (with_reducible assumption) | assumption)
                                    have q47 : (x13_4 : Int) < ((x10_4.length : Int) : Int) := of_decide_eq_true (by first | (with_reducible assumption) | assumption)
                                    obtain ⟨go47, co47, eo47, gb47, gl47, cl47, HG47⟩ := Kd.R_form HO_10.out (by omega)
                                    (first | cases eo47 | (injection eo47 with ea_ en_ ec_; (first | subst ea_ | (injection ea_ with ea_; subst ea_)); subst ec_; clear en_))
                                    have GB47 := Aside0.mk gb47
                                    have GG47 := Aside0.mk HG47
                                    clear gb47 gl47 HG47
                                    (first | simp only [add_plain] at hx184_0 | skip)
                                    obtain ⟨hx47_0, hf47_0⟩ := Kd.R_celln false HO_10.out (x13_4 : Int) p47 q47
                                    replace p47 := eq_true p47
                                    replace q47 := eq_true q47
                                    have HP49 := Kd.R_putg HO_10.out (x13_4 : Int) (rdOf false t181 x13_4)
                                    go_wp2_with (first | ((with_reducible refine gate_store (t := 4) (p := 99) rfl ?_); refine store_event (t := 4) (p := 99) (v := ?vo_w50) (w1 := (wr.setCell ⟨go47, (x13_4 : Int).toNat, none⟩ (.bool (rdOf false t181 x13_4)))) ?hg ?ho ?hn ?hr ?_; (case ho => rfl); (case hg => rfl); (case hn => rfl); (case hr => first | (go_simp; done) | (go_simp; rfl)); intro w50 hw; have hg : wr.grownBy w50 (some go47) := (by rw [hw]; exact HP49.2); have hp_ : Kd.R Kd.bool 4 w50 w.heap.size (fun k_ => some k_ ≠ (.slice (some ad186) t181.length co48 : Value).ownBlock) (.slice (some ⟨go47, 0, none⟩) x10_4.length co36) y187 := (by rw [hw, Ny187.out]; exact HP49.1); clear HP49; have n0_ := Aside0.mk (Kd.R_after (v := (.slice (some ⟨go47, 0, none⟩) x10_4.length co36)) (v1 := (.slice (some ⟨go47, 0, none⟩) x10_4.length co36)) (ok := (fun _ => True)) (by (with_reducible repeat (first | apply Kd.R_alloc | apply Kd.R_drewN | apply Kd.R_drew)); exact Kd.R_mono HO_9.out (fun _ hk => ⟨trivial, hk⟩)) hg (.inl rfl)); have n1_ := Aside0.mk (hp_); have n2_ := Aside0.mk ((by rw [hw]; exact below_set (HB.out) GB47.out : Below w.heap.size w w50)); clear HO_9; clear HO_10; clear HB; have HO_9 := n0_; have HO_10 := n1_; have HB := n2_; clear n0_ n1_ n2_; clear hg hw hp_))
                                    (try simp only [← hl10_4])
                                    go_roundg k4
                                    case measure => have := HJ6.out; have := HJ15.out; have := HK3.out; have := HK4.out; omega
                                    case rel => exact ⟨(y187), (true), (wrap64 (x13_4 + 1)), (by first | rfl | (simp; done) | (simp [*]; done)), (by first | rfl | (simp; done) | (simp [*]; done)), H', ⟨by have := HJ6.out; have := HJ15.out; have := HK3.out; have := HK4.out; omega⟩, ⟨by (try simp only [hl10_4]); (with_reducible repeat (first | apply Kd.R_alloc | apply Kd.R_drewN | apply Kd.R_drew)); exact Kd.R_mono HO_9.out (fun _ hk => hk.2)⟩, ⟨by (try simp only [hl10_4]); (with_reducible repeat (first | apply Kd.R_alloc | apply Kd.R_drewN | apply Kd.R_drew)); exact HO_10.out⟩, ⟨by repeat (first | (with_reducible first | exact HB.out | apply below_alloc | apply pw_below_drewN | apply below_drew1) | exact HB.out)⟩⟩
                                  · rw [if_neg c46] at H
                                    exact absurd H (by simp)
                              · rw [if_neg c40] at H
                                exact absurd H (by simp)
                            · replace c39 := Bool.eq_false_iff.mpr c39
                              subst c39
                              have H1 : (if 0 ≤ x13_4 then (if x13_4 < (t181.length : Int) then (if rdOf false t181 x13_4 = true then (if rdOf false x10_4 x13_4 = true then (l8EndsG.l2 E_ k4 l0 a1 l2 t181 (x10_4.set (x13_4 : Int).toNat true) (!(rdOf false x10_4 x13_4)) (wrap64 (x13_4 + 1))) else (l8EndsG.l2 E_ k4 l0 a1 l2 t181 (x10_4.set (x13_4 : Int).toNat (rdOf false t181 x13_4)) (!(rdOf false x10_4 x13_4)) (wrap64 (x13_4 + 1)))) else (if rdOf false x10_4 x13_4 = true then (l8EndsG.l2 E_ k4 l0 a1 l2 t181 (x10_4.set (x13_4 : Int).toNat true) false (wrap64 (x13_4 + 1))) else (l8EndsG.l2 E_ k4 l0 a1 l2 t181 (x10_4.set (x13_4 : Int).toNat (rdOf false t181 x13_4)) false (wrap64 (x13_4 + 1))))) else (none)) else (none)) = some r := by rw [if_neg (show ¬ (false = true) by decide)] at H; exact H
                              clear H
                              have H := H1
                              clear H1
                              by_cases c51 : 0 ≤ x13_4
                              · rw [if_pos c51] at H
                                have c51b0 : decide (0 ≤ x13_4) = true := decide_eq_true c51
                                clear c51
                                by_cases c52 : x13_4 < (t181.length : Int)
                                · rw [if_pos c52] at H
                                  have c52b0 : decide (x13_4 < (t181.length : Int)) = true := decide_eq_true c52
                                  clear c52
                                  obtain ⟨bq53, hbq53⟩ : ∃ b_ : Bool, b_ = (rdOf false t181 x13_4) := ⟨_, rfl⟩
                                  replace H : (if bq53 = true then (if rdOf false x10_4 x13_4 = true then (l8EndsG.l2 E_ k4 l0 a1 l2 t181 (x10_4.set (x13_4 : Int).toNat true) (!(rdOf false x10_4 x13_4)) (wrap64 (x13_4 + 1))) else (l8EndsG.l2 E_ k4 l0 a1 l2 t181 (x10_4.set (x13_4 : Int).toNat (bq53)) (!(rdOf false x10_4 x13_4)) (wrap64 (x13_4 + 1)))) else (if rdOf false x10_4 x13_4 = true then (l8EndsG.l2 E_ k4 l0 a1 l2 t181 (x10_4.set (x13_4 : Int).toNat true) false (wrap64 (x13_4 + 1))) else (l8EndsG.l2 E_ k4 l0 a1 l2 t181 (x10_4.set (x13_4 : Int).toNat (bq53)) false (wrap64 (x13_4 + 1))))) = some r := by rw [← hbq53] at H; exact H
                                  have Nbq53 := Aside0.mk hbq53
                                  clear hbq53
                                  by_cases c54 : bq53 = true
                                  · subst c54
                                    have H1 : (if rdOf false x10_4 x13_4 = true then (l8EndsG.l2 E_ k4 l0 a1 l2 t181 (x10_4.set (x13_4 : Int).toNat true) (!(rdOf false x10_4 x13_4)) (wrap64 (x13_4 + 1))) else (l8EndsG.l2 E_ k4 l0 a1 l2 t181 (x10_4.set (x13_4 : Int).toNat (true)) (!(rdOf false x10_4 x13_4)) (wrap64 (x13_4 + 1)))) = some r := by rw [if_pos rfl] at H; exact H
                                    clear H
                                    have H := H1
                                    clear H1
                                    obtain ⟨bq55, hbq55⟩ : ∃ b_ : Bool, b_ = (rdOf false x10_4 x13_4) := ⟨_, rfl⟩
                                    replace H : (if bq55 = true then (l8EndsG.l2 E_ k4 l0 a1 l2 t181 (x10_4.set (x13_4 : Int).toNat true) (!(bq55)) (wrap64 (x13_4 + 1))) else (l8EndsG.l2 E_ k4 l0 a1 l2 t181 (x10_4.set (x13_4 : Int).toNat (true)) (!(bq55)) (wrap64 (x13_4 + 1)))) = some r := by rw [← hbq55] at H; exact H
                                    have Nbq55 := Aside0.mk hbq55
                                    clear hbq55
                                    by_cases c56 : bq55 = true
                                    · subst c56
                                      have H1 : (l8EndsG.l2 E_ k4 l0 a1 l2 t181 (x10_4.set (x13_4 : Int).toNat true) (!(true)) (wrap64 (x13_4 + 1))) = some r := by rw [if_pos rfl] at H; exact H
                                      clear H
                                      have H := H1
                                      clear H1
                                      obtain ⟨y191, hy191⟩ : ∃ y_ : List Bool, y_ = (x10_4.set (x13_4 : Int).toNat true) := ⟨_, rfl⟩
                                      replace H : (l8EndsG.l2 E_ k4 l0 a1 l2 t181 y191 (!(true)) (wrap64 (x13_4 + 1))) = some r := by first | (rw [hy191]; with_reducible exact H) | (have H2_ := (Option.bind_some _ _).symm.trans H; rw [hy191]; with_reducible exact H2_) | (have H2_ := (Option.bind_some _ _).symm.trans H; with_reducible exact H2_) | with_reducible exact H | (rw [hy191]; exact H) | exact H
                                      have Ny191 := Aside0.mk hy191
                                      clear hy191
                                      have H' := Aside0.mk H
                                      clear H
                                      obtain ⟨Ao58, co58, eo58⟩ := Kd.R_slice HO_9.out
                                      subst eo58
                                      have p188 : 0 ≤ (x13_4 : Int) := of_decide_eq_true (by first | (with_reducible assumption) | assumption)
                                      have q188 : x13_4 < (t181.length : Int) := of_decide_eq_true (by first | (with_reducible assumption) | assumption)
                                      obtain ⟨ad188, e188, hx188_0⟩ := Kd.at_bool (Kd.R_reads' HO_9.out).2.2 x13_4 p188 q188
                                      (try rw [← Nbq53.out] at hx188_0)
                                      (try rw [← Nbq55.out] at hx188_0)
                                      cases e188
                                      replace p188 := eq_true p188
                                      replace q188 := eq_true q188
                                      have p189 : 0 ≤ (x13_4 : Int) := of_decide_eq_true (by first | (with_reducible assumption) | assumption)
                                      have q189 : x13_4 < (x10_4.length : Int) := of_decide_eq_true (by first | (with_reducible assumption) | assumption)
                                      obtain ⟨ad189, e189, hx189_0⟩ := Kd.at_bool (Kd.R_reads' HO_10.out).2.2 x13_4 p189 q189
                                      (try rw [← Nbq53.out] at hx189_0)
                                      (try rw [← Nbq55.out] at hx189_0)
                                      cases e189
                                      replace p189 := eq_true p189
                                      replace q189 := eq_true q189
                                      have p190 : 0 ≤ (x13_4 : Int) := of_decide_eq_true (by first | (with_reducible assumption) | assumption)
                                      have q190 : x13_4 < (x10_4.length : Int) := of_decide_eq_true (by first | (with_reducible assumption) | assumption)
                                      obtain ⟨ad190, e190, hx190_0⟩ := Kd.at_bool (Kd.R_reads' HO_10.out).2.2 x13_4 p190 q190
                                      (try rw [← Nbq53.out] at hx190_0)
                                      (try rw [← Nbq55.out] at hx190_0)
                                      obtain rfl : ad189 = ad190 := (by injection e190)
                                      replace p190 := eq_true p190
                                      replace q190 := eq_true q190
                                      have p57 : 0 ≤ (x13_4 : Int) := of_decide_eq_true (by first | (with_reducible assumption) | assumption)
                                      have q57 : (x13_4 : Int) < ((x10_4.length : Int) : Int) := of_decide_eq_true (by first | (with_reducible assumption) | assumption)
                                      obtain ⟨go57, co57, eo57, gb57, gl57, cl57, HG57⟩ := Kd.R_form HO_10.out (by omega)
                                      (first | cases eo57 | (injection eo57 with ea_ en_ ec_; (first | subst ea_ | (injection ea_ with ea_; subst ea_)); subst ec_; clear en_))
                                      have GB57 := Aside0.mk gb57
                                      have GG57 := Aside0.mk HG57
                                      clear gb57 gl57 HG57
                                      (first | simp only [add_plain] at hx189_0 | skip)
                                      (first | simp only [add_plain] at hx190_0 | skip)
                                      obtain ⟨hx57_0, hf57_0⟩ := Kd.R_celln false HO_10.out (x13_4 : Int) p57 q57
                                      replace p57 := eq_true p57
                                      replace q57 := eq_true q57
                                      have HP59 := Kd.R_putg HO_10.out (x13_4 : Int) true
                                      go_wp2_with (first | ((with_reducible refine gate_store (t := 4) (p := 99) rfl ?_); refine store_event (t := 4) (p := 99) (v := ?vo_w60) (w1 := (wr.setCell ⟨go57, (x13_4 : Int).toNat, none⟩ (.bool true))) ?hg ?ho ?hn ?hr ?_; (case ho => rfl); (case hg => rfl); (case hn => rfl); (case hr => first | (go_simp; done) | (go_simp; rfl)); intro w60 hw; have hg : wr.grownBy w60 (some go57) := (by rw [hw]; exact HP59.2); have hp_ : Kd.R Kd.bool 4 w60 w.heap.size (fun k_ => some k_ ≠ (.slice (some ad188) t181.length co58 : Value).ownBlock) (.slice (some ⟨go57, 0, none⟩) x10_4.length co36) y191 := (by rw [hw, Ny191.out]; exact HP59.1); clear HP59; have n0_ := Aside0.mk (Kd.R_after (v := (.slice (some ⟨go57, 0, none⟩) x10_4.length co36)) (v1 := (.slice (some ⟨go57, 0, none⟩) x10_4.length co36)) (ok := (fun _ => True)) (by (with_reducible repeat (first | apply Kd.R_alloc | apply Kd.R_drewN | apply Kd.R_drew)); exact Kd.R_mono HO_9.out (fun _ hk => ⟨trivial, hk⟩)) hg (.inl rfl)); have n1_ := Aside0.mk (hp_); have n2_ := Aside0.mk ((by rw [hw]; exact below_set (HB.out) GB57.out : Below w.heap.size w w60)); clear HO_9; clear HO_10; clear HB; have HO_9 := n0_; have HO_10 := n1_; have HB := n2_; clear n0_ n1_ n2_; clear hg hw hp_))
                                      (try simp only [← hl10_4])
                                      go_roundg k4
                                      case measure => have := HJ6.out; have := HJ15.out; have := HK3.out; have := HK4.out; omega
                                      case rel => exact ⟨(y191), (!(true)), (wrap64 (x13_4 + 1)), (by first | rfl | (simp; done) | (simp [*]; done)), (by first | rfl | (simp; done) | (simp [*]; done)), H', ⟨by have := HJ6.out; have := HJ15.out; have := HK3.out; have := HK4.out; omega⟩, ⟨by (try simp only [hl10_4]); (with_reducible repeat (first | apply Kd.R_alloc | apply Kd.R_drewN | apply Kd.R_drew)); exact Kd.R_mono HO_9.out (fun _ hk => hk.2)⟩, ⟨by (try simp only [hl10_4]); (with_reducible repeat (first | apply Kd.R_alloc | apply Kd.R_drewN | apply Kd.R_drew)); exact HO_10.out⟩, ⟨by repeat (first | (with_reducible first | exact HB.out | apply below_alloc | apply pw_below_drewN | apply below_drew1) | exact HB.out)⟩⟩
                                    · replace c56 := Bool.eq_false_iff.mpr c56
                                      subst c56
                                      have H1 : (l8EndsG.l2 E_ k4 l0 a1 l2 t181 (x10_4.set (x13_4 : Int).toNat (true)) (!(false)) (wrap64 (x13_4 + 1))) = some r := by rw [if_neg (show ¬ (false = true) by decide)] at H; exact H
                                      clear H
                                      have H := H1
                                      clear H1
                                      obtain ⟨y193, hy193⟩ : ∃ y_ : List Bool, y_ = (x10_4.set (x13_4 : Int).toNat (true)) := ⟨_, rfl⟩
                                      replace H : (l8EndsG.l2 E_ k4 l0 a1 l2 t181 y193 (!(false)) (wrap64 (x13_4 + 1))) = some r := by first | (rw [hy193]; with_reducible exact H) | (have H2_ := (Option.bind_some _ _).symm.trans H; rw [hy193]; with_reducible exact H2_) | (have H2_ := (Option.bind_some _ _).symm.trans H; with_reducible exact H2_) | with_reducible exact H | (rw [hy193]; exact H) | exact H
                                      have Ny193 := Aside0.mk hy193
                                      clear hy193
                                      have H' := Aside0.mk H
                                      clear H
                                      obtain ⟨Ao62, co62, eo62⟩ := Kd.R_slice HO_9.out
                                      subst eo62
                                      have p188 : 0 ≤ (x13_4 : Int) := of_decide_eq_true (by first | (with_reducible assumption) | assumption)
                                      have q188 : x13_4 < (t181.length : Int) := of_decide_eq_true (by first | (with_reducible assumption) | assumption)
                                      obtain ⟨ad188, e188, hx188_0⟩ := Kd.at_bool (Kd.R_reads' HO_9.out).2.2 x13_4 p188 q188
                                      (try rw [← Nbq53.out] at hx188_0)
                                      (try rw [← Nbq55.out] at hx188_0)
                                      cases e188
                                      replace p188 := eq_true p188
                                      replace q188 := eq_true q188
                                      have p189 : 0 ≤ (x13_4 : Int) := of_decide_eq_true (by first | (with_reducible assumption) | assumption)
                                      have q189 : x13_4 < (x10_4.length : Int) := of_decide_eq_true (by first | (with_reducible assumption) | assumption)
                                      obtain ⟨ad189, e189, hx189_0⟩ := Kd.at_bool (Kd.R_reads' HO_10.out).2.2 x13_4 p189 q189
                                      (try rw [← Nbq53.out] at hx189_0)
                                      (try rw [← Nbq55.out] at hx189_0)
                                      cases e189
                                      replace p189 := eq_true p189
                                      replace q189 := eq_true q189
                                      have p190 : 0 ≤ (x13_4 : Int) := of_decide_eq_true (by first | (with_reducible assumption) | assumption)
                                      have q190 : x13_4 < (x10_4.length : Int) := of_decide_eq_true (by first | (with_reducible assumption) | assumption)
                                      obtain ⟨ad190, e190, hx190_0⟩ := Kd.at_bool (Kd.R_reads' HO_10.out).2.2 x13_4 p190 q190
                                      (try rw [← Nbq53.out] at hx190_0)
                                      (try rw [← Nbq55.out] at hx190_0)
                                      obtain rfl : ad189 = ad190 := (by injection e190)
                                      replace p190 := eq_true p190
                                      replace q190 := eq_true q190
                                      have p192 : 0 ≤ (x13_4 : Int) := of_decide_eq_true (by first | (with_reducible assumption) | assumption)
                                      have q192 : x13_4 < (t181.length : Int) := of_decide_eq_true (by first | (with_reducible assumption) | assumption)
                                      obtain ⟨ad192, e192, hx192_0⟩ := Kd.at_bool (Kd.R_reads' HO_9.out).2.2 x13_4 p192 q192
                                      (try rw [← Nbq53.out] at hx192_0)
                                      (try rw [← Nbq55.out] at hx192_0)
                                      obtain rfl : ad188 = ad192 := (by injection e192)
                                      replace p192 := eq_true p192
                                      replace q192 := eq_true q192
                                      have p61 : 0 ≤ (x13_4 : Int) := of_decide_eq_true (by first | (with_reducible assumption) | assumption)
                                      have q61 : (x13_4 : Int) < ((x10_4.length : Int) : Int) := of_decide_eq_true (by first | (with_reducible assumption) | assumption)
                                      obtain ⟨go61, co61, eo61, gb61, gl61, cl61, HG61⟩ := Kd.R_form HO_10.out (by omega)
                                      (first | cases eo61 | (injection eo61 with ea_ en_ ec_; (first | subst ea_ | (injection ea_ with ea_; subst ea_)); subst ec_; clear en_))
                                      have GB61 := Aside0.mk gb61
                                      have GG61 := Aside0.mk HG61
                                      clear gb61 gl61 HG61
                                      (first | simp only [add_plain] at hx189_0 | skip)
                                      (first | simp only [add_plain] at hx190_0 | skip)
                                      obtain ⟨hx61_0, hf61_0⟩ := Kd.R_celln false HO_10.out (x13_4 : Int) p61 q61
                                      replace p61 := eq_true p61
                                      replace q61 := eq_true q61
                                      have HP63 := Kd.R_putg HO_10.out (x13_4 : Int) true
                                      go_wp2_with (first | ((with_reducible refine gate_store (t := 4) (p := 99) rfl ?_); refine store_event (t := 4) (p := 99) (v := ?vo_w64) (w1 := (wr.setCell ⟨go61, (x13_4 : Int).toNat, none⟩ (.bool true))) ?hg ?ho ?hn ?hr ?_; (case ho => rfl); (case hg => rfl); (case hn => rfl); (case hr => first | (go_simp; done) | (go_simp; rfl)); intro w64 hw; have hg : wr.grownBy w64 (some go61) := (by rw [hw]; exact HP63.2); have hp_ : Kd.R Kd.bool 4 w64 w.heap.size (fun k_ => some k_ ≠ (.slice (some ad188) t181.length co62 : Value).ownBlock) (.slice (some ⟨go61, 0, none⟩) x10_4.length co36) y193 := (by rw [hw, Ny193.out]; exact HP63.1); clear HP63; have n0_ := Aside0.mk (Kd.R_after (v := (.slice (some ⟨go61, 0, none⟩) x10_4.length co36)) (v1 := (.slice (some ⟨go61, 0, none⟩) x10_4.length co36)) (ok := (fun _ => True)) (by (with_reducible repeat (first | apply Kd.R_alloc | apply Kd.R_drewN | apply Kd.R_drew)); exact Kd.R_mono HO_9.out (fun _ hk => ⟨trivial, hk⟩)) hg (.inl rfl)); have n1_ := Aside0.mk (hp_); have n2_ := Aside0.mk ((by rw [hw]; exact below_set (HB.out) GB61.out : Below w.heap.size w w64)); clear HO_9; clear HO_10; clear HB; have HO_9 := n0_; have HO_10 := n1_; have HB := n2_; clear n0_ n1_ n2_; clear hg hw hp_))
                                      (try simp only [← hl10_4])
                                      go_roundg k4
                                      case measure => have := HJ6.out; have := HJ15.out; have := HK3.out; have := HK4.out; omega
                                      case rel => exact ⟨(y193), (!(false)), (wrap64 (x13_4 + 1)), (by first | rfl | (simp; done) | (simp [*]; done)), (by first | rfl | (simp; done) | (simp [*]; done)), H', ⟨by have := HJ6.out; have := HJ15.out; have := HK3.out; have := HK4.out; omega⟩, ⟨by (try simp only [hl10_4]); (with_reducible repeat (first | apply Kd.R_alloc | apply Kd.R_drewN | apply Kd.R_drew)); exact Kd.R_mono HO_9.out (fun _ hk => hk.2)⟩, ⟨by (try simp only [hl10_4]); (with_reducible repeat (first | apply Kd.R_alloc | apply Kd.R_drewN | apply Kd.R_drew)); exact HO_10.out⟩, ⟨by repeat (first | (with_reducible first | exact HB.out | apply below_alloc | apply pw_below_drewN | apply below_drew1) | exact HB.out)⟩⟩
                                  · replace c54 := Bool.eq_false_iff.mpr c54
                                    subst c54
                                    have H1 : (if rdOf false x10_4 x13_4 = true then (l8EndsG.l2 E_ k4 l0 a1 l2 t181 (x10_4.set (x13_4 : Int).toNat true) false (wrap64 (x13_4 + 1))) else (l8EndsG.l2 E_ k4 l0 a1 l2 t181 (x10_4.set (x13_4 : Int).toNat (false)) false (wrap64 (x13_4 + 1)))) = some r := by rw [if_neg (show ¬ (false = true) by decide)] at H; exact H
                                    clear H
                                    have H := H1
                                    clear H1
                                    obtain ⟨bq65, hbq65⟩ : ∃ b_ : Bool, b_ = (rdOf false x10_4 x13_4) := ⟨_, rfl⟩
                                    replace H : (if bq65 = true then (l8EndsG.l2 E_ k4 l0 a1 l2 t181 (x10_4.set (x13_4 : Int).toNat true) false (wrap64 (x13_4 + 1))) else (l8EndsG.l2 E_ k4 l0 a1 l2 t181 (x10_4.set (x13_4 : Int).toNat (false)) false (wrap64 (x13_4 + 1)))) = some r := by rw [← hbq65] at H; exact H
                                    have Nbq65 := Aside0.mk hbq65
                                    clear hbq65
                                    by_cases c66 : bq65 = true
                                    · subst c66
                                      have H1 : (l8EndsG.l2 E_ k4 l0 a1 l2 t181 (x10_4.set (x13_4 : Int).toNat true) false (wrap64 (x13_4 + 1))) = some r := by rw [if_pos rfl] at H; exact H
                                      clear H
                                      have H := H1
                                      clear H1
                                      obtain ⟨y195, hy195⟩ : ∃ y_ : List Bool, y_ = (x10_4.set (x13_4 : Int).toNat true) := ⟨_, rfl⟩
                                      replace H : (l8EndsG.l2 E_ k4 l0 a1 l2 t181 y195 false (wrap64 (x13_4 + 1))) = some r := by first | (rw [hy195]; with_reducible exact H) | (have H2_ := (Option.bind_some _ _).symm.trans H; rw [hy195]; with_reducible exact H2_) | (have H2_ := (Option.bind_some _ _).symm.trans H; with_reducible exact H2_) | with_reducible exact H | (rw [hy195]; exact H) | exact H
                                      have Ny195 := Aside0.mk hy195
                                      clear hy195
                                      have H' := Aside0.mk H
                                      clear H
                                      obtain ⟨Ao68, co68, eo68⟩ := Kd.R_slice HO_9.out
                                      subst eo68
                                      have p188 : 0 ≤ (x13_4 : Int) := of_decide_eq_true (by first | (with_reducible assumption) | assumption)
                                      have q188 : x13_4 < (t181.length : Int) := of_decide_eq_true (by first | (with_reducible assumption) | assumption)
                                      obtain ⟨ad188, e188, hx188_0⟩ := Kd.at_bool (Kd.R_reads' HO_9.out).2.2 x13_4 p188 q188
                                      (try rw [← Nbq53.out] at hx188_0)
                                      (try rw [← Nbq65.out] at hx188_0)
                                      cases e188
                                      replace p188 := eq_true p188
                                      replace q188 := eq_true q188
                                      have p194 : 0 ≤ (x13_4 : Int) := of_decide_eq_true (by first | (with_reducible assumption) | assumption)
                                      have q194 : x13_4 < (x10_4.length : Int) := of_decide_eq_true (by first | (with_reducible assumption) | assumption)
                                      obtain ⟨ad194, e194, hx194_0⟩ := Kd.at_bool (Kd.R_reads' HO_10.out).2.2 x13_4 p194 q194
                                      (try rw [← Nbq53.out] at hx194_0)
                                      (try rw [← Nbq65.out] at hx194_0)
                                      cases e194
                                      replace p194 := eq_true p194
                                      replace q194 := eq_true q194
                                      have p67 : 0 ≤ (x13_4 : Int) := of_decide_eq_true (by first | (with_reducible assumption) | assumption)
                                      have q67 : (x13_4 : Int) < ((x10_4.length : Int) : Int) := of_decide_eq_true (by first | (with_reducible assumption) | assumption)
                                      obtain ⟨go67, co67, eo67, gb67, gl67, cl67, HG67⟩ := Kd.R_form HO_10.out (by omega)
                                      (first | cases eo67 | (injection eo67 with ea_ en_ ec_; (first | subst ea_ | (injection ea_ with ea_; subst ea_)); subst ec_; clear en_))
                                      have GB67 := Aside0.mk gb67
                                      have GG67 := Aside0.mk HG67
                                      clear gb67 gl67 HG67
                                      (first | simp only [add_plain] at hx194_0 | skip)
                                      obtain ⟨hx67_0, hf67_0⟩ := Kd.R_celln false HO_10.out (x13_4 : Int) p67 q67
                                      replace p67 := eq_true p67
                                      replace q67 := eq_true q67
                                      have HP69 := Kd.R_putg HO_10.out (x13_4 : Int) true
                                      go_wp2_with (first | ((with_reducible refine gate_store (t := 4) (p := 99) rfl ?_); refine store_event (t := 4) (p := 99) (v := ?vo_w70) (w1 := (wr.setCell ⟨go67, (x13_4 : Int).toNat, none⟩ (.bool true))) ?hg ?ho ?hn ?hr ?_; (case ho => rfl); (case hg => rfl); (case hn => rfl); (case hr => first | (go_simp; done) | (go_simp; rfl)); intro w70 hw; have hg : wr.grownBy w70 (some go67) := (by rw [hw]; exact HP69.2); have hp_ : Kd.R Kd.bool 4 w70 w.heap.size (fun k_ => some k_ ≠ (.slice (some ad188) t181.length co68 : Value).ownBlock) (.slice (some ⟨go67, 0, none⟩) x10_4.length co36) y195 := (by rw [hw, Ny195.out]; exact HP69.1); clear HP69; have n0_ := Aside0.mk (Kd.R_after (v := (.slice (some ⟨go67, 0, none⟩) x10_4.length co36)) (v1 := (.slice (some ⟨go67, 0, none⟩) x10_4.length co36)) (ok := (fun _ => True)) (by (with_reducible repeat (first | apply Kd.R_alloc | apply Kd.R_drewN | apply Kd.R_drew)); exact Kd.R_mono HO_9.out (fun _ hk => ⟨trivial, hk⟩)) hg (.inl rfl)); have n1_ := Aside0.mk (hp_); have n2_ := Aside0.mk ((by rw [hw]; exact below_set (HB.out) GB67.out : Below w.heap.size w w70)); clear HO_9; clear HO_10; clear HB; have HO_9 := n0_; have HO_10 := n1_; have HB := n2_; clear n0_ n1_ n2_; clear hg hw hp_))
                                      (try simp only [← hl10_4])
                                      go_roundg k4
                                      case measure => have := HJ6.out; have := HJ15.out; have := HK3.out; have := HK4.out; omega
                                      case rel => exact ⟨(y195), (false), (wrap64 (x13_4 + 1)), (by first | rfl | (simp; done) | (simp [*]; done)), (by first | rfl | (simp; done) | (simp [*]; done)), H', ⟨by have := HJ6.out; have := HJ15.out; have := HK3.out; have := HK4.out; omega⟩, ⟨by (try simp only [hl10_4]); (with_reducible repeat (first | apply Kd.R_alloc | apply Kd.R_drewN | apply Kd.R_drew)); exact Kd.R_mono HO_9.out (fun _ hk => hk.2)⟩, ⟨by (try simp only [hl10_4]); (with_reducible repeat (first | apply Kd.R_alloc | apply Kd.R_drewN | apply Kd.R_drew)); exact HO_10.out⟩, ⟨by repeat (first | (with_reducible first | exact HB.out | apply below_alloc | apply pw_below_drewN | apply below_drew1) | exact HB.out)⟩⟩
                                    · replace c66 := Bool.eq_false_iff.mpr c66
                                      subst c66
                                      have H1 : (l8EndsG.l2 E_ k4 l0 a1 l2 t181 (x10_4.set (x13_4 : Int).toNat (false)) false (wrap64 (x13_4 + 1))) = some r := by rw [if_neg (show ¬ (false = true) by decide)] at H; exact H
                                      clear H
                                      have H := H1
                                      clear H1
                                      obtain ⟨y197, hy197⟩ : ∃ y_ : List Bool, y_ = (x10_4.set (x13_4 : Int).toNat (false)) := ⟨_, rfl⟩
                                      replace H : (l8EndsG.l2 E_ k4 l0 a1 l2 t181 y197 false (wrap64 (x13_4 + 1))) = some r := by first | (rw [hy197]; with_reducible exact H) | (have H2_ := (Option.bind_some _ _).symm.trans H; rw [hy197]; with_reducible exact H2_) | (have H2_ := (Option.bind_some _ _).symm.trans H; with_reducible exact H2_) | with_reducible exact H | (rw [hy197]; exact H) | exact H
                                      have Ny197 := Aside0.mk hy197
                                      clear hy197
                                      have H' := Aside0.mk H
                                      clear H
                                      obtain ⟨Ao72, co72, eo72⟩ := Kd.R_slice HO_9.out
                                      subst eo72
                                      have p188 : 0 ≤ (x13_4 : Int) := of_decide_eq_true (by first | (with_reducible assumption) | assumption)
                                      have q188 : x13_4 < (t181.length : Int) := of_decide_eq_true (by first | (with_reducible assumption) | assumption)
                                      obtain ⟨ad188, e188, hx188_0⟩ := Kd.at_bool (Kd.R_reads' HO_9.out).2.2 x13_4 p188 q188
                                      (try rw [← Nbq53.out] at hx188_0)
                                      (try rw [← Nbq65.out] at hx188_0)
                                      cases e188
                                      replace p188 := eq_true p188
                                      replace q188 := eq_true q188
                                      have p194 : 0 ≤ (x13_4 : Int) := of_decide_eq_true (by first | (with_reducible assumption) | assumption)
                                      have q194 : x13_4 < (x10_4.length : Int) := of_decide_eq_true (by first | (with_reducible assumption) | assumption)
                                      obtain ⟨ad194, e194, hx194_0⟩ := Kd.at_bool (Kd.R_reads' HO_10.out).2.2 x13_4 p194 q194
                                      (try rw [← Nbq53.out] at hx194_0)
                                      (try rw [← Nbq65.out] at hx194_0)
                                      cases e194
                                      replace p194 := eq_true p194
                                      replace q194 := eq_true q194
                                      have p196 : 0 ≤ (x13_4 : Int) := of_decide_eq_true (by first | (with_reducible assumption) | assumption)
                                      have q196 : x13_4 < (t181.length : Int) := of_decide_eq_true (by first | (with_reducible assumption) | assumption)
                                      obtain ⟨ad196, e196, hx196_0⟩ := Kd.at_bool (Kd.R_reads' HO_9.out).2.2 x13_4 p196 q196
                                      (try rw [← Nbq53.out] at hx196_0)
                                      (try rw [← Nbq65.out] at hx196_0)
                                      obtain rfl : ad188 = ad196 := (by injection e196)
                                      replace p196 := eq_true p196
                                      replace q196 := eq_true q196
                                      have p71 : 0 ≤ (x13_4 : Int) := of_decide_eq_true (by first | (with_reducible assumption) | assumption)
                                      have q71 : (x13_4 : Int) < ((x10_4.length : Int) : Int) := of_decide_eq_true (by first | (with_reducible assumption) | assumption)
                                      obtain ⟨go71, co71, eo71, gb71, gl71, cl71, HG71⟩ := Kd.R_form HO_10.out (by omega)
                                      (first | cases eo71 | (injection eo71 with ea_ en_ ec_; (first | subst ea_ | (injection ea_ with ea_; subst ea_)); subst ec_; clear en_))
                                      have GB71 := Aside0.mk gb71
                                      have GG71 := Aside0.mk HG71
                                      clear gb71 gl71 HG71
                                      (first | simp only [add_plain] at hx194_0 | skip)
                                      obtain ⟨hx71_0, hf71_0⟩ := Kd.R_celln false HO_10.out (x13_4 : Int) p71 q71
                                      replace p71 := eq_true p71
                                      replace q71 := eq_true q71
                                      have HP73 := Kd.R_putg HO_10.out (x13_4 : Int) false
                                      go_wp2_with (first | ((with_reducible refine gate_store (t := 4) (p := 99) rfl ?_); refine store_event (t := 4) (p := 99) (v := ?vo_w74) (w1 := (wr.setCell ⟨go71, (x13_4 : Int).toNat, none⟩ (.bool false))) ?hg ?ho ?hn ?hr ?_; (case ho => rfl); (case hg => rfl); (case hn => rfl); (case hr => first | (go_simp; done) | (go_simp; rfl)); intro w74 hw; have hg : wr.grownBy w74 (some go71) := (by rw [hw]; exact HP73.2); have hp_ : Kd.R Kd.bool 4 w74 w.heap.size (fun k_ => some k_ ≠ (.slice (some ad188) t181.length co72 : Value).ownBlock) (.slice (some ⟨go71, 0, none⟩) x10_4.length co36) y197 := (by rw [hw, Ny197.out]; exact HP73.1); clear HP73; have n0_ := Aside0.mk (Kd.R_after (v := (.slice (some ⟨go71, 0, none⟩) x10_4.length co36)) (v1 := (.slice (some ⟨go71, 0, none⟩) x10_4.length co36)) (ok := (fun _ => True)) (by (with_reducible repeat (first | apply Kd.R_alloc | apply Kd.R_drewN | apply Kd.R_drew)); exact Kd.R_mono HO_9.out (fun _ hk => ⟨trivial, hk⟩)) hg (.inl rfl)); have n1_ := Aside0.mk (hp_); have n2_ := Aside0.mk ((by rw [hw]; exact below_set (HB.out) GB71.out : Below w.heap.size w w74)); clear HO_9; clear HO_10; clear HB; have HO_9 := n0_; have HO_10 := n1_; have HB := n2_; clear n0_ n1_ n2_; clear hg hw hp_))
                                      (try simp only [← hl10_4])
                                      go_roundg k4
                                      case measure => have := HJ6.out; have := HJ15.out; have := HK3.out; have := HK4.out; omega
                                      case rel => exact ⟨(y197), (false), (wrap64 (x13_4 + 1)), (by first | rfl | (simp; done) | (simp [*]; done)), (by first | rfl | (simp; done) | (simp [*]; done)), H', ⟨by have := HJ6.out; have := HJ15.out; have := HK3.out; have := HK4.out; omega⟩, ⟨by (try simp only [hl10_4]); (with_reducible repeat (first | apply Kd.R_alloc | apply Kd.R_drewN | apply Kd.R_drew)); exact Kd.R_mono HO_9.out (fun _ hk => hk.2)⟩, ⟨by (try simp only [hl10_4]); (with_reducible repeat (first | apply Kd.R_alloc | apply Kd.R_drewN | apply Kd.R_drew)); exact HO_10.out⟩, ⟨by repeat (first | (with_reducible first | exact HB.out | apply below_alloc | apply pw_below_drewN | apply below_drew1) | exact HB.out)⟩⟩
                                · rw [if_neg c52] at H
                                  exact absurd H (by simp)
                              · rw [if_neg c51] at H
                                exact absurd H (by simp)
                          · rw [if_neg c38] at H
                            have c38b0 : decide (x13_4 < (x10_4.length : Int)) = false := decide_eq_false c38
                            clear c38
                            by_cases c75 : x12_4 = true
                            · subst c75
                              have H1 : (l8EndsG.l1 E_ k4 l0 a1 l2 x10_4) = some r := by rw [if_pos rfl] at H; exact H
                              clear H
                              have H := H1
                              clear H1
                              have H' := Aside0.mk H
                              clear H
                              go_wp2
                              (try simp only [← hl10_4])
                              go_roundg k4
                              case measure => have := HJ6.out; have := HJ15.out; have := HK3.out; have := HK4.out; omega
                              case rel => exact ⟨(x10_4), H', ⟨by have := HJ6.out; have := HJ15.out; have := HK3.out; have := HK4.out; omega⟩, ⟨by (try simp only [hl10_4]); (with_reducible repeat (first | apply Kd.R_alloc | apply Kd.R_drewN | apply Kd.R_drew)); exact Kd.R_mono HO_10.out (fun _ hk => trivial)⟩, ⟨by repeat (first | (with_reducible first | exact HB.out | apply below_alloc | apply pw_below_drewN | apply below_drew1) | exact HB.out)⟩⟩
                            · replace c75 := Bool.eq_false_iff.mpr c75
                              subst c75
                              have H1 : (some x10_4) = some r := by rw [if_neg (show ¬ (false = true) by decide)] at H; exact H
                              clear H
                              have H := H1
                              clear H1
                              obtain rfl := Option.some.inj H
                              go_wp2
                              go_ret
                              exact ⟨_, by first | rfl | (simp [errW_none, errW_some] <;> rfl) | (simp [*, errW_none, errW_some] <;> rfl), by (with_reducible repeat (first | apply Kd.R_alloc | apply Kd.R_drewN | apply Kd.R_drew)); exact Kd.R_mono HO_10.out (fun _ hk => trivial), by repeat (first | (with_reducible first | exact HB.out | apply below_alloc | apply pw_below_drewN | apply below_drew1) | exact HB.out)⟩
              · rw [if_neg c33] at H
                exact absurd H (by simp)
            · rw [if_neg c32] at H
              exact absurd H (by simp)
  · rw [if_neg c6] at H
    exact absurd H (by simp)

end Go.Proofs.Ytejkkdjfiebmfaa.L

namespace Go.Proofs.Ytejkkdjfiebmfaa.L
open Go.RowKit Go.Proofs.YtejkkdjfiebmfaaW.PrintWords Go.Proofs.YtejkkdjfiebmfaaW.PrintLast Go.Proofs.YtejkkdjfiebmfaaW.PrintMore
set_option linter.unusedVariables false

def endsD : Nat → Nat → List (S49) → Int → List ByteArray → List Bool → Option (List Bool)
  | 0 => fun _ _ _ _ _ => none
  | d + 1 => fun k p n nm fr => l8EndsG.f (fun k p n nm fr => l8OnceG.f (endsD d) k p n nm fr) k p n nm fr
theorem endsD.calls : ∀ d, ∀ (k : Nat) (A0 : Option Addr) (c0 : Nat) (l0 : List (S49)) (a1 : Int) (A2 : Option Addr) (c2 : Nat) (l2 : List ByteArray) (A3 : Option Addr) (c3 : Nat) (l3 : List Bool) (r : List Bool) (w : World) (_ : Kd.C k49 w A0 l0.length l0) (_ : l0.length ≤ c0) (_ : Kd.C Kd.string w A2 l2.length l2) (_ : l2.length ≤ c2) (_ : Kd.C Kd.bool w A3 l3.length l3) (_ : l3.length ≤ c3) (_ : endsD d k l0 a1 l2 l3 = some r), Calls Try.prog 72 #[.slice A0 l0.length c0, .int .i64 a1, .slice A2 l2.length c2, .slice A3 l3.length c3] w fun e w' => ∃ v0_ : Value, e = .returned (v0_) ∧ Kd.R Kd.bool 4 w' w.heap.size (fun _ => True) v0_ r ∧ Below w.heap.size w w'
  | 0 => fun k A0 c0 l0 a1 A2 c2 l2 A3 c3 l3 r w _ _ _ _ _ _ h => by cases h
  | d + 1 => fun k A0 c0 l0 a1 A2 c2 l2 A3 c3 l3 r w h1 h2 h3 h4 h5 h6 h => l8EndsG.calls (fun k p n nm fr => l8OnceG.f (endsD d) k p n nm fr) (fun k A0 c0 l0 a1 A2 c2 l2 A3 c3 l3 r w h1 h2 h3 h4 h5 h6 h => l8OnceG.calls (endsD d) (endsD.calls d) k A0 c0 l0 a1 A2 c2 l2 A3 c3 l3 r w h1 h2 h3 h4 h5 h6 h) k A0 c0 l0 a1 A2 c2 l2 A3 c3 l3 r w h1 h2 h3 h4 h5 h6 h
def spec_l8Ends.f (k : Nat) (l0 : List (S49)) (a1 : Int) (l2 : List ByteArray) (l3 : List Bool) : Option (List Bool) := endsD (l0.length + 1) k l0 a1 l2 l3
theorem spec_l8Ends.calls : ∀ (k : Nat) (A0 : Option Addr) (c0 : Nat) (l0 : List (S49)) (a1 : Int) (A2 : Option Addr) (c2 : Nat) (l2 : List ByteArray) (A3 : Option Addr) (c3 : Nat) (l3 : List Bool) (r : List Bool) (w : World) (_ : Kd.C k49 w A0 l0.length l0) (_ : l0.length ≤ c0) (_ : Kd.C Kd.string w A2 l2.length l2) (_ : l2.length ≤ c2) (_ : Kd.C Kd.bool w A3 l3.length l3) (_ : l3.length ≤ c3) (_ : spec_l8Ends.f k l0 a1 l2 l3 = some r), Calls Try.prog 72 #[.slice A0 l0.length c0, .int .i64 a1, .slice A2 l2.length c2, .slice A3 l3.length c3] w fun e w' => ∃ v0_ : Value, e = .returned (v0_) ∧ Kd.R Kd.bool 4 w' w.heap.size (fun _ => True) v0_ r ∧ Below w.heap.size w w' := fun k A0 c0 l0 a1 A2 c2 l2 A3 c3 l3 r w h1 h2 h3 h4 h5 h6 h => endsD.calls (l0.length + 1) k A0 c0 l0 a1 A2 c2 l2 A3 c3 l3 r w h1 h2 h3 h4 h5 h6 h
end Go.Proofs.Ytejkkdjfiebmfaa.L

namespace Go.Proofs.Ytejkkdjfiebmfaa.L
open Go.RowKit Go.Proofs.YtejkkdjfiebmfaaW.PrintWords Go.Proofs.YtejkkdjfiebmfaaW.PrintLast Go.Proofs.YtejkkdjfiebmfaaW.PrintMore
attribute [local go_sem] max2_int min2_int max_two min_two max_three min_three max_four min_four
set_option linter.unusedVariables false
set_option linter.unusedSimpArgs false

/-! ### spec_l8Accepts: function 55 -/
def spec_l8Accepts.f (k : Nat) (l0 : List (S49)) (l1 : List ByteArray) : Option (Bool) := if 0 ≤ (wrap64 ((l1.length : Int) + 1)) then (if (wrap64 ((l1.length : Int) + 1) : Int).toNat ≤ 281474976710656 then ((some (List.replicate (wrap64 ((l1.length : Int) + 1) : Int).toNat false : List Bool)).bind fun y561 => (if 0 < (y561.length : Int) then ((spec_l8Ends.f k l0 (wrap64 ((l0.length : Int) - 1)) l1 (y561.set (0 : Int).toNat true)).bind fun t565 => (if 0 ≤ (l1.length : Int) then (if (l1.length : Int) < (t565.length : Int) then (some (rdOf false t565 (l1.length : Int))) else (none)) else (none))) else (none))) else (none)) else (none)
set_option maxHeartbeats 8000000 in
set_option maxRecDepth 100000 in
theorem spec_l8Accepts.calls (k : Nat) (A0 : Option Addr) (c0 : Nat) (l0 : List (S49)) (A1 : Option Addr) (c1 : Nat) (l1 : List ByteArray) (r : Bool) (w : World) (hr0 : Kd.C k49 w A0 l0.length l0) (hc0 : l0.length ≤ c0) (hr1 : Kd.C Kd.string w A1 l1.length l1) (hc1 : l1.length ≤ c1) (h : spec_l8Accepts.f k l0 l1 = some r) :
  Calls Try.prog 55 #[.slice A0 l0.length c0, .slice A1 l1.length c1] w fun e w' => e = .returned (.bool r) ∧ Below w.heap.size w w' := by
 have HR0 := Aside0.mk hr0
 have HC0 := Aside0.mk hc0
 clear hr0 hc0
 have HR1 := Aside0.mk hr1
 have HC1 := Aside0.mk hc1
 clear hr1 hc1
 have HB := Aside0.mk (Below.refl w.heap.size w)
 have H : (if 0 ≤ (wrap64 ((l1.length : Int) + 1)) then (if (wrap64 ((l1.length : Int) + 1) : Int).toNat ≤ 281474976710656 then ((some (List.replicate (wrap64 ((l1.length : Int) + 1) : Int).toNat false : List Bool)).bind fun y561 => (if 0 < (y561.length : Int) then ((spec_l8Ends.f k l0 (wrap64 ((l0.length : Int) - 1)) l1 (y561.set (0 : Int).toNat true)).bind fun t565 => (if 0 ≤ (l1.length : Int) then (if (l1.length : Int) < (t565.length : Int) then (some (rdOf false t565 (l1.length : Int))) else (none)) else (none))) else (none))) else (none)) else (none)) = some r := h
 clear h
 obtain ⟨ji3, hji3⟩ : ∃ j_ : Int, (wrap64 ((l1.length : Int) + 1)) = j_ := ⟨_, rfl⟩
 replace H : (if 0 ≤ (ji3) then (if (ji3 : Int).toNat ≤ 281474976710656 then ((some (List.replicate (ji3 : Int).toNat false : List Bool)).bind fun y561 => (if 0 < (y561.length : Int) then ((spec_l8Ends.f k l0 (wrap64 ((l0.length : Int) - 1)) l1 (y561.set (0 : Int).toNat true)).bind fun t565 => (if 0 ≤ (l1.length : Int) then (if (l1.length : Int) < (t565.length : Int) then (some (rdOf false t565 (l1.length : Int))) else (none)) else (none))) else (none))) else (none)) else (none)) = some r := by first | (rw [hji3] at H; exact H) | (simp only [hji3] at H ⊢; exact H)
 have hji3w : (IntKind.i64.wrap ((l1.length : Int) + 1)) = ji3 := (i64_w _).trans hji3
 by_cases c4 : 0 ≤ (ji3)
 rotate_left
 ·rw [if_neg c4] at H
  exact absurd H (by simp)
 rw [if_pos c4] at H
 have c4b0 := eq_true c4
 have c4b1 := decide_eq_true c4
 clear c4
 by_cases c5 : (ji3 : Int).toNat ≤ 281474976710656
 rotate_left
 ·rw [if_neg c5] at H
  exact absurd H (by simp)
 rw [if_pos c5] at H
 have c5b0 := eq_true c5
 have c5b1 := decide_eq_true c5
 clear c5
 obtain ⟨y561, hy561⟩ : ∃ y_ : List Bool, y_ = (List.replicate (ji3 : Int).toNat false) := ⟨_, rfl⟩
 replace H : (if 0 < (y561.length : Int) then ((spec_l8Ends.f k l0 (wrap64 ((l0.length : Int) - 1)) l1 (y561.set (0 : Int).toNat true)).bind fun t565 => (if 0 ≤ (l1.length : Int) then (if (l1.length : Int) < (t565.length : Int) then (some (rdOf false t565 (l1.length : Int))) else (none)) else (none))) else (none)) = some r := by first | (rw [hy561]; with_reducible exact H) | (have H2_ := (Option.bind_some _ _).symm.trans H; rw [hy561]; with_reducible exact H2_) | (have H2_ := (Option.bind_some _ _).symm.trans H; with_reducible exact H2_) | with_reducible exact H | (rw [hy561]; exact H) | exact H
 have Ny561 := Aside0.mk hy561
 clear hy561
 by_cases c6 : 0 < (y561.length : Int)
 rotate_left
 ·rw [if_neg c6] at H
  exact absurd H (by simp)
 rw [if_pos c6] at H
 have c6b0 := decide_eq_true c6
 have c6b1 : decide (0 < y561.length) = true := decide_eq_true dq22
 clear c6
 obtain ⟨y564, hy564⟩ : ∃ y_ : List Bool, y_ = (y561.set (0 : Int).toNat true) := ⟨_, rfl⟩
 replace H : ((spec_l8Ends.f k l0 (wrap64 ((l0.length : Int) - 1)) l1 y564).bind fun t565 => (if 0 ≤ (l1.length : Int) then (if (l1.length : Int) < (t565.length : Int) then (some (rdOf false t565 (l1.length : Int))) else (none)) else (none))) = some r := by first | (rw [hy564]; with_reducible exact H) | (have H2_ := (Option.bind_some _ _).symm.trans H; rw [hy564]; with_reducible exact H2_) | (have H2_ := (Option.bind_some _ _).symm.trans H; with_reducible exact H2_) | with_reducible exact H | (rw [hy564]; exact H) | exact H
 have Ny564 := Aside0.mk hy564
 clear hy564
 replace H := Option.bind_eq_some_iff.mp H
 obtain ⟨t565, A80, H⟩ := H
 replace H : (if 0 ≤ (l1.length : Int) then (if (l1.length : Int) < (t565.length : Int) then (some (rdOf false t565 (l1.length : Int))) else (none)) else (none)) = some r := H
 have A8 := Aside0.mk A80
 clear A80
 by_cases c9 : 0 ≤ (l1.length : Int)
 rotate_left
 ·rw [if_neg c9] at H
  exact absurd H (by simp)
 rw [if_pos c9] at H
 have c9b0 := decide_eq_true c9
 have c9b1 : decide (0 ≤ l1.length) = true := decide_eq_true dq22
 clear c9
 by_cases c10 : (l1.length : Int) < (t565.length : Int)
 rotate_left
 ·rw [if_neg c10] at H
  exact absurd H (by simp)
 rw [if_pos c10] at H
 have c10b0 := decide_eq_true c10
 have c10b1 : decide (l1.length < t565.length) = true := decide_eq_true (Int.ofNat_lt.mp c10)
 clear c10
 obtain rfl := Option.some.inj H
 go_enter Try.func55, Try.ntmps55
 go_wp2_with (first | ((with_reducible refine gate_dst (N := 9) rfl ?_); refine Kd.R_make Kd.bool _ 4 rfl (N := 9) rfl 56 _ _ rfl ji3 rfl rfl Try.underlying56 (.bool false) 1 info4 rfl (by decide) dq22 false (ok := fun _ => True) (okp := fun _ => True) rfl (fun _ hk => hk) trivial (of_decide_eq_true dq20) (Nat.le_trans (Nat.mul_le_mul_right _ (of_decide_eq_true dq20 : ji3.toNat ≤ 281474976710656)) dq22) (Below.refl _ _) (Nat.le_refl _) ?_; intro v562 w11 ho12 hb hg_ hnew_; clear hg_ hnew_; (first | rw [← Ny561.out] at ho12 | (simp only [Int.reduceToNat] at ho12; rw [← Ny561.out] at ho12)); have n0_ := Aside0.mk (Kd.R_lower ho12 (below_size dq15)); have n1_ := Aside0.mk (below_step dq15 hb); clear HB; have HO563 := n0_; have HB := n1_; clear n0_ n1_; clear hb ho12; have p7 : 0 ≤ (0 : Int) := dq22; have q7 : (0 : Int) < ((y561.length : Int) : Int) := of_decide_eq_true dq20; have qi7 : (0 < y561.length) = True := eq_true dq22; obtain ⟨go7, co7, eo7, gb7, gl7, cl7, HG7⟩ := Kd.R_form HO563.out dq22; (first | cases eo7 | (injection eo7 with ea_ en_ ec_; (first | subst ea_ | (injection ea_ with ea_; subst ea_)); subst ec_; clear en_)); have GB7 := Aside0.mk gb7; have GG7 := Aside0.mk HG7; clear gb7 gl7 HG7; obtain ⟨hx7_0, hf7_0⟩ := Kd.R_celln false HO563.out (0 : Int) p7 q7; (try rw [show ((0 : Int)).toNat = 0 from rfl] at hx7_0); (try simp only [Nat.reduceMul, Nat.zero_mul, Nat.zero_add, Nat.reduceAdd] at hx7_0); (try rw [show ((0 : Int)).toNat = 0 from rfl] at hf7_0); (try simp only [Nat.reduceMul, Nat.zero_mul, Nat.zero_add, Nat.reduceAdd] at hf7_0); replace p7 := eq_true p7; replace q7 := eq_true q7; obtain ⟨hy13_, hz13_⟩ := Kd.R_celln false HO563.out (0 : Int) dq22 (of_decide_eq_true dq20); (try simp only [Int.reduceToNat, Int.toNat_zero, Int.toNat_ofNat, Nat.reduceMul, Nat.zero_mul, Nat.zero_add] at hy13_ hz13_); (try rw [show ((0 : Int)).toNat = 0 from rfl] at hy13_); (try rw [show ((0 : Int)).toNat = 0 from rfl] at hz13_); have HP13 := Kd.R_putg HO563.out (0 : Int) true) | ((with_reducible refine gate_store (t := 4) (p := 11) rfl ?_); refine store_event (t := 4) (p := 11) (v := ?vo_w14) (w1 := (w11.setCell ⟨go7, (0 : Int).toNat, none⟩ (.bool true))) ?hg ?ho ?hn ?hr ?_; (case ho => rfl); (case hg => rfl); (case hn => rfl); (case hr => exact dq0); intro w14 hw; have hg : w11.grownBy w14 (some go7) := (by rw [hw]; exact HP13.2); have hp_ : Kd.R Kd.bool 4 w14 w.heap.size (fun _ => True) (.slice (some ⟨go7, 0, none⟩) y561.length co7) y564 := (by rw [hw, Ny564.out]; exact HP13.1); clear HP13; have n0_ := Aside0.mk (hp_); have n1_ := Aside0.mk ((by rw [hw]; exact below_set (HB.out) GB7.out : Below w.heap.size w w14)); clear HO563; clear HB; have HO563 := n0_; have HB := n1_; clear n0_ n1_; clear hg hw hp_) | ((with_reducible refine gate_callee (f := 72) rfl ?_); refine goesL_ (some 18) rfl rfl Try.func72 dq19 rfl #[.slice A0 l0.length c0, .int .i64 (wrap64 ((l0.length : Int) - 1)), .slice A1 l1.length c1, .slice (some ⟨go7, 0, none⟩) y564.length co7] rfl (by (try simp only [List.map_toArray, List.map_cons, List.map_nil]); first | done | (rw [show y564.length = y561.length from (Kd.R_reads' HO563.out).1.symm] <;> rfl) | rfl | (simp only [List.length_drop, List.length_take]; rfl)) ?_; (with_reducible refine (spec_l8Ends.calls k _ _ l0 (wrap64 ((l0.length : Int) - 1)) _ _ l1 _ _ y564 t565 _ ?side1 ?side2 ?side3 ?side4 ?side5 ?side6 A8.out).mono ?_); (case side1 => exact dq4); (case side2 => exact HC0.out); (case side3 => exact dq5); (case side4 => exact HC1.out); (case side5 => repeat (first | exact (Kd.R_reads' HO563.out).2.2 | (with_reducible refine Kd.C_alloc ?_ _) | (with_reducible refine Kd.C_drewN ?_ _) | (with_reducible refine Kd.C_drew ?_))); (case side6 => rw [show y564.length = y561.length from (Kd.R_reads' HO563.out).1.symm]; exact (Kd.R_reads' HO563.out).2.1); rintro e w15 ⟨v566, rfl, ho0, hb⟩; refine ⟨_, rfl, ?_⟩; have n0_ := Aside0.mk (Kd.R_elder' (by (with_reducible repeat (first | apply Kd.R_alloc | apply Kd.R_drewN | apply Kd.R_drew)); exact HO563.out) (Kd.R_base ho0) hb); have n1_ := Aside0.mk (Kd.R_lower (Kd.R_new' ho0 (Kd.R_lt (by (with_reducible repeat (first | apply Kd.R_alloc | apply Kd.R_drewN | apply Kd.R_drew)); exact HO563.out))) (below_size dq15)); have n2_ := Aside0.mk (below_step dq15 hb); clear HO563; clear HB; have HO563 := n0_; have HO567 := n1_; have HB := n2_; clear n0_ n1_ n2_; (try clear hb); (try clear hb2); (try clear hk); (try clear hi); (try clear ho0); obtain ⟨Ao16, co16, eo16⟩ := Kd.R_slice HO567.out; subst eo16; have p568 : 0 ≤ ((l1.length : Int) : Int) := of_decide_eq_true dq20; have q568 : (l1.length : Int) < (t565.length : Int) := of_decide_eq_true dq20; obtain ⟨ad568, e568, hx568_0⟩ := Kd.at_bool (Kd.R_reads' HO567.out).2.2 (l1.length : Int) p568 q568; cases e568; (try simp only [Go.IntWalk.toNatUp] at hx568_0); replace p568 := eq_true p568; replace q568 := eq_true q568))
 go_ret
 exact ⟨by first | rfl | (simp [errW_none, errW_some] <;> rfl) | (simp only [← hji3]; first | rfl | (simp [errW_none, errW_some] <;> rfl)) | (simp [*, errW_none, errW_some] <;> rfl), dq15⟩

/-! ### spec_Accepts: function 30 -/
def spec_Accepts.f (k : Nat) (l0 : List (S49)) (l1 : List ByteArray) : Option (Bool) := (spec_ParticleOk.f k l0).bind fun t569 => (if t569 = true then (if (l1.length : Int) ≤ 200 then ((spec_l8Accepts.f k l0 l1).bind fun t570 => (some t570)) else (some false)) else (some false))
set_option maxHeartbeats 8000000 in
set_option maxRecDepth 100000 in
theorem spec_Accepts.calls (k : Nat) (A0 : Option Addr) (c0 : Nat) (l0 : List (S49)) (A1 : Option Addr) (c1 : Nat) (l1 : List ByteArray) (r : Bool) (w : World) (hr0 : Kd.C k49 w A0 l0.length l0) (hc0 : l0.length ≤ c0) (hr1 : Kd.C Kd.string w A1 l1.length l1) (hc1 : l1.length ≤ c1) (h : spec_Accepts.f k l0 l1 = some r) :
  Calls Try.prog 30 #[.slice A0 l0.length c0, .slice A1 l1.length c1] w fun e w' => e = .returned (.bool r) ∧ Below w.heap.size w w' := by
 have HR0 := Aside0.mk hr0
 have HC0 := Aside0.mk hc0
 clear hr0 hc0
 have HR1 := Aside0.mk hr1
 have HC1 := Aside0.mk hc1
 clear hr1 hc1
 have HB := Aside0.mk (Below.refl w.heap.size w)
 have H : ((spec_ParticleOk.f k l0).bind fun t569 => (if t569 = true then (if (l1.length : Int) ≤ 200 then ((spec_l8Accepts.f k l0 l1).bind fun t570 => (some t570)) else (some false)) else (some false))) = some r := h
 clear h
 replace H := Option.bind_eq_some_iff.mp H
 obtain ⟨t569, A30, H⟩ := H
 replace H : (if t569 = true then (if (l1.length : Int) ≤ 200 then ((spec_l8Accepts.f k l0 l1).bind fun t570 => (some t570)) else (some false)) else (some false)) = some r := H
 have A3 := Aside0.mk A30
 clear A30
 by_cases c4 : t569 = true
 rotate_left
 ·replace c4 := Bool.eq_false_iff.mpr c4
  subst c4
  have H1 : (some false) = some r := by rw [if_neg (show ¬ (false = true) by decide)] at H; exact H
  clear H
  have H := H1
  clear H1
  obtain rfl := Option.some.inj H
  go_enter Try.func30, Try.ntmps30
  go_wp2_with (first | ((with_reducible refine gate_callee (f := 33) rfl ?_); refine goesL_ (some 6) rfl rfl Try.func33 dq19 rfl #[.slice A0 l0.length c0] rfl dq18 ?_; (with_reducible refine (spec_ParticleOk.calls k _ _ l0 false _ ?side1 ?side2 A3.out).mono ?_); (case side1 => exact dq3); (case side2 => exact HC0.out); rintro e w10 ⟨rfl, hb⟩; refine ⟨_, rfl, ?_⟩; have n0_ := Aside0.mk (below_step dq15 hb); clear HB; have HB := n0_; clear n0_; (try clear hb); (try clear hb2); (try clear hk); (try clear hi)))
  go_ret
  exact ⟨dq17, dq15⟩
 subst c4
 have H1 : (if (l1.length : Int) ≤ 200 then ((spec_l8Accepts.f k l0 l1).bind fun t570 => (some t570)) else (some false)) = some r := by rw [if_pos rfl] at H; exact H
 clear H
 have H := H1
 clear H1
 by_cases c5 : (l1.length : Int) ≤ 200
 rotate_left
 ·rw [if_neg c5] at H
  have c5b0 := decide_eq_false c5
  have c5b1 : decide (l1.length ≤ 200) = false := decide_eq_false dq22
  clear c5
  obtain rfl := Option.some.inj H
  go_enter Try.func30, Try.ntmps30
  go_wp2_with (first | ((with_reducible refine gate_callee (f := 33) rfl ?_); refine goesL_ (some 6) rfl rfl Try.func33 dq19 rfl #[.slice A0 l0.length c0] rfl dq18 ?_; (with_reducible refine (spec_ParticleOk.calls k _ _ l0 true _ ?side1 ?side2 A3.out).mono ?_); (case side1 => exact dq3); (case side2 => exact HC0.out); rintro e w9 ⟨rfl, hb⟩; refine ⟨_, rfl, ?_⟩; have n0_ := Aside0.mk (below_step dq15 hb); clear HB; have HB := n0_; clear n0_; (try clear hb); (try clear hb2); (try clear hk); (try clear hi)))
  go_ret
  exact ⟨dq17, dq15⟩
 rw [if_pos c5] at H
 have c5b0 := decide_eq_true c5
 have c5b1 : decide (l1.length ≤ 200) = true := decide_eq_true dq22
 clear c5
 replace H := Option.bind_eq_some_iff.mp H
 obtain ⟨t570, A60, H⟩ := H
 replace H : (some t570) = some r := H
 have A6 := Aside0.mk A60
 clear A60
 obtain rfl := Option.some.inj H
 go_enter Try.func30, Try.ntmps30
 go_wp2_with (first | ((with_reducible refine gate_callee (f := 33) rfl ?_); refine goesL_ (some 6) rfl rfl Try.func33 dq19 rfl #[.slice A0 l0.length c0] rfl dq18 ?_; (with_reducible refine (spec_ParticleOk.calls k _ _ l0 true _ ?side1 ?side2 A3.out).mono ?_); (case side1 => exact dq3); (case side2 => exact HC0.out); rintro e w7 ⟨rfl, hb⟩; refine ⟨_, rfl, ?_⟩; have n0_ := Aside0.mk (below_step dq15 hb); clear HB; have HB := n0_; clear n0_; (try clear hb); (try clear hb2); (try clear hk); (try clear hi)) | (go_at_call 55; (with_reducible refine (spec_l8Accepts.calls k _ _ l0 _ _ l1 t570 _ ?side1 ?side2 ?side3 ?side4 A6.out).mono ?_); (case side1 => exact dq4); (case side2 => exact HC0.out); (case side3 => exact dq5); (case side4 => exact HC1.out); rintro e w8 ⟨rfl, hb⟩; have n0_ := Aside0.mk (below_step dq15 hb); clear HB; have HB := n0_; clear n0_; (try clear hb); (try clear hb2); (try clear hk); (try clear hi)))
 go_ret
 exact ⟨dq17, dq15⟩

/-! ### impl_in: function 47 -/
def impl_in.f (a0 : Int) (a1 : Int) (a2 : Int) : Option (Bool) := if a1 ≤ a0 then (some (decide (a0 ≤ a2))) else (some false)
set_option maxHeartbeats 8000000 in
set_option maxRecDepth 100000 in
theorem impl_in.calls (a0 : Int) (a1 : Int) (a2 : Int) (r : Bool) (w : World) (h : impl_in.f a0 a1 a2 = some r) :
  Calls Try.prog 47 #[.int .i64 a0, .int .i64 a1, .int .i64 a2] w fun e w' => e = .returned (.bool r) ∧ Drawn0 w w' := by
 have H : (if a1 ≤ a0 then (some (decide (a0 ≤ a2))) else (some false)) = some r := h
 clear h
 by_cases c4 : a1 ≤ a0
 ·rw [if_pos c4] at H
  have c4b0 := decide_eq_true c4
  clear c4
  obtain rfl := Option.some.inj H
  go_enter Try.func47, Try.ntmps47
  go_wp2
  go_ret
  exact ⟨dq13, dq12⟩
 rw [if_neg c4] at H
 have c4b0 := decide_eq_false c4
 clear c4
 obtain rfl := Option.some.inj H
 go_enter Try.func47, Try.ntmps47
 go_wp2
 go_ret
 exact ⟨dq13, dq12⟩

/-! ### impl_PNode_isPosition: function 48 -/
def impl_PNode_isPosition.f (a0_0 : Int) (a0_1 : ByteArray) (l0_2 : List Int) (a0_3 : Int) : Option (Bool) := if a0_0 = 1 then (some true) else (some (a0_0 == 4))
set_option maxHeartbeats 8000000 in
set_option maxRecDepth 100000 in
theorem impl_PNode_isPosition.calls (a0_0 : Int) (a0_1 : ByteArray) (A0_2 : Option Addr) (c0_2 : Nat) (l0_2 : List Int) (a0_3 : Int) (r : Bool) (w : World) (hr0_2 : Kd.C (Kd.int .i64) w A0_2 l0_2.length l0_2) (hc0_2 : l0_2.length ≤ c0_2) (h : impl_PNode_isPosition.f a0_0 a0_1 l0_2 a0_3 = some r) :
  Calls Try.prog 48 #[.agg #[.int .i64 a0_0, .string a0_1, .slice A0_2 l0_2.length c0_2, .int .i64 a0_3]] w fun e w' => e = .returned (.bool r) ∧ Below w.heap.size w w' := by
 have hu49 := Try.underlying49
 have HR0_2 := Aside0.mk hr0_2
 have HC0_2 := Aside0.mk hc0_2
 clear hr0_2 hc0_2
 have HB := Aside0.mk (Below.refl w.heap.size w)
 have H : (if a0_0 = 1 then (some true) else (some (a0_0 == 4))) = some r := h
 clear h
 by_cases c2 : a0_0 = 1
 rotate_left
 ·rw [if_neg c2] at H
  have c2b0 := beq_eq_false_iff_ne.mpr c2
  have c2b1 := bne_iff_ne.mpr c2
  obtain rfl := Option.some.inj H
  go_enter Try.func48, Try.ntmps48
  go_wp2_with (first | ((with_reducible refine gate_dst (N := 1) rfl ?_); refine box_event ?hg (N := 1) ?hd (cs := #[.int .i64 a0_0, .string a0_1, .slice A0_2 l0_2.length c0_2, .int .i64 a0_3]) (t := 49) ?hr ?_; (case hd => rfl); (case hg => rfl); (case hr => exact dq0); intro gb231 hg w5 hbox hb; have n0_ := Aside0.mk (below_step dq15 hb); have n1_ := Aside0.mk (hbox); have n2_ := Aside0.mk ((dq14 : w.heap.size ≤ gb231)); have n3_ := Aside0.mk ((dq14 : w.heap.size ≤ gb231)); clear HB; have HB := n0_; have BK231 := n1_; have GW231 := n2_; have GE231 := n3_; clear n0_ n1_ n2_ n3_; clear hb hbox hg; obtain ⟨⟨hcz6_0, hcz6_1, hcz6_2, hcz6_3⟩, hfz6_0, hfz6_1, hfz6_2, hfz6_3⟩ := blkC4 BK231.out))
  go_ret
  exact ⟨dq17, dq46⟩
 rw [if_pos c2] at H
 have c2b0 := beq_iff_eq.mpr c2
 have c2b1 := bne_eq_false_iff_eq.mpr c2
 clear c2
 obtain rfl := Option.some.inj H
 go_enter Try.func48, Try.ntmps48
 go_wp2_with (first | ((with_reducible refine gate_dst (N := 1) rfl ?_); refine box_event ?hg (N := 1) ?hd (cs := #[.int .i64 a0_0, .string a0_1, .slice A0_2 l0_2.length c0_2, .int .i64 a0_3]) (t := 49) ?hr ?_; (case hd => rfl); (case hg => rfl); (case hr => exact dq0); intro gb231 hg w3 hbox hb; have n0_ := Aside0.mk (below_step dq15 hb); have n1_ := Aside0.mk (hbox); have n2_ := Aside0.mk ((dq14 : w.heap.size ≤ gb231)); have n3_ := Aside0.mk ((dq14 : w.heap.size ≤ gb231)); clear HB; have HB := n0_; have BK231 := n1_; have GW231 := n2_; have GE231 := n3_; clear n0_ n1_ n2_ n3_; clear hb hbox hg; obtain ⟨⟨hcz4_0, hcz4_1, hcz4_2, hcz4_3⟩, hfz4_0, hfz4_1, hfz4_2, hfz4_3⟩ := blkC4 BK231.out))
 go_ret
 exact ⟨dq17, dq46⟩

/-! ### impl_NameOk: function 75 -/
def impl_NameOk.l0 : Nat → ByteArray → Int → Int → Option (Bool)
 | 0, _, _, _ => none
 | k + 1, x0, x7, x8 => if x8 < x7 then (if 0 ≤ x8 then (if x8 < (x0.size : Int) then (if (bt x0 x8) ≥ 97 then (if (bt x0 x8) ≤ 122 then (impl_NameOk.l0 k x0 x7 (wrap64 (x8 + 1))) else (if (bt x0 x8) ≥ 65 then (if (bt x0 x8) ≤ 90 then (impl_NameOk.l0 k x0 x7 (wrap64 (x8 + 1))) else (if ((bt x0 x8) = 95) then (impl_NameOk.l0 k x0 x7 (wrap64 (x8 + 1))) else (if x8 = 0 then (some false) else (if (bt x0 x8) ≥ 48 then (if ((bt x0 x8) ≤ 57) then (impl_NameOk.l0 k x0 x7 (wrap64 (x8 + 1))) else (if (bt x0 x8) = 46 then (impl_NameOk.l0 k x0 x7 (wrap64 (x8 + 1))) else (if (bt x0 x8) = 45 then (impl_NameOk.l0 k x0 x7 (wrap64 (x8 + 1))) else (some false)))) else (if (bt x0 x8) = 46 then (impl_NameOk.l0 k x0 x7 (wrap64 (x8 + 1))) else (if (bt x0 x8) = 45 then (impl_NameOk.l0 k x0 x7 (wrap64 (x8 + 1))) else (some false))))))) else (if ((bt x0 x8) = 95) then (impl_NameOk.l0 k x0 x7 (wrap64 (x8 + 1))) else (if x8 = 0 then (some false) else (if (bt x0 x8) ≥ 48 then (if ((bt x0 x8) ≤ 57) then (impl_NameOk.l0 k x0 x7 (wrap64 (x8 + 1))) else (if (bt x0 x8) = 46 then (impl_NameOk.l0 k x0 x7 (wrap64 (x8 + 1))) else (if (bt x0 x8) = 45 then (impl_NameOk.l0 k x0 x7 (wrap64 (x8 + 1))) else (some false)))) else (if (bt x0 x8) = 46 then (impl_NameOk.l0 k x0 x7 (wrap64 (x8 + 1))) else (if (bt x0 x8) = 45 then (impl_NameOk.l0 k x0 x7 (wrap64 (x8 + 1))) else (some false)))))))) else (if (bt x0 x8) ≥ 65 then (if (bt x0 x8) ≤ 90 then (impl_NameOk.l0 k x0 x7 (wrap64 (x8 + 1))) else (if ((bt x0 x8) = 95) then (impl_NameOk.l0 k x0 x7 (wrap64 (x8 + 1))) else (if x8 = 0 then (some false) else (if (bt x0 x8) ≥ 48 then (if ((bt x0 x8) ≤ 57) then (impl_NameOk.l0 k x0 x7 (wrap64 (x8 + 1))) else (if (bt x0 x8) = 46 then (impl_NameOk.l0 k x0 x7 (wrap64 (x8 + 1))) else (if (bt x0 x8) = 45 then (impl_NameOk.l0 k x0 x7 (wrap64 (x8 + 1))) else (some false)))) else (if (bt x0 x8) = 46 then (impl_NameOk.l0 k x0 x7 (wrap64 (x8 + 1))) else (if (bt x0 x8) = 45 then (impl_NameOk.l0 k x0 x7 (wrap64 (x8 + 1))) else (some false))))))) else (if ((bt x0 x8) = 95) then (impl_NameOk.l0 k x0 x7 (wrap64 (x8 + 1))) else (if x8 = 0 then (some false) else (if (bt x0 x8) ≥ 48 then (if ((bt x0 x8) ≤ 57) then (impl_NameOk.l0 k x0 x7 (wrap64 (x8 + 1))) else (if (bt x0 x8) = 46 then (impl_NameOk.l0 k x0 x7 (wrap64 (x8 + 1))) else (if (bt x0 x8) = 45 then (impl_NameOk.l0 k x0 x7 (wrap64 (x8 + 1))) else (some false)))) else (if (bt x0 x8) = 46 then (impl_NameOk.l0 k x0 x7 (wrap64 (x8 + 1))) else (if (bt x0 x8) = 45 then (impl_NameOk.l0 k x0 x7 (wrap64 (x8 + 1))) else (some false)))))))) else (none)) else (none)) else ((impl_in.f (x0.size : Int) 1 40).bind fun t232 => (some t232))
def impl_NameOk.f (k : Nat) (a0 : ByteArray) : Option (Bool) := impl_NameOk.l0 k a0 (a0.size : Int) 0
set_option maxHeartbeats 8000000 in
set_option maxRecDepth 100000 in
theorem impl_NameOk.calls (k : Nat) (a0 : ByteArray) (r : Bool) (w : World) (h : impl_NameOk.f k a0 = some r) :
  Calls Try.prog 75 #[.string a0] w fun e w' => e = .returned (.bool r) ∧ Drawn0 w w' := by
 have H : (impl_NameOk.l0 k a0 (a0.size : Int) 0) = some r := h
 clear h
 have H' := Aside0.mk H
 clear H
 go_enter Try.func75, Try.ntmps75
 go_wp2
 go_loopg [8] k (fun kq v8 w' => ∃ (x8_1 : Int), v8 = .int .i64 x8_1 ∧ Aside0 (impl_NameOk.l0 kq a0 (a0.size : Int) x8_1 = some r) ∧ Aside0 (kq ≤ k) ∧ Drawn0 w w')
 case atStart => exact ⟨(0), dq13, H', ⟨Nat.le_refl _⟩, dq12⟩
 clear H'
 obtain ⟨x8_1, rfl, HA, HK1, ⟨m1, rfl⟩⟩ := hrel
 cases gk with
 | zero => exact absurd HA.out (by simp [impl_NameOk.l0])
 | succ k1 =>
  have H := HA.out
  clear HA
  simp only [impl_NameOk.l0] at H
  by_cases c2 : x8_1 < (a0.size : Int)
  rotate_left
  ·rw [if_neg c2] at H
   have c2b0 := decide_eq_false c2
   clear c2
   replace H := Option.bind_eq_some_iff.mp H
   obtain ⟨t232, A440, H⟩ := H
   replace H : (some t232) = some r := H
   have A44 := Aside0.mk A440
   clear A440
   obtain rfl := Option.some.inj H
   go_wp2_with (first | ((with_reducible refine gate_callee (f := 47) rfl ?_); refine goesL_ (some 58) rfl rfl Try.func47 dq19 rfl #[.int .i64 (a0.size : Int), .int .i64 1, .int .i64 40] rfl dq18 ?_; (with_reducible refine (impl_in.calls (a0.size : Int) 1 40 t232 _ A44.out).mono ?_); rintro e w' ⟨rfl, ⟨nd, rfl⟩⟩; refine ⟨_, rfl, ?_⟩))
   go_ret
   exact ⟨dq13, dq12⟩
  rw [if_pos c2] at H
  have c2b0 := decide_eq_true c2
  clear c2
  by_cases c3 : 0 ≤ x8_1
  rotate_left
  ·rw [if_neg c3] at H
   exact absurd H (by simp)
  rw [if_pos c3] at H
  have c3b0 := decide_eq_true c3
  clear c3
  by_cases c4 : x8_1 < (a0.size : Int)
  rotate_left
  ·rw [if_neg c4] at H
   exact absurd H (by simp)
  rw [if_pos c4] at H
  have c4b0 := decide_eq_true c4
  clear c4
  by_cases c6 : (bt a0 x8_1) ≥ 97
  rotate_left
  ·rw [if_neg c6] at H
   have c6b0 : decide (97 ≤ (bt a0 x8_1)) = false := decide_eq_false c6
   clear c6
   by_cases c26 : (bt a0 x8_1) ≥ 65
   rotate_left
   ·rw [if_neg c26] at H
    have c26b0 : decide (65 ≤ (bt a0 x8_1)) = false := decide_eq_false c26
    clear c26
    by_cases c36 : ((bt a0 x8_1) = 95)
    ·rw [if_pos c36] at H
     have c36b0 : ((bt a0 x8_1) == 95) = true := beq_iff_eq.mpr c36
     have c36b1 : ((bt a0 x8_1) != 95) = false := bne_eq_false_iff_eq.mpr c36
     clear c36
     have H' := Aside0.mk H
     clear H
     have p5 : 0 ≤ (x8_1 : Int) := of_decide_eq_true dq20
     have q5 : x8_1 < (a0.size : Int) := of_decide_eq_true dq20
     have hx5 := bt_at a0 x8_1
     replace p5 := eq_true p5
     replace q5 := eq_true q5
     go_wp2
     go_roundg k1
     case measure => have := HK1.out; omega
     case rel => exact ⟨(wrap64 (x8_1 + 1)), dq13, H', ⟨dq21⟩, dq12⟩
    rw [if_neg c36] at H
    have c36b0 : ((bt a0 x8_1) == 95) = false := beq_eq_false_iff_ne.mpr c36
    have c36b1 : ((bt a0 x8_1) != 95) = true := bne_iff_ne.mpr c36
    by_cases c37 : x8_1 = 0
    ·rw [if_pos c37] at H
     have c37b0 := beq_iff_eq.mpr c37
     have c37b1 := bne_eq_false_iff_eq.mpr c37
     clear c37
     obtain rfl := Option.some.inj H
     have p5 : 0 ≤ (x8_1 : Int) := of_decide_eq_true dq20
     have q5 : x8_1 < (a0.size : Int) := of_decide_eq_true dq20
     have hx5 := bt_at a0 x8_1
     replace p5 := eq_true p5
     replace q5 := eq_true q5
     go_wp2
     go_ret
     exact ⟨dq13, dq12⟩
    rw [if_neg c37] at H
    have c37b0 := beq_eq_false_iff_ne.mpr c37
    have c37b1 := bne_iff_ne.mpr c37
    by_cases c38 : (bt a0 x8_1) ≥ 48
    rotate_left
    ·rw [if_neg c38] at H
     have c38b0 : decide (48 ≤ (bt a0 x8_1)) = false := decide_eq_false c38
     clear c38
     by_cases c42 : (bt a0 x8_1) = 46
     ·rw [if_pos c42] at H
      have c42b0 := beq_iff_eq.mpr c42
      have c42b1 := bne_eq_false_iff_eq.mpr c42
      clear c42
      have H' := Aside0.mk H
      clear H
      have p5 : 0 ≤ (x8_1 : Int) := of_decide_eq_true dq20
      have q5 : x8_1 < (a0.size : Int) := of_decide_eq_true dq20
      have hx5 := bt_at a0 x8_1
      replace p5 := eq_true p5
      replace q5 := eq_true q5
      go_wp2
      go_roundg k1
      case measure => have := HK1.out; omega
      case rel => exact ⟨(wrap64 (x8_1 + 1)), dq13, H', ⟨dq21⟩, dq12⟩
     rw [if_neg c42] at H
     have c42b0 := beq_eq_false_iff_ne.mpr c42
     have c42b1 := bne_iff_ne.mpr c42
     by_cases c43 : (bt a0 x8_1) = 45
     rotate_left
     ·rw [if_neg c43] at H
      have c43b0 := beq_eq_false_iff_ne.mpr c43
      have c43b1 := bne_iff_ne.mpr c43
      obtain rfl := Option.some.inj H
      have p5 : 0 ≤ (x8_1 : Int) := of_decide_eq_true dq20
      have q5 : x8_1 < (a0.size : Int) := of_decide_eq_true dq20
      have hx5 := bt_at a0 x8_1
      replace p5 := eq_true p5
      replace q5 := eq_true q5
      go_wp2
      go_ret
      exact ⟨dq13, dq12⟩
     rw [if_pos c43] at H
     have c43b0 := beq_iff_eq.mpr c43
     have c43b1 := bne_eq_false_iff_eq.mpr c43
     clear c43
     have H' := Aside0.mk H
     clear H
     have p5 : 0 ≤ (x8_1 : Int) := of_decide_eq_true dq20
     have q5 : x8_1 < (a0.size : Int) := of_decide_eq_true dq20
     have hx5 := bt_at a0 x8_1
     replace p5 := eq_true p5
     replace q5 := eq_true q5
     go_wp2
     go_roundg k1
     case measure => have := HK1.out; omega
     case rel => exact ⟨(wrap64 (x8_1 + 1)), dq13, H', ⟨dq21⟩, dq12⟩
    rw [if_pos c38] at H
    have c38b0 : decide (48 ≤ (bt a0 x8_1)) = true := decide_eq_true c38
    clear c38
    by_cases c39 : ((bt a0 x8_1) ≤ 57)
    ·rw [if_pos c39] at H
     have c39b0 : decide ((bt a0 x8_1) ≤ 57) = true := decide_eq_true c39
     clear c39
     have H' := Aside0.mk H
     clear H
     have p5 : 0 ≤ (x8_1 : Int) := of_decide_eq_true dq20
     have q5 : x8_1 < (a0.size : Int) := of_decide_eq_true dq20
     have hx5 := bt_at a0 x8_1
     replace p5 := eq_true p5
     replace q5 := eq_true q5
     go_wp2
     go_roundg k1
     case measure => have := HK1.out; omega
     case rel => exact ⟨(wrap64 (x8_1 + 1)), dq13, H', ⟨dq21⟩, dq12⟩
    rw [if_neg c39] at H
    have c39b0 : decide ((bt a0 x8_1) ≤ 57) = false := decide_eq_false c39
    clear c39
    by_cases c40 : (bt a0 x8_1) = 46
    ·rw [if_pos c40] at H
     have c40b0 := beq_iff_eq.mpr c40
     have c40b1 := bne_eq_false_iff_eq.mpr c40
     clear c40
     have H' := Aside0.mk H
     clear H
     have p5 : 0 ≤ (x8_1 : Int) := of_decide_eq_true dq20
     have q5 : x8_1 < (a0.size : Int) := of_decide_eq_true dq20
     have hx5 := bt_at a0 x8_1
     replace p5 := eq_true p5
     replace q5 := eq_true q5
     go_wp2
     go_roundg k1
     case measure => have := HK1.out; omega
     case rel => exact ⟨(wrap64 (x8_1 + 1)), dq13, H', ⟨dq21⟩, dq12⟩
    rw [if_neg c40] at H
    have c40b0 := beq_eq_false_iff_ne.mpr c40
    have c40b1 := bne_iff_ne.mpr c40
    by_cases c41 : (bt a0 x8_1) = 45
    rotate_left
    ·rw [if_neg c41] at H
     have c41b0 := beq_eq_false_iff_ne.mpr c41
     have c41b1 := bne_iff_ne.mpr c41
     obtain rfl := Option.some.inj H
     have p5 : 0 ≤ (x8_1 : Int) := of_decide_eq_true dq20
     have q5 : x8_1 < (a0.size : Int) := of_decide_eq_true dq20
     have hx5 := bt_at a0 x8_1
     replace p5 := eq_true p5
     replace q5 := eq_true q5
     go_wp2
     go_ret
     exact ⟨dq13, dq12⟩
    rw [if_pos c41] at H
    have c41b0 := beq_iff_eq.mpr c41
    have c41b1 := bne_eq_false_iff_eq.mpr c41
    clear c41
    have H' := Aside0.mk H
    clear H
    have p5 : 0 ≤ (x8_1 : Int) := of_decide_eq_true dq20
    have q5 : x8_1 < (a0.size : Int) := of_decide_eq_true dq20
    have hx5 := bt_at a0 x8_1
    replace p5 := eq_true p5
    replace q5 := eq_true q5
    go_wp2
    go_roundg k1
    case measure => have := HK1.out; omega
    case rel => exact ⟨(wrap64 (x8_1 + 1)), dq13, H', ⟨dq21⟩, dq12⟩
   rw [if_pos c26] at H
   have c26b0 : decide (65 ≤ (bt a0 x8_1)) = true := decide_eq_true c26
   clear c26
   by_cases c27 : (bt a0 x8_1) ≤ 90
   ·rw [if_pos c27] at H
    have c27b0 := decide_eq_true c27
    clear c27
    have H' := Aside0.mk H
    clear H
    have p5 : 0 ≤ (x8_1 : Int) := of_decide_eq_true dq20
    have q5 : x8_1 < (a0.size : Int) := of_decide_eq_true dq20
    have hx5 := bt_at a0 x8_1
    replace p5 := eq_true p5
    replace q5 := eq_true q5
    go_wp2
    go_roundg k1
    case measure => have := HK1.out; omega
    case rel => exact ⟨(wrap64 (x8_1 + 1)), dq13, H', ⟨dq21⟩, dq12⟩
   rw [if_neg c27] at H
   have c27b0 := decide_eq_false c27
   clear c27
   by_cases c28 : ((bt a0 x8_1) = 95)
   ·rw [if_pos c28] at H
    have c28b0 : ((bt a0 x8_1) == 95) = true := beq_iff_eq.mpr c28
    have c28b1 : ((bt a0 x8_1) != 95) = false := bne_eq_false_iff_eq.mpr c28
    clear c28
    have H' := Aside0.mk H
    clear H
    have p5 : 0 ≤ (x8_1 : Int) := of_decide_eq_true dq20
    have q5 : x8_1 < (a0.size : Int) := of_decide_eq_true dq20
    have hx5 := bt_at a0 x8_1
    replace p5 := eq_true p5
    replace q5 := eq_true q5
    go_wp2
    go_roundg k1
    case measure => have := HK1.out; omega
    case rel => exact ⟨(wrap64 (x8_1 + 1)), dq13, H', ⟨dq21⟩, dq12⟩
   rw [if_neg c28] at H
   have c28b0 : ((bt a0 x8_1) == 95) = false := beq_eq_false_iff_ne.mpr c28
   have c28b1 : ((bt a0 x8_1) != 95) = true := bne_iff_ne.mpr c28
   by_cases c29 : x8_1 = 0
   ·rw [if_pos c29] at H
    have c29b0 := beq_iff_eq.mpr c29
    have c29b1 := bne_eq_false_iff_eq.mpr c29
    clear c29
    obtain rfl := Option.some.inj H
    have p5 : 0 ≤ (x8_1 : Int) := of_decide_eq_true dq20
    have q5 : x8_1 < (a0.size : Int) := of_decide_eq_true dq20
    have hx5 := bt_at a0 x8_1
    replace p5 := eq_true p5
    replace q5 := eq_true q5
    go_wp2
    go_ret
    exact ⟨dq13, dq12⟩
   rw [if_neg c29] at H
   have c29b0 := beq_eq_false_iff_ne.mpr c29
   have c29b1 := bne_iff_ne.mpr c29
   by_cases c30 : (bt a0 x8_1) ≥ 48
   rotate_left
   ·rw [if_neg c30] at H
    have c30b0 : decide (48 ≤ (bt a0 x8_1)) = false := decide_eq_false c30
    clear c30
    by_cases c34 : (bt a0 x8_1) = 46
    ·rw [if_pos c34] at H
     have c34b0 := beq_iff_eq.mpr c34
     have c34b1 := bne_eq_false_iff_eq.mpr c34
     clear c34
     have H' := Aside0.mk H
     clear H
     have p5 : 0 ≤ (x8_1 : Int) := of_decide_eq_true dq20
     have q5 : x8_1 < (a0.size : Int) := of_decide_eq_true dq20
     have hx5 := bt_at a0 x8_1
     replace p5 := eq_true p5
     replace q5 := eq_true q5
     go_wp2
     go_roundg k1
     case measure => have := HK1.out; omega
     case rel => exact ⟨(wrap64 (x8_1 + 1)), dq13, H', ⟨dq21⟩, dq12⟩
    rw [if_neg c34] at H
    have c34b0 := beq_eq_false_iff_ne.mpr c34
    have c34b1 := bne_iff_ne.mpr c34
    by_cases c35 : (bt a0 x8_1) = 45
    rotate_left
    ·rw [if_neg c35] at H
     have c35b0 := beq_eq_false_iff_ne.mpr c35
     have c35b1 := bne_iff_ne.mpr c35
     obtain rfl := Option.some.inj H
     have p5 : 0 ≤ (x8_1 : Int) := of_decide_eq_true dq20
     have q5 : x8_1 < (a0.size : Int) := of_decide_eq_true dq20
     have hx5 := bt_at a0 x8_1
     replace p5 := eq_true p5
     replace q5 := eq_true q5
     go_wp2
     go_ret
     exact ⟨dq13, dq12⟩
    rw [if_pos c35] at H
    have c35b0 := beq_iff_eq.mpr c35
    have c35b1 := bne_eq_false_iff_eq.mpr c35
    clear c35
    have H' := Aside0.mk H
    clear H
    have p5 : 0 ≤ (x8_1 : Int) := of_decide_eq_true dq20
    have q5 : x8_1 < (a0.size : Int) := of_decide_eq_true dq20
    have hx5 := bt_at a0 x8_1
    replace p5 := eq_true p5
    replace q5 := eq_true q5
    go_wp2
    go_roundg k1
    case measure => have := HK1.out; omega
    case rel => exact ⟨(wrap64 (x8_1 + 1)), dq13, H', ⟨dq21⟩, dq12⟩
   rw [if_pos c30] at H
   have c30b0 : decide (48 ≤ (bt a0 x8_1)) = true := decide_eq_true c30
   clear c30
   by_cases c31 : ((bt a0 x8_1) ≤ 57)
   ·rw [if_pos c31] at H
    have c31b0 : decide ((bt a0 x8_1) ≤ 57) = true := decide_eq_true c31
    clear c31
    have H' := Aside0.mk H
    clear H
    have p5 : 0 ≤ (x8_1 : Int) := of_decide_eq_true dq20
    have q5 : x8_1 < (a0.size : Int) := of_decide_eq_true dq20
    have hx5 := bt_at a0 x8_1
    replace p5 := eq_true p5
    replace q5 := eq_true q5
    go_wp2
    go_roundg k1
    case measure => have := HK1.out; omega
    case rel => exact ⟨(wrap64 (x8_1 + 1)), dq13, H', ⟨dq21⟩, dq12⟩
   rw [if_neg c31] at H
   have c31b0 : decide ((bt a0 x8_1) ≤ 57) = false := decide_eq_false c31
   clear c31
   by_cases c32 : (bt a0 x8_1) = 46
   ·rw [if_pos c32] at H
    have c32b0 := beq_iff_eq.mpr c32
    have c32b1 := bne_eq_false_iff_eq.mpr c32
    clear c32
    have H' := Aside0.mk H
    clear H
    have p5 : 0 ≤ (x8_1 : Int) := of_decide_eq_true dq20
    have q5 : x8_1 < (a0.size : Int) := of_decide_eq_true dq20
    have hx5 := bt_at a0 x8_1
    replace p5 := eq_true p5
    replace q5 := eq_true q5
    go_wp2
    go_roundg k1
    case measure => have := HK1.out; omega
    case rel => exact ⟨(wrap64 (x8_1 + 1)), dq13, H', ⟨dq21⟩, dq12⟩
   rw [if_neg c32] at H
   have c32b0 := beq_eq_false_iff_ne.mpr c32
   have c32b1 := bne_iff_ne.mpr c32
   by_cases c33 : (bt a0 x8_1) = 45
   rotate_left
   ·rw [if_neg c33] at H
    have c33b0 := beq_eq_false_iff_ne.mpr c33
    have c33b1 := bne_iff_ne.mpr c33
    obtain rfl := Option.some.inj H
    have p5 : 0 ≤ (x8_1 : Int) := of_decide_eq_true dq20
    have q5 : x8_1 < (a0.size : Int) := of_decide_eq_true dq20
    have hx5 := bt_at a0 x8_1
    replace p5 := eq_true p5
    replace q5 := eq_true q5
    go_wp2
    go_ret
    exact ⟨dq13, dq12⟩
   rw [if_pos c33] at H
   have c33b0 := beq_iff_eq.mpr c33
   have c33b1 := bne_eq_false_iff_eq.mpr c33
   clear c33
   have H' := Aside0.mk H
   clear H
   have p5 : 0 ≤ (x8_1 : Int) := of_decide_eq_true dq20
   have q5 : x8_1 < (a0.size : Int) := of_decide_eq_true dq20
   have hx5 := bt_at a0 x8_1
   replace p5 := eq_true p5
   replace q5 := eq_true q5
   go_wp2
   go_roundg k1
   case measure => have := HK1.out; omega
   case rel => exact ⟨(wrap64 (x8_1 + 1)), dq13, H', ⟨dq21⟩, dq12⟩
  rw [if_pos c6] at H
  have c6b0 : decide (97 ≤ (bt a0 x8_1)) = true := decide_eq_true c6
  clear c6
  by_cases c7 : (bt a0 x8_1) ≤ 122
  ·rw [if_pos c7] at H
   have c7b0 := decide_eq_true c7
   clear c7
   have H' := Aside0.mk H
   clear H
   have p5 : 0 ≤ (x8_1 : Int) := of_decide_eq_true dq20
   have q5 : x8_1 < (a0.size : Int) := of_decide_eq_true dq20
   have hx5 := bt_at a0 x8_1
   replace p5 := eq_true p5
   replace q5 := eq_true q5
   go_wp2
   go_roundg k1
   case measure => have := HK1.out; omega
   case rel => exact ⟨(wrap64 (x8_1 + 1)), dq13, H', ⟨dq21⟩, dq12⟩
  rw [if_neg c7] at H
  have c7b0 := decide_eq_false c7
  clear c7
  by_cases c8 : (bt a0 x8_1) ≥ 65
  rotate_left
  ·rw [if_neg c8] at H
   have c8b0 : decide (65 ≤ (bt a0 x8_1)) = false := decide_eq_false c8
   clear c8
   by_cases c18 : ((bt a0 x8_1) = 95)
   ·rw [if_pos c18] at H
    have c18b0 : ((bt a0 x8_1) == 95) = true := beq_iff_eq.mpr c18
    have c18b1 : ((bt a0 x8_1) != 95) = false := bne_eq_false_iff_eq.mpr c18
    clear c18
    have H' := Aside0.mk H
    clear H
    have p5 : 0 ≤ (x8_1 : Int) := of_decide_eq_true dq20
    have q5 : x8_1 < (a0.size : Int) := of_decide_eq_true dq20
    have hx5 := bt_at a0 x8_1
    replace p5 := eq_true p5
    replace q5 := eq_true q5
    go_wp2
    go_roundg k1
    case measure => have := HK1.out; omega
    case rel => exact ⟨(wrap64 (x8_1 + 1)), dq13, H', ⟨dq21⟩, dq12⟩
   rw [if_neg c18] at H
   have c18b0 : ((bt a0 x8_1) == 95) = false := beq_eq_false_iff_ne.mpr c18
   have c18b1 : ((bt a0 x8_1) != 95) = true := bne_iff_ne.mpr c18
   by_cases c19 : x8_1 = 0
   ·rw [if_pos c19] at H
    have c19b0 := beq_iff_eq.mpr c19
    have c19b1 := bne_eq_false_iff_eq.mpr c19
    clear c19
    obtain rfl := Option.some.inj H
    have p5 : 0 ≤ (x8_1 : Int) := of_decide_eq_true dq20
    have q5 : x8_1 < (a0.size : Int) := of_decide_eq_true dq20
    have hx5 := bt_at a0 x8_1
    replace p5 := eq_true p5
    replace q5 := eq_true q5
    go_wp2
    go_ret
    exact ⟨dq13, dq12⟩
   rw [if_neg c19] at H
   have c19b0 := beq_eq_false_iff_ne.mpr c19
   have c19b1 := bne_iff_ne.mpr c19
   by_cases c20 : (bt a0 x8_1) ≥ 48
   rotate_left
   ·rw [if_neg c20] at H
    have c20b0 : decide (48 ≤ (bt a0 x8_1)) = false := decide_eq_false c20
    clear c20
    by_cases c24 : (bt a0 x8_1) = 46
    ·rw [if_pos c24] at H
     have c24b0 := beq_iff_eq.mpr c24
     have c24b1 := bne_eq_false_iff_eq.mpr c24
     clear c24
     have H' := Aside0.mk H
     clear H
     have p5 : 0 ≤ (x8_1 : Int) := of_decide_eq_true dq20
     have q5 : x8_1 < (a0.size : Int) := of_decide_eq_true dq20
     have hx5 := bt_at a0 x8_1
     replace p5 := eq_true p5
     replace q5 := eq_true q5
     go_wp2
     go_roundg k1
     case measure => have := HK1.out; omega
     case rel => exact ⟨(wrap64 (x8_1 + 1)), dq13, H', ⟨dq21⟩, dq12⟩
    rw [if_neg c24] at H
    have c24b0 := beq_eq_false_iff_ne.mpr c24
    have c24b1 := bne_iff_ne.mpr c24
    by_cases c25 : (bt a0 x8_1) = 45
    rotate_left
    ·rw [if_neg c25] at H
     have c25b0 := beq_eq_false_iff_ne.mpr c25
     have c25b1 := bne_iff_ne.mpr c25
     obtain rfl := Option.some.inj H
     have p5 : 0 ≤ (x8_1 : Int) := of_decide_eq_true dq20
     have q5 : x8_1 < (a0.size : Int) := of_decide_eq_true dq20
     have hx5 := bt_at a0 x8_1
     replace p5 := eq_true p5
     replace q5 := eq_true q5
     go_wp2
     go_ret
     exact ⟨dq13, dq12⟩
    rw [if_pos c25] at H
    have c25b0 := beq_iff_eq.mpr c25
    have c25b1 := bne_eq_false_iff_eq.mpr c25
    clear c25
    have H' := Aside0.mk H
    clear H
    have p5 : 0 ≤ (x8_1 : Int) := of_decide_eq_true dq20
    have q5 : x8_1 < (a0.size : Int) := of_decide_eq_true dq20
    have hx5 := bt_at a0 x8_1
    replace p5 := eq_true p5
    replace q5 := eq_true q5
    go_wp2
    go_roundg k1
    case measure => have := HK1.out; omega
    case rel => exact ⟨(wrap64 (x8_1 + 1)), dq13, H', ⟨dq21⟩, dq12⟩
   rw [if_pos c20] at H
   have c20b0 : decide (48 ≤ (bt a0 x8_1)) = true := decide_eq_true c20
   clear c20
   by_cases c21 : ((bt a0 x8_1) ≤ 57)
   ·rw [if_pos c21] at H
    have c21b0 : decide ((bt a0 x8_1) ≤ 57) = true := decide_eq_true c21
    clear c21
    have H' := Aside0.mk H
    clear H
    have p5 : 0 ≤ (x8_1 : Int) := of_decide_eq_true dq20
    have q5 : x8_1 < (a0.size : Int) := of_decide_eq_true dq20
    have hx5 := bt_at a0 x8_1
    replace p5 := eq_true p5
    replace q5 := eq_true q5
    go_wp2
    go_roundg k1
    case measure => have := HK1.out; omega
    case rel => exact ⟨(wrap64 (x8_1 + 1)), dq13, H', ⟨dq21⟩, dq12⟩
   rw [if_neg c21] at H
   have c21b0 : decide ((bt a0 x8_1) ≤ 57) = false := decide_eq_false c21
   clear c21
   by_cases c22 : (bt a0 x8_1) = 46
   ·rw [if_pos c22] at H
    have c22b0 := beq_iff_eq.mpr c22
    have c22b1 := bne_eq_false_iff_eq.mpr c22
    clear c22
    have H' := Aside0.mk H
    clear H
    have p5 : 0 ≤ (x8_1 : Int) := of_decide_eq_true dq20
    have q5 : x8_1 < (a0.size : Int) := of_decide_eq_true dq20
    have hx5 := bt_at a0 x8_1
    replace p5 := eq_true p5
    replace q5 := eq_true q5
    go_wp2
    go_roundg k1
    case measure => have := HK1.out; omega
    case rel => exact ⟨(wrap64 (x8_1 + 1)), dq13, H', ⟨dq21⟩, dq12⟩
   rw [if_neg c22] at H
   have c22b0 := beq_eq_false_iff_ne.mpr c22
   have c22b1 := bne_iff_ne.mpr c22
   by_cases c23 : (bt a0 x8_1) = 45
   rotate_left
   ·rw [if_neg c23] at H
    have c23b0 := beq_eq_false_iff_ne.mpr c23
    have c23b1 := bne_iff_ne.mpr c23
    obtain rfl := Option.some.inj H
    have p5 : 0 ≤ (x8_1 : Int) := of_decide_eq_true dq20
    have q5 : x8_1 < (a0.size : Int) := of_decide_eq_true dq20
    have hx5 := bt_at a0 x8_1
    replace p5 := eq_true p5
    replace q5 := eq_true q5
    go_wp2
    go_ret
    exact ⟨dq13, dq12⟩
   rw [if_pos c23] at H
   have c23b0 := beq_iff_eq.mpr c23
   have c23b1 := bne_eq_false_iff_eq.mpr c23
   clear c23
   have H' := Aside0.mk H
   clear H
   have p5 : 0 ≤ (x8_1 : Int) := of_decide_eq_true dq20
   have q5 : x8_1 < (a0.size : Int) := of_decide_eq_true dq20
   have hx5 := bt_at a0 x8_1
   replace p5 := eq_true p5
   replace q5 := eq_true q5
   go_wp2
   go_roundg k1
   case measure => have := HK1.out; omega
   case rel => exact ⟨(wrap64 (x8_1 + 1)), dq13, H', ⟨dq21⟩, dq12⟩
  rw [if_pos c8] at H
  have c8b0 : decide (65 ≤ (bt a0 x8_1)) = true := decide_eq_true c8
  clear c8
  by_cases c9 : (bt a0 x8_1) ≤ 90
  ·rw [if_pos c9] at H
   have c9b0 := decide_eq_true c9
   clear c9
   have H' := Aside0.mk H
   clear H
   have p5 : 0 ≤ (x8_1 : Int) := of_decide_eq_true dq20
   have q5 : x8_1 < (a0.size : Int) := of_decide_eq_true dq20
   have hx5 := bt_at a0 x8_1
   replace p5 := eq_true p5
   replace q5 := eq_true q5
   go_wp2
   go_roundg k1
   case measure => have := HK1.out; omega
   case rel => exact ⟨(wrap64 (x8_1 + 1)), dq13, H', ⟨dq21⟩, dq12⟩
  rw [if_neg c9] at H
  have c9b0 := decide_eq_false c9
  clear c9
  by_cases c10 : ((bt a0 x8_1) = 95)
  ·rw [if_pos c10] at H
   have c10b0 : ((bt a0 x8_1) == 95) = true := beq_iff_eq.mpr c10
   have c10b1 : ((bt a0 x8_1) != 95) = false := bne_eq_false_iff_eq.mpr c10
   clear c10
   have H' := Aside0.mk H
   clear H
   have p5 : 0 ≤ (x8_1 : Int) := of_decide_eq_true dq20
   have q5 : x8_1 < (a0.size : Int) := of_decide_eq_true dq20
   have hx5 := bt_at a0 x8_1
   replace p5 := eq_true p5
   replace q5 := eq_true q5
   go_wp2
   go_roundg k1
   case measure => have := HK1.out; omega
   case rel => exact ⟨(wrap64 (x8_1 + 1)), dq13, H', ⟨dq21⟩, dq12⟩
  rw [if_neg c10] at H
  have c10b0 : ((bt a0 x8_1) == 95) = false := beq_eq_false_iff_ne.mpr c10
  have c10b1 : ((bt a0 x8_1) != 95) = true := bne_iff_ne.mpr c10
  by_cases c11 : x8_1 = 0
  ·rw [if_pos c11] at H
   have c11b0 := beq_iff_eq.mpr c11
   have c11b1 := bne_eq_false_iff_eq.mpr c11
   clear c11
   obtain rfl := Option.some.inj H
   have p5 : 0 ≤ (x8_1 : Int) := of_decide_eq_true dq20
   have q5 : x8_1 < (a0.size : Int) := of_decide_eq_true dq20
   have hx5 := bt_at a0 x8_1
   replace p5 := eq_true p5
   replace q5 := eq_true q5
   go_wp2
   go_ret
   exact ⟨dq13, dq12⟩
  rw [if_neg c11] at H
  have c11b0 := beq_eq_false_iff_ne.mpr c11
  have c11b1 := bne_iff_ne.mpr c11
  by_cases c12 : (bt a0 x8_1) ≥ 48
  rotate_left
  ·rw [if_neg c12] at H
   have c12b0 : decide (48 ≤ (bt a0 x8_1)) = false := decide_eq_false c12
   clear c12
   by_cases c16 : (bt a0 x8_1) = 46
   ·rw [if_pos c16] at H
    have c16b0 := beq_iff_eq.mpr c16
    have c16b1 := bne_eq_false_iff_eq.mpr c16
    clear c16
    have H' := Aside0.mk H
    clear H
    have p5 : 0 ≤ (x8_1 : Int) := of_decide_eq_true dq20
    have q5 : x8_1 < (a0.size : Int) := of_decide_eq_true dq20
    have hx5 := bt_at a0 x8_1
    replace p5 := eq_true p5
    replace q5 := eq_true q5
    go_wp2
    go_roundg k1
    case measure => have := HK1.out; omega
    case rel => exact ⟨(wrap64 (x8_1 + 1)), dq13, H', ⟨dq21⟩, dq12⟩
   rw [if_neg c16] at H
   have c16b0 := beq_eq_false_iff_ne.mpr c16
   have c16b1 := bne_iff_ne.mpr c16
   by_cases c17 : (bt a0 x8_1) = 45
   rotate_left
   ·rw [if_neg c17] at H
    have c17b0 := beq_eq_false_iff_ne.mpr c17
    have c17b1 := bne_iff_ne.mpr c17
    obtain rfl := Option.some.inj H
    have p5 : 0 ≤ (x8_1 : Int) := of_decide_eq_true dq20
    have q5 : x8_1 < (a0.size : Int) := of_decide_eq_true dq20
    have hx5 := bt_at a0 x8_1
    replace p5 := eq_true p5
    replace q5 := eq_true q5
    go_wp2
    go_ret
    exact ⟨dq13, dq12⟩
   rw [if_pos c17] at H
   have c17b0 := beq_iff_eq.mpr c17
   have c17b1 := bne_eq_false_iff_eq.mpr c17
   clear c17
   have H' := Aside0.mk H
   clear H
   have p5 : 0 ≤ (x8_1 : Int) := of_decide_eq_true dq20
   have q5 : x8_1 < (a0.size : Int) := of_decide_eq_true dq20
   have hx5 := bt_at a0 x8_1
   replace p5 := eq_true p5
   replace q5 := eq_true q5
   go_wp2
   go_roundg k1
   case measure => have := HK1.out; omega
   case rel => exact ⟨(wrap64 (x8_1 + 1)), dq13, H', ⟨dq21⟩, dq12⟩
  rw [if_pos c12] at H
  have c12b0 : decide (48 ≤ (bt a0 x8_1)) = true := decide_eq_true c12
  clear c12
  by_cases c13 : ((bt a0 x8_1) ≤ 57)
  ·rw [if_pos c13] at H
   have c13b0 : decide ((bt a0 x8_1) ≤ 57) = true := decide_eq_true c13
   clear c13
   have H' := Aside0.mk H
   clear H
   have p5 : 0 ≤ (x8_1 : Int) := of_decide_eq_true dq20
   have q5 : x8_1 < (a0.size : Int) := of_decide_eq_true dq20
   have hx5 := bt_at a0 x8_1
   replace p5 := eq_true p5
   replace q5 := eq_true q5
   go_wp2
   go_roundg k1
   case measure => have := HK1.out; omega
   case rel => exact ⟨(wrap64 (x8_1 + 1)), dq13, H', ⟨dq21⟩, dq12⟩
  rw [if_neg c13] at H
  have c13b0 : decide ((bt a0 x8_1) ≤ 57) = false := decide_eq_false c13
  clear c13
  by_cases c14 : (bt a0 x8_1) = 46
  ·rw [if_pos c14] at H
   have c14b0 := beq_iff_eq.mpr c14
   have c14b1 := bne_eq_false_iff_eq.mpr c14
   clear c14
   have H' := Aside0.mk H
   clear H
   have p5 : 0 ≤ (x8_1 : Int) := of_decide_eq_true dq20
   have q5 : x8_1 < (a0.size : Int) := of_decide_eq_true dq20
   have hx5 := bt_at a0 x8_1
   replace p5 := eq_true p5
   replace q5 := eq_true q5
   go_wp2
   go_roundg k1
   case measure => have := HK1.out; omega
   case rel => exact ⟨(wrap64 (x8_1 + 1)), dq13, H', ⟨dq21⟩, dq12⟩
  rw [if_neg c14] at H
  have c14b0 := beq_eq_false_iff_ne.mpr c14
  have c14b1 := bne_iff_ne.mpr c14
  by_cases c15 : (bt a0 x8_1) = 45
  rotate_left
  ·rw [if_neg c15] at H
   have c15b0 := beq_eq_false_iff_ne.mpr c15
   have c15b1 := bne_iff_ne.mpr c15
   obtain rfl := Option.some.inj H
   have p5 : 0 ≤ (x8_1 : Int) := of_decide_eq_true dq20
   have q5 : x8_1 < (a0.size : Int) := of_decide_eq_true dq20
   have hx5 := bt_at a0 x8_1
   replace p5 := eq_true p5
   replace q5 := eq_true q5
   go_wp2
   go_ret
   exact ⟨dq13, dq12⟩
  rw [if_pos c15] at H
  have c15b0 := beq_iff_eq.mpr c15
  have c15b1 := bne_eq_false_iff_eq.mpr c15
  clear c15
  have H' := Aside0.mk H
  clear H
  have p5 : 0 ≤ (x8_1 : Int) := of_decide_eq_true dq20
  have q5 : x8_1 < (a0.size : Int) := of_decide_eq_true dq20
  have hx5 := bt_at a0 x8_1
  replace p5 := eq_true p5
  replace q5 := eq_true q5
  go_wp2
  go_roundg k1
  case measure => have := HK1.out; omega
  case rel => exact ⟨(wrap64 (x8_1 + 1)), dq13, H', ⟨dq21⟩, dq12⟩

end Go.Proofs.Ytejkkdjfiebmfaa.L
