/- Words and contracts for the row RowFnSample; printed, and merged. -/
import Derived.Test.YtajdfbgbkgabjaaQa7
import Derived.Lib.Hide
import Derived.Outline
import Derived.WalkSpells
set_option linter.unusedVariables false
set_option linter.unusedSimpArgs false
set_option maxHeartbeats 16000000
set_option maxRecDepth 100000
namespace Go.Proofs.Ytajdfbgbkgabjaa.L
open Go.RowKit YtajdfbgbkgabjaaW.PrintWords YtajdfbgbkgabjaaW.PrintLast YtajdfbgbkgabjaaW.PrintMore
attribute [local go_sem] max2_int min2_int max_two min_two max_three min_three max_four min_four

/-! ### impl_sample: function 74 -/
mutual
def impl_sample.l0 : Nat → List (S42) → List ByteArray → List Int → Int → Int → Option (List ByteArray)
 | 0, _, _, _, _, _ => none
 | k + 1, x0, x6, x65, x66, x67 => if x67 < x66 then (if 0 ≤ x67 then (if x67 < (x65.length : Int) then ((impl_sample.f k x0 (rd x65 x67)).bind fun t635 => (if x6.length + t635.length < 8796093022208 then (impl_sample.l0 k x0 (x6 ++ t635) x65 x66 (wrap64 (x67 + 1))) else (none))) else (none)) else (none)) else (some x6)
def impl_sample.l1 : Nat → List (S42) → List ByteArray → List Int → Int → Int → Option (List ByteArray)
 | 0, _, _, _, _, _ => none
 | k + 1, x0, x6, x25, x26, x27 => if x27 < x26 then (if 0 ≤ x27 then (if x27 < (x25.length : Int) then ((impl_sample.f k x0 (rd x25 x27)).bind fun t647 => (if (t647.length : Int) < (x6.length : Int) then (impl_sample.l1 k x0 t647 x25 x26 (wrap64 (x27 + 1))) else (impl_sample.l1 k x0 x6 x25 x26 (wrap64 (x27 + 1))))) else (none)) else (none)) else (some x6)
def impl_sample.f : Nat → List (S42) → Int → Option (List ByteArray)
 | 0, _, _ => none
 | k + 1, l0, a1 => if 0 ≤ a1 then (if a1 < (l0.length : Int) then ((some (([] : List ByteArray) : List ByteArray)).bind fun y623 => ((impl_PNode_isOptional.f ((rd_T42 l0 a1).f0) ((rd_T42 l0 a1).f1) ((rd_T42 l0 a1).f2) ((rd_T42 l0 a1).f3)).bind fun t627 => (if t627 = true then (some y623) else (if ((rd_T42 l0 a1).f0) = 1 then (if y623.length < 8796093022208 then (some (y623 ++ [(rd_T42 l0 a1).f1])) else (none)) else (if ((rd_T42 l0 a1).f0) = 4 then (if y623.length < 8796093022208 then (some (y623 ++ [(⟨#[97, 110, 121]⟩ : ByteArray)])) else (none)) else (if ((rd_T42 l0 a1).f0) = 2 then (impl_sample.l0 k l0 y623 ((rd_T42 l0 a1).f2) (((rd_T42 l0 a1).f2).length : Int) 0) else (if 0 < (((rd_T42 l0 a1).f2).length : Int) then ((impl_sample.f k l0 (rd ((rd_T42 l0 a1).f2) 0)).bind fun t642 => (if 1 ≤ (((rd_T42 l0 a1).f2).length : Int) then (impl_sample.l1 k l0 t642 (((rd_T42 l0 a1).f2).drop 1) ((((rd_T42 l0 a1).f2).drop 1).length : Int) 0) else (none))) else (none)))))))) else (none)) else (none)
end
theorem impl_sample.calls (k : Nat) : ∀ (A0 : Option Addr) (c0 : Nat) (l0 : List (S42)) (a1 : Int) (r : List ByteArray) (w : World) (hr0 : Kd.C k42 w A0 l0.length l0) (hc0 : l0.length ≤ c0) (h : impl_sample.f k l0 a1 = some r),
  Calls Try.prog 74 #[.slice A0 l0.length c0, .int .i64 a1] w fun e w' => ∃ v0_ : Value, e = .returned (v0_) ∧ Kd.R Kd.string 9 w' w.heap.size (fun _ => True) v0_ r ∧ Below w.heap.size w w' := by
 induction k using Nat.strongRecOn with
 | _ k ih =>
 intro A0 c0 l0 a1 r w hr0 hc0 h
 cases k with
 | zero => exact absurd h (by simp [impl_sample.f])
 | succ k =>
 simp only [impl_sample.f] at h
 have hu42 := Try.underlying42
 have HR0 := Zq.i hr0
 have HC0 := Zq.i hc0
 clear hr0 hc0
 have HB := Zq.i (Below.refl w.heap.size w)
 have H : (if 0 ≤ a1 then (if a1 < (l0.length : Int) then ((some (([] : List ByteArray) : List ByteArray)).bind fun y623 => ((impl_PNode_isOptional.f ((rd_T42 l0 a1).f0) ((rd_T42 l0 a1).f1) ((rd_T42 l0 a1).f2) ((rd_T42 l0 a1).f3)).bind fun t627 => (if t627 = true then (some y623) else (if ((rd_T42 l0 a1).f0) = 1 then (if y623.length < 8796093022208 then (some (y623 ++ [(rd_T42 l0 a1).f1])) else (none)) else (if ((rd_T42 l0 a1).f0) = 4 then (if y623.length < 8796093022208 then (some (y623 ++ [(⟨#[97, 110, 121]⟩ : ByteArray)])) else (none)) else (if ((rd_T42 l0 a1).f0) = 2 then (impl_sample.l0 k l0 y623 ((rd_T42 l0 a1).f2) (((rd_T42 l0 a1).f2).length : Int) 0) else (if 0 < (((rd_T42 l0 a1).f2).length : Int) then ((impl_sample.f k l0 (rd ((rd_T42 l0 a1).f2) 0)).bind fun t642 => (if 1 ≤ (((rd_T42 l0 a1).f2).length : Int) then (impl_sample.l1 k l0 t642 (((rd_T42 l0 a1).f2).drop 1) ((((rd_T42 l0 a1).f2).drop 1).length : Int) 0) else (none))) else (none)))))))) else (none)) else (none)) = some r := h
 clear h
 by_cases c3 : 0 ≤ a1
 rotate_left
 ·rw [if_neg c3] at H
  exact absurd H dq15
 rw [if_pos c3] at H
 have c3b0 := dT c3
 clear c3
 by_cases c4 : a1 < (l0.length : Int)
 rotate_left
 ·rw [if_neg c4] at H
  exact absurd H dq15
 rw [if_pos c4] at H
 have c4b0 := dT c4
 clear c4
 obtain ⟨y623, hy623⟩ : ∃ y_ : List ByteArray, y_ = (([] : List ByteArray)) := ⟨_, rfl⟩
 replace H : ((impl_PNode_isOptional.f ((rd_T42 l0 a1).f0) ((rd_T42 l0 a1).f1) ((rd_T42 l0 a1).f2) ((rd_T42 l0 a1).f3)).bind fun t627 => (if t627 = true then (some y623) else (if ((rd_T42 l0 a1).f0) = 1 then (if y623.length < 8796093022208 then (some (y623 ++ [(rd_T42 l0 a1).f1])) else (none)) else (if ((rd_T42 l0 a1).f0) = 4 then (if y623.length < 8796093022208 then (some (y623 ++ [(⟨#[97, 110, 121]⟩ : ByteArray)])) else (none)) else (if ((rd_T42 l0 a1).f0) = 2 then (impl_sample.l0 k l0 y623 ((rd_T42 l0 a1).f2) (((rd_T42 l0 a1).f2).length : Int) 0) else (if 0 < (((rd_T42 l0 a1).f2).length : Int) then ((impl_sample.f k l0 (rd ((rd_T42 l0 a1).f2) 0)).bind fun t642 => (if 1 ≤ (((rd_T42 l0 a1).f2).length : Int) then (impl_sample.l1 k l0 t642 (((rd_T42 l0 a1).f2).drop 1) ((((rd_T42 l0 a1).f2).drop 1).length : Int) 0) else (none))) else (none))))))) = some r := by first | (rw [hy623]; with_reducible exact H) | (have H2_ := oS H; rw [hy623]; with_reducible exact H2_) | (have H2_ := oS H; with_reducible exact H2_) | with_reducible exact H | (rw [hy623]; exact H) | exact H
 have Ny623 := Zq.i hy623
 clear hy623
 replace H := bM H
 obtain ⟨t627, A50, H⟩ := H
 try dsimp only at H
 have A5 := Zq.i A50
 clear A50
 by_cases c6 : t627 = true
 ·subst c6
  rw [if_pos rfl] at H
  obtain rfl := oI H
  have p622 : 0 ≤ (a1 : Int) := oT dq22
  have q622 : a1 < (l0.length : Int) := oT dq22
  obtain ⟨ad622, A622_2, c622_2, e622, hx622_0, hx622_1, hx622_2, hx622_3, hl622_2, hi622_2⟩ := at_T42 HR0.out a1 p622 q622
  cases e622
  have HR622_2 := Zq.i hi622_2
  have HC622_2 := Zq.i hl622_2
  clear hi622_2 hl622_2
  replace p622 := eq_true p622
  replace q622 := eq_true q622
  go_enter Try.func74, Try.ntmps74
  go_wp2_with (first | ((with_reducible refine gate_dst (N := 16) rfl ?_); refine Kd.R_lit Kd.string _ 9 ?hg (N := 16) ?hd (xs := ([] : List ByteArray)) (inner := []) (ok := fun _ => True) (okp := fun _ => True) ?hr ?hp (fun _ hk => hk) trivial (Below.refl _ _) (Nat.le_refl _) dq15 ?_; (case hd => rfl); (case hg => rfl); (case hr => exact dq0); (case hp => exact (Reps.none _ _)); intro v624 w7 ho8 hb hg_ hnew_; clear hg_ hnew_; (first | rw [← Ny623.out] at ho8 | (simp only [Int.reduceToNat] at ho8; rw [← Ny623.out] at ho8)); have HO625 := Zq.i (Kd.R_lower ho8 (below_size dq17)); replace HB := Zq.i (below_step dq17 hb); clear hb ho8) | ((with_reducible refine gate_dst (N := 5) rfl ?_); refine box_event ?hg (N := 5) ?hd (cs := #[.int .i64 0, .string (⟨#[]⟩ : ByteArray), .slice none 0 0, .int .i64 0]) (t := 42) ?hr ?_; (case hd => rfl); (case hg => rfl); (case hr => exact dq0); intro gb626 hg w9 hbox hb; replace HO625 := Zq.i (Kd.R_below dq102 hb); have BK626 := Zq.i (hbox); have GW626 := Zq.i ((dq30 : w.heap.size ≤ gb626)); have GE626 := Zq.i ((dq30 : w.heap.size ≤ gb626)); replace HB := Zq.i (below_step dq17 hb); clear hb hbox hg; obtain ⟨⟨hcz10_0, hcz10_1, hcz10_2, hcz10_3⟩, hfz10_0, hfz10_1, hfz10_2, hfz10_3⟩ := blkC4 BK626.out) | ((with_reducible refine gate_callee (f := 93) rfl ?_); refine goesL_ (some 43) rfl rfl Try.func93 dq24 rfl #[.agg #[.int .i64 ((rd_T42 l0 a1).f0), .string ((rd_T42 l0 a1).f1), .slice A622_2 ((rd_T42 l0 a1).f2).length c622_2, .int .i64 ((rd_T42 l0 a1).f3)]] rfl dq23 ?_; (with_reducible refine (impl_PNode_isOptional.calls ((rd_T42 l0 a1).f0) ((rd_T42 l0 a1).f1) _ _ ((rd_T42 l0 a1).f2) ((rd_T42 l0 a1).f3) true _ ?side1 ?side2 A5.out).mono ?_); (case side1 => exact dq10); (case side2 => exact HC622_2.out); rintro e w11 ⟨rfl, hb⟩; refine ⟨_, rfl, ?_⟩; replace HO625 := Zq.i (Kd.R_below dq101 hb); replace BK626 := Zq.i (blk_below (g := gb626) (o := .cells #[.int .i64 ((rd_T42 l0 a1).f0), .string ((rd_T42 l0 a1).f1), .slice A622_2 ((rd_T42 l0 a1).f2).length c622_2, .int .i64 ((rd_T42 l0 a1).f3)] 42 (0, 0)) dq100 hb); replace HB := Zq.i (below_step dq99 hb); (try clear hb)))
  go_ret
  exact ⟨_, dq21, dq102, dq99⟩
 replace c6 := Bool.eq_false_iff.mpr c6
 subst c6
 rw [iN] at H
 by_cases c12 : ((rd_T42 l0 a1).f0) = 1
 ·rw [if_pos c12] at H
  have c12b0 := bE c12
  have c12b1 := bQ c12
  clear c12
  by_cases c13 : y623.length < 8796093022208
  rotate_left
  ·rw [if_neg c13] at H
   exact absurd H dq15
  rw [if_pos c13] at H
  have LMc13 := Zq.i c13
  clear c13
  obtain ⟨y628, hy628⟩ : ∃ y_ : List ByteArray, y_ = (y623 ++ [(rd_T42 l0 a1).f1]) := ⟨_, rfl⟩
  replace H : (some y628) = some r := by first | (rw [hy628]; with_reducible exact H) | (have H2_ := oS H; rw [hy628]; with_reducible exact H2_) | (have H2_ := oS H; with_reducible exact H2_) | with_reducible exact H | (rw [hy628]; exact H) | exact H
  have Ny628 := Zq.i hy628
  clear hy628
  obtain rfl := oI H
  have p622 : 0 ≤ (a1 : Int) := oT dq22
  have q622 : a1 < (l0.length : Int) := oT dq22
  obtain ⟨ad622, A622_2, c622_2, e622, hx622_0, hx622_1, hx622_2, hx622_3, hl622_2, hi622_2⟩ := at_T42 HR0.out a1 p622 q622
  cases e622
  have HR622_2 := Zq.i hi622_2
  have HC622_2 := Zq.i hl622_2
  clear hi622_2 hl622_2
  replace p622 := eq_true p622
  replace q622 := eq_true q622
  go_enter Try.func74, Try.ntmps74
  go_wp2_with (first | ((with_reducible refine gate_dst (N := 16) rfl ?_); refine Kd.R_lit Kd.string _ 9 ?hg (N := 16) ?hd (xs := ([] : List ByteArray)) (inner := []) (ok := fun _ => True) (okp := fun _ => True) ?hr ?hp (fun _ hk => hk) trivial (Below.refl _ _) (Nat.le_refl _) dq15 ?_; (case hd => rfl); (case hg => rfl); (case hr => exact dq0); (case hp => exact (Reps.none _ _)); intro v624 w14 ho15 hb hg_ hnew_; clear hg_ hnew_; (first | rw [← Ny623.out] at ho15 | (simp only [Int.reduceToNat] at ho15; rw [← Ny623.out] at ho15)); have HO625 := Zq.i (Kd.R_lower ho15 (below_size dq17)); replace HB := Zq.i (below_step dq17 hb); clear hb ho15) | ((with_reducible refine gate_dst (N := 5) rfl ?_); refine box_event ?hg (N := 5) ?hd (cs := #[.int .i64 0, .string (⟨#[]⟩ : ByteArray), .slice none 0 0, .int .i64 0]) (t := 42) ?hr ?_; (case hd => rfl); (case hg => rfl); (case hr => exact dq0); intro gb626 hg w16 hbox hb; replace HO625 := Zq.i (Kd.R_below dq102 hb); have BK626 := Zq.i (hbox); have GW626 := Zq.i ((dq30 : w.heap.size ≤ gb626)); have GE626 := Zq.i ((dq30 : w.heap.size ≤ gb626)); replace HB := Zq.i (below_step dq17 hb); clear hb hbox hg; obtain ⟨⟨hcz17_0, hcz17_1, hcz17_2, hcz17_3⟩, hfz17_0, hfz17_1, hfz17_2, hfz17_3⟩ := blkC4 BK626.out) | ((with_reducible refine gate_callee (f := 93) rfl ?_); refine goesL_ (some 43) rfl rfl Try.func93 dq24 rfl #[.agg #[.int .i64 ((rd_T42 l0 a1).f0), .string ((rd_T42 l0 a1).f1), .slice A622_2 ((rd_T42 l0 a1).f2).length c622_2, .int .i64 ((rd_T42 l0 a1).f3)]] rfl dq23 ?_; (with_reducible refine (impl_PNode_isOptional.calls ((rd_T42 l0 a1).f0) ((rd_T42 l0 a1).f1) _ _ ((rd_T42 l0 a1).f2) ((rd_T42 l0 a1).f3) false _ ?side1 ?side2 A5.out).mono ?_); (case side1 => exact dq10); (case side2 => exact HC622_2.out); rintro e w18 ⟨rfl, hb⟩; refine ⟨_, rfl, ?_⟩; replace HO625 := Zq.i (Kd.R_below dq101 hb); replace BK626 := Zq.i (blk_below (g := gb626) (o := .cells #[.int .i64 ((rd_T42 l0 a1).f0), .string ((rd_T42 l0 a1).f1), .slice A622_2 ((rd_T42 l0 a1).f2).length c622_2, .int .i64 ((rd_T42 l0 a1).f3)] 42 (0, 0)) dq100 hb); replace HB := Zq.i (below_step dq99 hb); (try clear hb); obtain ⟨⟨hcz19_0, hcz19_1, hcz19_2, hcz19_3⟩, hfz19_0, hfz19_1, hfz19_2, hfz19_3⟩ := blkC4 BK626.out) | ((with_reducible refine gate_builtin (b := .append) (xs := #[.tmp 48, .tmp 51]) rfl ?_); at_builtin; refine Kd.R_append Kd.string (w0 := w) w.heap.size rfl (.tmp 48) (.tmp 51) 30 9 (.string ⟨#[]⟩) 16 rfl Try.underlying30 info9 rfl dq25 dq28 v624 y623 ((rd_T42 l0 a1).f1) [.string ((rd_T42 l0 a1).f1)] (fun _ => True) (fun _ => False) rfl rfl ?aP (fun _ hk => hk.elim) ?aF ?aO ?aB ?aS ?aL ?_; (case aP => exact rfl); (case aB => exact dq99); (case aF => exact (fun _ _ => trivial)); (case aO => exact dq102); (case aS => exact (below_size dq99)); (case aL => have := LMc13.out; omega); intro v629 w20 ho hb hg hat; rw [← Ny628.out] at ho; replace BK626 := Zq.i (blk_grown (g := gb626) (o := .cells #[.int .i64 ((rd_T42 l0 a1).f0), .string ((rd_T42 l0 a1).f1), .slice A622_2 ((rd_T42 l0 a1).f2).length c622_2, .int .i64 ((rd_T42 l0 a1).f3)] 42 (0, 0)) dq103 hg (Kd.R_ne HO625.out BK626.out dq25)); replace HB := Zq.i (hb); have HO630 := Zq.i (ho); clear HO625; clear ho hb hg hat))
  go_ret
  exact ⟨_, dq21, by (with_reducible repeat (first | apply Kd.R_alloc | apply Kd.R_drewN | apply Kd.R_drew)); exact HO630.out, dq99⟩
 rw [if_neg c12] at H
 have c12b0 := bN c12
 have c12b1 := bO c12
 by_cases c21 : ((rd_T42 l0 a1).f0) = 4
 ·rw [if_pos c21] at H
  have c21b0 := bE c21
  have c21b1 := bQ c21
  clear c21
  by_cases c22 : y623.length < 8796093022208
  rotate_left
  ·rw [if_neg c22] at H
   exact absurd H dq15
  rw [if_pos c22] at H
  have LMc22 := Zq.i c22
  clear c22
  obtain ⟨y631, hy631⟩ : ∃ y_ : List ByteArray, y_ = (y623 ++ [(⟨#[97, 110, 121]⟩ : ByteArray)]) := ⟨_, rfl⟩
  replace H : (some y631) = some r := by first | (rw [hy631]; with_reducible exact H) | (have H2_ := oS H; rw [hy631]; with_reducible exact H2_) | (have H2_ := oS H; with_reducible exact H2_) | with_reducible exact H | (rw [hy631]; exact H) | exact H
  have Ny631 := Zq.i hy631
  clear hy631
  obtain rfl := oI H
  have p622 : 0 ≤ (a1 : Int) := oT dq22
  have q622 : a1 < (l0.length : Int) := oT dq22
  obtain ⟨ad622, A622_2, c622_2, e622, hx622_0, hx622_1, hx622_2, hx622_3, hl622_2, hi622_2⟩ := at_T42 HR0.out a1 p622 q622
  cases e622
  have HR622_2 := Zq.i hi622_2
  have HC622_2 := Zq.i hl622_2
  clear hi622_2 hl622_2
  replace p622 := eq_true p622
  replace q622 := eq_true q622
  go_enter Try.func74, Try.ntmps74
  go_wp2_with (first | ((with_reducible refine gate_dst (N := 16) rfl ?_); refine Kd.R_lit Kd.string _ 9 ?hg (N := 16) ?hd (xs := ([] : List ByteArray)) (inner := []) (ok := fun _ => True) (okp := fun _ => True) ?hr ?hp (fun _ hk => hk) trivial (Below.refl _ _) (Nat.le_refl _) dq15 ?_; (case hd => rfl); (case hg => rfl); (case hr => exact dq0); (case hp => exact (Reps.none _ _)); intro v624 w23 ho24 hb hg_ hnew_; clear hg_ hnew_; (first | rw [← Ny623.out] at ho24 | (simp only [Int.reduceToNat] at ho24; rw [← Ny623.out] at ho24)); have HO625 := Zq.i (Kd.R_lower ho24 (below_size dq17)); replace HB := Zq.i (below_step dq17 hb); clear hb ho24) | ((with_reducible refine gate_dst (N := 5) rfl ?_); refine box_event ?hg (N := 5) ?hd (cs := #[.int .i64 0, .string (⟨#[]⟩ : ByteArray), .slice none 0 0, .int .i64 0]) (t := 42) ?hr ?_; (case hd => rfl); (case hg => rfl); (case hr => exact dq0); intro gb626 hg w25 hbox hb; replace HO625 := Zq.i (Kd.R_below dq102 hb); have BK626 := Zq.i (hbox); have GW626 := Zq.i ((dq30 : w.heap.size ≤ gb626)); have GE626 := Zq.i ((dq30 : w.heap.size ≤ gb626)); replace HB := Zq.i (below_step dq17 hb); clear hb hbox hg; obtain ⟨⟨hcz26_0, hcz26_1, hcz26_2, hcz26_3⟩, hfz26_0, hfz26_1, hfz26_2, hfz26_3⟩ := blkC4 BK626.out) | ((with_reducible refine gate_callee (f := 93) rfl ?_); refine goesL_ (some 43) rfl rfl Try.func93 dq24 rfl #[.agg #[.int .i64 ((rd_T42 l0 a1).f0), .string ((rd_T42 l0 a1).f1), .slice A622_2 ((rd_T42 l0 a1).f2).length c622_2, .int .i64 ((rd_T42 l0 a1).f3)]] rfl dq23 ?_; (with_reducible refine (impl_PNode_isOptional.calls ((rd_T42 l0 a1).f0) ((rd_T42 l0 a1).f1) _ _ ((rd_T42 l0 a1).f2) ((rd_T42 l0 a1).f3) false _ ?side1 ?side2 A5.out).mono ?_); (case side1 => exact dq10); (case side2 => exact HC622_2.out); rintro e w27 ⟨rfl, hb⟩; refine ⟨_, rfl, ?_⟩; replace HO625 := Zq.i (Kd.R_below dq101 hb); replace BK626 := Zq.i (blk_below (g := gb626) (o := .cells #[.int .i64 ((rd_T42 l0 a1).f0), .string ((rd_T42 l0 a1).f1), .slice A622_2 ((rd_T42 l0 a1).f2).length c622_2, .int .i64 ((rd_T42 l0 a1).f3)] 42 (0, 0)) dq100 hb); replace HB := Zq.i (below_step dq99 hb); (try clear hb); obtain ⟨⟨hcz28_0, hcz28_1, hcz28_2, hcz28_3⟩, hfz28_0, hfz28_1, hfz28_2, hfz28_3⟩ := blkC4 BK626.out) | ((with_reducible refine gate_builtin (b := .append) (xs := #[.tmp 57, .tmp 58]) rfl ?_); at_builtin; refine Kd.R_append Kd.string (w0 := w) w.heap.size rfl (.tmp 57) (.tmp 58) 30 9 (.string ⟨#[]⟩) 16 rfl Try.underlying30 info9 rfl dq25 dq28 v624 y623 (⟨#[97, 110, 121]⟩ : ByteArray) [.string (⟨#[97, 110, 121]⟩ : ByteArray)] (fun _ => True) (fun _ => False) rfl rfl ?aP (fun _ hk => hk.elim) ?aF ?aO ?aB ?aS ?aL ?_; (case aP => exact rfl); (case aB => exact dq99); (case aF => exact (fun _ _ => trivial)); (case aO => exact dq102); (case aS => exact (below_size dq99)); (case aL => have := LMc22.out; omega); intro v632 w29 ho hb hg hat; rw [← Ny631.out] at ho; replace BK626 := Zq.i (blk_grown (g := gb626) (o := .cells #[.int .i64 ((rd_T42 l0 a1).f0), .string ((rd_T42 l0 a1).f1), .slice A622_2 ((rd_T42 l0 a1).f2).length c622_2, .int .i64 ((rd_T42 l0 a1).f3)] 42 (0, 0)) dq103 hg (Kd.R_ne HO625.out BK626.out dq25)); replace HB := Zq.i (hb); have HO633 := Zq.i (ho); clear HO625; clear ho hb hg hat))
  go_ret
  exact ⟨_, dq21, by (with_reducible repeat (first | apply Kd.R_alloc | apply Kd.R_drewN | apply Kd.R_drew)); exact HO633.out, dq99⟩
 rw [if_neg c21] at H
 have c21b0 := bN c21
 have c21b1 := bO c21
 by_cases c30 : ((rd_T42 l0 a1).f0) = 2
 ·rw [if_pos c30] at H
  have c30b0 := bE c30
  have c30b1 := bQ c30
  clear c30
  have H' := Zq.i H
  clear H
  have p622 : 0 ≤ (a1 : Int) := oT dq22
  have q622 : a1 < (l0.length : Int) := oT dq22
  obtain ⟨ad622, A622_2, c622_2, e622, hx622_0, hx622_1, hx622_2, hx622_3, hl622_2, hi622_2⟩ := at_T42 HR0.out a1 p622 q622
  cases e622
  have HR622_2 := Zq.i hi622_2
  have HC622_2 := Zq.i hl622_2
  clear hi622_2 hl622_2
  replace p622 := eq_true p622
  replace q622 := eq_true q622
  go_enter Try.func74, Try.ntmps74
  go_wp2_with (first | ((with_reducible refine gate_dst (N := 16) rfl ?_); refine Kd.R_lit Kd.string _ 9 ?hg (N := 16) ?hd (xs := ([] : List ByteArray)) (inner := []) (ok := fun _ => True) (okp := fun _ => True) ?hr ?hp (fun _ hk => hk) trivial (Below.refl _ _) (Nat.le_refl _) dq15 ?_; (case hd => rfl); (case hg => rfl); (case hr => exact dq0); (case hp => exact (Reps.none _ _)); intro v624 w31 ho32 hb hg_ hnew_; clear hg_ hnew_; (first | rw [← Ny623.out] at ho32 | (simp only [Int.reduceToNat] at ho32; rw [← Ny623.out] at ho32)); have HO625 := Zq.i (Kd.R_lower ho32 (below_size dq17)); replace HB := Zq.i (below_step dq17 hb); clear hb ho32) | ((with_reducible refine gate_dst (N := 5) rfl ?_); refine box_event ?hg (N := 5) ?hd (cs := #[.int .i64 0, .string (⟨#[]⟩ : ByteArray), .slice none 0 0, .int .i64 0]) (t := 42) ?hr ?_; (case hd => rfl); (case hg => rfl); (case hr => exact dq0); intro gb626 hg w33 hbox hb; replace HO625 := Zq.i (Kd.R_below dq102 hb); have BK626 := Zq.i (hbox); have GW626 := Zq.i ((dq30 : w.heap.size ≤ gb626)); have GE626 := Zq.i ((dq30 : w.heap.size ≤ gb626)); replace HB := Zq.i (below_step dq17 hb); clear hb hbox hg; obtain ⟨⟨hcz34_0, hcz34_1, hcz34_2, hcz34_3⟩, hfz34_0, hfz34_1, hfz34_2, hfz34_3⟩ := blkC4 BK626.out) | ((with_reducible refine gate_callee (f := 93) rfl ?_); refine goesL_ (some 43) rfl rfl Try.func93 dq24 rfl #[.agg #[.int .i64 ((rd_T42 l0 a1).f0), .string ((rd_T42 l0 a1).f1), .slice A622_2 ((rd_T42 l0 a1).f2).length c622_2, .int .i64 ((rd_T42 l0 a1).f3)]] rfl dq23 ?_; (with_reducible refine (impl_PNode_isOptional.calls ((rd_T42 l0 a1).f0) ((rd_T42 l0 a1).f1) _ _ ((rd_T42 l0 a1).f2) ((rd_T42 l0 a1).f3) false _ ?side1 ?side2 A5.out).mono ?_); (case side1 => exact dq10); (case side2 => exact HC622_2.out); rintro e w35 ⟨rfl, hb⟩; refine ⟨_, rfl, ?_⟩; replace HO625 := Zq.i (Kd.R_below dq101 hb); replace BK626 := Zq.i (blk_below (g := gb626) (o := .cells #[.int .i64 ((rd_T42 l0 a1).f0), .string ((rd_T42 l0 a1).f1), .slice A622_2 ((rd_T42 l0 a1).f2).length c622_2, .int .i64 ((rd_T42 l0 a1).f3)] 42 (0, 0)) dq100 hb); replace HB := Zq.i (below_step dq99 hb); (try clear hb); obtain ⟨⟨hcz36_0, hcz36_1, hcz36_2, hcz36_3⟩, hfz36_0, hfz36_1, hfz36_2, hfz36_3⟩ := blkC4 BK626.out))
  go_loopg [6, 67] k (fun kq v6 v67 w' => ∃ (x6_1 : List ByteArray) (x67_1 : Int), v67 = .int .i64 x67_1 ∧ Zq (impl_sample.l0 kq l0 x6_1 ((rd_T42 l0 a1).f2) (((rd_T42 l0 a1).f2).length : Int) x67_1 = some r) ∧ Zq (kq ≤ k) ∧ Zq (Kd.R Kd.string 9 w' w.heap.size (fun _ => True) v6 x6_1) ∧ Zq (w'.heap[gb626]? = some (.cells #[.int .i64 ((rd_T42 l0 a1).f0), .string ((rd_T42 l0 a1).f1), (.slice A622_2 ((rd_T42 l0 a1).f2).length c622_2), .int .i64 ((rd_T42 l0 a1).f3)] 42 (0, 0))) ∧ Zq (Below w.heap.size w w'))
  case atStart => exact ⟨(y623), (0), dq14, H', ⟨Nat.le_refl _⟩, ⟨dq102⟩, ⟨dq103⟩, ⟨dq99⟩⟩
  clear H'
  try clear c3b0
  try clear c4b0
  try clear c12
  try clear c12b0
  try clear c12b1
  try clear c21
  try clear c21b0
  try clear c21b1
  try clear c30b0
  try clear c30b1
  try clear hcz34_0
  try clear hcz34_1
  try clear hcz34_2
  try clear hcz34_3
  try clear hcz36_0
  try clear hcz36_1
  try clear hcz36_2
  try clear hcz36_3
  try clear hfz34_0
  try clear hfz34_1
  try clear hfz34_2
  try clear hfz34_3
  try clear hfz36_0
  try clear hfz36_1
  try clear hfz36_2
  try clear hfz36_3
  try clear hx622_0
  try clear hx622_1
  try clear hx622_2
  try clear hx622_3
  try clear p622
  try clear q622
  obtain ⟨x6_1, x67_1, rfl, HA, HK1, HO_6, BK626, HB⟩ := hrel
  cases gk with
  | zero => exact absurd HA.out (by simp [impl_sample.l0])
  | succ k1 =>
   have H := HA.out
   clear HA
   simp only [impl_sample.l0] at H
   by_cases c37 : x67_1 < (((rd_T42 l0 a1).f2).length : Int)
   rotate_left
   ·rw [if_neg c37] at H
    have c37b0 := dF c37
    clear c37
    obtain rfl := oI H
    go_wp2
    go_ret
    exact ⟨_, dq21, dq83, dq99⟩
   rw [if_pos c37] at H
   have c37b0 := dT c37
   clear c37
   by_cases c38 : 0 ≤ x67_1
   rotate_left
   ·rw [if_neg c38] at H
    exact absurd H dq15
   rw [if_pos c38] at H
   have c38b0 := dT c38
   clear c38
   by_cases c39 : x67_1 < (((rd_T42 l0 a1).f2).length : Int)
   rotate_left
   ·rw [if_neg c39] at H
    exact absurd H dq15
   rw [if_pos c39] at H
   have c39b0 := dT c39
   clear c39
   replace H := bM H
   obtain ⟨t635, A400, H⟩ := H
   try dsimp only at H
   have A40 := Zq.i A400
   clear A400
   by_cases c41 : x6_1.length + t635.length < 8796093022208
   rotate_left
   ·rw [if_neg c41] at H
    exact absurd H dq15
   rw [if_pos c41] at H
   have LMc41 := Zq.i c41
   clear c41
   obtain ⟨y638, hy638⟩ : ∃ y_ : List ByteArray, y_ = (x6_1 ++ t635) := ⟨_, rfl⟩
   replace H : (impl_sample.l0 k1 l0 y638 ((rd_T42 l0 a1).f2) (((rd_T42 l0 a1).f2).length : Int) (wrap64 (x67_1 + 1))) = some r := by first | (rw [hy638]; with_reducible exact H) | (have H2_ := oS H; rw [hy638]; with_reducible exact H2_) | (have H2_ := oS H; with_reducible exact H2_) | with_reducible exact H | (rw [hy638]; exact H) | exact H
   have Ny638 := Zq.i hy638
   clear hy638
   have H' := Zq.i H
   clear H
   have p634 : 0 ≤ (x67_1 : Int) := oT dq22
   have q634 : x67_1 < (((rd_T42 l0 a1).f2).length : Int) := oT dq22
   obtain ⟨ad634, e634, hx634_0⟩ := Kd.at_int HR622_2.out x67_1 p634 q634
   cases e634
   replace hx634_0 := (HB.out.cell (bC w _ hx634_0)).trans hx634_0
   replace p634 := eq_true p634
   replace q634 := eq_true q634
   go_wp2_with (first | ((with_reducible refine gate_callee (f := 74) rfl ?_); refine goesL_ (some 74) rfl rfl Try.func74 dq24 rfl #[.slice (some ad622) l0.length c0, .int .i64 (rd ((rd_T42 l0 a1).f2) x67_1)] rfl dq23 ?_; (with_reducible refine (ih k1 dq27 _ _ l0 (rd ((rd_T42 l0 a1).f2) x67_1) t635 _ ?side1 ?side2 A40.out).mono ?_); (case side1 => exact dq5); (case side2 => exact dq4); rintro e w42 ⟨v636, rfl, ho0, hb⟩; refine ⟨_, rfl, ?_⟩; have HO637 := Zq.i (Kd.R_lower (Kd.R_new' ho0 (Kd.R_lt dq83)) (below_size dq99)); replace HO_6 := Zq.i (Kd.R_elder' dq83 (Kd.R_base ho0) hb); replace BK626 := Zq.i (blk_below (g := gb626) (o := .cells #[.int .i64 ((rd_T42 l0 a1).f0), .string ((rd_T42 l0 a1).f1), .slice (some ad634) ((rd_T42 l0 a1).f2).length c622_2, .int .i64 ((rd_T42 l0 a1).f3)] 42 (0, 0)) dq103 hb); replace HB := Zq.i (below_step dq99 hb); (try clear hb ho0); obtain ⟨Ao44, co44, eo44⟩ := Kd.R_slice HO637.out; subst eo44) | ((with_reducible refine gate_builtin (b := .append) (xs := #[.tmp 71, .tmp 74]) rfl ?_); at_builtin; refine Kd.R_append_rows Kd.string (w0 := w) w.heap.size rfl (.tmp 71) (.tmp 74) 30 9 (.string ⟨#[]⟩) 16 rfl Try.underlying30 info9 rfl dq25 dq28 u6 x6_1 t635 _ _ _ (fun k_ => some k_ ≠ (.slice Ao44 t635.length co44 : Value).ownBlock) (fun _ => False) rfl rfl ?aO ?aR (fun _ _ h => h) (fun _ h => h.elim) ?aF ?aB ?aS ?aL ?_; (case aR => repeat (first | exact (Kd.R_reads' HO637.out).2.2 | (with_reducible refine Kd.C_alloc ?_ _) | (with_reducible refine Kd.C_drewN ?_ _) | (with_reducible refine Kd.C_drew ?_))); (case aB => exact dq99); (case aF => exact (fun k_ hk => Kd.fresh' (Kd.R_lt (by (with_reducible repeat (first | apply Kd.R_alloc | apply Kd.R_drewN | apply Kd.R_drew)); exact HO637.out)) k_ hk)); (case aO => exact dq104); (case aS => exact (below_size dq99)); (case aL => have := LMc41.out; omega); intro v639 w43 ho hb hg hat; rw [← Ny638.out] at ho; replace BK626 := Zq.i (blk_grown (g := gb626) (o := .cells #[.int .i64 ((rd_T42 l0 a1).f0), .string ((rd_T42 l0 a1).f1), .slice (some ad634) ((rd_T42 l0 a1).f2).length c622_2, .int .i64 ((rd_T42 l0 a1).f3)] 42 (0, 0)) dq103 hg (Kd.R_ne HO_6.out BK626.out dq25)); replace HO637 := Zq.i (Kd.R_after (ok := (fun _ => True)) (by (with_reducible repeat (first | apply Kd.R_alloc | apply Kd.R_drewN | apply Kd.R_drew)); exact HO637.out) hg hat); replace HB := Zq.i (hb); have HO640 := Zq.i (ho); clear HO_6; clear ho hb hg hat))
   go_roundg k1
   case measure => have := HK1.out; omega
   case rel => exact ⟨(y638), (wrap64 (x67_1 + 1)), dq14, H', ⟨dq27⟩, ⟨by (with_reducible repeat (first | apply Kd.R_alloc | apply Kd.R_drewN | apply Kd.R_drew)); exact Kd.R_mono HO640.out (fun _ hk => trivial)⟩, ⟨dq103⟩, ⟨dq99⟩⟩
 rw [if_neg c30] at H
 have c30b0 := bN c30
 have c30b1 := bO c30
 by_cases c45 : 0 < (((rd_T42 l0 a1).f2).length : Int)
 rotate_left
 ·rw [if_neg c45] at H
  exact absurd H dq15
 rw [if_pos c45] at H
 have c45b0 := dT c45
 have c45b1 : decide (0 < ((rd_T42 l0 a1).f2).length) = true := dT dq28
 clear c45
 replace H := bM H
 obtain ⟨t642, A460, H⟩ := H
 try dsimp only at H
 have A46 := Zq.i A460
 clear A460
 by_cases c47 : 1 ≤ (((rd_T42 l0 a1).f2).length : Int)
 rotate_left
 ·rw [if_neg c47] at H
  exact absurd H dq15
 rw [if_pos c47] at H
 have c47b0 := eq_true c47
 have c47b1 := dT c47
 clear c47
 have H' := Zq.i H
 clear H
 have p622 : 0 ≤ (a1 : Int) := oT dq22
 have q622 : a1 < (l0.length : Int) := oT dq22
 obtain ⟨ad622, A622_2, c622_2, e622, hx622_0, hx622_1, hx622_2, hx622_3, hl622_2, hi622_2⟩ := at_T42 HR0.out a1 p622 q622
 cases e622
 have HR622_2 := Zq.i hi622_2
 have HC622_2 := Zq.i hl622_2
 clear hi622_2 hl622_2
 replace p622 := eq_true p622
 replace q622 := eq_true q622
 go_enter Try.func74, Try.ntmps74
 go_wp2_with (first | ((with_reducible refine gate_dst (N := 16) rfl ?_); refine Kd.R_lit Kd.string _ 9 ?hg (N := 16) ?hd (xs := ([] : List ByteArray)) (inner := []) (ok := fun _ => True) (okp := fun _ => True) ?hr ?hp (fun _ hk => hk) trivial (Below.refl _ _) (Nat.le_refl _) dq15 ?_; (case hd => rfl); (case hg => rfl); (case hr => exact dq0); (case hp => exact (Reps.none _ _)); intro v624 w48 ho49 hb hg_ hnew_; clear hg_ hnew_; (first | rw [← Ny623.out] at ho49 | (simp only [Int.reduceToNat] at ho49; rw [← Ny623.out] at ho49)); have HO625 := Zq.i (Kd.R_lower ho49 (below_size dq17)); replace HB := Zq.i (below_step dq17 hb); clear hb ho49) | ((with_reducible refine gate_dst (N := 5) rfl ?_); refine box_event ?hg (N := 5) ?hd (cs := #[.int .i64 0, .string (⟨#[]⟩ : ByteArray), .slice none 0 0, .int .i64 0]) (t := 42) ?hr ?_; (case hd => rfl); (case hg => rfl); (case hr => exact dq0); intro gb626 hg w50 hbox hb; replace HO625 := Zq.i (Kd.R_below dq102 hb); have BK626 := Zq.i (hbox); have GW626 := Zq.i ((dq30 : w.heap.size ≤ gb626)); have GE626 := Zq.i ((dq30 : w.heap.size ≤ gb626)); replace HB := Zq.i (below_step dq17 hb); clear hb hbox hg; obtain ⟨⟨hcz51_0, hcz51_1, hcz51_2, hcz51_3⟩, hfz51_0, hfz51_1, hfz51_2, hfz51_3⟩ := blkC4 BK626.out) | ((with_reducible refine gate_callee (f := 93) rfl ?_); refine goesL_ (some 43) rfl rfl Try.func93 dq24 rfl #[.agg #[.int .i64 ((rd_T42 l0 a1).f0), .string ((rd_T42 l0 a1).f1), .slice A622_2 ((rd_T42 l0 a1).f2).length c622_2, .int .i64 ((rd_T42 l0 a1).f3)]] rfl dq23 ?_; (with_reducible refine (impl_PNode_isOptional.calls ((rd_T42 l0 a1).f0) ((rd_T42 l0 a1).f1) _ _ ((rd_T42 l0 a1).f2) ((rd_T42 l0 a1).f3) false _ ?side1 ?side2 A5.out).mono ?_); (case side1 => exact dq10); (case side2 => exact HC622_2.out); rintro e w52 ⟨rfl, hb⟩; refine ⟨_, rfl, ?_⟩; replace HO625 := Zq.i (Kd.R_below dq101 hb); replace BK626 := Zq.i (blk_below (g := gb626) (o := .cells #[.int .i64 ((rd_T42 l0 a1).f0), .string ((rd_T42 l0 a1).f1), .slice A622_2 ((rd_T42 l0 a1).f2).length c622_2, .int .i64 ((rd_T42 l0 a1).f3)] 42 (0, 0)) dq100 hb); replace HB := Zq.i (below_step dq99 hb); (try clear hb); obtain ⟨⟨hcz53_0, hcz53_1, hcz53_2, hcz53_3⟩, hfz53_0, hfz53_1, hfz53_2, hfz53_3⟩ := blkC4 BK626.out; have p641 : 0 ≤ (0 : Int) := dq28; have q641 : 0 < (((rd_T42 l0 a1).f2).length : Int) := oT dq22; obtain ⟨ad641, e641, hx641_0⟩ := Kd.at_int HR622_2.out 0 p641 q641; cases e641; have qi641 : (0 < ((rd_T42 l0 a1).f2).length) = True := eq_true dq28; (try rw [show ((0 : Int)).toNat = 0 from rfl] at hx641_0); (try rw [Addr.add_zero'] at hx641_0); replace hx641_0 := (HB.out.cell (bC w _ hx641_0)).trans hx641_0; replace p641 := eq_true p641; replace q641 := eq_true q641) | ((with_reducible refine gate_callee (f := 74) rfl ?_); refine goesL_ (some 22) rfl rfl Try.func74 dq24 rfl #[.slice (some ad622) l0.length c0, .int .i64 (rd ((rd_T42 l0 a1).f2) 0)] rfl dq23 ?_; (with_reducible refine (ih k dq28 _ _ l0 (rd ((rd_T42 l0 a1).f2) 0) t642 _ ?side1 ?side2 A46.out).mono ?_); (case side1 => exact dq5); (case side2 => exact dq4); rintro e w54 ⟨v643, rfl, ho0, hb⟩; refine ⟨_, rfl, ?_⟩; have HO644 := Zq.i (Kd.R_lower (Kd.R_new' ho0 (Kd.R_lt dq102)) (below_size dq99)); replace HO625 := Zq.i (Kd.R_elder' dq102 (Kd.R_base ho0) hb); replace BK626 := Zq.i (blk_below (g := gb626) (o := .cells #[.int .i64 ((rd_T42 l0 a1).f0), .string ((rd_T42 l0 a1).f1), .slice (some ad641) ((rd_T42 l0 a1).f2).length c622_2, .int .i64 ((rd_T42 l0 a1).f3)] 42 (0, 0)) dq103 hb); replace HB := Zq.i (below_step dq99 hb); (try clear hb ho0); obtain ⟨⟨hcz55_0, hcz55_1, hcz55_2, hcz55_3⟩, hfz55_0, hfz55_1, hfz55_2, hfz55_3⟩ := blkC4 BK626.out; obtain ⟨i056, hi056, _, hsz56, _⟩ := info_parts info2; obtain ⟨A56, hcut56, hA56, hC56⟩ := print_drop_of (P := Try.prog) (Value.int .i64) 0 33 2 .i64 Try.underlying33 hi056 hsz56 (some ad641) c622_2 ((rd_T42 l0 a1).f2) 1 dq28 (oT dq22) HC622_2.out; have HR645 := Zq.i (Kd.C_of_reads (h1 := fun _ => rfl) (hA56 _ (Kd.reads_of_C HR622_2.out))); have HC645 := Zq.i hC56; clear hA56 hC56 hi056 hsz56))
 go_loopg [6, 27] k (fun kq v6 v27 w' => ∃ (x6_1 : List ByteArray) (x27_1 : Int), v27 = .int .i64 x27_1 ∧ Zq (impl_sample.l1 kq l0 x6_1 (((rd_T42 l0 a1).f2).drop 1) ((((rd_T42 l0 a1).f2).drop 1).length : Int) x27_1 = some r) ∧ Zq (kq ≤ k) ∧ Zq (Kd.R Kd.string 9 w' w.heap.size (fun _ => True) v6 x6_1) ∧ Zq (w'.heap[gb626]? = some (.cells #[.int .i64 ((rd_T42 l0 a1).f0), .string ((rd_T42 l0 a1).f1), (.slice (some ad641) ((rd_T42 l0 a1).f2).length c622_2), .int .i64 ((rd_T42 l0 a1).f3)] 42 (0, 0))) ∧ Zq (Below w.heap.size w w'))
 case atStart => exact ⟨(t642), (0), dq14, H', ⟨Nat.le_refl _⟩, ⟨by (with_reducible repeat (first | apply Kd.R_alloc | apply Kd.R_drewN | apply Kd.R_drew)); exact Kd.R_mono HO644.out (fun _ hk => trivial)⟩, ⟨dq103⟩, ⟨dq99⟩⟩
 clear H'
 try clear c3b0
 try clear c4b0
 try clear c12
 try clear c12b0
 try clear c12b1
 try clear c21
 try clear c21b0
 try clear c21b1
 try clear c30
 try clear c30b0
 try clear c30b1
 try clear c45b0
 try clear c45b1
 try clear c47b0
 try clear c47b1
 try clear hcz51_0
 try clear hcz51_1
 try clear hcz51_2
 try clear hcz51_3
 try clear hcz53_0
 try clear hcz53_1
 try clear hcz53_2
 try clear hcz53_3
 try clear hcz55_0
 try clear hcz55_1
 try clear hcz55_2
 try clear hcz55_3
 try clear hfz51_0
 try clear hfz51_1
 try clear hfz51_2
 try clear hfz51_3
 try clear hfz53_0
 try clear hfz53_1
 try clear hfz53_2
 try clear hfz53_3
 try clear hfz55_0
 try clear hfz55_1
 try clear hfz55_2
 try clear hfz55_3
 try clear hx622_0
 try clear hx622_1
 try clear hx622_2
 try clear hx622_3
 try clear hx641_0
 try clear p622
 try clear p641
 try clear q622
 try clear q641
 obtain ⟨x6_1, x27_1, rfl, HA, HK1, HO_6, BK626, HB⟩ := hrel
 cases gk with
 | zero => exact absurd HA.out (by simp [impl_sample.l1])
 | succ k1 =>
  have H := HA.out
  clear HA
  simp only [impl_sample.l1] at H
  by_cases c57 : x27_1 < ((((rd_T42 l0 a1).f2).drop 1).length : Int)
  rotate_left
  ·rw [if_neg c57] at H
   have c57b0 := dF c57
   have c57t0 : decide (x27_1 < ((((rd_T42 l0 a1).f2).length - 1 : Nat) : Int)) = false := by have h_ := c57b0; rw [List.length_drop] at h_; exact h_
   clear c57
   obtain rfl := oI H
   go_wp2
   go_ret
   exact ⟨_, dq21, dq83, dq99⟩
  rw [if_pos c57] at H
  have c57b0 := dT c57
  have c57t0 : decide (x27_1 < ((((rd_T42 l0 a1).f2).length - 1 : Nat) : Int)) = true := by have h_ := c57b0; rw [List.length_drop] at h_; exact h_
  clear c57
  by_cases c58 : 0 ≤ x27_1
  rotate_left
  ·rw [if_neg c58] at H
   exact absurd H dq15
  rw [if_pos c58] at H
  have c58b0 := dT c58
  clear c58
  by_cases c59 : x27_1 < ((((rd_T42 l0 a1).f2).drop 1).length : Int)
  rotate_left
  ·rw [if_neg c59] at H
   exact absurd H dq15
  rw [if_pos c59] at H
  have c59b0 := dT c59
  have c59t0 : decide (x27_1 < ((((rd_T42 l0 a1).f2).length - 1 : Nat) : Int)) = true := by have h_ := c59b0; rw [List.length_drop] at h_; exact h_
  clear c59
  replace H := bM H
  obtain ⟨t647, A600, H⟩ := H
  try dsimp only at H
  have A60 := Zq.i A600
  clear A600
  by_cases c61 : (t647.length : Int) < (x6_1.length : Int)
  rotate_left
  ·rw [if_neg c61] at H
   have c61b0 := dF c61
   have c61b1 : decide (t647.length < x6_1.length) = false := dF (fun h => c61 (Int.ofNat_lt.mpr h))
   clear c61
   have H' := Zq.i H
   clear H
   have p646 : 0 ≤ (x27_1 : Int) := oT dq22
   have q646 : x27_1 < ((((rd_T42 l0 a1).f2).drop 1).length : Int) := oT dq22
   obtain ⟨ad646, e646, hx646_0⟩ := Kd.at_int HR645.out x27_1 p646 q646
   cases e646
   replace hx646_0 := (HB.out.cell (bC w _ hx646_0)).trans hx646_0
   replace p646 := eq_true p646
   replace q646 := eq_true q646
   have q646t := eq_true (oT c59t0)
   go_wp2_with (first | ((with_reducible refine gate_callee (f := 74) rfl ?_); refine goesL_ (some 33) rfl rfl Try.func74 dq24 rfl #[.slice (some ad622) l0.length c0, .int .i64 (rd (((rd_T42 l0 a1).f2).tail) x27_1)] rfl dq23 ?_; rw [← List.drop_one]; (with_reducible refine (ih k1 dq27 _ _ l0 (rd (((rd_T42 l0 a1).f2).drop 1) x27_1) t647 _ ?side1 ?side2 A60.out).mono ?_); (case side1 => exact dq5); (case side2 => exact dq4); rintro e w65 ⟨v648, rfl, ho0, hb⟩; refine ⟨_, rfl, ?_⟩; have HO649 := Zq.i (Kd.R_lower (Kd.R_new' ho0 (Kd.R_lt dq83)) (below_size dq99)); replace HO_6 := Zq.i (Kd.R_elder' dq83 (Kd.R_base ho0) hb); replace BK626 := Zq.i (blk_below (g := gb626) (o := .cells #[.int .i64 ((rd_T42 l0 a1).f0), .string ((rd_T42 l0 a1).f1), .slice (some ad641) ((rd_T42 l0 a1).f2).length c622_2, .int .i64 ((rd_T42 l0 a1).f3)] 42 (0, 0)) dq103 hb); replace HB := Zq.i (below_step dq99 hb); (try clear hb ho0); obtain ⟨Ao66, co66, eo66⟩ := Kd.R_slice HO649.out; subst eo66; obtain ⟨Ao67, co67, eo67⟩ := Kd.R_slice HO_6.out; subst eo67))
   go_roundg k1
   case measure => have := HK1.out; omega
   case rel => exact ⟨(x6_1), (wrap64 (x27_1 + 1)), dq14, H', ⟨dq27⟩, ⟨dq105⟩, ⟨dq103⟩, ⟨dq99⟩⟩
  rw [if_pos c61] at H
  have c61b0 := dT c61
  have c61b1 : decide (t647.length < x6_1.length) = true := dT (Int.ofNat_lt.mp c61)
  clear c61
  have H' := Zq.i H
  clear H
  have p646 : 0 ≤ (x27_1 : Int) := oT dq22
  have q646 : x27_1 < ((((rd_T42 l0 a1).f2).drop 1).length : Int) := oT dq22
  obtain ⟨ad646, e646, hx646_0⟩ := Kd.at_int HR645.out x27_1 p646 q646
  cases e646
  replace hx646_0 := (HB.out.cell (bC w _ hx646_0)).trans hx646_0
  replace p646 := eq_true p646
  replace q646 := eq_true q646
  have q646t := eq_true (oT c59t0)
  go_wp2_with (first | ((with_reducible refine gate_callee (f := 74) rfl ?_); refine goesL_ (some 33) rfl rfl Try.func74 dq24 rfl #[.slice (some ad622) l0.length c0, .int .i64 (rd (((rd_T42 l0 a1).f2).tail) x27_1)] rfl dq23 ?_; rw [← List.drop_one]; (with_reducible refine (ih k1 dq27 _ _ l0 (rd (((rd_T42 l0 a1).f2).drop 1) x27_1) t647 _ ?side1 ?side2 A60.out).mono ?_); (case side1 => exact dq5); (case side2 => exact dq4); rintro e w62 ⟨v648, rfl, ho0, hb⟩; refine ⟨_, rfl, ?_⟩; have HO649 := Zq.i (Kd.R_lower (Kd.R_new' ho0 (Kd.R_lt dq83)) (below_size dq99)); replace HO_6 := Zq.i (Kd.R_elder' dq83 (Kd.R_base ho0) hb); replace BK626 := Zq.i (blk_below (g := gb626) (o := .cells #[.int .i64 ((rd_T42 l0 a1).f0), .string ((rd_T42 l0 a1).f1), .slice (some ad641) ((rd_T42 l0 a1).f2).length c622_2, .int .i64 ((rd_T42 l0 a1).f3)] 42 (0, 0)) dq103 hb); replace HB := Zq.i (below_step dq99 hb); (try clear hb ho0); obtain ⟨Ao63, co63, eo63⟩ := Kd.R_slice HO649.out; subst eo63; obtain ⟨Ao64, co64, eo64⟩ := Kd.R_slice HO_6.out; subst eo64))
  go_roundg k1
  case measure => have := HK1.out; omega
  case rel => exact ⟨(t647), (wrap64 (x27_1 + 1)), dq14, H', ⟨dq27⟩, ⟨by (with_reducible repeat (first | apply Kd.R_alloc | apply Kd.R_drewN | apply Kd.R_drew)); exact Kd.R_mono HO649.out (fun _ hk => trivial)⟩, ⟨dq103⟩, ⟨dq99⟩⟩

/-! ### impl_Sample: function 37 -/
def impl_Sample.f (k : Nat) (l0 : List (S42)) : Option (List ByteArray × Bool) := (impl_ParticleOk.f k l0).bind fun t650 => (if t650 = true then ((impl_sample.f k l0 (wrap64 ((l0.length : Int) - 1))).bind fun t651 => (some (t651, true))) else (some (([] : List ByteArray), false)))
theorem impl_Sample.calls (k : Nat) (A0 : Option Addr) (c0 : Nat) (l0 : List (S42)) (r1 : List ByteArray) (r2 : Bool) (w : World) (hr0 : Kd.C k42 w A0 l0.length l0) (hc0 : l0.length ≤ c0) (h : impl_Sample.f k l0 = some (r1, r2)) :
  Calls Try.prog 37 #[.slice A0 l0.length c0] w fun e w' => ∃ v0_ : Value, e = .returned (.tuple #[v0_, .bool r2]) ∧ Kd.R Kd.string 9 w' w.heap.size (fun _ => True) v0_ r1 ∧ Below w.heap.size w w' := by
 have HR0 := Zq.i hr0
 have HC0 := Zq.i hc0
 clear hr0 hc0
 have HB := Zq.i (Below.refl w.heap.size w)
 have H := h
 unfold impl_Sample.f at H
 clear h
 replace H := bM H
 obtain ⟨t650, A20, H⟩ := H
 try dsimp only at H
 have A2 := Zq.i A20
 clear A20
 by_cases c3 : t650 = true
 rotate_left
 ·replace c3 := Bool.eq_false_iff.mpr c3
  subst c3
  rw [iN] at H
  obtain ⟨rfl, rfl⟩ := oP H
  go_enter Try.func37, Try.ntmps37
  go_wp2_with (first | ((with_reducible refine gate_callee (f := 29) rfl ?_); refine goesL_ (some 5) rfl rfl Try.func29 dq24 rfl #[.slice A0 l0.length c0] rfl dq23 ?_; (with_reducible refine (impl_ParticleOk.calls k _ _ l0 false _ ?side1 ?side2 A2.out).mono ?_); (case side1 => exact dq3); (case side2 => exact dq4); rintro e w7 ⟨rfl, hb⟩; refine ⟨_, rfl, ?_⟩; replace HB := Zq.i (below_step dq17 hb); (try clear hb)))
  go_ret2
  exact ⟨_, dq21, dq106, dq17⟩
 subst c3
 rw [if_pos rfl] at H
 replace H := bM H
 obtain ⟨t651, A40, H⟩ := H
 try dsimp only at H
 have A4 := Zq.i A40
 clear A40
 obtain ⟨rfl, rfl⟩ := oP H
 go_enter Try.func37, Try.ntmps37
 go_wp2_with (first | ((with_reducible refine gate_callee (f := 29) rfl ?_); refine goesL_ (some 5) rfl rfl Try.func29 dq24 rfl #[.slice A0 l0.length c0] rfl dq23 ?_; (with_reducible refine (impl_ParticleOk.calls k _ _ l0 true _ ?side1 ?side2 A2.out).mono ?_); (case side1 => exact dq3); (case side2 => exact dq4); rintro e w5 ⟨rfl, hb⟩; refine ⟨_, rfl, ?_⟩; replace HB := Zq.i (below_step dq17 hb); (try clear hb)) | ((with_reducible refine gate_callee (f := 74) rfl ?_); refine goesL_ (some 11) rfl rfl Try.func74 dq24 rfl #[.slice A0 l0.length c0, .int .i64 (wrap64 ((l0.length : Int) - 1))] rfl dq23 ?_; (with_reducible refine (impl_sample.calls k _ _ l0 (wrap64 ((l0.length : Int) - 1)) t651 _ ?side1 ?side2 A4.out).mono ?_); (case side1 => exact dq5); (case side2 => exact dq4); rintro e w6 ⟨v652, rfl, ho0, hb⟩; refine ⟨_, rfl, ?_⟩; have HO653 := Zq.i (Kd.R_lower ho0 (below_size dq17)); replace HB := Zq.i (below_step dq17 hb); (try clear hb ho0)))
 go_ret2
 exact ⟨_, dq21, by (with_reducible repeat (first | apply Kd.R_alloc | apply Kd.R_drewN | apply Kd.R_drew)); exact HO653.out, dq17⟩

/-! ### spec_l8Short: function 75 -/
mutual
def spec_l8Short.j0 : Nat → List (S42) → Bool → Int → ByteArray → List Int → Int → Option (List ByteArray)
 | 0, _, _, _, _, _, _ => none
 | k + 1, x0, x20, x656000, x656001, x656002, x656003 => if x20 = true then (some (([] : List ByteArray))) else (if x656000 = 1 then (some (([x656001] : List ByteArray))) else (if x656000 = 4 then (some (([(⟨#[97, 110, 121]⟩ : ByteArray)] : List ByteArray))) else (spec_l8Short.l0 k x0 (([] : List ByteArray)) 0 x656000 x656001 x656002 x656003)))
def spec_l8Short.l0 : Nat → List (S42) → List ByteArray → Int → Int → ByteArray → List Int → Int → Option (List ByteArray)
 | 0, _, _, _, _, _, _, _ => none
 | k + 1, x0, x6, x7, x656000, x656001, x656002, x656003 => if x7 < (x656002.length : Int) then (if 0 ≤ x7 then ((spec_l8Short.f k x0 (rd x656002 x7)).bind fun t669 => (if x656000 = 2 then (if x6.length + t669.length < 8796093022208 then (spec_l8Short.l0 k x0 (x6 ++ t669) (wrap64 (x7 + 1)) x656000 x656001 x656002 x656003) else (none)) else (if x7 = 0 then (spec_l8Short.l0 k x0 t669 (wrap64 (x7 + 1)) x656000 x656001 x656002 x656003) else (if (t669.length : Int) < (x6.length : Int) then (spec_l8Short.l0 k x0 t669 (wrap64 (x7 + 1)) x656000 x656001 x656002 x656003) else (spec_l8Short.l0 k x0 x6 (wrap64 (x7 + 1)) x656000 x656001 x656002 x656003))))) else (none)) else (some x6)
def spec_l8Short.f : Nat → List (S42) → Int → Option (List ByteArray)
 | 0, _, _ => none
 | k + 1, l0, a1 => if 0 ≤ a1 then (if a1 < (l0.length : Int) then (if ((rd_T42 l0 a1).f3) = 1 then (spec_l8Short.j0 k l0 true ((rd_T42 l0 a1).f0) ((rd_T42 l0 a1).f1) ((rd_T42 l0 a1).f2) ((rd_T42 l0 a1).f3)) else (spec_l8Short.j0 k l0 (((rd_T42 l0 a1).f3) == 2) ((rd_T42 l0 a1).f0) ((rd_T42 l0 a1).f1) ((rd_T42 l0 a1).f2) ((rd_T42 l0 a1).f3))) else (none)) else (none)
end
theorem spec_l8Short.calls (k : Nat) : ∀ (A0 : Option Addr) (c0 : Nat) (l0 : List (S42)) (a1 : Int) (r : List ByteArray) (w : World) (hr0 : Kd.C k42 w A0 l0.length l0) (hc0 : l0.length ≤ c0) (h : spec_l8Short.f k l0 a1 = some r),
  Calls Try.prog 75 #[.slice A0 l0.length c0, .int .i64 a1] w fun e w' => ∃ v0_ : Value, e = .returned (v0_) ∧ Kd.R Kd.string 9 w' w.heap.size (fun _ => True) v0_ r ∧ Below w.heap.size w w' := by
 induction k using Nat.strongRecOn with
 | _ k ih =>
 intro A0 c0 l0 a1 r w hr0 hc0 h
 cases k with
 | zero => exact absurd h (by simp [spec_l8Short.f])
 | succ k =>
 simp only [spec_l8Short.f] at h
 have hu42 := Try.underlying42
 have HR0 := Zq.i hr0
 have HC0 := Zq.i hc0
 clear hr0 hc0
 have HB := Zq.i (Below.refl w.heap.size w)
 have H : (if 0 ≤ a1 then (if a1 < (l0.length : Int) then (if ((rd_T42 l0 a1).f3) = 1 then (spec_l8Short.j0 k l0 true ((rd_T42 l0 a1).f0) ((rd_T42 l0 a1).f1) ((rd_T42 l0 a1).f2) ((rd_T42 l0 a1).f3)) else (spec_l8Short.j0 k l0 (((rd_T42 l0 a1).f3) == 2) ((rd_T42 l0 a1).f0) ((rd_T42 l0 a1).f1) ((rd_T42 l0 a1).f2) ((rd_T42 l0 a1).f3))) else (none)) else (none)) = some r := h
 clear h
 by_cases c3 : 0 ≤ a1
 rotate_left
 ·rw [if_neg c3] at H
  exact absurd H dq15
 rw [if_pos c3] at H
 have c3b0 := dT c3
 clear c3
 by_cases c4 : a1 < (l0.length : Int)
 rotate_left
 ·rw [if_neg c4] at H
  exact absurd H dq15
 rw [if_pos c4] at H
 have c4b0 := dT c4
 clear c4
 have HC5 := Zq.i H
 clear H
 have p654 : 0 ≤ (a1 : Int) := oT dq22
 have q654 : a1 < (l0.length : Int) := oT dq22
 obtain ⟨ad654, A654_2, c654_2, e654, hx654_0, hx654_1, hx654_2, hx654_3, hl654_2, hi654_2⟩ := at_T42 HR0.out a1 p654 q654
 cases e654
 have HR654_2 := Zq.i hi654_2
 have HC654_2 := Zq.i hl654_2
 clear hi654_2 hl654_2
 replace p654 := eq_true p654
 replace q654 := eq_true q654
 go_enter Try.func75, Try.ntmps75
 go_upto_region 2 with (first | ((with_reducible refine gate_dst (N := 5) rfl ?_); (try (refine gate_guard dq31 ?_; dsimp only)); refine box_event ?hg (N := 5) ?hd (cs := #[.int .i64 0, .string (⟨#[]⟩ : ByteArray), .slice none 0 0, .int .i64 0]) (t := 42) ?hr ?_; (case hd => rfl); (case hg => rfl); (case hr => exact dq0); intro gb655 hg w6 hbox hb; have BK655 := Zq.i (hbox); have GW655 := Zq.i ((dq30 : w.heap.size ≤ gb655)); have GE655 := Zq.i ((dq30 : w.heap.size ≤ gb655)); replace HB := Zq.i (below_step dq17 hb); clear hb hbox hg; obtain ⟨⟨hcz7_0, hcz7_1, hcz7_2, hcz7_3⟩, hfz7_0, hfz7_1, hfz7_2, hfz7_3⟩ := blkC4 BK655.out))
 (try simp only [Act.put, List.setIfInBounds_toArray, List.set_cons_zero, List.set_cons_succ])
 go_cut [20] (fun v20 wc => ∃ (kq : Nat) (x20_4 : Bool), v20 = .bool x20_4 ∧ Zq (spec_l8Short.j0 kq l0 x20_4 ((rd_T42 l0 a1).f0) ((rd_T42 l0 a1).f1) ((rd_T42 l0 a1).f2) ((rd_T42 l0 a1).f3) = some r) ∧ Zq (kq ≤ k) ∧ Zq (wc.heap[gb655]? = some (.cells #[.int .i64 ((rd_T42 l0 a1).f0), .string ((rd_T42 l0 a1).f1), (.slice A654_2 ((rd_T42 l0 a1).f2).length c654_2), .int .i64 ((rd_T42 l0 a1).f3)] 42 (0, 0))) ∧ Zq (Below w.heap.size w wc))
 case first =>
  have H := HC5.out
  clear HC5
  by_cases c8 : ((rd_T42 l0 a1).f3) = 1
  ·rw [if_pos c8] at H
   have c8b0 := bE c8
   have c8b1 := bQ c8
   clear c8
   (first | rw [c8b0] | (simp only [i64_w, i32_w]; rw [c8b0]) | skip)
   have H' := Zq.i H
   clear H
   obtain ⟨⟨hcz9_0, hcz9_1, hcz9_2, hcz9_3⟩, hfz9_0, hfz9_1, hfz9_2, hfz9_3⟩ := blkC4 BK655.out
   go_wp2
   go_meet
   case rel => exact ⟨_, (true), dq14, H', ⟨dq26⟩, ⟨dq108⟩, ⟨dq107⟩⟩
  rw [if_neg c8] at H
  have c8b0 := bN c8
  have c8b1 := bO c8
  (first | rw [c8b0] | (simp only [i64_w, i32_w]; rw [c8b0]) | skip)
  have H' := Zq.i H
  clear H
  obtain ⟨⟨hcz10_0, hcz10_1, hcz10_2, hcz10_3⟩, hfz10_0, hfz10_1, hfz10_2, hfz10_3⟩ := blkC4 BK655.out
  go_wp2
  go_meet
  case rel => exact ⟨_, ((((rd_T42 l0 a1).f3) == 2)), dq14, H', ⟨dq26⟩, ⟨dq108⟩, ⟨dq107⟩⟩
 clear HC5
 try clear c3b0
 try clear c4b0
 try clear hcz7_0
 try clear hcz7_1
 try clear hcz7_2
 try clear hcz7_3
 try clear hfz7_0
 try clear hfz7_1
 try clear hfz7_2
 try clear hfz7_3
 try clear hx654_0
 try clear hx654_1
 try clear hx654_2
 try clear hx654_3
 try clear p654
 try clear q654
 obtain ⟨kq, x20_4, rfl, HA, HJ4, BK655, HB⟩ := hcut
 cases kq with
 | zero => exact absurd HA.out (by simp [spec_l8Short.j0])
 | succ kj4 =>
  have H := HA.out
  clear HA
  simp only [spec_l8Short.j0] at H
  by_cases c11 : x20_4 = true
  ·subst c11
   rw [if_pos rfl] at H
   obtain ⟨y656, hy656⟩ : ∃ y_ : List ByteArray, y_ = (([] : List ByteArray)) := ⟨_, rfl⟩
   replace H : (some y656) = some r := by first | (rw [hy656]; with_reducible exact H) | (have H2_ := oS H; rw [hy656]; with_reducible exact H2_) | (have H2_ := oS H; with_reducible exact H2_) | with_reducible exact H | (rw [hy656]; exact H) | exact H
   have Ny656 := Zq.i hy656
   clear hy656
   obtain rfl := oI H
   go_wp2_with (first | ((with_reducible refine gate_dst (N := 21) rfl ?_); (try (refine gate_guard dq31 ?_; dsimp only)); refine Kd.R_lit Kd.string _ 9 ?hg (N := 21) ?hd (xs := ([] : List ByteArray)) (inner := []) (ok := fun _ => True) (okp := fun _ => True) ?hr ?hp (fun _ hk => hk) trivial (Below.refl _ _) (Nat.le_refl _) dq15 ?_; (case hd => rfl); (case hg => rfl); (case hr => exact dq0); (case hp => exact (Reps.none _ _)); intro v657 w12 ho13 hb hg_ hnew_; clear hg_ hnew_; (first | rw [← Ny656.out] at ho13 | (simp only [Int.reduceToNat] at ho13; rw [← Ny656.out] at ho13)); have HO658 := Zq.i (Kd.R_lower ho13 (below_size dq107)); replace BK655 := Zq.i (blk_below (g := gb655) (o := .cells #[.int .i64 ((rd_T42 l0 a1).f0), .string ((rd_T42 l0 a1).f1), .slice A654_2 ((rd_T42 l0 a1).f2).length c654_2, .int .i64 ((rd_T42 l0 a1).f3)] 42 (0, 0)) dq109 hb); replace HB := Zq.i (below_step dq107 hb); clear hb ho13))
   go_ret
   exact ⟨_, dq21, by (with_reducible repeat (first | apply Kd.R_alloc | apply Kd.R_drewN | apply Kd.R_drew)); exact HO658.out, dq107⟩
  replace c11 := Bool.eq_false_iff.mpr c11
  subst c11
  rw [iN] at H
  by_cases c14 : ((rd_T42 l0 a1).f0) = 1
  ·rw [if_pos c14] at H
   have c14b0 := bE c14
   have c14b1 := bQ c14
   clear c14
   obtain ⟨y659, hy659⟩ : ∃ y_ : List ByteArray, y_ = (([((rd_T42 l0 a1).f1)] : List ByteArray)) := ⟨_, rfl⟩
   replace H : (some y659) = some r := by first | (rw [hy659]; with_reducible exact H) | (have H2_ := oS H; rw [hy659]; with_reducible exact H2_) | (have H2_ := oS H; with_reducible exact H2_) | with_reducible exact H | (rw [hy659]; exact H) | exact H
   have Ny659 := Zq.i hy659
   clear hy659
   obtain rfl := oI H
   obtain ⟨⟨hcz15_0, hcz15_1, hcz15_2, hcz15_3⟩, hfz15_0, hfz15_1, hfz15_2, hfz15_3⟩ := blkC4 BK655.out
   go_wp2_with (first | ((with_reducible refine gate_dst (N := 28) rfl ?_); (try (refine gate_guard dq31 ?_; dsimp only)); refine Kd.R_lit Kd.string _ 9 ?hg (N := 28) ?hd (xs := ([((rd_T42 l0 a1).f1)] : List ByteArray)) (inner := [.string ((rd_T42 l0 a1).f1)]) (ok := fun _ => True) (okp := fun _ => True) ?hr ?hp (fun _ hk => hk) trivial (Below.refl _ _) (Nat.le_refl _) dq15 ?_; (case hd => rfl); (case hg => rfl); (case hr => exact dq0); (case hp => exact (Reps.one (show Kd.M Kd.string _ _ _ ((rd_T42 l0 a1).f1) [.string ((rd_T42 l0 a1).f1)] from rfl) (Reps.none _ _))); intro v660 w16 ho17 hb hg_ hnew_; clear hg_ hnew_; (first | rw [← Ny659.out] at ho17 | (simp only [Int.reduceToNat] at ho17; rw [← Ny659.out] at ho17)); have HO661 := Zq.i (Kd.R_lower ho17 (below_size dq107)); replace BK655 := Zq.i (blk_below (g := gb655) (o := .cells #[.int .i64 ((rd_T42 l0 a1).f0), .string ((rd_T42 l0 a1).f1), .slice A654_2 ((rd_T42 l0 a1).f2).length c654_2, .int .i64 ((rd_T42 l0 a1).f3)] 42 (0, 0)) dq109 hb); replace HB := Zq.i (below_step dq107 hb); clear hb ho17))
   go_ret
   exact ⟨_, dq21, by (with_reducible repeat (first | apply Kd.R_alloc | apply Kd.R_drewN | apply Kd.R_drew)); exact HO661.out, dq107⟩
  rw [if_neg c14] at H
  have c14b0 := bN c14
  have c14b1 := bO c14
  by_cases c18 : ((rd_T42 l0 a1).f0) = 4
  ·rw [if_pos c18] at H
   have c18b0 := bE c18
   have c18b1 := bQ c18
   clear c18
   obtain ⟨y662, hy662⟩ : ∃ y_ : List ByteArray, y_ = (([(⟨#[97, 110, 121]⟩ : ByteArray)] : List ByteArray)) := ⟨_, rfl⟩
   replace H : (some y662) = some r := by first | (rw [hy662]; with_reducible exact H) | (have H2_ := oS H; rw [hy662]; with_reducible exact H2_) | (have H2_ := oS H; with_reducible exact H2_) | with_reducible exact H | (rw [hy662]; exact H) | exact H
   have Ny662 := Zq.i hy662
   clear hy662
   obtain rfl := oI H
   obtain ⟨⟨hcz19_0, hcz19_1, hcz19_2, hcz19_3⟩, hfz19_0, hfz19_1, hfz19_2, hfz19_3⟩ := blkC4 BK655.out
   go_wp2_with (first | ((with_reducible refine gate_dst (N := 31) rfl ?_); (try (refine gate_guard dq31 ?_; dsimp only)); refine Kd.R_lit Kd.string _ 9 ?hg (N := 31) ?hd (xs := ([(⟨#[97, 110, 121]⟩ : ByteArray)] : List ByteArray)) (inner := [.string (⟨#[97, 110, 121]⟩ : ByteArray)]) (ok := fun _ => True) (okp := fun _ => True) ?hr ?hp (fun _ hk => hk) trivial (Below.refl _ _) (Nat.le_refl _) dq15 ?_; (case hd => rfl); (case hg => rfl); (case hr => exact dq0); (case hp => exact (Reps.one (show Kd.M Kd.string _ _ _ (⟨#[97, 110, 121]⟩ : ByteArray) [.string (⟨#[97, 110, 121]⟩ : ByteArray)] from rfl) (Reps.none _ _))); intro v663 w20 ho21 hb hg_ hnew_; clear hg_ hnew_; (first | rw [← Ny662.out] at ho21 | (simp only [Int.reduceToNat] at ho21; rw [← Ny662.out] at ho21)); have HO664 := Zq.i (Kd.R_lower ho21 (below_size dq107)); replace BK655 := Zq.i (blk_below (g := gb655) (o := .cells #[.int .i64 ((rd_T42 l0 a1).f0), .string ((rd_T42 l0 a1).f1), .slice A654_2 ((rd_T42 l0 a1).f2).length c654_2, .int .i64 ((rd_T42 l0 a1).f3)] 42 (0, 0)) dq109 hb); replace HB := Zq.i (below_step dq107 hb); clear hb ho21))
   go_ret
   exact ⟨_, dq21, by (with_reducible repeat (first | apply Kd.R_alloc | apply Kd.R_drewN | apply Kd.R_drew)); exact HO664.out, dq107⟩
  rw [if_neg c18] at H
  have c18b0 := bN c18
  have c18b1 := bO c18
  obtain ⟨y665, hy665⟩ : ∃ y_ : List ByteArray, y_ = (([] : List ByteArray)) := ⟨_, rfl⟩
  replace H : (spec_l8Short.l0 kj4 l0 y665 0 ((rd_T42 l0 a1).f0) ((rd_T42 l0 a1).f1) ((rd_T42 l0 a1).f2) ((rd_T42 l0 a1).f3)) = some r := by first | (rw [hy665]; with_reducible exact H) | (have H2_ := oS H; rw [hy665]; with_reducible exact H2_) | (have H2_ := oS H; with_reducible exact H2_) | with_reducible exact H | (rw [hy665]; exact H) | exact H
  have Ny665 := Zq.i hy665
  clear hy665
  have H' := Zq.i H
  clear H
  obtain ⟨⟨hcz22_0, hcz22_1, hcz22_2, hcz22_3⟩, hfz22_0, hfz22_1, hfz22_2, hfz22_3⟩ := blkC4 BK655.out
  go_wp2_with (first | ((with_reducible refine gate_dst (N := 32) rfl ?_); (try (refine gate_guard dq31 ?_; dsimp only)); refine Kd.R_lit Kd.string _ 9 ?hg (N := 32) ?hd (xs := ([] : List ByteArray)) (inner := []) (ok := fun _ => True) (okp := fun _ => True) ?hr ?hp (fun _ hk => hk) trivial (Below.refl _ _) (Nat.le_refl _) dq15 ?_; (case hd => rfl); (case hg => rfl); (case hr => exact dq0); (case hp => exact (Reps.none _ _)); intro v666 w23 ho24 hb hg_ hnew_; clear hg_ hnew_; (first | rw [← Ny665.out] at ho24 | (simp only [Int.reduceToNat] at ho24; rw [← Ny665.out] at ho24)); have HO667 := Zq.i (Kd.R_lower ho24 (below_size dq107)); replace BK655 := Zq.i (blk_below (g := gb655) (o := .cells #[.int .i64 ((rd_T42 l0 a1).f0), .string ((rd_T42 l0 a1).f1), .slice A654_2 ((rd_T42 l0 a1).f2).length c654_2, .int .i64 ((rd_T42 l0 a1).f3)] 42 (0, 0)) dq109 hb); replace HB := Zq.i (below_step dq107 hb); clear hb ho24))
  go_loopg [6, 7] kj4 (fun kq v6 v7 w' => ∃ (x6_2 : List ByteArray) (x7_2 : Int), v7 = .int .i64 x7_2 ∧ Zq (spec_l8Short.l0 kq l0 x6_2 x7_2 ((rd_T42 l0 a1).f0) ((rd_T42 l0 a1).f1) ((rd_T42 l0 a1).f2) ((rd_T42 l0 a1).f3) = some r) ∧ Zq (kq ≤ kj4) ∧ Zq (Kd.R Kd.string 9 w' w.heap.size (fun _ => True) v6 x6_2) ∧ Zq (w'.heap[gb655]? = some (.cells #[.int .i64 ((rd_T42 l0 a1).f0), .string ((rd_T42 l0 a1).f1), (.slice A654_2 ((rd_T42 l0 a1).f2).length c654_2), .int .i64 ((rd_T42 l0 a1).f3)] 42 (0, 0))) ∧ Zq (Below w.heap.size w w'))
  case atStart => exact ⟨(y665), (0), dq14, H', ⟨Nat.le_refl _⟩, ⟨by (with_reducible repeat (first | apply Kd.R_alloc | apply Kd.R_drewN | apply Kd.R_drew)); exact HO667.out⟩, ⟨dq109⟩, ⟨dq107⟩⟩
  clear H'
  try clear c14
  try clear c14b0
  try clear c14b1
  try clear c18
  try clear c18b0
  try clear c18b1
  try clear hcz22_0
  try clear hcz22_1
  try clear hcz22_2
  try clear hcz22_3
  try clear hfz22_0
  try clear hfz22_1
  try clear hfz22_2
  try clear hfz22_3
  obtain ⟨x6_2, x7_2, rfl, HA, HK2, HO_6, BK655, HB⟩ := hrel
  cases gk with
  | zero => exact absurd HA.out (by simp [spec_l8Short.l0])
  | succ k2 =>
   have H := HA.out
   clear HA
   simp only [spec_l8Short.l0] at H
   by_cases c25 : x7_2 < (((rd_T42 l0 a1).f2).length : Int)
   rotate_left
   ·rw [if_neg c25] at H
    have c25b0 := dF c25
    clear c25
    obtain rfl := oI H
    obtain ⟨⟨hcz50_0, hcz50_1, hcz50_2, hcz50_3⟩, hfz50_0, hfz50_1, hfz50_2, hfz50_3⟩ := blkC4 BK655.out
    go_wp2
    go_ret
    exact ⟨_, dq21, dq83, dq107⟩
   rw [if_pos c25] at H
   have c25b0 := dT c25
   clear c25
   by_cases c26 : 0 ≤ x7_2
   rotate_left
   ·rw [if_neg c26] at H
    exact absurd H dq15
   rw [if_pos c26] at H
   have c26b0 := dT c26
   clear c26
   replace H := bM H
   obtain ⟨t669, A270, H⟩ := H
   try dsimp only at H
   have A27 := Zq.i A270
   clear A270
   by_cases c28 : ((rd_T42 l0 a1).f0) = 2
   ·rw [if_pos c28] at H
    have c28b0 := bE c28
    have c28b1 := bQ c28
    clear c28
    by_cases c29 : x6_2.length + t669.length < 8796093022208
    rotate_left
    ·rw [if_neg c29] at H
     exact absurd H dq15
    rw [if_pos c29] at H
    have LMc29 := Zq.i c29
    clear c29
    obtain ⟨y672, hy672⟩ : ∃ y_ : List ByteArray, y_ = (x6_2 ++ t669) := ⟨_, rfl⟩
    replace H : (spec_l8Short.l0 k2 l0 y672 (wrap64 (x7_2 + 1)) ((rd_T42 l0 a1).f0) ((rd_T42 l0 a1).f1) ((rd_T42 l0 a1).f2) ((rd_T42 l0 a1).f3)) = some r := by first | (rw [hy672]; with_reducible exact H) | (have H2_ := oS H; rw [hy672]; with_reducible exact H2_) | (have H2_ := oS H; with_reducible exact H2_) | with_reducible exact H | (rw [hy672]; exact H) | exact H
    have Ny672 := Zq.i hy672
    clear hy672
    have H' := Zq.i H
    clear H
    obtain ⟨⟨hcz30_0, hcz30_1, hcz30_2, hcz30_3⟩, hfz30_0, hfz30_1, hfz30_2, hfz30_3⟩ := blkC4 BK655.out
    have p668 : 0 ≤ (x7_2 : Int) := oT dq22
    have q668 : x7_2 < (((rd_T42 l0 a1).f2).length : Int) := oT dq22
    obtain ⟨ad668, e668, hx668_0⟩ := Kd.at_int HR654_2.out x7_2 p668 q668
    cases e668
    replace hx668_0 := (HB.out.cell (bC w _ hx668_0)).trans hx668_0
    replace p668 := eq_true p668
    replace q668 := eq_true q668
    go_wp2_with (first | ((with_reducible refine gate_callee (f := 75) rfl ?_); refine goesL_ (some 46) rfl rfl Try.func75 dq24 rfl #[.slice (some ad654) l0.length c0, .int .i64 (rd ((rd_T42 l0 a1).f2) x7_2)] rfl dq23 ?_; (with_reducible refine (ih k2 dq63 _ _ l0 (rd ((rd_T42 l0 a1).f2) x7_2) t669 _ ?side1 ?side2 A27.out).mono ?_); (case side1 => exact dq5); (case side2 => exact dq4); rintro e w31 ⟨v670, rfl, ho0, hb⟩; refine ⟨_, rfl, ?_⟩; have HO671 := Zq.i (Kd.R_lower (Kd.R_new' ho0 (Kd.R_lt dq83)) (below_size dq107)); replace HO_6 := Zq.i (Kd.R_elder' dq83 (Kd.R_base ho0) hb); replace BK655 := Zq.i (blk_below (g := gb655) (o := .cells #[.int .i64 ((rd_T42 l0 a1).f0), .string ((rd_T42 l0 a1).f1), .slice (some ad668) ((rd_T42 l0 a1).f2).length c654_2, .int .i64 ((rd_T42 l0 a1).f3)] 42 (0, 0)) dq109 hb); replace HB := Zq.i (below_step dq107 hb); (try clear hb ho0); obtain ⟨⟨hcz32_0, hcz32_1, hcz32_2, hcz32_3⟩, hfz32_0, hfz32_1, hfz32_2, hfz32_3⟩ := blkC4 BK655.out; obtain ⟨Ao34, co34, eo34⟩ := Kd.R_slice HO671.out; subst eo34) | ((with_reducible refine gate_builtin (b := .append) (xs := #[.tmp 50, .tmp 51]) rfl ?_); (try (refine gate_guard dq31 ?_; dsimp only)); at_builtin; refine Kd.R_append_rows Kd.string (w0 := w) w.heap.size rfl (.tmp 50) (.tmp 51) 30 9 (.string ⟨#[]⟩) 16 rfl Try.underlying30 info9 rfl dq25 dq28 u6 x6_2 t669 _ _ _ (fun k_ => some k_ ≠ (.slice Ao34 t669.length co34 : Value).ownBlock) (fun _ => False) rfl rfl ?aO ?aR (fun _ _ h => h) (fun _ h => h.elim) ?aF ?aB ?aS ?aL ?_; (case aR => repeat (first | exact (Kd.R_reads' HO671.out).2.2 | (with_reducible refine Kd.C_alloc ?_ _) | (with_reducible refine Kd.C_drewN ?_ _) | (with_reducible refine Kd.C_drew ?_))); (case aB => exact dq107); (case aF => exact (fun k_ hk => Kd.fresh' (Kd.R_lt (by (with_reducible repeat (first | apply Kd.R_alloc | apply Kd.R_drewN | apply Kd.R_drew)); exact HO671.out)) k_ hk)); (case aO => exact dq104); (case aS => exact (below_size dq107)); (case aL => have := LMc29.out; omega); intro v673 w33 ho hb hg hat; rw [← Ny672.out] at ho; replace BK655 := Zq.i (blk_grown (g := gb655) (o := .cells #[.int .i64 ((rd_T42 l0 a1).f0), .string ((rd_T42 l0 a1).f1), .slice (some ad668) ((rd_T42 l0 a1).f2).length c654_2, .int .i64 ((rd_T42 l0 a1).f3)] 42 (0, 0)) dq109 hg (Kd.R_ne HO_6.out BK655.out dq25)); replace HO671 := Zq.i (Kd.R_after (ok := (fun _ => True)) (by (with_reducible repeat (first | apply Kd.R_alloc | apply Kd.R_drewN | apply Kd.R_drew)); exact HO671.out) hg hat); replace HB := Zq.i (hb); have HO674 := Zq.i (ho); clear HO_6; clear ho hb hg hat))
    go_roundg k2
    case measure => have := HJ4.out; have := HK2.out; omega
    case rel => exact ⟨(y672), (wrap64 (x7_2 + 1)), dq14, H', ⟨dq63⟩, ⟨by (with_reducible repeat (first | apply Kd.R_alloc | apply Kd.R_drewN | apply Kd.R_drew)); exact Kd.R_mono HO674.out (fun _ hk => trivial)⟩, ⟨dq109⟩, ⟨dq107⟩⟩
   rw [if_neg c28] at H
   have c28b0 := bN c28
   have c28b1 := bO c28
   by_cases c35 : x7_2 = 0
   ·rw [if_pos c35] at H
    have c35b0 := bE c35
    have c35b1 := bQ c35
    clear c35
    have H' := Zq.i H
    clear H
    obtain ⟨⟨hcz36_0, hcz36_1, hcz36_2, hcz36_3⟩, hfz36_0, hfz36_1, hfz36_2, hfz36_3⟩ := blkC4 BK655.out
    have p668 : 0 ≤ (x7_2 : Int) := oT dq22
    have q668 : x7_2 < (((rd_T42 l0 a1).f2).length : Int) := oT dq22
    obtain ⟨ad668, e668, hx668_0⟩ := Kd.at_int HR654_2.out x7_2 p668 q668
    cases e668
    replace hx668_0 := (HB.out.cell (bC w _ hx668_0)).trans hx668_0
    replace p668 := eq_true p668
    replace q668 := eq_true q668
    go_wp2_with (first | ((with_reducible refine gate_callee (f := 75) rfl ?_); refine goesL_ (some 46) rfl rfl Try.func75 dq24 rfl #[.slice (some ad654) l0.length c0, .int .i64 (rd ((rd_T42 l0 a1).f2) x7_2)] rfl dq23 ?_; (with_reducible refine (ih k2 dq63 _ _ l0 (rd ((rd_T42 l0 a1).f2) x7_2) t669 _ ?side1 ?side2 A27.out).mono ?_); (case side1 => exact dq5); (case side2 => exact dq4); rintro e w37 ⟨v670, rfl, ho0, hb⟩; refine ⟨_, rfl, ?_⟩; have HO671 := Zq.i (Kd.R_lower (Kd.R_new' ho0 (Kd.R_lt dq83)) (below_size dq107)); replace HO_6 := Zq.i (Kd.R_elder' dq83 (Kd.R_base ho0) hb); replace BK655 := Zq.i (blk_below (g := gb655) (o := .cells #[.int .i64 ((rd_T42 l0 a1).f0), .string ((rd_T42 l0 a1).f1), .slice (some ad668) ((rd_T42 l0 a1).f2).length c654_2, .int .i64 ((rd_T42 l0 a1).f3)] 42 (0, 0)) dq109 hb); replace HB := Zq.i (below_step dq107 hb); (try clear hb ho0); obtain ⟨⟨hcz38_0, hcz38_1, hcz38_2, hcz38_3⟩, hfz38_0, hfz38_1, hfz38_2, hfz38_3⟩ := blkC4 BK655.out))
    go_roundg k2
    case measure => have := HJ4.out; have := HK2.out; omega
    case rel => exact ⟨(t669), (wrap64 (x7_2 + 1)), dq14, H', ⟨dq63⟩, ⟨dq110⟩, ⟨dq109⟩, ⟨dq107⟩⟩
   rw [if_neg c35] at H
   have c35b0 := bN c35
   have c35b1 := bO c35
   by_cases c39 : (t669.length : Int) < (x6_2.length : Int)
   ·rw [if_pos c39] at H
    have c39b0 := dT c39
    have c39b1 : decide (t669.length < x6_2.length) = true := dT (Int.ofNat_lt.mp c39)
    clear c39
    have H' := Zq.i H
    clear H
    obtain ⟨⟨hcz40_0, hcz40_1, hcz40_2, hcz40_3⟩, hfz40_0, hfz40_1, hfz40_2, hfz40_3⟩ := blkC4 BK655.out
    have p668 : 0 ≤ (x7_2 : Int) := oT dq22
    have q668 : x7_2 < (((rd_T42 l0 a1).f2).length : Int) := oT dq22
    obtain ⟨ad668, e668, hx668_0⟩ := Kd.at_int HR654_2.out x7_2 p668 q668
    cases e668
    replace hx668_0 := (HB.out.cell (bC w _ hx668_0)).trans hx668_0
    replace p668 := eq_true p668
    replace q668 := eq_true q668
    go_wp2_with (first | ((with_reducible refine gate_callee (f := 75) rfl ?_); refine goesL_ (some 46) rfl rfl Try.func75 dq24 rfl #[.slice (some ad654) l0.length c0, .int .i64 (rd ((rd_T42 l0 a1).f2) x7_2)] rfl dq23 ?_; (with_reducible refine (ih k2 dq63 _ _ l0 (rd ((rd_T42 l0 a1).f2) x7_2) t669 _ ?side1 ?side2 A27.out).mono ?_); (case side1 => exact dq5); (case side2 => exact dq4); rintro e w41 ⟨v670, rfl, ho0, hb⟩; refine ⟨_, rfl, ?_⟩; have HO671 := Zq.i (Kd.R_lower (Kd.R_new' ho0 (Kd.R_lt dq83)) (below_size dq107)); replace HO_6 := Zq.i (Kd.R_elder' dq83 (Kd.R_base ho0) hb); replace BK655 := Zq.i (blk_below (g := gb655) (o := .cells #[.int .i64 ((rd_T42 l0 a1).f0), .string ((rd_T42 l0 a1).f1), .slice (some ad668) ((rd_T42 l0 a1).f2).length c654_2, .int .i64 ((rd_T42 l0 a1).f3)] 42 (0, 0)) dq109 hb); replace HB := Zq.i (below_step dq107 hb); (try clear hb ho0); obtain ⟨⟨hcz42_0, hcz42_1, hcz42_2, hcz42_3⟩, hfz42_0, hfz42_1, hfz42_2, hfz42_3⟩ := blkC4 BK655.out; obtain ⟨Ao43, co43, eo43⟩ := Kd.R_slice HO671.out; subst eo43; obtain ⟨Ao44, co44, eo44⟩ := Kd.R_slice HO_6.out; subst eo44))
    go_roundg k2
    case measure => have := HJ4.out; have := HK2.out; omega
    case rel => exact ⟨(t669), (wrap64 (x7_2 + 1)), dq14, H', ⟨dq63⟩, ⟨dq110⟩, ⟨dq109⟩, ⟨dq107⟩⟩
   rw [if_neg c39] at H
   have c39b0 := dF c39
   have c39b1 : decide (t669.length < x6_2.length) = false := dF (fun h => c39 (Int.ofNat_lt.mpr h))
   clear c39
   have H' := Zq.i H
   clear H
   obtain ⟨⟨hcz45_0, hcz45_1, hcz45_2, hcz45_3⟩, hfz45_0, hfz45_1, hfz45_2, hfz45_3⟩ := blkC4 BK655.out
   have p668 : 0 ≤ (x7_2 : Int) := oT dq22
   have q668 : x7_2 < (((rd_T42 l0 a1).f2).length : Int) := oT dq22
   obtain ⟨ad668, e668, hx668_0⟩ := Kd.at_int HR654_2.out x7_2 p668 q668
   cases e668
   replace hx668_0 := (HB.out.cell (bC w _ hx668_0)).trans hx668_0
   replace p668 := eq_true p668
   replace q668 := eq_true q668
   go_wp2_with (first | ((with_reducible refine gate_callee (f := 75) rfl ?_); refine goesL_ (some 46) rfl rfl Try.func75 dq24 rfl #[.slice (some ad654) l0.length c0, .int .i64 (rd ((rd_T42 l0 a1).f2) x7_2)] rfl dq23 ?_; (with_reducible refine (ih k2 dq63 _ _ l0 (rd ((rd_T42 l0 a1).f2) x7_2) t669 _ ?side1 ?side2 A27.out).mono ?_); (case side1 => exact dq5); (case side2 => exact dq4); rintro e w46 ⟨v670, rfl, ho0, hb⟩; refine ⟨_, rfl, ?_⟩; have HO671 := Zq.i (Kd.R_lower (Kd.R_new' ho0 (Kd.R_lt dq83)) (below_size dq107)); replace HO_6 := Zq.i (Kd.R_elder' dq83 (Kd.R_base ho0) hb); replace BK655 := Zq.i (blk_below (g := gb655) (o := .cells #[.int .i64 ((rd_T42 l0 a1).f0), .string ((rd_T42 l0 a1).f1), .slice (some ad668) ((rd_T42 l0 a1).f2).length c654_2, .int .i64 ((rd_T42 l0 a1).f3)] 42 (0, 0)) dq109 hb); replace HB := Zq.i (below_step dq107 hb); (try clear hb ho0); obtain ⟨⟨hcz47_0, hcz47_1, hcz47_2, hcz47_3⟩, hfz47_0, hfz47_1, hfz47_2, hfz47_3⟩ := blkC4 BK655.out; obtain ⟨Ao48, co48, eo48⟩ := Kd.R_slice HO671.out; subst eo48; obtain ⟨Ao49, co49, eo49⟩ := Kd.R_slice HO_6.out; subst eo49))
   go_roundg k2
   case measure => have := HJ4.out; have := HK2.out; omega
   case rel => exact ⟨(x6_2), (wrap64 (x7_2 + 1)), dq14, H', ⟨dq63⟩, ⟨dq105⟩, ⟨dq109⟩, ⟨dq107⟩⟩

/-! ### spec_Sample: function 38 -/
def spec_Sample.f (k : Nat) (l0 : List (S42)) : Option (List ByteArray × Bool) := (spec_ParticleOk.f k l0).bind fun t675 => (if t675 = true then ((spec_l8Short.f k l0 (wrap64 ((l0.length : Int) - 1))).bind fun t676 => (some (t676, true))) else (some (([] : List ByteArray), false)))
theorem spec_Sample.calls (k : Nat) (A0 : Option Addr) (c0 : Nat) (l0 : List (S42)) (r1 : List ByteArray) (r2 : Bool) (w : World) (hr0 : Kd.C k42 w A0 l0.length l0) (hc0 : l0.length ≤ c0) (h : spec_Sample.f k l0 = some (r1, r2)) :
  Calls Try.prog 38 #[.slice A0 l0.length c0] w fun e w' => ∃ v0_ : Value, e = .returned (.tuple #[v0_, .bool r2]) ∧ Kd.R Kd.string 9 w' w.heap.size (fun _ => True) v0_ r1 ∧ Below w.heap.size w w' := by
 have HR0 := Zq.i hr0
 have HC0 := Zq.i hc0
 clear hr0 hc0
 have HB := Zq.i (Below.refl w.heap.size w)
 have H := h
 unfold spec_Sample.f at H
 clear h
 replace H := bM H
 obtain ⟨t675, A20, H⟩ := H
 try dsimp only at H
 have A2 := Zq.i A20
 clear A20
 by_cases c3 : t675 = true
 rotate_left
 ·replace c3 := Bool.eq_false_iff.mpr c3
  subst c3
  rw [iN] at H
  obtain ⟨rfl, rfl⟩ := oP H
  go_enter Try.func38, Try.ntmps38
  go_wp2_with (first | ((with_reducible refine gate_callee (f := 41) rfl ?_); refine goesL_ (some 5) rfl rfl Try.func41 dq24 rfl #[.slice A0 l0.length c0] rfl dq23 ?_; (with_reducible refine (spec_ParticleOk.calls k _ _ l0 false _ ?side1 ?side2 A2.out).mono ?_); (case side1 => exact dq3); (case side2 => exact dq4); rintro e w7 ⟨rfl, hb⟩; refine ⟨_, rfl, ?_⟩; replace HB := Zq.i (below_step dq17 hb); (try clear hb)))
  go_ret2
  exact ⟨_, dq21, dq106, dq17⟩
 subst c3
 rw [if_pos rfl] at H
 replace H := bM H
 obtain ⟨t676, A40, H⟩ := H
 try dsimp only at H
 have A4 := Zq.i A40
 clear A40
 obtain ⟨rfl, rfl⟩ := oP H
 go_enter Try.func38, Try.ntmps38
 go_wp2_with (first | ((with_reducible refine gate_callee (f := 41) rfl ?_); refine goesL_ (some 5) rfl rfl Try.func41 dq24 rfl #[.slice A0 l0.length c0] rfl dq23 ?_; (with_reducible refine (spec_ParticleOk.calls k _ _ l0 true _ ?side1 ?side2 A2.out).mono ?_); (case side1 => exact dq3); (case side2 => exact dq4); rintro e w5 ⟨rfl, hb⟩; refine ⟨_, rfl, ?_⟩; replace HB := Zq.i (below_step dq17 hb); (try clear hb)) | ((with_reducible refine gate_callee (f := 75) rfl ?_); refine goesL_ (some 11) rfl rfl Try.func75 dq24 rfl #[.slice A0 l0.length c0, .int .i64 (wrap64 ((l0.length : Int) - 1))] rfl dq23 ?_; (with_reducible refine (spec_l8Short.calls k _ _ l0 (wrap64 ((l0.length : Int) - 1)) t676 _ ?side1 ?side2 A4.out).mono ?_); (case side1 => exact dq5); (case side2 => exact dq4); rintro e w6 ⟨v677, rfl, ho0, hb⟩; refine ⟨_, rfl, ?_⟩; have HO678 := Zq.i (Kd.R_lower ho0 (below_size dq17)); replace HB := Zq.i (below_step dq17 hb); (try clear hb ho0)))
 go_ret2
 exact ⟨_, dq21, by (with_reducible repeat (first | apply Kd.R_alloc | apply Kd.R_drewN | apply Kd.R_drew)); exact HO678.out, dq17⟩

/-! ### laws_sameTexts: function 39 -/
def laws_sameTexts.l0 : Nat → List ByteArray → List ByteArray → Int → Option (Bool)
 | 0, _, _, _ => none
 | k + 1, x0, x1, x5 => if x5 < (x0.length : Int) then (if 0 ≤ x5 then (if x5 < (x1.length : Int) then (if (rdOf ByteArray.empty x0 x5).toList = (rdOf ByteArray.empty x1 x5).toList then (laws_sameTexts.l0 k x0 x1 (wrap64 (x5 + 1))) else (some false)) else (none)) else (none)) else (some true)
def laws_sameTexts.f (k : Nat) (l0 : List ByteArray) (l1 : List ByteArray) : Option (Bool) := if (l0.length : Int) = (l1.length : Int) then (laws_sameTexts.l0 k l0 l1 0) else (some false)
theorem laws_sameTexts.calls (k : Nat) (A0 : Option Addr) (c0 : Nat) (l0 : List ByteArray) (A1 : Option Addr) (c1 : Nat) (l1 : List ByteArray) (r : Bool) (w : World) (hr0 : Kd.C Kd.string w A0 l0.length l0) (hc0 : l0.length ≤ c0) (hr1 : Kd.C Kd.string w A1 l1.length l1) (hc1 : l1.length ≤ c1) (h : laws_sameTexts.f k l0 l1 = some r) :
  Calls Try.prog 39 #[.slice A0 l0.length c0, .slice A1 l1.length c1] w fun e w' => e = .returned (.bool r) ∧ Drawn0 w w' := by
 have HR0 := Zq.i hr0
 have HC0 := Zq.i hc0
 clear hr0 hc0
 have HR1 := Zq.i hr1
 have HC1 := Zq.i hc1
 clear hr1 hc1
 have H := h
 unfold laws_sameTexts.f at H
 clear h
 by_cases c3 : (l0.length : Int) = (l1.length : Int)
 rotate_left
 ·rw [if_neg c3] at H
  have c3b0 := bN c3
  have c3b1 := bO c3
  have c3b2 : (l0.length == l1.length) = false := by first | simpa using c3 | (simp at c3 ⊢; omega)
  obtain rfl := oI H
  go_enter Try.func39, Try.ntmps39
  go_wp2
  repeat (go_quiet (fail); try go_wp2)
  go_ret
  exact ⟨dq14, dq13⟩
 rw [if_pos c3] at H
 have c3b0 := bE c3
 have c3b1 := bQ c3
 have c3b2 : (l0.length == l1.length) = true := by first | simpa using c3 | (simp at c3 ⊢; omega)
 clear c3
 have H' := Zq.i H
 clear H
 go_enter Try.func39, Try.ntmps39
 go_wp2
 repeat (go_quiet (fail); try go_wp2)
 go_loopg [5] k (fun kq v5 w' => ∃ (x5_1 : Int), v5 = .int .i64 x5_1 ∧ Zq (laws_sameTexts.l0 kq l0 l1 x5_1 = some r) ∧ Zq (kq ≤ k) ∧ Drawn0 w w')
 case atStart => exact ⟨(0), dq14, H', ⟨Nat.le_refl _⟩, dq13⟩
 clear H'
 try clear c1
 try clear p2
 try clear c3
 try clear c3b0
 try clear c3b1
 try clear c3b2
 obtain ⟨x5_1, rfl, HA, HK1, ⟨m1, rfl⟩⟩ := hrel
 cases gk with
 | zero => exact absurd HA.out (by simp [laws_sameTexts.l0])
 | succ k1 =>
  have H := HA.out
  clear HA
  simp only [laws_sameTexts.l0] at H
  by_cases c4 : x5_1 < (l0.length : Int)
  rotate_left
  ·rw [if_neg c4] at H
   have c4b0 := dF c4
   clear c4
   obtain rfl := oI H
   go_wp2
   repeat (go_quiet (fail); try go_wp2)
   go_ret
   exact ⟨dq14, dq13⟩
  rw [if_pos c4] at H
  have c4b0 := dT c4
  clear c4
  by_cases c5 : 0 ≤ x5_1
  rotate_left
  ·rw [if_neg c5] at H
   exact absurd H dq15
  rw [if_pos c5] at H
  have c5b0 := dT c5
  clear c5
  by_cases c6 : x5_1 < (l1.length : Int)
  rotate_left
  ·rw [if_neg c6] at H
   exact absurd H dq15
  rw [if_pos c6] at H
  have c6b0 := dT c6
  clear c6
  by_cases c7 : (rdOf ByteArray.empty l0 x5_1).toList = (rdOf ByteArray.empty l1 x5_1).toList
  rotate_left
  ·rw [if_neg c7] at H
   have c7b0 := bN c7
   have c7b1 := bO c7
   obtain rfl := oI H
   have p679 : 0 ≤ (x5_1 : Int) := oT dq22
   have q679 : x5_1 < (l0.length : Int) := oT dq22
   obtain ⟨ad679, e679, hx679_0⟩ := Kd.at_string HR0.out x5_1 p679 q679
   cases e679
   replace p679 := eq_true p679
   replace q679 := eq_true q679
   have p680 : 0 ≤ (x5_1 : Int) := oT dq22
   have q680 : x5_1 < (l1.length : Int) := oT dq22
   obtain ⟨ad680, e680, hx680_0⟩ := Kd.at_string HR1.out x5_1 p680 q680
   cases e680
   replace p680 := eq_true p680
   replace q680 := eq_true q680
   go_wp2
   repeat (go_quiet (fail); try go_wp2)
   go_ret
   exact ⟨dq14, dq13⟩
  rw [if_pos c7] at H
  have c7b0 := bE c7
  have c7b1 := bQ c7
  clear c7
  have H' := Zq.i H
  clear H
  have p679 : 0 ≤ (x5_1 : Int) := oT dq22
  have q679 : x5_1 < (l0.length : Int) := oT dq22
  obtain ⟨ad679, e679, hx679_0⟩ := Kd.at_string HR0.out x5_1 p679 q679
  cases e679
  replace p679 := eq_true p679
  replace q679 := eq_true q679
  have p680 : 0 ≤ (x5_1 : Int) := oT dq22
  have q680 : x5_1 < (l1.length : Int) := oT dq22
  obtain ⟨ad680, e680, hx680_0⟩ := Kd.at_string HR1.out x5_1 p680 q680
  cases e680
  replace p680 := eq_true p680
  replace q680 := eq_true q680
  go_wp2
  repeat (go_quiet (fail); try go_wp2)
  go_roundg k1
  case measure => have := HK1.out; omega
  case rel => exact ⟨(wrap64 (x5_1 + 1)), dq14, H', ⟨dq27⟩, dq13⟩

end Go.Proofs.Ytajdfbgbkgabjaa.L

namespace Go.Proofs.Ytajdfbgbkgabjaa.L
open Go.RowKit YtajdfbgbkgabjaaW.PrintWords YtajdfbgbkgabjaaW.PrintLast YtajdfbgbkgabjaaW.PrintMore

set_option maxHeartbeats 1000000 in
set_option maxRecDepth 100000 in
theorem clone_ints (A0 : Option Addr) (c0 : Nat) (l0 : List Int) (w : World) (hr0 : Kd.C (Kd.int .i64) w A0 l0.length l0) (hc0 : l0.length ≤ c0) (c : l0.length < 8796093022208) :
  Calls Try.prog 81 #[.slice A0 l0.length c0] w fun e w' => ∃ v0_ : Value, e = .returned (v0_) ∧ Kd.R (Kd.int .i64) 2 w' w.heap.size (fun _ => True) v0_ l0 ∧ Below w.heap.size w w' := by
 have HL := Zq.i c
 have HR := Zq.i hr0
 have HB := Zq.i (Below.refl w.heap.size w)
 clear c
 cases A0 with
 | none =>
  have hz : l0 = [] := by
   cases l0 with
   | nil => rfl
   | cons x t =>
    obtain ⟨ad, e, _⟩ := hr0.2.2 (by simp)
    cases e
  subst hz
  clear hr0
  have he := fun w' : World => Lib.run_eql_slice_nil w' 33 2 none 0 c0 0 0 Try.underlying33
  simp only [List.length_nil]
  go_enter Try.func81, Try.ntmps81
  go_wp2
  go_ret
  exact ⟨_, rfl, Kd.R_nil _ _ _ _ _, by repeat (first | (with_reducible first | exact HB.out | apply below_alloc | apply pw_below_drewN | apply below_drew1) | exact HB.out)⟩
 | some ad =>
  clear hr0
  have he := fun w' : World => Lib.run_eql_slice_nil w' 33 2 (some ad) l0.length c0 0 0 Try.underlying33
  go_enter Try.func81, Try.ntmps81
  go_wp2_with (first | ((with_reducible refine gate_dst (N := 5) rfl ?_); refine Kd.R_lit (Kd.int .i64) _ 2 ?hg (N := 5) ?hd (xs := ([] : List Int)) (inner := []) (ok := fun _ => True) (okp := fun _ => True) ?hr ?hp (fun _ hk => hk) trivial (Below.refl _ _) (Nat.le_refl _) (by simp) ?_; (case hd => rfl); (case hg => rfl); (case hr => first | (go_simp; done) | (go_simp; rfl)); (case hp => exact (Reps.none _ _)); intro v109 w3 ho4 hb hg_ hnew_; clear hg_ hnew_; have n0_ := Zq.i (Kd.R_lower ho4 (below_size (by repeat (first | (with_reducible first | exact HB.out | apply below_alloc | apply pw_below_drewN | apply below_drew1) | exact HB.out)))); have n1_ := Zq.i (below_step (by repeat (first | (with_reducible first | exact HB.out | apply below_alloc | apply pw_below_drewN | apply below_drew1) | exact HB.out)) hb); clear HB; have HO := n0_; have HB := n1_; clear n0_ n1_; clear hb ho4) | ((with_reducible refine gate_builtin (b := .append) (xs := #[.tmp 5, .tmp 6]) rfl ?_); at_builtin; refine Kd.R_append_rows (Kd.int .i64) (w0 := w) w.heap.size rfl (.tmp 5) (.tmp 6) 33 2 (.int .i64 0) 8 rfl Try.underlying33 info2 rfl (by decide) (by omega) v109 [] l0 _ _ _ (fun _ => True) (fun _ => False) rfl rfl ?aO ?aR (fun _ _ h => h) (fun _ h => h.elim) (fun _ _ => trivial) ?aB ?aS ?aL ?_; (case aO => exact HO.out); (case aR => exact Kd.C_below HR.out HB.out); (case aB => exact (by repeat (first | (with_reducible first | exact HB.out | apply below_alloc | apply pw_below_drewN | apply below_drew1) | exact HB.out))); (case aS => exact HB.out.size); (case aL => have := HL.out; simp; omega); intro v1 w11 ho hb hg hat; have n0_ := Zq.i hb; have n1_ := Zq.i ho; clear HB HO; have HB := n0_; have HO := n1_; clear n0_ n1_ ho hb hg hat))
  go_ret
  exact ⟨_, rfl, HO.out, by repeat (first | (with_reducible first | exact HB.out | apply below_alloc | apply pw_below_drewN | apply below_drew1) | exact HB.out)⟩
structure Fix where
 w0 : World
 X : Nat
 gb : Nat
 pv : Value
 nv : Value
 fv : Value
 lv : Value
 wv : Value
 vf : Value
 vl : Value
 ms : List Nat
 N : NetV
 nb : Bool
 fi : List Int
 la : List Int
 bx : Obj
structure S23 (F : Fix) (e12 e13 e19 e20 e26 e27 e30 e33 e36 : Bool) (g12 g19 g26 : Nat) (v13 v20 v27 : Value) (own : Tags) (w : World) : Prop where
 x : w.heap[F.X]? = some (.cells #[F.pv, bif e30 then v13 else F.nv, bif e33 then v20 else F.fv, bif e36 then v27 else F.lv, F.wv] 89 (0, 0))
 xb : F.w0.heap.size ≤ F.X
 xo : own F.X = 7
 n : Kd.bool.R 4 w F.w0.heap.size (fun k => own k = 1) (bif e13 then v13 else F.nv) (bif e13 then F.N.nul ++ [F.nb] else F.N.nul)
 f : krow.R 33 w F.w0.heap.size (fun k => own k = 2) (bif e20 then v20 else F.fv) (bif e20 then F.N.fst ++ [F.fi] else F.N.fst)
 l : krow.R 33 w F.w0.heap.size (fun k => own k = 3) (bif e27 then v27 else F.lv) (bif e27 then F.N.lst ++ [F.la] else F.N.lst)
 wv_ : kmap.R 96 w F.w0.heap.size (fun k => own k = 4) F.wv F.ms
 m : MapsW w F.w0.heap.size own F.ms F.N.fol
 rf : e20 = false → Kd.R (Kd.int .i64) 2 w F.w0.heap.size (fun k => own k = 5) F.vf F.fi
 rl : e27 = false → Kd.R (Kd.int .i64) 2 w F.w0.heap.size (fun k => own k = 6) F.vl F.la
 k12 : e12 = true → e13 = false → w.heap[g12]? = some (.cells #[.bool F.nb] 4 (0, 0)) ∧ own g12 = 0
 k19 : e19 = true → e20 = false → w.heap[g19]? = some (.cells #[F.vf] 33 (0, 0)) ∧ own g19 = 0
 k26 : e26 = true → e27 = false → w.heap[g26]? = some (.cells #[F.vl] 33 (0, 0)) ∧ own g26 = 0
 box : w.heap[F.gb]? = some F.bx
 bo : own F.gb = 0
 low : Below F.w0.heap.size F.w0 w
section
variable {F : Fix} {e12 e13 e19 e20 e26 e27 e30 e33 e36 : Bool} {g12 g19 g26 : Nat} {v13 v20 v27 : Value} {own own' : Tags} {w w1 : World}
theorem S23.net (h : S23 F true true true true true true true true true g12 g19 g26 v13 v20 v27 own w) : NetW w F.w0.heap.size F.X own F.pv v13 v20 v27 F.wv ⟨F.N.nul ++ [F.nb], F.N.fst ++ [F.fi], F.N.lst ++ [F.la], F.N.fol⟩ F.ms :=
 ⟨h.x, h.xb, h.xo, h.n, h.f, h.l, h.wv_, h.m⟩
theorem S23.quiet (h : S23 F e12 e13 e19 e20 e26 e27 e30 e33 e36 g12 g19 g26 v13 v20 v27 own w) (st : Stp w w1 own own' (fun _ => False)) (hb : Below w.heap.size w w1) : S23 F e12 e13 e19 e20 e26 e27 e30 e33 e36 g12 g19 g26 v13 v20 v27 own' w1 :=
 ⟨(st.block h.x (fun h => h)).1, h.xb, (st.block h.x (fun h => h)).2.trans h.xo, st.row h.n (fun h => h), st.row h.f (fun h => h), st.row h.l (fun h => h), st.row h.wv_ (fun h => h), st.maps h.m (fun h => h), fun e => st.row (h.rf e) (fun h => h), fun e => st.row (h.rl e) (fun h => h),
  fun e e' => ⟨(st.block (h.k12 e e').1 (fun h => h)).1, (st.block (h.k12 e e').1 (fun h => h)).2.trans (h.k12 e e').2⟩, fun e e' => ⟨(st.block (h.k19 e e').1 (fun h => h)).1, (st.block (h.k19 e e').1 (fun h => h)).2.trans (h.k19 e e').2⟩, fun e e' => ⟨(st.block (h.k26 e e').1 (fun h => h)).1, (st.block (h.k26 e e').1 (fun h => h)).2.trans (h.k26 e e').2⟩,
  (st.block h.box (fun h => h)).1, (st.block h.box (fun h => h)).2.trans h.bo, below_step h.low hb⟩
theorem S23.b12 (h : S23 F e12 e13 e19 e20 e26 e27 e30 e33 e36 g12 g19 g26 v13 v20 v27 own w) {g : Nat} (hg : g = w.heap.size) (hk : w1.heap[g]? = some (.cells #[.bool F.nb] 4 (0, 0))) (hb : Below w.heap.size w w1) :
  ∃ own', S23 F true e13 e19 e20 e26 e27 e30 e33 e36 g g19 g26 v13 v20 v27 own' w1 := by
 obtain ⟨own', h8, ho⟩ := fresh_tag w own (Nat.le_of_eq hg.symm) 0
 have q := h.quiet (Stp.fresh hb ho _) hb
 exact ⟨own', { q with k12 := fun _ _ => ⟨hk, h8⟩ }⟩
theorem S23.b19 (h : S23 F e12 e13 e19 e20 e26 e27 e30 e33 e36 g12 g19 g26 v13 v20 v27 own w) {g : Nat} (hg : g = w.heap.size) (hk : w1.heap[g]? = some (.cells #[F.vf] 33 (0, 0))) (hb : Below w.heap.size w w1) :
  ∃ own', S23 F e12 e13 true e20 e26 e27 e30 e33 e36 g12 g g26 v13 v20 v27 own' w1 := by
 obtain ⟨own', h8, ho⟩ := fresh_tag w own (Nat.le_of_eq hg.symm) 0
 have q := h.quiet (Stp.fresh hb ho _) hb
 exact ⟨own', { q with k19 := fun _ _ => ⟨hk, h8⟩ }⟩
theorem S23.b26 (h : S23 F e12 e13 e19 e20 e26 e27 e30 e33 e36 g12 g19 g26 v13 v20 v27 own w) {g : Nat} (hg : g = w.heap.size) (hk : w1.heap[g]? = some (.cells #[F.vl] 33 (0, 0))) (hb : Below w.heap.size w w1) :
  ∃ own', S23 F e12 e13 e19 e20 true e27 e30 e33 e36 g12 g19 g v13 v20 v27 own' w1 := by
 obtain ⟨own', h8, ho⟩ := fresh_tag w own (Nat.le_of_eq hg.symm) 0
 have q := h.quiet (Stp.fresh hb ho _) hb
 exact ⟨own', { q with k26 := fun _ _ => ⟨hk, h8⟩ }⟩
theorem S23.a13 (h : S23 F e12 false e19 e20 e26 e27 false e33 e36 g12 g19 g26 v13 v20 v27 own w) {v : Value} (hv : Kd.bool.R 4 w1 F.w0.heap.size (fun k => own' k = 1) v (F.N.nul ++ [F.nb])) (st : Stp w w1 own own' (fun q => q = 1)) (hb : Below F.w0.heap.size F.w0 w1) :
  S23 F e12 true e19 e20 e26 e27 false e33 e36 g12 g19 g26 v v20 v27 own' w1 :=
 ⟨(st.block h.x (by rw [h.xo]; decide)).1, h.xb, (st.block h.x (by rw [h.xo]; decide)).2.trans h.xo, hv, st.row h.f (by decide), st.row h.l (by decide), st.row h.wv_ (by decide), st.maps h.m (by decide), fun e => st.row (h.rf e) (by decide), fun e => st.row (h.rl e) (by decide),
  fun e e' => (by cases e'), fun e e' => ⟨(st.block (h.k19 e e').1 (by rw [(h.k19 e e').2]; decide)).1, (st.block (h.k19 e e').1 (by rw [(h.k19 e e').2]; decide)).2.trans (h.k19 e e').2⟩, fun e e' => ⟨(st.block (h.k26 e e').1 (by rw [(h.k26 e e').2]; decide)).1, (st.block (h.k26 e e').1 (by rw [(h.k26 e e').2]; decide)).2.trans (h.k26 e e').2⟩,
  (st.block h.box (by rw [h.bo]; decide)).1, (st.block h.box (by rw [h.bo]; decide)).2.trans h.bo, hb⟩
theorem S23.a20 (h : S23 F e12 e13 e19 false e26 e27 e30 false e36 g12 g19 g26 v13 v20 v27 own w) {v : Value} (hv : krow.R 33 w1 F.w0.heap.size (fun k => own' k = 2) v (F.N.fst ++ [F.fi])) (st : Stp w w1 own own' (fun q => q = 2 ∨ q = 5)) (hb : Below F.w0.heap.size F.w0 w1) :
  S23 F e12 e13 e19 true e26 e27 e30 false e36 g12 g19 g26 v13 v v27 own' w1 :=
 ⟨(st.block h.x (by rw [h.xo]; decide)).1, h.xb, (st.block h.x (by rw [h.xo]; decide)).2.trans h.xo, st.row h.n (by decide), hv, st.row h.l (by decide), st.row h.wv_ (by decide), st.maps h.m (by decide), fun e => (by cases e), fun e => st.row (h.rl e) (by decide),
  fun e e' => ⟨(st.block (h.k12 e e').1 (by rw [(h.k12 e e').2]; decide)).1, (st.block (h.k12 e e').1 (by rw [(h.k12 e e').2]; decide)).2.trans (h.k12 e e').2⟩, fun e e' => (by cases e'), fun e e' => ⟨(st.block (h.k26 e e').1 (by rw [(h.k26 e e').2]; decide)).1, (st.block (h.k26 e e').1 (by rw [(h.k26 e e').2]; decide)).2.trans (h.k26 e e').2⟩,
  (st.block h.box (by rw [h.bo]; decide)).1, (st.block h.box (by rw [h.bo]; decide)).2.trans h.bo, hb⟩
theorem S23.a27 (h : S23 F e12 e13 e19 e20 e26 false e30 e33 false g12 g19 g26 v13 v20 v27 own w) {v : Value} (hv : krow.R 33 w1 F.w0.heap.size (fun k => own' k = 3) v (F.N.lst ++ [F.la])) (st : Stp w w1 own own' (fun q => q = 3 ∨ q = 6)) (hb : Below F.w0.heap.size F.w0 w1) :
  S23 F e12 e13 e19 e20 e26 true e30 e33 false g12 g19 g26 v13 v20 v own' w1 :=
 ⟨(st.block h.x (by rw [h.xo]; decide)).1, h.xb, (st.block h.x (by rw [h.xo]; decide)).2.trans h.xo, st.row h.n (by decide), st.row h.f (by decide), hv, st.row h.wv_ (by decide), st.maps h.m (by decide), fun e => st.row (h.rf e) (by decide), fun e => (by cases e),
  fun e e' => ⟨(st.block (h.k12 e e').1 (by rw [(h.k12 e e').2]; decide)).1, (st.block (h.k12 e e').1 (by rw [(h.k12 e e').2]; decide)).2.trans (h.k12 e e').2⟩, fun e e' => ⟨(st.block (h.k19 e e').1 (by rw [(h.k19 e e').2]; decide)).1, (st.block (h.k19 e e').1 (by rw [(h.k19 e e').2]; decide)).2.trans (h.k19 e e').2⟩, fun e e' => (by cases e'),
  (st.block h.box (by rw [h.bo]; decide)).1, (st.block h.box (by rw [h.bo]; decide)).2.trans h.bo, hb⟩
theorem S23.put (h : S23 F e12 e13 e19 e20 e26 e27 e30 e33 e36 g12 g19 g26 v13 v20 v27 own w) {e30' e33' e36' : Bool} (j : Nat) (u : Value)
  (hx : (w.setCell ⟨F.X, j, none⟩ u).heap[F.X]? = some (.cells #[F.pv, bif e30' then v13 else F.nv, bif e33' then v20 else F.fv, bif e36' then v27 else F.lv, F.wv] 89 (0, 0))) :
  S23 F e12 e13 e19 e20 e26 e27 e30' e33' e36' g12 g19 g26 v13 v20 v27 own (w.setCell ⟨F.X, j, none⟩ u) := by
 have st := Stp.set7 (W := w) h.xo j u
 exact ⟨hx, h.xb, h.xo, st.row h.n (by decide), st.row h.f (by decide), st.row h.l (by decide), st.row h.wv_ (by decide), st.maps h.m (by decide), fun e => st.row (h.rf e) (by decide), fun e => st.row (h.rl e) (by decide),
  fun e e' => ⟨(st.block (h.k12 e e').1 (by rw [(h.k12 e e').2]; decide)).1, (h.k12 e e').2⟩, fun e e' => ⟨(st.block (h.k19 e e').1 (by rw [(h.k19 e e').2]; decide)).1, (h.k19 e e').2⟩, fun e e' => ⟨(st.block (h.k26 e e').1 (by rw [(h.k26 e e').2]; decide)).1, (h.k26 e e').2⟩,
  (st.block h.box (by rw [h.bo]; decide)).1, h.bo, below_set h.low h.xb⟩
theorem S23.p30 (h : S23 F e12 e13 e19 e20 e26 e27 false e33 e36 g12 g19 g26 v13 v20 v27 own w) : S23 F e12 e13 e19 e20 e26 e27 true e33 e36 g12 g19 g26 v13 v20 v27 own (w.setCell ⟨F.X, 1, none⟩ v13) := h.put 1 v13 ((blk_set h.x 1 v13).trans rfl)
theorem S23.p33 (h : S23 F e12 e13 e19 e20 e26 e27 e30 false e36 g12 g19 g26 v13 v20 v27 own w) : S23 F e12 e13 e19 e20 e26 e27 e30 true e36 g12 g19 g26 v13 v20 v27 own (w.setCell ⟨F.X, 2, none⟩ v20) := h.put 2 v20 ((blk_set h.x 2 v20).trans rfl)
theorem S23.p36 (h : S23 F e12 e13 e19 e20 e26 e27 e30 e33 false g12 g19 g26 v13 v20 v27 own w) : S23 F e12 e13 e19 e20 e26 e27 e30 e33 true g12 g19 g26 v13 v20 v27 own (w.setCell ⟨F.X, 3, none⟩ v27) := h.put 3 v27 ((blk_set h.x 3 v27).trans rfl)
theorem S23.cell (h : S23 F e12 e13 e19 e20 e26 e27 e30 e33 e36 g12 g19 g26 v13 v20 v27 own w) :
  w.cell? ⟨F.X, 1, none⟩ = some (bif e30 then v13 else F.nv) ∧ w.cell? ⟨F.X, 2, none⟩ = some (bif e33 then v20 else F.fv) ∧ w.cell? ⟨F.X, 3, none⟩ = some (bif e36 then v27 else F.lv) ∧ ∀ j, w.frozen? ⟨F.X, j, none⟩ = false :=
 ⟨(blk_cell h.x 1).trans rfl, (blk_cell h.x 2).trans rfl, (blk_cell h.x 3).trans rfl, blk_frozen h.x⟩
end
end Go.Proofs.Ytajdfbgbkgabjaa.L
