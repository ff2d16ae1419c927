/- Words and contracts for the row RowFnExactAttribute: what the Go functions answer that it calls; printed by programs of the kit and of this session, and merged. -/
import Derived.Test.YtejkkdjfiebmfaaQf3
namespace Go.Proofs.Ytejkkdjfiebmfaa.L
open Go.RowKit Go.Proofs.YtejkkdjfiebmfaaW.PrintWords Go.Proofs.YtejkkdjfiebmfaaW.PrintLast Go.Proofs.YtejkkdjfiebmfaaW.PrintMore
attribute [local go_sem] max2_int min2_int max_two min_two max_three min_three max_four min_four
set_option linter.unusedVariables false
set_option linter.unusedSimpArgs false

/-! ### spec_l8Edge: function 35 -/
mutual
def spec_l8Edge.j0 : Nat → List (S49) → Int → Bool → Bool → Int → ByteArray → List Int → Int → Option (List Int)
 | 0, _, _, _, _, _, _, _, _ => none
 | k + 1, x0, x1, x2, x23, x184000, x184001, x184002, x184003 => if x23 = true then (some (([x1] : List Int))) else (spec_l8Edge.l0 k x0 x2 (([] : List Int)) 0 x184000 x184001 x184002 x184003)
def spec_l8Edge.l0 : Nat → List (S49) → Bool → List Int → Int → Int → ByteArray → List Int → Int → Option (List Int)
 | 0, _, _, _, _, _, _, _, _ => none
 | k + 1, x0, x2, x8, x9, x184000, x184001, x184002, x184003 => if x9 < (x184002.length : Int) then (if x2 = true then (spec_l8Edge.j2 k x0 x2 x8 x9 (wrap64 ((wrap64 ((x184002.length : Int) - 1)) - x9)) x184000 x184001 x184002 x184003) else (spec_l8Edge.j2 k x0 x2 x8 x9 x9 x184000 x184001 x184002 x184003)) else (some x8)
def spec_l8Edge.j2 : Nat → List (S49) → Bool → List Int → Int → Int → Int → ByteArray → List Int → Int → Option (List Int)
 | 0, _, _, _, _, _, _, _, _, _ => none
 | k + 1, x0, x2, x8, x9, x10, x184000, x184001, x184002, x184003 => if 0 ≤ x10 then (if x10 < (x184002.length : Int) then ((spec_l8Edge.f k x0 (rd x184002 x10) x2).bind fun t191 => (if x8.length + t191.length < 17592186044416 then ((some (x8 ++ t191 : List Int)).bind fun y194 => (if x184000 = 2 then ((spec_l8Null.f k x0 (rd x184002 x10)).bind fun t198 => (if t198 = true then (spec_l8Edge.l0 k x0 x2 y194 (wrap64 (x9 + 1)) x184000 x184001 x184002 x184003) else (some y194))) else (spec_l8Edge.l0 k x0 x2 y194 (wrap64 (x9 + 1)) x184000 x184001 x184002 x184003))) else (none))) else (none)) else (none)
def spec_l8Edge.f : Nat → List (S49) → Int → Bool → Option (List Int)
 | 0, _, _, _ => none
 | k + 1, l0, a1, a2 => if 0 ≤ a1 then (if a1 < (l0.length : Int) then (if (((rd_T49 l0 a1).f2).length : Int) = 0 then (spec_l8Edge.j0 k l0 a1 a2 (((rd_T49 l0 a1).f0) != 2) ((rd_T49 l0 a1).f0) ((rd_T49 l0 a1).f1) ((rd_T49 l0 a1).f2) ((rd_T49 l0 a1).f3)) else (spec_l8Edge.j0 k l0 a1 a2 false ((rd_T49 l0 a1).f0) ((rd_T49 l0 a1).f1) ((rd_T49 l0 a1).f2) ((rd_T49 l0 a1).f3))) else (none)) else (none)
end
set_option maxHeartbeats 8000000 in
set_option maxRecDepth 100000 in
theorem spec_l8Edge.calls (k : Nat) : ∀ (A0 : Option Addr) (c0 : Nat) (l0 : List (S49)) (a1 : Int) (a2 : Bool) (r : List Int) (w : World) (hr0 : Kd.C k49 w A0 l0.length l0) (hc0 : l0.length ≤ c0) (h : spec_l8Edge.f k l0 a1 a2 = some r),
  Calls Try.prog 35 #[.slice A0 l0.length c0, .int .i64 a1, .bool a2] w fun e w' => ∃ v0_ : Value, e = .returned (v0_) ∧ Kd.R (Kd.int .i64) 2 w' w.heap.size (fun _ => True) v0_ r ∧ Below w.heap.size w w' := by
 induction k using Nat.strongRecOn with
 | _ k ih =>
 intro A0 c0 l0 a1 a2 r w hr0 hc0 h
 cases k with
 | zero => exact absurd h (by simp [spec_l8Edge.f])
 | succ k =>
 simp only [spec_l8Edge.f] at h
 have hu49 := Try.underlying49
 have HR0 := Aside0.mk hr0
 have HC0 := Aside0.mk hc0
 clear hr0 hc0
 have HB := Aside0.mk (Below.refl w.heap.size w)
 have H : (if 0 ≤ a1 then (if a1 < (l0.length : Int) then (if (((rd_T49 l0 a1).f2).length : Int) = 0 then (spec_l8Edge.j0 k l0 a1 a2 (((rd_T49 l0 a1).f0) != 2) ((rd_T49 l0 a1).f0) ((rd_T49 l0 a1).f1) ((rd_T49 l0 a1).f2) ((rd_T49 l0 a1).f3)) else (spec_l8Edge.j0 k l0 a1 a2 false ((rd_T49 l0 a1).f0) ((rd_T49 l0 a1).f1) ((rd_T49 l0 a1).f2) ((rd_T49 l0 a1).f3))) else (none)) else (none)) = some r := h
 clear h
 by_cases c4 : 0 ≤ a1
 rotate_left
 ·rw [if_neg c4] at H
  exact absurd H dq24
 rw [if_pos c4] at H
 have c4b0 := decide_eq_true c4
 clear c4
 by_cases c5 : a1 < (l0.length : Int)
 rotate_left
 ·rw [if_neg c5] at H
  exact absurd H dq24
 rw [if_pos c5] at H
 have c5b0 := decide_eq_true c5
 clear c5
 have HC6 := Aside0.mk H
 clear H
 have p182 : 0 ≤ (a1 : Int) := of_decide_eq_true dq22
 have q182 : a1 < (l0.length : Int) := of_decide_eq_true dq22
 obtain ⟨ad182, A182_2, c182_2, e182, hx182_0, hx182_1, hx182_2, hx182_3, hl182_2, hi182_2⟩ := at_T49 HR0.out a1 p182 q182
 cases e182
 have HR182_2 := Aside0.mk hi182_2
 have HC182_2 := Aside0.mk hl182_2
 clear hi182_2 hl182_2
 replace p182 := eq_true p182
 replace q182 := eq_true q182
 go_enter Try.func35, Try.ntmps35
 go_upto_region 2 with (first | ((with_reducible refine gate_dst (N := 7) rfl ?_); refine box_event ?hg (N := 7) ?hd (cs := #[.int .i64 0, .string (⟨#[]⟩ : ByteArray), .slice none 0 0, .int .i64 0]) (t := 49) ?hr ?_; (case hd => rfl); (case hg => rfl); (case hr => exact dq0); intro gb183 hg w7 hbox hb; have n0_ := Aside0.mk (below_step dq17 hb); have n1_ := Aside0.mk (hbox); have n2_ := Aside0.mk ((dq16 : w.heap.size ≤ gb183)); have n3_ := Aside0.mk ((dq16 : w.heap.size ≤ gb183)); clear HB; have HB := n0_; have BK183 := n1_; have GW183 := n2_; have GE183 := n3_; clear n0_ n1_ n2_ n3_; clear hb hbox hg; obtain ⟨⟨hcz8_0, hcz8_1, hcz8_2, hcz8_3⟩, hfz8_0, hfz8_1, hfz8_2, hfz8_3⟩ := blkC4 BK183.out))
 (try simp only [Act.put, List.setIfInBounds_toArray, List.set_cons_zero, List.set_cons_succ])
 go_cut [23] (fun v23 wc => ∃ (kq : Nat) (x23_5 : Bool), v23 = .bool x23_5 ∧ Aside0 (spec_l8Edge.j0 kq l0 a1 a2 x23_5 ((rd_T49 l0 a1).f0) ((rd_T49 l0 a1).f1) ((rd_T49 l0 a1).f2) ((rd_T49 l0 a1).f3) = some r) ∧ Aside0 (kq ≤ k) ∧ Aside0 (wc.heap[gb183]? = some (.cells #[.int .i64 ((rd_T49 l0 a1).f0), .string ((rd_T49 l0 a1).f1), (.slice A182_2 ((rd_T49 l0 a1).f2).length c182_2), .int .i64 ((rd_T49 l0 a1).f3)] 49 (0, 0))) ∧ Aside0 (Below w.heap.size w wc))
 case first =>
  have H := HC6.out
  clear HC6
  by_cases c9 : (((rd_T49 l0 a1).f2).length : Int) = 0
  ·rw [if_pos c9] at H
   have c9b0 := beq_iff_eq.mpr c9
   have c9b1 := bne_eq_false_iff_eq.mpr c9
   clear c9
   (first | rw [c9b0] | (simp only [i64_w, i32_w]; rw [c9b0]) | skip)
   have H' := Aside0.mk H
   clear H
   obtain ⟨⟨hcz10_0, hcz10_1, hcz10_2, hcz10_3⟩, hfz10_0, hfz10_1, hfz10_2, hfz10_3⟩ := blkC4 BK183.out
   go_wp2
   go_meet
   case rel => exact ⟨_, ((((rd_T49 l0 a1).f0) != 2)), dq15, H', ⟨dq45⟩, ⟨dq58⟩, ⟨dq57⟩⟩
  rw [if_neg c9] at H
  have c9b0 := beq_eq_false_iff_ne.mpr c9
  have c9b1 := bne_iff_ne.mpr c9
  have c9b2 : ¬ (((rd_T49 l0 a1).f2) = []) := fun h_ => c9 (by rw [h_]; rfl)
  (first | rw [c9b0] | (simp only [i64_w, i32_w]; rw [c9b0]) | skip)
  have H' := Aside0.mk H
  clear H
  obtain ⟨⟨hcz11_0, hcz11_1, hcz11_2, hcz11_3⟩, hfz11_0, hfz11_1, hfz11_2, hfz11_3⟩ := blkC4 BK183.out
  go_wp2
  go_meet
  case rel => exact ⟨_, (false), dq15, H', ⟨dq45⟩, ⟨dq58⟩, ⟨dq57⟩⟩
 clear HC6
 try clear c4b0
 try clear c5b0
 try clear hcz8_0
 try clear hcz8_1
 try clear hcz8_2
 try clear hcz8_3
 try clear hfz8_0
 try clear hfz8_1
 try clear hfz8_2
 try clear hfz8_3
 try clear hx182_0
 try clear hx182_1
 try clear hx182_2
 try clear hx182_3
 try clear p182
 try clear q182
 obtain ⟨kq, x23_5, rfl, HA, HJ5, BK183, HB⟩ := hcut
 cases kq with
 | zero => exact absurd HA.out (by simp [spec_l8Edge.j0])
 | succ kj5 =>
  have H := HA.out
  clear HA
  simp only [spec_l8Edge.j0] at H
  by_cases c12 : x23_5 = true
  ·subst c12
   have H1 : (some (([a1] : List Int))) = some r := by rw [if_pos rfl] at H; exact H
   clear H
   have H := H1
   clear H1
   obtain ⟨y184, hy184⟩ : ∃ y_ : List Int, y_ = (([a1] : List Int)) := ⟨_, rfl⟩
   replace H : (some y184) = some r := by first | (rw [hy184]; with_reducible exact H) | (have H2_ := (Option.bind_some _ _).symm.trans H; rw [hy184]; with_reducible exact H2_) | (have H2_ := (Option.bind_some _ _).symm.trans H; with_reducible exact H2_) | with_reducible exact H | (rw [hy184]; exact H) | exact H
   have Ny184 := Aside0.mk hy184
   clear hy184
   obtain rfl := Option.some.inj H
   go_wp2_with (first | ((with_reducible refine gate_dst (N := 25) rfl ?_); refine Kd.R_lit (Kd.int .i64) _ 2 ?hg (N := 25) ?hd (xs := ([a1] : List Int)) (inner := [.int .i64 a1]) (ok := fun _ => True) (okp := fun _ => True) ?hr ?hp (fun _ hk => hk) trivial (Below.refl _ _) (Nat.le_refl _) dq24 ?_; (case hd => rfl); (case hg => rfl); (case hr => exact dq0); (case hp => exact (Reps.one (show Kd.M (Kd.int .i64) _ _ _ a1 [.int .i64 a1] from rfl) (Reps.none _ _))); intro v185 w13 ho14 hb hg_ hnew_; clear hg_ hnew_; (first | rw [← Ny184.out] at ho14 | (simp only [Int.reduceToNat] at ho14; rw [← Ny184.out] at ho14)); have n0_ := Aside0.mk (Kd.R_lower ho14 (below_size dq57)); have n1_ := Aside0.mk (blk_below (g := gb183) (o := .cells #[.int .i64 ((rd_T49 l0 a1).f0), .string ((rd_T49 l0 a1).f1), .slice A182_2 ((rd_T49 l0 a1).f2).length c182_2, .int .i64 ((rd_T49 l0 a1).f3)] 49 (0, 0)) dq59 hb); have n2_ := Aside0.mk (below_step dq57 hb); clear BK183; clear HB; have HO186 := n0_; have BK183 := n1_; have HB := n2_; clear n0_ n1_ n2_; clear hb ho14))
   go_ret
   exact ⟨_, dq19, by (with_reducible repeat (first | apply Kd.R_alloc | apply Kd.R_drewN | apply Kd.R_drew)); exact HO186.out, dq57⟩
  replace c12 := Bool.eq_false_iff.mpr c12
  subst c12
  have H1 : (spec_l8Edge.l0 kj5 l0 a2 (([] : List Int)) 0 ((rd_T49 l0 a1).f0) ((rd_T49 l0 a1).f1) ((rd_T49 l0 a1).f2) ((rd_T49 l0 a1).f3)) = some r := by rw [if_neg (show ¬ (false = true) by decide)] at H; exact H
  clear H
  have H := H1
  clear H1
  obtain ⟨y187, hy187⟩ : ∃ y_ : List Int, y_ = (([] : List Int)) := ⟨_, rfl⟩
  replace H : (spec_l8Edge.l0 kj5 l0 a2 y187 0 ((rd_T49 l0 a1).f0) ((rd_T49 l0 a1).f1) ((rd_T49 l0 a1).f2) ((rd_T49 l0 a1).f3)) = some r := by first | (rw [hy187]; with_reducible exact H) | (have H2_ := (Option.bind_some _ _).symm.trans H; rw [hy187]; with_reducible exact H2_) | (have H2_ := (Option.bind_some _ _).symm.trans H; with_reducible exact H2_) | with_reducible exact H | (rw [hy187]; exact H) | exact H
  have Ny187 := Aside0.mk hy187
  clear hy187
  have H' := Aside0.mk H
  clear H
  go_wp2_with (first | ((with_reducible refine gate_dst (N := 26) rfl ?_); refine Kd.R_lit (Kd.int .i64) _ 2 ?hg (N := 26) ?hd (xs := ([] : List Int)) (inner := []) (ok := fun _ => True) (okp := fun _ => True) ?hr ?hp (fun _ hk => hk) trivial (Below.refl _ _) (Nat.le_refl _) dq24 ?_; (case hd => rfl); (case hg => rfl); (case hr => exact dq0); (case hp => exact (Reps.none _ _)); intro v188 w15 ho16 hb hg_ hnew_; clear hg_ hnew_; (first | rw [← Ny187.out] at ho16 | (simp only [Int.reduceToNat] at ho16; rw [← Ny187.out] at ho16)); have n0_ := Aside0.mk (Kd.R_lower ho16 (below_size dq57)); have n1_ := Aside0.mk (blk_below (g := gb183) (o := .cells #[.int .i64 ((rd_T49 l0 a1).f0), .string ((rd_T49 l0 a1).f1), .slice A182_2 ((rd_T49 l0 a1).f2).length c182_2, .int .i64 ((rd_T49 l0 a1).f3)] 49 (0, 0)) dq59 hb); have n2_ := Aside0.mk (below_step dq57 hb); clear BK183; clear HB; have HO189 := n0_; have BK183 := n1_; have HB := n2_; clear n0_ n1_ n2_; clear hb ho16))
  go_loopg [8, 9] kj5 (fun kq v8 v9 w' => ∃ (x8_2 : List Int) (x9_2 : Int), v9 = .int .i64 x9_2 ∧ Aside0 (spec_l8Edge.l0 kq l0 a2 x8_2 x9_2 ((rd_T49 l0 a1).f0) ((rd_T49 l0 a1).f1) ((rd_T49 l0 a1).f2) ((rd_T49 l0 a1).f3) = some r) ∧ Aside0 (kq ≤ kj5) ∧ Aside0 (Kd.R (Kd.int .i64) 2 w' w.heap.size (fun _ => True) v8 x8_2) ∧ Aside0 (w'.heap[gb183]? = some (.cells #[.int .i64 ((rd_T49 l0 a1).f0), .string ((rd_T49 l0 a1).f1), (.slice A182_2 ((rd_T49 l0 a1).f2).length c182_2), .int .i64 ((rd_T49 l0 a1).f3)] 49 (0, 0))) ∧ Aside0 (Below w.heap.size w w'))
  case atStart => exact ⟨(y187), (0), dq15, H', ⟨Nat.le_refl _⟩, ⟨by (with_reducible repeat (first | apply Kd.R_alloc | apply Kd.R_drewN | apply Kd.R_drew)); exact HO189.out⟩, ⟨dq59⟩, ⟨dq57⟩⟩
  clear H'
  obtain ⟨x8_2, x9_2, rfl, HA, HK2, HO_8, BK183, HB⟩ := hrel
  cases gk with
  | zero => exact absurd HA.out (by simp [spec_l8Edge.l0])
  | succ k2 =>
   have H := HA.out
   clear HA
   simp only [spec_l8Edge.l0] at H
   by_cases c17 : x9_2 < (((rd_T49 l0 a1).f2).length : Int)
   rotate_left
   ·rw [if_neg c17] at H
    have c17b0 := decide_eq_false c17
    clear c17
    obtain rfl := Option.some.inj H
    obtain ⟨⟨hcz46_0, hcz46_1, hcz46_2, hcz46_3⟩, hfz46_0, hfz46_1, hfz46_2, hfz46_3⟩ := blkC4 BK183.out
    go_wp2
    go_ret
    exact ⟨_, dq19, dq60, dq57⟩
   rw [if_pos c17] at H
   have c17b0 := decide_eq_true c17
   clear c17
   have HC18 := Aside0.mk H
   clear H
   obtain ⟨⟨hcz19_0, hcz19_1, hcz19_2, hcz19_3⟩, hfz19_0, hfz19_1, hfz19_2, hfz19_3⟩ := blkC4 BK183.out
   go_upto_if 35 with (fail)
   go_cut [10] (fun v10 wc => ∃ (kq : Nat) (x10_17 : Int), v10 = .int .i64 x10_17 ∧ Aside0 (spec_l8Edge.j2 kq l0 a2 x8_2 x9_2 x10_17 ((rd_T49 l0 a1).f0) ((rd_T49 l0 a1).f1) ((rd_T49 l0 a1).f2) ((rd_T49 l0 a1).f3) = some r) ∧ Aside0 (kq ≤ k2) ∧ Aside0 (Kd.R (Kd.int .i64) 2 wc w.heap.size (fun _ => True) u8 x8_2) ∧ Aside0 (wc.heap[gb183]? = some (.cells #[.int .i64 ((rd_T49 l0 a1).f0), .string ((rd_T49 l0 a1).f1), (.slice A182_2 ((rd_T49 l0 a1).f2).length c182_2), .int .i64 ((rd_T49 l0 a1).f3)] 49 (0, 0))) ∧ Aside0 (Below w.heap.size w wc))
   case first =>
    have H := HC18.out
    clear HC18
    by_cases c20 : a2 = true
    rotate_left
    ·replace c20 := Bool.eq_false_iff.mpr c20
     subst c20
     have H1 : (spec_l8Edge.j2 k2 l0 false x8_2 x9_2 x9_2 ((rd_T49 l0 a1).f0) ((rd_T49 l0 a1).f1) ((rd_T49 l0 a1).f2) ((rd_T49 l0 a1).f3)) = some r := by rw [if_neg (show ¬ (false = true) by decide)] at H; exact H
     clear H
     have H := H1
     clear H1
     have H' := Aside0.mk H
     clear H
     go_wp2
     go_meet
     case rel => exact ⟨_, (x9_2), dq15, H', ⟨by have := HJ5.out; have := HK2.out; first | omega | exact Nat.le_refl _⟩, ⟨dq60⟩, ⟨dq59⟩, ⟨dq57⟩⟩
    subst c20
    have H1 : (spec_l8Edge.j2 k2 l0 true x8_2 x9_2 (wrap64 ((wrap64 ((((rd_T49 l0 a1).f2).length : Int) - 1)) - x9_2)) ((rd_T49 l0 a1).f0) ((rd_T49 l0 a1).f1) ((rd_T49 l0 a1).f2) ((rd_T49 l0 a1).f3)) = some r := by rw [if_pos rfl] at H; exact H
    clear H
    have H := H1
    clear H1
    have H' := Aside0.mk H
    clear H
    obtain ⟨⟨hcz21_0, hcz21_1, hcz21_2, hcz21_3⟩, hfz21_0, hfz21_1, hfz21_2, hfz21_3⟩ := blkC4 BK183.out
    go_wp2
    go_meet
    case rel => exact ⟨_, (wrap64 ((wrap64 ((((rd_T49 l0 a1).f2).length : Int) - 1)) - x9_2)), dq15, H', ⟨by have := HJ5.out; have := HK2.out; first | omega | exact Nat.le_refl _⟩, ⟨dq60⟩, ⟨dq59⟩, ⟨dq57⟩⟩
   clear HC18
   try clear c17b0
   try clear hcz19_0
   try clear hcz19_1
   try clear hcz19_2
   try clear hcz19_3
   try clear hfz19_0
   try clear hfz19_1
   try clear hfz19_2
   try clear hfz19_3
   obtain ⟨kq, x10_17, rfl, HA, HJ17, HO_8, BK183, HB⟩ := hcut
   cases kq with
   | zero => exact absurd HA.out (by simp [spec_l8Edge.j2])
   | succ kj17 =>
    have H := HA.out
    clear HA
    simp only [spec_l8Edge.j2] at H
    by_cases c22 : 0 ≤ x10_17
    rotate_left
    ·rw [if_neg c22] at H
     exact absurd H dq24
    rw [if_pos c22] at H
    have c22b0 := decide_eq_true c22
    clear c22
    by_cases c23 : x10_17 < (((rd_T49 l0 a1).f2).length : Int)
    rotate_left
    ·rw [if_neg c23] at H
     exact absurd H dq24
    rw [if_pos c23] at H
    have c23b0 := decide_eq_true c23
    clear c23
    replace H := Option.bind_eq_some_iff.mp H
    obtain ⟨t191, A240, H⟩ := H
    replace H : (if x8_2.length + t191.length < 17592186044416 then ((some (x8_2 ++ t191 : List Int)).bind fun y194 => (if ((rd_T49 l0 a1).f0) = 2 then ((spec_l8Null.f kj17 l0 (rd ((rd_T49 l0 a1).f2) x10_17)).bind fun t198 => (if t198 = true then (spec_l8Edge.l0 kj17 l0 a2 y194 (wrap64 (x9_2 + 1)) ((rd_T49 l0 a1).f0) ((rd_T49 l0 a1).f1) ((rd_T49 l0 a1).f2) ((rd_T49 l0 a1).f3)) else (some y194))) else (spec_l8Edge.l0 kj17 l0 a2 y194 (wrap64 (x9_2 + 1)) ((rd_T49 l0 a1).f0) ((rd_T49 l0 a1).f1) ((rd_T49 l0 a1).f2) ((rd_T49 l0 a1).f3)))) else (none)) = some r := H
    have A24 := Aside0.mk A240
    clear A240
    by_cases c25 : x8_2.length + t191.length < 17592186044416
    rotate_left
    ·rw [if_neg c25] at H
     exact absurd H dq24
    rw [if_pos c25] at H
    have LMc25 := Aside0.mk c25
    clear c25
    obtain ⟨y194, hy194⟩ : ∃ y_ : List Int, y_ = (x8_2 ++ t191) := ⟨_, rfl⟩
    replace H : (if ((rd_T49 l0 a1).f0) = 2 then ((spec_l8Null.f kj17 l0 (rd ((rd_T49 l0 a1).f2) x10_17)).bind fun t198 => (if t198 = true then (spec_l8Edge.l0 kj17 l0 a2 y194 (wrap64 (x9_2 + 1)) ((rd_T49 l0 a1).f0) ((rd_T49 l0 a1).f1) ((rd_T49 l0 a1).f2) ((rd_T49 l0 a1).f3)) else (some y194))) else (spec_l8Edge.l0 kj17 l0 a2 y194 (wrap64 (x9_2 + 1)) ((rd_T49 l0 a1).f0) ((rd_T49 l0 a1).f1) ((rd_T49 l0 a1).f2) ((rd_T49 l0 a1).f3))) = some r := by first | (rw [hy194]; with_reducible exact H) | (have H2_ := (Option.bind_some _ _).symm.trans H; rw [hy194]; with_reducible exact H2_) | (have H2_ := (Option.bind_some _ _).symm.trans H; with_reducible exact H2_) | with_reducible exact H | (rw [hy194]; exact H) | exact H
    have Ny194 := Aside0.mk hy194
    clear hy194
    by_cases c26 : ((rd_T49 l0 a1).f0) = 2
    rotate_left
    ·rw [if_neg c26] at H
     have c26b0 := beq_eq_false_iff_ne.mpr c26
     have c26b1 := bne_iff_ne.mpr c26
     have H' := Aside0.mk H
     clear H
     obtain ⟨⟨hcz41_0, hcz41_1, hcz41_2, hcz41_3⟩, hfz41_0, hfz41_1, hfz41_2, hfz41_3⟩ := blkC4 BK183.out
     have p190 : 0 ≤ (x10_17 : Int) := of_decide_eq_true dq22
     have q190 : x10_17 < (((rd_T49 l0 a1).f2).length : Int) := of_decide_eq_true dq22
     obtain ⟨ad190, e190, hx190_0⟩ := Kd.at_int HR182_2.out x10_17 p190 q190
     cases e190
     replace hx190_0 := (HB.out.cell (World.block_lt_of_cell? w _ hx190_0)).trans hx190_0
     replace p190 := eq_true p190
     replace q190 := eq_true q190
     go_wp2_with (first | ((with_reducible refine gate_callee (f := 35) rfl ?_); refine goesL_ (some 50) rfl rfl Try.func35 dq21 rfl #[.slice (some ad182) l0.length c0, .int .i64 (rd ((rd_T49 l0 a1).f2) x10_17), .bool a2] rfl dq20 ?_; (with_reducible refine (ih kj17 dq63 _ _ l0 (rd ((rd_T49 l0 a1).f2) x10_17) a2 t191 _ ?side1 ?side2 A24.out).mono ?_); (case side1 => exact dq5); (case side2 => exact dq4); rintro e w42 ⟨v192, rfl, ho0, hb⟩; refine ⟨_, rfl, ?_⟩; have n0_ := Aside0.mk (Kd.R_elder' dq60 (Kd.R_base ho0) hb); have n1_ := Aside0.mk (Kd.R_lower (Kd.R_new' ho0 (Kd.R_lt dq60)) (below_size dq57)); have n2_ := Aside0.mk (blk_below (g := gb183) (o := .cells #[.int .i64 ((rd_T49 l0 a1).f0), .string ((rd_T49 l0 a1).f1), .slice (some ad190) ((rd_T49 l0 a1).f2).length c182_2, .int .i64 ((rd_T49 l0 a1).f3)] 49 (0, 0)) dq59 hb); have n3_ := Aside0.mk (below_step dq57 hb); clear HO_8; clear BK183; clear HB; have HO_8 := n0_; have HO193 := n1_; have BK183 := n2_; have HB := n3_; clear n0_ n1_ n2_ n3_; (try clear hb); (try clear hb2); (try clear hk); (try clear hi); (try clear ho0); obtain ⟨Ao44, co44, eo44⟩ := Kd.R_slice HO193.out; subst eo44) | ((with_reducible refine gate_builtin (b := .append) (xs := #[.tmp 42, .tmp 50]) rfl ?_); at_builtin; refine Kd.R_append_rows (Kd.int .i64) (w0 := w) w.heap.size rfl (.tmp 42) (.tmp 50) 24 2 (.int .i64 0) 8 rfl Try.underlying24 info2 rfl dq26 dq25 u8 x8_2 t191 _ _ _ (fun k_ => some k_ ≠ (.slice Ao44 t191.length co44 : Value).ownBlock) (fun _ => False) rfl rfl ?aO ?aR (fun _ _ h => h) (fun _ h => h.elim) ?aF ?aB ?aS ?aL ?_; (case aR => repeat (first | exact (Kd.R_reads' HO193.out).2.2 | (with_reducible refine Kd.C_alloc ?_ _) | (with_reducible refine Kd.C_drewN ?_ _) | (with_reducible refine Kd.C_drew ?_))); (case aB => exact dq57); (case aF => exact (fun k_ hk => Kd.fresh' (Kd.R_lt dq61) k_ hk)); (case aO => exact dq62); (case aS => exact (below_size dq57)); (case aL => have := LMc25.out; omega); intro v195 w43 ho hb hg hat; rw [← Ny194.out] at ho; have n0_ := Aside0.mk (blk_grown (g := gb183) (o := .cells #[.int .i64 ((rd_T49 l0 a1).f0), .string ((rd_T49 l0 a1).f1), .slice (some ad190) ((rd_T49 l0 a1).f2).length c182_2, .int .i64 ((rd_T49 l0 a1).f3)] 49 (0, 0)) dq59 hg (Kd.R_ne HO_8.out BK183.out dq26)); have n1_ := Aside0.mk (Kd.R_after (ok := (fun _ => True)) dq61 hg hat); have n2_ := Aside0.mk (hb); have n3_ := Aside0.mk (ho); clear BK183; clear HO193; clear HB; clear HO_8; have BK183 := n0_; have HO193 := n1_; have HB := n2_; have HO196 := n3_; clear n0_ n1_ n2_ n3_; clear ho hb hg hat; obtain ⟨⟨hcz45_0, hcz45_1, hcz45_2, hcz45_3⟩, hfz45_0, hfz45_1, hfz45_2, hfz45_3⟩ := blkC4 BK183.out))
     go_roundg kj17
     case measure => have := HJ5.out; have := HK2.out; have := HJ17.out; omega
     case rel => exact ⟨(y194), (wrap64 (x9_2 + 1)), dq15, H', ⟨dq63⟩, ⟨dq64⟩, ⟨dq59⟩, ⟨dq57⟩⟩
    rw [if_pos c26] at H
    have c26b0 := beq_iff_eq.mpr c26
    have c26b1 := bne_eq_false_iff_eq.mpr c26
    clear c26
    replace H := Option.bind_eq_some_iff.mp H
    obtain ⟨t198, A270, H⟩ := H
    replace H : (if t198 = true then (spec_l8Edge.l0 kj17 l0 a2 y194 (wrap64 (x9_2 + 1)) ((rd_T49 l0 a1).f0) ((rd_T49 l0 a1).f1) ((rd_T49 l0 a1).f2) ((rd_T49 l0 a1).f3)) else (some y194)) = some r := H
    have A27 := Aside0.mk A270
    clear A270
    by_cases c28 : t198 = true
    rotate_left
    ·replace c28 := Bool.eq_false_iff.mpr c28
     subst c28
     have H1 : (some y194) = some r := by rw [if_neg (show ¬ (false = true) by decide)] at H; exact H
     clear H
     have H := H1
     clear H1
     obtain rfl := Option.some.inj H
     obtain ⟨⟨hcz35_0, hcz35_1, hcz35_2, hcz35_3⟩, hfz35_0, hfz35_1, hfz35_2, hfz35_3⟩ := blkC4 BK183.out
     have p190 : 0 ≤ (x10_17 : Int) := of_decide_eq_true dq22
     have q190 : x10_17 < (((rd_T49 l0 a1).f2).length : Int) := of_decide_eq_true dq22
     obtain ⟨ad190, e190, hx190_0⟩ := Kd.at_int HR182_2.out x10_17 p190 q190
     cases e190
     replace hx190_0 := (HB.out.cell (World.block_lt_of_cell? w _ hx190_0)).trans hx190_0
     replace p190 := eq_true p190
     replace q190 := eq_true q190
     go_wp2_with (first | ((with_reducible refine gate_callee (f := 35) rfl ?_); refine goesL_ (some 50) rfl rfl Try.func35 dq21 rfl #[.slice (some ad182) l0.length c0, .int .i64 (rd ((rd_T49 l0 a1).f2) x10_17), .bool a2] rfl dq20 ?_; (with_reducible refine (ih kj17 dq63 _ _ l0 (rd ((rd_T49 l0 a1).f2) x10_17) a2 t191 _ ?side1 ?side2 A24.out).mono ?_); (case side1 => exact dq5); (case side2 => exact dq4); rintro e w36 ⟨v192, rfl, ho0, hb⟩; refine ⟨_, rfl, ?_⟩; have n0_ := Aside0.mk (Kd.R_elder' dq60 (Kd.R_base ho0) hb); have n1_ := Aside0.mk (Kd.R_lower (Kd.R_new' ho0 (Kd.R_lt dq60)) (below_size dq57)); have n2_ := Aside0.mk (blk_below (g := gb183) (o := .cells #[.int .i64 ((rd_T49 l0 a1).f0), .string ((rd_T49 l0 a1).f1), .slice (some ad190) ((rd_T49 l0 a1).f2).length c182_2, .int .i64 ((rd_T49 l0 a1).f3)] 49 (0, 0)) dq59 hb); have n3_ := Aside0.mk (below_step dq57 hb); clear HO_8; clear BK183; clear HB; have HO_8 := n0_; have HO193 := n1_; have BK183 := n2_; have HB := n3_; clear n0_ n1_ n2_ n3_; (try clear hb); (try clear hb2); (try clear hk); (try clear hi); (try clear ho0); obtain ⟨Ao38, co38, eo38⟩ := Kd.R_slice HO193.out; subst eo38) | ((with_reducible refine gate_builtin (b := .append) (xs := #[.tmp 42, .tmp 50]) rfl ?_); at_builtin; refine Kd.R_append_rows (Kd.int .i64) (w0 := w) w.heap.size rfl (.tmp 42) (.tmp 50) 24 2 (.int .i64 0) 8 rfl Try.underlying24 info2 rfl dq26 dq25 u8 x8_2 t191 _ _ _ (fun k_ => some k_ ≠ (.slice Ao38 t191.length co38 : Value).ownBlock) (fun _ => False) rfl rfl ?aO ?aR (fun _ _ h => h) (fun _ h => h.elim) ?aF ?aB ?aS ?aL ?_; (case aR => repeat (first | exact (Kd.R_reads' HO193.out).2.2 | (with_reducible refine Kd.C_alloc ?_ _) | (with_reducible refine Kd.C_drewN ?_ _) | (with_reducible refine Kd.C_drew ?_))); (case aB => exact dq57); (case aF => exact (fun k_ hk => Kd.fresh' (Kd.R_lt dq61) k_ hk)); (case aO => exact dq62); (case aS => exact (below_size dq57)); (case aL => have := LMc25.out; omega); intro v195 w37 ho hb hg hat; rw [← Ny194.out] at ho; have n0_ := Aside0.mk (blk_grown (g := gb183) (o := .cells #[.int .i64 ((rd_T49 l0 a1).f0), .string ((rd_T49 l0 a1).f1), .slice (some ad190) ((rd_T49 l0 a1).f2).length c182_2, .int .i64 ((rd_T49 l0 a1).f3)] 49 (0, 0)) dq59 hg (Kd.R_ne HO_8.out BK183.out dq26)); have n1_ := Aside0.mk (Kd.R_after (ok := (fun _ => True)) dq61 hg hat); have n2_ := Aside0.mk (hb); have n3_ := Aside0.mk (ho); clear BK183; clear HO193; clear HB; clear HO_8; have BK183 := n0_; have HO193 := n1_; have HB := n2_; have HO196 := n3_; clear n0_ n1_ n2_ n3_; clear ho hb hg hat; obtain ⟨⟨hcz39_0, hcz39_1, hcz39_2, hcz39_3⟩, hfz39_0, hfz39_1, hfz39_2, hfz39_3⟩ := blkC4 BK183.out; have p197 : 0 ≤ (x10_17 : Int) := of_decide_eq_true dq22; have q197 : x10_17 < (((rd_T49 l0 a1).f2).length : Int) := of_decide_eq_true dq22; obtain ⟨ad197, e197, hx197_0⟩ := Kd.at_int HR182_2.out x10_17 p197 q197; obtain rfl : ad190 = ad197 := (by injection e197); replace hx197_0 := (HB.out.cell (World.block_lt_of_cell? w _ hx197_0)).trans hx197_0; replace p197 := eq_true p197; replace q197 := eq_true q197) | (go_at_call 62; (with_reducible refine (spec_l8Null.calls kj17 _ _ l0 (rd ((rd_T49 l0 a1).f2) x10_17) false _ ?side1 ?side2 A27.out).mono ?_); (case side1 => exact dq5); (case side2 => exact dq4); rintro e w40 ⟨rfl, hb⟩; have n0_ := Aside0.mk (Kd.R_below dq61 hb); have n1_ := Aside0.mk (Kd.R_below (by (with_reducible repeat (first | apply Kd.R_alloc | apply Kd.R_drewN | apply Kd.R_drew)); exact HO196.out) hb); have n2_ := Aside0.mk (blk_below (g := gb183) (o := .cells #[.int .i64 ((rd_T49 l0 a1).f0), .string ((rd_T49 l0 a1).f1), .slice (some ad190) ((rd_T49 l0 a1).f2).length c182_2, .int .i64 ((rd_T49 l0 a1).f3)] 49 (0, 0)) dq59 hb); have n3_ := Aside0.mk (below_step dq57 hb); clear HO193; clear HO196; clear BK183; clear HB; have HO193 := n0_; have HO196 := n1_; have BK183 := n2_; have HB := n3_; clear n0_ n1_ n2_ n3_; (try clear hb); (try clear hb2); (try clear hk); (try clear hi)))
     go_ret
     exact ⟨_, dq19, dq64, dq57⟩
    subst c28
    have H1 : (spec_l8Edge.l0 kj17 l0 a2 y194 (wrap64 (x9_2 + 1)) ((rd_T49 l0 a1).f0) ((rd_T49 l0 a1).f1) ((rd_T49 l0 a1).f2) ((rd_T49 l0 a1).f3)) = some r := by rw [if_pos rfl] at H; exact H
    clear H
    have H := H1
    clear H1
    have H' := Aside0.mk H
    clear H
    obtain ⟨⟨hcz29_0, hcz29_1, hcz29_2, hcz29_3⟩, hfz29_0, hfz29_1, hfz29_2, hfz29_3⟩ := blkC4 BK183.out
    have p190 : 0 ≤ (x10_17 : Int) := of_decide_eq_true dq22
    have q190 : x10_17 < (((rd_T49 l0 a1).f2).length : Int) := of_decide_eq_true dq22
    obtain ⟨ad190, e190, hx190_0⟩ := Kd.at_int HR182_2.out x10_17 p190 q190
    cases e190
    replace hx190_0 := (HB.out.cell (World.block_lt_of_cell? w _ hx190_0)).trans hx190_0
    replace p190 := eq_true p190
    replace q190 := eq_true q190
    go_wp2_with (first | ((with_reducible refine gate_callee (f := 35) rfl ?_); refine goesL_ (some 50) rfl rfl Try.func35 dq21 rfl #[.slice (some ad182) l0.length c0, .int .i64 (rd ((rd_T49 l0 a1).f2) x10_17), .bool a2] rfl dq20 ?_; (with_reducible refine (ih kj17 dq63 _ _ l0 (rd ((rd_T49 l0 a1).f2) x10_17) a2 t191 _ ?side1 ?side2 A24.out).mono ?_); (case side1 => exact dq5); (case side2 => exact dq4); rintro e w30 ⟨v192, rfl, ho0, hb⟩; refine ⟨_, rfl, ?_⟩; have n0_ := Aside0.mk (Kd.R_elder' dq60 (Kd.R_base ho0) hb); have n1_ := Aside0.mk (Kd.R_lower (Kd.R_new' ho0 (Kd.R_lt dq60)) (below_size dq57)); have n2_ := Aside0.mk (blk_below (g := gb183) (o := .cells #[.int .i64 ((rd_T49 l0 a1).f0), .string ((rd_T49 l0 a1).f1), .slice (some ad190) ((rd_T49 l0 a1).f2).length c182_2, .int .i64 ((rd_T49 l0 a1).f3)] 49 (0, 0)) dq59 hb); have n3_ := Aside0.mk (below_step dq57 hb); clear HO_8; clear BK183; clear HB; have HO_8 := n0_; have HO193 := n1_; have BK183 := n2_; have HB := n3_; clear n0_ n1_ n2_ n3_; (try clear hb); (try clear hb2); (try clear hk); (try clear hi); (try clear ho0); obtain ⟨Ao32, co32, eo32⟩ := Kd.R_slice HO193.out; subst eo32) | ((with_reducible refine gate_builtin (b := .append) (xs := #[.tmp 42, .tmp 50]) rfl ?_); at_builtin; refine Kd.R_append_rows (Kd.int .i64) (w0 := w) w.heap.size rfl (.tmp 42) (.tmp 50) 24 2 (.int .i64 0) 8 rfl Try.underlying24 info2 rfl dq26 dq25 u8 x8_2 t191 _ _ _ (fun k_ => some k_ ≠ (.slice Ao32 t191.length co32 : Value).ownBlock) (fun _ => False) rfl rfl ?aO ?aR (fun _ _ h => h) (fun _ h => h.elim) ?aF ?aB ?aS ?aL ?_; (case aR => repeat (first | exact (Kd.R_reads' HO193.out).2.2 | (with_reducible refine Kd.C_alloc ?_ _) | (with_reducible refine Kd.C_drewN ?_ _) | (with_reducible refine Kd.C_drew ?_))); (case aB => exact dq57); (case aF => exact (fun k_ hk => Kd.fresh' (Kd.R_lt dq61) k_ hk)); (case aO => exact dq62); (case aS => exact (below_size dq57)); (case aL => have := LMc25.out; omega); intro v195 w31 ho hb hg hat; rw [← Ny194.out] at ho; have n0_ := Aside0.mk (blk_grown (g := gb183) (o := .cells #[.int .i64 ((rd_T49 l0 a1).f0), .string ((rd_T49 l0 a1).f1), .slice (some ad190) ((rd_T49 l0 a1).f2).length c182_2, .int .i64 ((rd_T49 l0 a1).f3)] 49 (0, 0)) dq59 hg (Kd.R_ne HO_8.out BK183.out dq26)); have n1_ := Aside0.mk (Kd.R_after (ok := (fun _ => True)) dq61 hg hat); have n2_ := Aside0.mk (hb); have n3_ := Aside0.mk (ho); clear BK183; clear HO193; clear HB; clear HO_8; have BK183 := n0_; have HO193 := n1_; have HB := n2_; have HO196 := n3_; clear n0_ n1_ n2_ n3_; clear ho hb hg hat; obtain ⟨⟨hcz33_0, hcz33_1, hcz33_2, hcz33_3⟩, hfz33_0, hfz33_1, hfz33_2, hfz33_3⟩ := blkC4 BK183.out; have p197 : 0 ≤ (x10_17 : Int) := of_decide_eq_true dq22; have q197 : x10_17 < (((rd_T49 l0 a1).f2).length : Int) := of_decide_eq_true dq22; obtain ⟨ad197, e197, hx197_0⟩ := Kd.at_int HR182_2.out x10_17 p197 q197; obtain rfl : ad190 = ad197 := (by injection e197); replace hx197_0 := (HB.out.cell (World.block_lt_of_cell? w _ hx197_0)).trans hx197_0; replace p197 := eq_true p197; replace q197 := eq_true q197) | (go_at_call 62; (with_reducible refine (spec_l8Null.calls kj17 _ _ l0 (rd ((rd_T49 l0 a1).f2) x10_17) true _ ?side1 ?side2 A27.out).mono ?_); (case side1 => exact dq5); (case side2 => exact dq4); rintro e w34 ⟨rfl, hb⟩; have n0_ := Aside0.mk (Kd.R_below dq61 hb); have n1_ := Aside0.mk (Kd.R_below (by (with_reducible repeat (first | apply Kd.R_alloc | apply Kd.R_drewN | apply Kd.R_drew)); exact HO196.out) hb); have n2_ := Aside0.mk (blk_below (g := gb183) (o := .cells #[.int .i64 ((rd_T49 l0 a1).f0), .string ((rd_T49 l0 a1).f1), .slice (some ad190) ((rd_T49 l0 a1).f2).length c182_2, .int .i64 ((rd_T49 l0 a1).f3)] 49 (0, 0)) dq59 hb); have n3_ := Aside0.mk (below_step dq57 hb); clear HO193; clear HO196; clear BK183; clear HB; have HO193 := n0_; have HO196 := n1_; have BK183 := n2_; have HB := n3_; clear n0_ n1_ n2_ n3_; (try clear hb); (try clear hb2); (try clear hk); (try clear hi)))
    go_roundg kj17
    case measure => have := HJ5.out; have := HK2.out; have := HJ17.out; omega
    case rel => exact ⟨(y194), (wrap64 (x9_2 + 1)), dq15, H', ⟨dq63⟩, ⟨dq64⟩, ⟨dq59⟩, ⟨dq57⟩⟩

/-! ### spec_FirstOf: function 10 -/
def spec_FirstOf.f (k : Nat) (l0 : List (S49)) : Option (List Int) := (spec_ParticleOk.f k l0).bind fun t199 => (if t199 = true then ((spec_l8Edge.f k l0 (wrap64 ((l0.length : Int) - 1)) false).bind fun t200 => ((spec_l8Sorted.f k t200).bind fun t203 => (some t203))) else (some (([] : List Int))))
set_option maxHeartbeats 8000000 in
set_option maxRecDepth 100000 in
theorem spec_FirstOf.calls (k : Nat) (A0 : Option Addr) (c0 : Nat) (l0 : List (S49)) (r : List Int) (w : World) (hr0 : Kd.C k49 w A0 l0.length l0) (hc0 : l0.length ≤ c0) (h : spec_FirstOf.f k l0 = some r) :
  Calls Try.prog 10 #[.slice A0 l0.length c0] w fun e w' => ∃ v0_ : Value, e = .returned (v0_) ∧ Kd.R (Kd.int .i64) 2 w' w.heap.size (fun _ => True) v0_ r ∧ Below w.heap.size w w' := by
 have HR0 := Aside0.mk hr0
 have HC0 := Aside0.mk hc0
 clear hr0 hc0
 have HB := Aside0.mk (Below.refl w.heap.size w)
 have H : ((spec_ParticleOk.f k l0).bind fun t199 => (if t199 = true then ((spec_l8Edge.f k l0 (wrap64 ((l0.length : Int) - 1)) false).bind fun t200 => ((spec_l8Sorted.f k t200).bind fun t203 => (some t203))) else (some (([] : List Int))))) = some r := h
 clear h
 replace H := Option.bind_eq_some_iff.mp H
 obtain ⟨t199, A20, H⟩ := H
 replace H : (if t199 = true then ((spec_l8Edge.f k l0 (wrap64 ((l0.length : Int) - 1)) false).bind fun t200 => ((spec_l8Sorted.f k t200).bind fun t203 => (some t203))) else (some (([] : List Int)))) = some r := H
 have A2 := Aside0.mk A20
 clear A20
 by_cases c3 : t199 = true
 rotate_left
 ·replace c3 := Bool.eq_false_iff.mpr c3
  subst c3
  have H1 : (some (([] : List Int))) = some r := by rw [if_neg (show ¬ (false = true) by decide)] at H; exact H
  clear H
  have H := H1
  clear H1
  obtain ⟨y206, hy206⟩ : ∃ y_ : List Int, y_ = (([] : List Int)) := ⟨_, rfl⟩
  replace H : (some y206) = some r := by first | (rw [hy206]; with_reducible exact H) | (have H2_ := (Option.bind_some _ _).symm.trans H; rw [hy206]; with_reducible exact H2_) | (have H2_ := (Option.bind_some _ _).symm.trans H; with_reducible exact H2_) | with_reducible exact H | (rw [hy206]; exact H) | exact H
  have Ny206 := Aside0.mk hy206
  clear hy206
  obtain rfl := Option.some.inj H
  go_enter Try.func10, Try.ntmps10
  go_wp2_with (first | ((with_reducible refine gate_callee (f := 33) rfl ?_); refine goesL_ (some 4) rfl rfl Try.func33 dq21 rfl #[.slice A0 l0.length c0] rfl dq20 ?_; (with_reducible refine (spec_ParticleOk.calls k _ _ l0 false _ ?side1 ?side2 A2.out).mono ?_); (case side1 => exact dq3); (case side2 => exact dq4); rintro e w10 ⟨rfl, hb⟩; refine ⟨_, rfl, ?_⟩; have n0_ := Aside0.mk (below_step dq17 hb); clear HB; have HB := n0_; clear n0_; (try clear hb); (try clear hb2); (try clear hk); (try clear hi)) | ((with_reducible refine gate_dst (N := 6) rfl ?_); refine Kd.R_lit (Kd.int .i64) _ 2 ?hg (N := 6) ?hd (xs := ([] : List Int)) (inner := []) (ok := fun _ => True) (okp := fun _ => True) ?hr ?hp (fun _ hk => hk) trivial (Below.refl _ _) (Nat.le_refl _) dq24 ?_; (case hd => rfl); (case hg => rfl); (case hr => exact dq0); (case hp => exact (Reps.none _ _)); intro v207 w11 ho12 hb hg_ hnew_; clear hg_ hnew_; (first | rw [← Ny206.out] at ho12 | (simp only [Int.reduceToNat] at ho12; rw [← Ny206.out] at ho12)); have n0_ := Aside0.mk (Kd.R_lower ho12 (below_size dq17)); have n1_ := Aside0.mk (below_step dq17 hb); clear HB; have HO208 := n0_; have HB := n1_; clear n0_ n1_; clear hb ho12))
  go_ret
  exact ⟨_, dq19, by (with_reducible repeat (first | apply Kd.R_alloc | apply Kd.R_drewN | apply Kd.R_drew)); exact HO208.out, dq17⟩
 subst c3
 have H1 : ((spec_l8Edge.f k l0 (wrap64 ((l0.length : Int) - 1)) false).bind fun t200 => ((spec_l8Sorted.f k t200).bind fun t203 => (some t203))) = some r := by rw [if_pos rfl] at H; exact H
 clear H
 have H := H1
 clear H1
 replace H := Option.bind_eq_some_iff.mp H
 obtain ⟨t200, A40, H⟩ := H
 replace H : ((spec_l8Sorted.f k t200).bind fun t203 => (some t203)) = some r := H
 have A4 := Aside0.mk A40
 clear A40
 replace H := Option.bind_eq_some_iff.mp H
 obtain ⟨t203, A50, H⟩ := H
 replace H : (some t203) = some r := H
 have A5 := Aside0.mk A50
 clear A50
 obtain rfl := Option.some.inj H
 go_enter Try.func10, Try.ntmps10
 go_wp2_with (first | ((with_reducible refine gate_callee (f := 33) rfl ?_); refine goesL_ (some 4) rfl rfl Try.func33 dq21 rfl #[.slice A0 l0.length c0] rfl dq20 ?_; (with_reducible refine (spec_ParticleOk.calls k _ _ l0 true _ ?side1 ?side2 A2.out).mono ?_); (case side1 => exact dq3); (case side2 => exact dq4); rintro e w6 ⟨rfl, hb⟩; refine ⟨_, rfl, ?_⟩; have n0_ := Aside0.mk (below_step dq17 hb); clear HB; have HB := n0_; clear n0_; (try clear hb); (try clear hb2); (try clear hk); (try clear hi)) | ((with_reducible refine gate_callee (f := 35) rfl ?_); refine goesL_ (some 11) rfl rfl Try.func35 dq21 rfl #[.slice A0 l0.length c0, .int .i64 (wrap64 ((l0.length : Int) - 1)), .bool false] rfl dq20 ?_; (with_reducible refine (spec_l8Edge.calls k _ _ l0 (wrap64 ((l0.length : Int) - 1)) false t200 _ ?side1 ?side2 A4.out).mono ?_); (case side1 => exact dq5); (case side2 => exact dq4); rintro e w7 ⟨v201, rfl, ho0, hb⟩; refine ⟨_, rfl, ?_⟩; have n0_ := Aside0.mk (Kd.R_lower ho0 (below_size dq17)); have n1_ := Aside0.mk (below_step dq17 hb); clear HB; have HO202 := n0_; have HB := n1_; clear n0_ n1_; (try clear hb); (try clear hb2); (try clear hk); (try clear hi); (try clear ho0); obtain ⟨Ao8, co8, eo8⟩ := Kd.R_slice HO202.out; subst eo8) | ((with_reducible refine gate_callee (f := 34) rfl ?_); refine goesL_ (some 12) rfl rfl Try.func34 dq21 rfl #[.slice Ao8 t200.length co8] rfl dq20 ?_; (with_reducible refine (spec_l8Sorted.calls k _ _ t200 t203 _ ?side1 ?side2 A5.out).mono ?_); (case side1 => repeat (first | exact (Kd.R_reads' HO202.out).2.2 | (with_reducible refine Kd.C_alloc ?_ _) | (with_reducible refine Kd.C_drewN ?_ _) | (with_reducible refine Kd.C_drew ?_))); (case side2 => exact (Kd.R_reads' HO202.out).2.1); rintro e w9 ⟨v204, rfl, ho0, hb⟩; refine ⟨_, rfl, ?_⟩; have n0_ := Aside0.mk (Kd.R_elder' (by (with_reducible repeat (first | apply Kd.R_alloc | apply Kd.R_drewN | apply Kd.R_drew)); exact HO202.out) (Kd.R_base ho0) hb); have n1_ := Aside0.mk (Kd.R_lower (Kd.R_new' ho0 (Kd.R_lt (by (with_reducible repeat (first | apply Kd.R_alloc | apply Kd.R_drewN | apply Kd.R_drew)); exact HO202.out))) (below_size dq17)); have n2_ := Aside0.mk (below_step dq17 hb); clear HO202; clear HB; have HO202 := n0_; have HO205 := n1_; have HB := n2_; clear n0_ n1_ n2_; (try clear hb); (try clear hb2); (try clear hk); (try clear hi); (try clear ho0)))
 go_ret
 exact ⟨_, dq19, by (with_reducible repeat (first | apply Kd.R_alloc | apply Kd.R_drewN | apply Kd.R_drew)); exact Kd.R_mono HO205.out (fun _ hk => trivial), dq17⟩

/-! ### spec_LastOf: function 18 -/
def spec_LastOf.f (k : Nat) (l0 : List (S49)) : Option (List Int) := (spec_ParticleOk.f k l0).bind fun t302 => (if t302 = true then ((spec_l8Edge.f k l0 (wrap64 ((l0.length : Int) - 1)) true).bind fun t303 => ((spec_l8Sorted.f k t303).bind fun t306 => (some t306))) else (some (([] : List Int))))
set_option maxHeartbeats 8000000 in
set_option maxRecDepth 100000 in
theorem spec_LastOf.calls (k : Nat) (A0 : Option Addr) (c0 : Nat) (l0 : List (S49)) (r : List Int) (w : World) (hr0 : Kd.C k49 w A0 l0.length l0) (hc0 : l0.length ≤ c0) (h : spec_LastOf.f k l0 = some r) :
  Calls Try.prog 18 #[.slice A0 l0.length c0] w fun e w' => ∃ v0_ : Value, e = .returned (v0_) ∧ Kd.R (Kd.int .i64) 2 w' w.heap.size (fun _ => True) v0_ r ∧ Below w.heap.size w w' := by
 have HR0 := Aside0.mk hr0
 have HC0 := Aside0.mk hc0
 clear hr0 hc0
 have HB := Aside0.mk (Below.refl w.heap.size w)
 have H : ((spec_ParticleOk.f k l0).bind fun t302 => (if t302 = true then ((spec_l8Edge.f k l0 (wrap64 ((l0.length : Int) - 1)) true).bind fun t303 => ((spec_l8Sorted.f k t303).bind fun t306 => (some t306))) else (some (([] : List Int))))) = some r := h
 clear h
 replace H := Option.bind_eq_some_iff.mp H
 obtain ⟨t302, A20, H⟩ := H
 replace H : (if t302 = true then ((spec_l8Edge.f k l0 (wrap64 ((l0.length : Int) - 1)) true).bind fun t303 => ((spec_l8Sorted.f k t303).bind fun t306 => (some t306))) else (some (([] : List Int)))) = some r := H
 have A2 := Aside0.mk A20
 clear A20
 by_cases c3 : t302 = true
 rotate_left
 ·replace c3 := Bool.eq_false_iff.mpr c3
  subst c3
  have H1 : (some (([] : List Int))) = some r := by rw [if_neg (show ¬ (false = true) by decide)] at H; exact H
  clear H
  have H := H1
  clear H1
  obtain ⟨y309, hy309⟩ : ∃ y_ : List Int, y_ = (([] : List Int)) := ⟨_, rfl⟩
  replace H : (some y309) = some r := by first | (rw [hy309]; with_reducible exact H) | (have H2_ := (Option.bind_some _ _).symm.trans H; rw [hy309]; with_reducible exact H2_) | (have H2_ := (Option.bind_some _ _).symm.trans H; with_reducible exact H2_) | with_reducible exact H | (rw [hy309]; exact H) | exact H
  have Ny309 := Aside0.mk hy309
  clear hy309
  obtain rfl := Option.some.inj H
  go_enter Try.func18, Try.ntmps18
  go_wp2_with (first | ((with_reducible refine gate_callee (f := 33) rfl ?_); refine goesL_ (some 4) rfl rfl Try.func33 dq21 rfl #[.slice A0 l0.length c0] rfl dq20 ?_; (with_reducible refine (spec_ParticleOk.calls k _ _ l0 false _ ?side1 ?side2 A2.out).mono ?_); (case side1 => exact dq3); (case side2 => exact dq4); rintro e w10 ⟨rfl, hb⟩; refine ⟨_, rfl, ?_⟩; have n0_ := Aside0.mk (below_step dq17 hb); clear HB; have HB := n0_; clear n0_; (try clear hb); (try clear hb2); (try clear hk); (try clear hi)) | ((with_reducible refine gate_dst (N := 6) rfl ?_); refine Kd.R_lit (Kd.int .i64) _ 2 ?hg (N := 6) ?hd (xs := ([] : List Int)) (inner := []) (ok := fun _ => True) (okp := fun _ => True) ?hr ?hp (fun _ hk => hk) trivial (Below.refl _ _) (Nat.le_refl _) dq24 ?_; (case hd => rfl); (case hg => rfl); (case hr => exact dq0); (case hp => exact (Reps.none _ _)); intro v310 w11 ho12 hb hg_ hnew_; clear hg_ hnew_; (first | rw [← Ny309.out] at ho12 | (simp only [Int.reduceToNat] at ho12; rw [← Ny309.out] at ho12)); have n0_ := Aside0.mk (Kd.R_lower ho12 (below_size dq17)); have n1_ := Aside0.mk (below_step dq17 hb); clear HB; have HO311 := n0_; have HB := n1_; clear n0_ n1_; clear hb ho12))
  go_ret
  exact ⟨_, dq19, by (with_reducible repeat (first | apply Kd.R_alloc | apply Kd.R_drewN | apply Kd.R_drew)); exact HO311.out, dq17⟩
 subst c3
 have H1 : ((spec_l8Edge.f k l0 (wrap64 ((l0.length : Int) - 1)) true).bind fun t303 => ((spec_l8Sorted.f k t303).bind fun t306 => (some t306))) = some r := by rw [if_pos rfl] at H; exact H
 clear H
 have H := H1
 clear H1
 replace H := Option.bind_eq_some_iff.mp H
 obtain ⟨t303, A40, H⟩ := H
 replace H : ((spec_l8Sorted.f k t303).bind fun t306 => (some t306)) = some r := H
 have A4 := Aside0.mk A40
 clear A40
 replace H := Option.bind_eq_some_iff.mp H
 obtain ⟨t306, A50, H⟩ := H
 replace H : (some t306) = some r := H
 have A5 := Aside0.mk A50
 clear A50
 obtain rfl := Option.some.inj H
 go_enter Try.func18, Try.ntmps18
 go_wp2_with (first | ((with_reducible refine gate_callee (f := 33) rfl ?_); refine goesL_ (some 4) rfl rfl Try.func33 dq21 rfl #[.slice A0 l0.length c0] rfl dq20 ?_; (with_reducible refine (spec_ParticleOk.calls k _ _ l0 true _ ?side1 ?side2 A2.out).mono ?_); (case side1 => exact dq3); (case side2 => exact dq4); rintro e w6 ⟨rfl, hb⟩; refine ⟨_, rfl, ?_⟩; have n0_ := Aside0.mk (below_step dq17 hb); clear HB; have HB := n0_; clear n0_; (try clear hb); (try clear hb2); (try clear hk); (try clear hi)) | ((with_reducible refine gate_callee (f := 35) rfl ?_); refine goesL_ (some 11) rfl rfl Try.func35 dq21 rfl #[.slice A0 l0.length c0, .int .i64 (wrap64 ((l0.length : Int) - 1)), .bool true] rfl dq20 ?_; (with_reducible refine (spec_l8Edge.calls k _ _ l0 (wrap64 ((l0.length : Int) - 1)) true t303 _ ?side1 ?side2 A4.out).mono ?_); (case side1 => exact dq5); (case side2 => exact dq4); rintro e w7 ⟨v304, rfl, ho0, hb⟩; refine ⟨_, rfl, ?_⟩; have n0_ := Aside0.mk (Kd.R_lower ho0 (below_size dq17)); have n1_ := Aside0.mk (below_step dq17 hb); clear HB; have HO305 := n0_; have HB := n1_; clear n0_ n1_; (try clear hb); (try clear hb2); (try clear hk); (try clear hi); (try clear ho0); obtain ⟨Ao8, co8, eo8⟩ := Kd.R_slice HO305.out; subst eo8) | ((with_reducible refine gate_callee (f := 34) rfl ?_); refine goesL_ (some 12) rfl rfl Try.func34 dq21 rfl #[.slice Ao8 t303.length co8] rfl dq20 ?_; (with_reducible refine (spec_l8Sorted.calls k _ _ t303 t306 _ ?side1 ?side2 A5.out).mono ?_); (case side1 => repeat (first | exact (Kd.R_reads' HO305.out).2.2 | (with_reducible refine Kd.C_alloc ?_ _) | (with_reducible refine Kd.C_drewN ?_ _) | (with_reducible refine Kd.C_drew ?_))); (case side2 => exact (Kd.R_reads' HO305.out).2.1); rintro e w9 ⟨v307, rfl, ho0, hb⟩; refine ⟨_, rfl, ?_⟩; have n0_ := Aside0.mk (Kd.R_elder' (by (with_reducible repeat (first | apply Kd.R_alloc | apply Kd.R_drewN | apply Kd.R_drew)); exact HO305.out) (Kd.R_base ho0) hb); have n1_ := Aside0.mk (Kd.R_lower (Kd.R_new' ho0 (Kd.R_lt (by (with_reducible repeat (first | apply Kd.R_alloc | apply Kd.R_drewN | apply Kd.R_drew)); exact HO305.out))) (below_size dq17)); have n2_ := Aside0.mk (below_step dq17 hb); clear HO305; clear HB; have HO305 := n0_; have HO308 := n1_; have HB := n2_; clear n0_ n1_ n2_; (try clear hb); (try clear hb2); (try clear hk); (try clear hi); (try clear ho0)))
 go_ret
 exact ⟨_, dq19, by (with_reducible repeat (first | apply Kd.R_alloc | apply Kd.R_drewN | apply Kd.R_drew)); exact Kd.R_mono HO308.out (fun _ hk => trivial), dq17⟩

/-! ### spec_l8Has: function 52 -/
def spec_l8Has.l0 : Nat → List Int → Int → Int → Option (Bool)
 | 0, _, _, _ => none
 | k + 1, x0, x1, x5 => if x5 < (x0.length : Int) then (if 0 ≤ x5 then (if (rd x0 x5) = x1 then (some true) else (spec_l8Has.l0 k x0 x1 (wrap64 (x5 + 1)))) else (none)) else (some false)
def spec_l8Has.f (k : Nat) (l0 : List Int) (a1 : Int) : Option (Bool) := spec_l8Has.l0 k l0 a1 0
set_option maxHeartbeats 8000000 in
set_option maxRecDepth 100000 in
theorem spec_l8Has.calls (k : Nat) (A0 : Option Addr) (c0 : Nat) (l0 : List Int) (a1 : Int) (r : Bool) (w : World) (hr0 : Kd.C (Kd.int .i64) w A0 l0.length l0) (hc0 : l0.length ≤ c0) (h : spec_l8Has.f k l0 a1 = some r) :
  Calls Try.prog 52 #[.slice A0 l0.length c0, .int .i64 a1] w fun e w' => e = .returned (.bool r) ∧ Drawn0 w w' := by
 have HR0 := Aside0.mk hr0
 have HC0 := Aside0.mk hc0
 clear hr0 hc0
 have H : (spec_l8Has.l0 k l0 a1 0) = some r := h
 clear h
 have H' := Aside0.mk H
 clear H
 go_enter Try.func52, Try.ntmps52
 go_wp2
 go_loopg [5] k (fun kq v5 w' => ∃ (x5_1 : Int), v5 = .int .i64 x5_1 ∧ Aside0 (spec_l8Has.l0 kq l0 a1 x5_1 = some r) ∧ Aside0 (kq ≤ k) ∧ Drawn0 w w')
 case atStart => exact ⟨(0), dq15, H', ⟨Nat.le_refl _⟩, dq14⟩
 clear H'
 try clear p2
 obtain ⟨x5_1, rfl, HA, HK1, ⟨m1, rfl⟩⟩ := hrel
 cases gk with
 | zero => exact absurd HA.out (by simp [spec_l8Has.l0])
 | succ k1 =>
  have H := HA.out
  clear HA
  simp only [spec_l8Has.l0] at H
  by_cases c3 : x5_1 < (l0.length : Int)
  rotate_left
  ·rw [if_neg c3] at H
   have c3b0 := decide_eq_false c3
   clear c3
   obtain rfl := Option.some.inj H
   go_wp2
   go_ret
   exact ⟨dq15, dq14⟩
  rw [if_pos c3] at H
  have c3b0 := decide_eq_true c3
  clear c3
  by_cases c4 : 0 ≤ x5_1
  rotate_left
  ·rw [if_neg c4] at H
   exact absurd H dq24
  rw [if_pos c4] at H
  have c4b0 := decide_eq_true c4
  clear c4
  by_cases c5 : (rd l0 x5_1) = a1
  ·rw [if_pos c5] at H
   have c5b0 := beq_iff_eq.mpr c5
   have c5b1 := bne_eq_false_iff_eq.mpr c5
   clear c5
   obtain rfl := Option.some.inj H
   have p346 : 0 ≤ (x5_1 : Int) := of_decide_eq_true dq22
   have q346 : x5_1 < (l0.length : Int) := of_decide_eq_true dq22
   obtain ⟨ad346, e346, hx346_0⟩ := Kd.at_int HR0.out x5_1 p346 q346
   cases e346
   replace p346 := eq_true p346
   replace q346 := eq_true q346
   go_wp2
   go_ret
   exact ⟨dq15, dq14⟩
  rw [if_neg c5] at H
  have c5b0 := beq_eq_false_iff_ne.mpr c5
  have c5b1 := bne_iff_ne.mpr c5
  have H' := Aside0.mk H
  clear H
  have p346 : 0 ≤ (x5_1 : Int) := of_decide_eq_true dq22
  have q346 : x5_1 < (l0.length : Int) := of_decide_eq_true dq22
  obtain ⟨ad346, e346, hx346_0⟩ := Kd.at_int HR0.out x5_1 p346 q346
  cases e346
  replace p346 := eq_true p346
  replace q346 := eq_true q346
  go_wp2
  go_roundg k1
  case measure => have := HK1.out; omega
  case rel => exact ⟨(wrap64 (x5_1 + 1)), dq15, H', ⟨dq23⟩, dq14⟩

/-! ### spec_l8Follow: function 46 -/
mutual
def spec_l8Follow.l0 : Nat → List (S49) → Int → List Int → Int → Option (List Int)
 | 0, _, _, _, _ => none
 | k + 1, x0, x1, x5, x6 => if x6 < (x0.length : Int) then (if 0 ≤ x6 then (if ((rd_T49 x0 x6).f3) ≥ 2 then ((spec_l8Edge.f k x0 x6 true).bind fun t355 => ((spec_l8Has.f k t355 x1).bind fun t358 => (spec_l8Follow.j1 k x0 x1 x5 x6 t358 ((rd_T49 x0 x6).f0) ((rd_T49 x0 x6).f1) ((rd_T49 x0 x6).f2) ((rd_T49 x0 x6).f3)))) else (spec_l8Follow.j1 k x0 x1 x5 x6 false ((rd_T49 x0 x6).f0) ((rd_T49 x0 x6).f1) ((rd_T49 x0 x6).f2) ((rd_T49 x0 x6).f3))) else (none)) else ((spec_l8Sorted.f k x5).bind fun t350 => (some t350))
def spec_l8Follow.j1 : Nat → List (S49) → Int → List Int → Int → Bool → Int → ByteArray → List Int → Int → Option (List Int)
 | 0, _, _, _, _, _, _, _, _, _ => none
 | k + 1, x0, x1, x5, x6, x30, x355000, x355001, x355002, x355003 => if x30 = true then ((spec_l8Edge.f k x0 x6 false).bind fun t359 => (if x5.length + t359.length < 17592186044416 then (spec_l8Follow.j2 k x0 x1 (x5 ++ t359) x6 x355000 x355001 x355002 x355003) else (none))) else (spec_l8Follow.j2 k x0 x1 x5 x6 x355000 x355001 x355002 x355003)
def spec_l8Follow.j2 : Nat → List (S49) → Int → List Int → Int → Int → ByteArray → List Int → Int → Option (List Int)
 | 0, _, _, _, _, _, _, _, _ => none
 | k + 1, x0, x1, x5, x6, x355000, x355001, x355002, x355003 => if x355000 = 2 then (spec_l8Follow.l1 k x0 x1 x5 x6 0 x355000 x355001 x355002 x355003) else (spec_l8Follow.l0 k x0 x1 x5 (wrap64 (x6 + 1)))
def spec_l8Follow.l1 : Nat → List (S49) → Int → List Int → Int → Int → Int → ByteArray → List Int → Int → Option (List Int)
 | 0, _, _, _, _, _, _, _, _, _ => none
 | k + 1, x0, x1, x5, x6, x8, x355000, x355001, x355002, x355003 => if x8 < (x355002.length : Int) then (if 0 ≤ x8 then ((spec_l8Edge.f k x0 (rd x355002 x8) true).bind fun t366 => ((spec_l8Has.f k t366 x1).bind fun t369 => (if t369 = true then (spec_l8Follow.l2 k x0 x1 x5 x6 x8 (wrap64 (x8 + 1)) x355000 x355001 x355002 x355003) else (spec_l8Follow.l1 k x0 x1 x5 x6 (wrap64 (x8 + 1)) x355000 x355001 x355002 x355003)))) else (none)) else (spec_l8Follow.l0 k x0 x1 x5 (wrap64 (x6 + 1)))
def spec_l8Follow.l2 : Nat → List (S49) → Int → List Int → Int → Int → Int → Int → ByteArray → List Int → Int → Option (List Int)
 | 0, _, _, _, _, _, _, _, _, _, _ => none
 | k + 1, x0, x1, x5, x6, x8, x9, x355000, x355001, x355002, x355003 => if x9 < (x355002.length : Int) then (if 0 ≤ x9 then ((spec_l8Edge.f k x0 (rd x355002 x9) false).bind fun t371 => (if x5.length + t371.length < 17592186044416 then ((some (x5 ++ t371 : List Int)).bind fun y374 => ((spec_l8Null.f k x0 (rd x355002 x9)).bind fun t378 => (if t378 = true then (spec_l8Follow.l2 k x0 x1 y374 x6 x8 (wrap64 (x9 + 1)) x355000 x355001 x355002 x355003) else (spec_l8Follow.l1 k x0 x1 y374 x6 (wrap64 (x8 + 1)) x355000 x355001 x355002 x355003)))) else (none))) else (none)) else (spec_l8Follow.l1 k x0 x1 x5 x6 (wrap64 (x8 + 1)) x355000 x355001 x355002 x355003)
end
def spec_l8Follow.f (k : Nat) (l0 : List (S49)) (a1 : Int) : Option (List Int) := spec_l8Follow.l0 k l0 a1 (([] : List Int)) 0
set_option maxHeartbeats 8000000 in
set_option maxRecDepth 100000 in
theorem spec_l8Follow.calls (k : Nat) (A0 : Option Addr) (c0 : Nat) (l0 : List (S49)) (a1 : Int) (r : List Int) (w : World) (hr0 : Kd.C k49 w A0 l0.length l0) (hc0 : l0.length ≤ c0) (h : spec_l8Follow.f k l0 a1 = some r) :
  Calls Try.prog 46 #[.slice A0 l0.length c0, .int .i64 a1] w fun e w' => ∃ v0_ : Value, e = .returned (v0_) ∧ Kd.R (Kd.int .i64) 2 w' w.heap.size (fun _ => True) v0_ r ∧ Below w.heap.size w w' := by
 have hu49 := Try.underlying49
 have HR0 := Aside0.mk hr0
 have HC0 := Aside0.mk hc0
 clear hr0 hc0
 have HB := Aside0.mk (Below.refl w.heap.size w)
 have H : (spec_l8Follow.l0 k l0 a1 (([] : List Int)) 0) = some r := h
 clear h
 obtain ⟨y347, hy347⟩ : ∃ y_ : List Int, y_ = (([] : List Int)) := ⟨_, rfl⟩
 replace H : (spec_l8Follow.l0 k l0 a1 y347 0) = some r := by first | (rw [hy347]; with_reducible exact H) | (have H2_ := (Option.bind_some _ _).symm.trans H; rw [hy347]; with_reducible exact H2_) | (have H2_ := (Option.bind_some _ _).symm.trans H; with_reducible exact H2_) | with_reducible exact H | (rw [hy347]; exact H) | exact H
 have Ny347 := Aside0.mk hy347
 clear hy347
 have H' := Aside0.mk H
 clear H
 go_enter Try.func46, Try.ntmps46
 go_wp2_with (first | ((with_reducible refine gate_dst (N := 10) rfl ?_); refine Kd.R_lit (Kd.int .i64) _ 2 ?hg (N := 10) ?hd (xs := ([] : List Int)) (inner := []) (ok := fun _ => True) (okp := fun _ => True) ?hr ?hp (fun _ hk => hk) trivial (Below.refl _ _) (Nat.le_refl _) dq24 ?_; (case hd => rfl); (case hg => rfl); (case hr => exact dq0); (case hp => exact (Reps.none _ _)); intro v348 w3 ho4 hb hg_ hnew_; clear hg_ hnew_; (first | rw [← Ny347.out] at ho4 | (simp only [Int.reduceToNat] at ho4; rw [← Ny347.out] at ho4)); have n0_ := Aside0.mk (Kd.R_lower ho4 (below_size dq17)); have n1_ := Aside0.mk (below_step dq17 hb); clear HB; have HO349 := n0_; have HB := n1_; clear n0_ n1_; clear hb ho4))
 go_loopg [5, 6] k (fun kq v5 v6 w' => ∃ (x5_1 : List Int) (x6_1 : Int), v6 = .int .i64 x6_1 ∧ Aside0 (spec_l8Follow.l0 kq l0 a1 x5_1 x6_1 = some r) ∧ Aside0 (kq ≤ k) ∧ Aside0 (Kd.R (Kd.int .i64) 2 w' w.heap.size (fun _ => True) v5 x5_1) ∧ Aside0 (Below w.heap.size w w'))
 case atStart => exact ⟨(y347), (0), dq15, H', ⟨Nat.le_refl _⟩, ⟨by (with_reducible repeat (first | apply Kd.R_alloc | apply Kd.R_drewN | apply Kd.R_drew)); exact HO349.out⟩, ⟨dq17⟩⟩
 clear H'
 obtain ⟨x5_1, x6_1, rfl, HA, HK1, HO_5, HB⟩ := hrel
 cases gk with
 | zero => exact absurd HA.out (by simp [spec_l8Follow.l0])
 | succ k1 =>
  have H := HA.out
  clear HA
  simp only [spec_l8Follow.l0] at H
  by_cases c5 : x6_1 < (l0.length : Int)
  rotate_left
  ·rw [if_neg c5] at H
   have c5b0 := decide_eq_false c5
   clear c5
   replace H := Option.bind_eq_some_iff.mp H
   obtain ⟨t350, A580, H⟩ := H
   replace H : (some t350) = some r := H
   have A58 := Aside0.mk A580
   clear A580
   obtain rfl := Option.some.inj H
   obtain ⟨Ao59, co59, eo59⟩ := Kd.R_slice HO_5.out
   subst eo59
   go_wp2_with (first | ((with_reducible refine gate_callee (f := 34) rfl ?_); refine goesL_ (some 83) rfl rfl Try.func34 dq21 rfl #[.slice Ao59 x5_1.length co59] rfl dq20 ?_; (with_reducible refine (spec_l8Sorted.calls k1 _ _ x5_1 t350 _ ?side1 ?side2 A58.out).mono ?_); (case side1 => repeat (first | exact (Kd.R_reads' HO_5.out).2.2 | (with_reducible refine Kd.C_alloc ?_ _) | (with_reducible refine Kd.C_drewN ?_ _) | (with_reducible refine Kd.C_drew ?_))); (case side2 => exact (Kd.R_reads' HO_5.out).2.1); rintro e w60 ⟨v351, rfl, ho0, hb⟩; refine ⟨_, rfl, ?_⟩; have n0_ := Aside0.mk (Kd.R_elder' dq65 (Kd.R_base ho0) hb); have n1_ := Aside0.mk (Kd.R_lower (Kd.R_new' ho0 (Kd.R_lt dq65)) (below_size dq17)); have n2_ := Aside0.mk (below_step dq17 hb); clear HO_5; clear HB; have HO_5 := n0_; have HO352 := n1_; have HB := n2_; clear n0_ n1_ n2_; (try clear hb); (try clear hb2); (try clear hk); (try clear hi); (try clear ho0)))
   go_ret
   exact ⟨_, dq19, by (with_reducible repeat (first | apply Kd.R_alloc | apply Kd.R_drewN | apply Kd.R_drew)); exact Kd.R_mono HO352.out (fun _ hk => trivial), dq17⟩
  rw [if_pos c5] at H
  have c5b0 := decide_eq_true c5
  clear c5
  by_cases c6 : 0 ≤ x6_1
  rotate_left
  ·rw [if_neg c6] at H
   exact absurd H dq24
  rw [if_pos c6] at H
  have c6b0 := decide_eq_true c6
  clear c6
  have HC7 := Aside0.mk H
  clear H
  have p353 : 0 ≤ (x6_1 : Int) := of_decide_eq_true dq22
  have q353 : x6_1 < (l0.length : Int) := of_decide_eq_true dq22
  obtain ⟨ad353, A353_2, c353_2, e353, hx353_0, hx353_1, hx353_2, hx353_3, hl353_2, hi353_2⟩ := at_T49 HR0.out x6_1 p353 q353
  cases e353
  replace hx353_0 := (HB.out.cell (World.block_lt_of_cell? w _ hx353_0)).trans hx353_0
  replace hx353_1 := (HB.out.cell (World.block_lt_of_cell? w _ hx353_1)).trans hx353_1
  replace hx353_2 := (HB.out.cell (World.block_lt_of_cell? w _ hx353_2)).trans hx353_2
  replace hx353_3 := (HB.out.cell (World.block_lt_of_cell? w _ hx353_3)).trans hx353_3
  have HR353_2 := Aside0.mk hi353_2
  have HC353_2 := Aside0.mk hl353_2
  clear hi353_2 hl353_2
  replace p353 := eq_true p353
  replace q353 := eq_true q353
  go_upto_region 6 with (first | ((with_reducible refine gate_dst (N := 7) rfl ?_); refine box_event ?hg (N := 7) ?hd (cs := #[.int .i64 0, .string (⟨#[]⟩ : ByteArray), .slice none 0 0, .int .i64 0]) (t := 49) ?hr ?_; (case hd => rfl); (case hg => rfl); (case hr => exact dq0); intro gb354 hg w8 hbox hb; have n0_ := Aside0.mk (Kd.R_below dq65 hb); have n1_ := Aside0.mk (below_step dq17 hb); have n2_ := Aside0.mk (hbox); have n3_ := Aside0.mk ((dq16 : w.heap.size ≤ gb354)); have n4_ := Aside0.mk ((dq16 : w.heap.size ≤ gb354)); clear HO_5; clear HB; have HO_5 := n0_; have HB := n1_; have BK354 := n2_; have GW354 := n3_; have GE354 := n4_; clear n0_ n1_ n2_ n3_ n4_; clear hb hbox hg; obtain ⟨⟨hcz9_0, hcz9_1, hcz9_2, hcz9_3⟩, hfz9_0, hfz9_1, hfz9_2, hfz9_3⟩ := blkC4 BK354.out))
  (try simp only [Act.put, List.setIfInBounds_toArray, List.set_cons_zero, List.set_cons_succ])
  go_cut [30] (fun v30 wc => ∃ (kq : Nat) (x30_6 : Bool), v30 = .bool x30_6 ∧ Aside0 (spec_l8Follow.j1 kq l0 a1 x5_1 x6_1 x30_6 ((rd_T49 l0 x6_1).f0) ((rd_T49 l0 x6_1).f1) ((rd_T49 l0 x6_1).f2) ((rd_T49 l0 x6_1).f3) = some r) ∧ Aside0 (kq ≤ k1) ∧ Aside0 (Kd.R (Kd.int .i64) 2 wc w.heap.size (fun _ => True) u5 x5_1) ∧ Aside0 (wc.heap[gb354]? = some (.cells #[.int .i64 ((rd_T49 l0 x6_1).f0), .string ((rd_T49 l0 x6_1).f1), (.slice A353_2 ((rd_T49 l0 x6_1).f2).length c353_2), .int .i64 ((rd_T49 l0 x6_1).f3)] 49 (0, 0))) ∧ Aside0 (Below w.heap.size w wc))
  case first =>
   have H := HC7.out
   clear HC7
   by_cases c10 : ((rd_T49 l0 x6_1).f3) ≥ 2
   rotate_left
   ·rw [if_neg c10] at H
    have c10b0 : decide (2 ≤ ((rd_T49 l0 x6_1).f3)) = false := decide_eq_false c10
    clear c10
    (first | rw [c10b0] | (simp only [i64_w, i32_w]; rw [c10b0]) | skip)
    have H' := Aside0.mk H
    clear H
    obtain ⟨⟨hcz16_0, hcz16_1, hcz16_2, hcz16_3⟩, hfz16_0, hfz16_1, hfz16_2, hfz16_3⟩ := blkC4 BK354.out
    go_wp2
    go_meet
    case rel => exact ⟨_, (false), dq15, H', ⟨dq46⟩, ⟨by (with_reducible repeat (first | apply Kd.R_alloc | apply Kd.R_drewN | apply Kd.R_drew)); exact Kd.R_mono (Kd.R_far (p := ⟨gb354, 3, none⟩) (Kd.R_far (p := ⟨gb354, 2, none⟩) (Kd.R_far (p := ⟨gb354, 1, none⟩) (Kd.R_far (p := ⟨gb354, 0, none⟩) (Kd.R_types HO_5.out BK354.out dq26) (fun _ hk => hk.2) (.int .i64 ((rd_T49 l0 x6_1).f0))) (fun _ hk => hk.2) (.string ((rd_T49 l0 x6_1).f1))) (fun _ hk => hk.2) (.slice A353_2 ((rd_T49 l0 x6_1).f2).length c353_2)) (fun _ hk => hk.2) (.int .i64 ((rd_T49 l0 x6_1).f3))) (fun _ hk => trivial)⟩, ⟨dq67⟩, ⟨dq66⟩⟩
   rw [if_pos c10] at H
   have c10b0 : decide (2 ≤ ((rd_T49 l0 x6_1).f3)) = true := decide_eq_true c10
   clear c10
   (first | rw [c10b0] | (simp only [i64_w, i32_w]; rw [c10b0]) | skip)
   replace H := Option.bind_eq_some_iff.mp H
   obtain ⟨t355, A110, H⟩ := H
   replace H : ((spec_l8Has.f k1 t355 a1).bind fun t358 => (spec_l8Follow.j1 k1 l0 a1 x5_1 x6_1 t358 ((rd_T49 l0 x6_1).f0) ((rd_T49 l0 x6_1).f1) ((rd_T49 l0 x6_1).f2) ((rd_T49 l0 x6_1).f3))) = some r := H
   have A11 := Aside0.mk A110
   clear A110
   replace H := Option.bind_eq_some_iff.mp H
   obtain ⟨t358, A120, H⟩ := H
   replace H : (spec_l8Follow.j1 k1 l0 a1 x5_1 x6_1 t358 ((rd_T49 l0 x6_1).f0) ((rd_T49 l0 x6_1).f1) ((rd_T49 l0 x6_1).f2) ((rd_T49 l0 x6_1).f3)) = some r := H
   have A12 := Aside0.mk A120
   clear A120
   have H' := Aside0.mk H
   clear H
   obtain ⟨⟨hcz13_0, hcz13_1, hcz13_2, hcz13_3⟩, hfz13_0, hfz13_1, hfz13_2, hfz13_3⟩ := blkC4 BK354.out
   go_wp2_with (first | (go_at_call 35; (with_reducible refine (spec_l8Edge.calls k1 _ _ l0 x6_1 true t355 _ ?side1 ?side2 A11.out).mono ?_); (case side1 => exact Kd.C_below HR0.out dq66); (case side2 => exact dq4); rintro e w14 ⟨v356, rfl, ho0, hb⟩; have n0_ := Aside0.mk (Kd.R_elder' dq68 (Kd.R_base ho0) hb); have n1_ := Aside0.mk (Kd.R_lower (Kd.R_new' ho0 (Kd.R_lt dq68)) (below_size dq66)); have n2_ := Aside0.mk (blk_below (g := gb354) (o := .cells #[.int .i64 ((rd_T49 l0 x6_1).f0), .string ((rd_T49 l0 x6_1).f1), .slice A353_2 ((rd_T49 l0 x6_1).f2).length c353_2, .int .i64 ((rd_T49 l0 x6_1).f3)] 49 (0, 0)) dq67 hb); have n3_ := Aside0.mk (below_step dq66 hb); clear HO_5; clear BK354; clear HB; have HO_5 := n0_; have HO357 := n1_; have BK354 := n2_; have HB := n3_; clear n0_ n1_ n2_ n3_; (try clear hb); (try clear hb2); (try clear hk); (try clear hi); (try clear ho0); obtain ⟨Ao15, co15, eo15⟩ := Kd.R_slice HO357.out; subst eo15) | (go_at_call 52; (with_reducible refine (spec_l8Has.calls k1 _ _ t355 a1 t358 _ ?side1 ?side2 A12.out).mono ?_); (case side1 => repeat (first | exact (Kd.R_reads' HO357.out).2.2 | (with_reducible refine Kd.C_alloc ?_ _) | (with_reducible refine Kd.C_drewN ?_ _) | (with_reducible refine Kd.C_drew ?_))); (case side2 => exact (Kd.R_reads' HO357.out).2.1); rintro e w' ⟨rfl, ⟨nd, rfl⟩⟩))
   go_meet
   case rel => exact ⟨_, (t358), dq15, H', ⟨dq46⟩, ⟨dq70⟩, ⟨dq69⟩, ⟨dq66⟩⟩
  clear HC7
  try clear c5b0
  try clear c6b0
  try clear hcz9_0
  try clear hcz9_1
  try clear hcz9_2
  try clear hcz9_3
  try clear hfz9_0
  try clear hfz9_1
  try clear hfz9_2
  try clear hfz9_3
  try clear hx353_0
  try clear hx353_1
  try clear hx353_2
  try clear hx353_3
  try clear p353
  try clear q353
  obtain ⟨kq, x30_6, rfl, HA, HJ6, HO_5, BK354, HB⟩ := hcut
  cases kq with
  | zero => exact absurd HA.out (by simp [spec_l8Follow.j1])
  | succ kj6 =>
   have H := HA.out
   clear HA
   simp only [spec_l8Follow.j1] at H
   have HC17 := Aside0.mk H
   clear H
   go_upto_if 30 with (fail)
   go_cut [5] (fun v5 wc => ∃ (kq : Nat) (x5_16 : List Int), Aside0 (spec_l8Follow.j2 kq l0 a1 x5_16 x6_1 ((rd_T49 l0 x6_1).f0) ((rd_T49 l0 x6_1).f1) ((rd_T49 l0 x6_1).f2) ((rd_T49 l0 x6_1).f3) = some r) ∧ Aside0 (kq ≤ kj6) ∧ Aside0 (Kd.R (Kd.int .i64) 2 wc w.heap.size (fun _ => True) v5 x5_16) ∧ Aside0 (wc.heap[gb354]? = some (.cells #[.int .i64 ((rd_T49 l0 x6_1).f0), .string ((rd_T49 l0 x6_1).f1), (.slice A353_2 ((rd_T49 l0 x6_1).f2).length c353_2), .int .i64 ((rd_T49 l0 x6_1).f3)] 49 (0, 0))) ∧ Aside0 (Below w.heap.size w wc))
   case first =>
    have H := HC17.out
    clear HC17
    by_cases c18 : x30_6 = true
    rotate_left
    ·replace c18 := Bool.eq_false_iff.mpr c18
     subst c18
     have H1 : (spec_l8Follow.j2 kj6 l0 a1 x5_1 x6_1 ((rd_T49 l0 x6_1).f0) ((rd_T49 l0 x6_1).f1) ((rd_T49 l0 x6_1).f2) ((rd_T49 l0 x6_1).f3)) = some r := by rw [if_neg (show ¬ (false = true) by decide)] at H; exact H
     clear H
     have H := H1
     clear H1
     have H' := Aside0.mk H
     clear H
     go_wp2
     go_meet
     case rel => exact ⟨_, (x5_1), H', ⟨by have := HK1.out; have := HJ6.out; first | omega | exact Nat.le_refl _⟩, ⟨dq65⟩, ⟨dq69⟩, ⟨dq66⟩⟩
    subst c18
    have H1 : ((spec_l8Edge.f kj6 l0 x6_1 false).bind fun t359 => (if x5_1.length + t359.length < 17592186044416 then (spec_l8Follow.j2 kj6 l0 a1 (x5_1 ++ t359) x6_1 ((rd_T49 l0 x6_1).f0) ((rd_T49 l0 x6_1).f1) ((rd_T49 l0 x6_1).f2) ((rd_T49 l0 x6_1).f3)) else (none))) = some r := by rw [if_pos rfl] at H; exact H
    clear H
    have H := H1
    clear H1
    replace H := Option.bind_eq_some_iff.mp H
    obtain ⟨t359, A190, H⟩ := H
    replace H : (if x5_1.length + t359.length < 17592186044416 then (spec_l8Follow.j2 kj6 l0 a1 (x5_1 ++ t359) x6_1 ((rd_T49 l0 x6_1).f0) ((rd_T49 l0 x6_1).f1) ((rd_T49 l0 x6_1).f2) ((rd_T49 l0 x6_1).f3)) else (none)) = some r := H
    have A19 := Aside0.mk A190
    clear A190
    by_cases c20 : x5_1.length + t359.length < 17592186044416
    rotate_left
    ·rw [if_neg c20] at H
     exact absurd H dq24
    rw [if_pos c20] at H
    have LMc20 := Aside0.mk c20
    clear c20
    obtain ⟨y362, hy362⟩ : ∃ y_ : List Int, y_ = (x5_1 ++ t359) := ⟨_, rfl⟩
    replace H : (spec_l8Follow.j2 kj6 l0 a1 y362 x6_1 ((rd_T49 l0 x6_1).f0) ((rd_T49 l0 x6_1).f1) ((rd_T49 l0 x6_1).f2) ((rd_T49 l0 x6_1).f3)) = some r := by first | (rw [hy362]; with_reducible exact H) | (have H2_ := (Option.bind_some _ _).symm.trans H; rw [hy362]; with_reducible exact H2_) | (have H2_ := (Option.bind_some _ _).symm.trans H; with_reducible exact H2_) | with_reducible exact H | (rw [hy362]; exact H) | exact H
    have Ny362 := Aside0.mk hy362
    clear hy362
    have H' := Aside0.mk H
    clear H
    go_wp2_with (first | ((with_reducible refine gate_callee (f := 35) rfl ?_); refine goesL_ (some 34) rfl rfl Try.func35 dq21 rfl #[.slice (some ad353) l0.length c0, .int .i64 x6_1, .bool false] rfl dq20 ?_; (with_reducible refine (spec_l8Edge.calls kj6 _ _ l0 x6_1 false t359 _ ?side1 ?side2 A19.out).mono ?_); (case side1 => exact dq5); (case side2 => exact dq4); rintro e w21 ⟨v360, rfl, ho0, hb⟩; refine ⟨_, rfl, ?_⟩; have n0_ := Aside0.mk (Kd.R_elder' dq65 (Kd.R_base ho0) hb); have n1_ := Aside0.mk (Kd.R_lower (Kd.R_new' ho0 (Kd.R_lt dq65)) (below_size dq66)); have n2_ := Aside0.mk (blk_below (g := gb354) (o := .cells #[.int .i64 ((rd_T49 l0 x6_1).f0), .string ((rd_T49 l0 x6_1).f1), .slice A353_2 ((rd_T49 l0 x6_1).f2).length c353_2, .int .i64 ((rd_T49 l0 x6_1).f3)] 49 (0, 0)) dq69 hb); have n3_ := Aside0.mk (below_step dq66 hb); clear HO_5; clear BK354; clear HB; have HO_5 := n0_; have HO361 := n1_; have BK354 := n2_; have HB := n3_; clear n0_ n1_ n2_ n3_; (try clear hb); (try clear hb2); (try clear hk); (try clear hi); (try clear ho0); obtain ⟨Ao23, co23, eo23⟩ := Kd.R_slice HO361.out; subst eo23) | ((with_reducible refine gate_builtin (b := .append) (xs := #[.tmp 31, .tmp 34]) rfl ?_); at_builtin; refine Kd.R_append_rows (Kd.int .i64) (w0 := w) w.heap.size rfl (.tmp 31) (.tmp 34) 24 2 (.int .i64 0) 8 rfl Try.underlying24 info2 rfl dq26 dq25 u5 x5_1 t359 _ _ _ (fun k_ => some k_ ≠ (.slice Ao23 t359.length co23 : Value).ownBlock) (fun _ => False) rfl rfl ?aO ?aR (fun _ _ h => h) (fun _ h => h.elim) ?aF ?aB ?aS ?aL ?_; (case aR => repeat (first | exact (Kd.R_reads' HO361.out).2.2 | (with_reducible refine Kd.C_alloc ?_ _) | (with_reducible refine Kd.C_drewN ?_ _) | (with_reducible refine Kd.C_drew ?_))); (case aB => exact dq66); (case aF => exact (fun k_ hk => Kd.fresh' (Kd.R_lt (by (with_reducible repeat (first | apply Kd.R_alloc | apply Kd.R_drewN | apply Kd.R_drew)); exact HO361.out)) k_ hk)); (case aO => exact dq71); (case aS => exact (below_size dq66)); (case aL => have := LMc20.out; omega); intro v363 w22 ho hb hg hat; rw [← Ny362.out] at ho; have n0_ := Aside0.mk (blk_grown (g := gb354) (o := .cells #[.int .i64 ((rd_T49 l0 x6_1).f0), .string ((rd_T49 l0 x6_1).f1), .slice A353_2 ((rd_T49 l0 x6_1).f2).length c353_2, .int .i64 ((rd_T49 l0 x6_1).f3)] 49 (0, 0)) dq69 hg (Kd.R_ne HO_5.out BK354.out dq26)); have n1_ := Aside0.mk (Kd.R_after (ok := (fun _ => True)) (by (with_reducible repeat (first | apply Kd.R_alloc | apply Kd.R_drewN | apply Kd.R_drew)); exact HO361.out) hg hat); have n2_ := Aside0.mk (hb); have n3_ := Aside0.mk (ho); clear BK354; clear HO361; clear HB; clear HO_5; have BK354 := n0_; have HO361 := n1_; have HB := n2_; have HO364 := n3_; clear n0_ n1_ n2_ n3_; clear ho hb hg hat))
    go_meet
    case rel => exact ⟨_, (y362), H', ⟨by have := HK1.out; have := HJ6.out; first | omega | exact Nat.le_refl _⟩, ⟨by (with_reducible repeat (first | apply Kd.R_alloc | apply Kd.R_drewN | apply Kd.R_drew)); exact Kd.R_mono HO364.out (fun _ hk => trivial)⟩, ⟨dq69⟩, ⟨dq66⟩⟩
   clear HC17
   obtain ⟨kq, x5_16, HA, HJ16, HO_5, BK354, HB⟩ := hcut
   cases kq with
   | zero => exact absurd HA.out (by simp [spec_l8Follow.j2])
   | succ kj16 =>
    have H := HA.out
    clear HA
    simp only [spec_l8Follow.j2] at H
    by_cases c24 : ((rd_T49 l0 x6_1).f0) = 2
    rotate_left
    ·rw [if_neg c24] at H
     have c24b0 := beq_eq_false_iff_ne.mpr c24
     have c24b1 := bne_iff_ne.mpr c24
     have H' := Aside0.mk H
     clear H
     obtain ⟨⟨hcz57_0, hcz57_1, hcz57_2, hcz57_3⟩, hfz57_0, hfz57_1, hfz57_2, hfz57_3⟩ := blkC4 BK354.out
     go_wp2
     go_roundg kj16
     case measure => have := HK1.out; have := HJ6.out; have := HJ16.out; omega
     case rel => exact ⟨(x5_16), (wrap64 (x6_1 + 1)), dq15, H', ⟨by have := HK1.out; have := HJ6.out; have := HJ16.out; omega⟩, ⟨dq65⟩, ⟨dq66⟩⟩
    rw [if_pos c24] at H
    have c24b0 := beq_iff_eq.mpr c24
    have c24b1 := bne_eq_false_iff_eq.mpr c24
    clear c24
    have H' := Aside0.mk H
    clear H
    obtain ⟨⟨hcz25_0, hcz25_1, hcz25_2, hcz25_3⟩, hfz25_0, hfz25_1, hfz25_2, hfz25_3⟩ := blkC4 BK354.out
    go_wp2
    go_loopg [5, 8] kj16 (fun kq v5 v8 w' => ∃ (x5_4 : List Int) (x8_4 : Int), v8 = .int .i64 x8_4 ∧ Aside0 (spec_l8Follow.l1 kq l0 a1 x5_4 x6_1 x8_4 ((rd_T49 l0 x6_1).f0) ((rd_T49 l0 x6_1).f1) ((rd_T49 l0 x6_1).f2) ((rd_T49 l0 x6_1).f3) = some r) ∧ Aside0 (kq ≤ kj16) ∧ Aside0 (Kd.R (Kd.int .i64) 2 w' w.heap.size (fun _ => True) v5 x5_4) ∧ Aside0 (w'.heap[gb354]? = some (.cells #[.int .i64 ((rd_T49 l0 x6_1).f0), .string ((rd_T49 l0 x6_1).f1), (.slice A353_2 ((rd_T49 l0 x6_1).f2).length c353_2), .int .i64 ((rd_T49 l0 x6_1).f3)] 49 (0, 0))) ∧ Aside0 (Below w.heap.size w w'))
    case atStart => exact ⟨(x5_16), (0), dq15, H', ⟨Nat.le_refl _⟩, ⟨dq65⟩, ⟨dq69⟩, ⟨dq66⟩⟩
    clear H'
    try clear c24b0
    try clear c24b1
    try clear hcz25_0
    try clear hcz25_1
    try clear hcz25_2
    try clear hcz25_3
    try clear hfz25_0
    try clear hfz25_1
    try clear hfz25_2
    try clear hfz25_3
    obtain ⟨x5_4, x8_4, rfl, HA, HK4, HO_5, BK354, HB⟩ := hrel
    cases gk with
    | zero => exact absurd HA.out (by simp [spec_l8Follow.l1])
    | succ k4 =>
     have H := HA.out
     clear HA
     simp only [spec_l8Follow.l1] at H
     by_cases c26 : x8_4 < (((rd_T49 l0 x6_1).f2).length : Int)
     rotate_left
     ·rw [if_neg c26] at H
      have c26b0 := decide_eq_false c26
      clear c26
      have H' := Aside0.mk H
      clear H
      obtain ⟨⟨hcz56_0, hcz56_1, hcz56_2, hcz56_3⟩, hfz56_0, hfz56_1, hfz56_2, hfz56_3⟩ := blkC4 BK354.out
      go_wp2
      go_roundg k4
      case measure => have := HK1.out; have := HJ6.out; have := HJ16.out; have := HK4.out; omega
      case rel => exact ⟨(x5_4), (wrap64 (x6_1 + 1)), dq15, H', ⟨by have := HK1.out; have := HJ6.out; have := HJ16.out; have := HK4.out; omega⟩, ⟨dq65⟩, ⟨dq66⟩⟩
     rw [if_pos c26] at H
     have c26b0 := decide_eq_true c26
     clear c26
     by_cases c27 : 0 ≤ x8_4
     rotate_left
     ·rw [if_neg c27] at H
      exact absurd H dq24
     rw [if_pos c27] at H
     have c27b0 := decide_eq_true c27
     clear c27
     replace H := Option.bind_eq_some_iff.mp H
     obtain ⟨t366, A280, H⟩ := H
     replace H : ((spec_l8Has.f k4 t366 a1).bind fun t369 => (if t369 = true then (spec_l8Follow.l2 k4 l0 a1 x5_4 x6_1 x8_4 (wrap64 (x8_4 + 1)) ((rd_T49 l0 x6_1).f0) ((rd_T49 l0 x6_1).f1) ((rd_T49 l0 x6_1).f2) ((rd_T49 l0 x6_1).f3)) else (spec_l8Follow.l1 k4 l0 a1 x5_4 x6_1 (wrap64 (x8_4 + 1)) ((rd_T49 l0 x6_1).f0) ((rd_T49 l0 x6_1).f1) ((rd_T49 l0 x6_1).f2) ((rd_T49 l0 x6_1).f3)))) = some r := H
     have A28 := Aside0.mk A280
     clear A280
     replace H := Option.bind_eq_some_iff.mp H
     obtain ⟨t369, A290, H⟩ := H
     replace H : (if t369 = true then (spec_l8Follow.l2 k4 l0 a1 x5_4 x6_1 x8_4 (wrap64 (x8_4 + 1)) ((rd_T49 l0 x6_1).f0) ((rd_T49 l0 x6_1).f1) ((rd_T49 l0 x6_1).f2) ((rd_T49 l0 x6_1).f3)) else (spec_l8Follow.l1 k4 l0 a1 x5_4 x6_1 (wrap64 (x8_4 + 1)) ((rd_T49 l0 x6_1).f0) ((rd_T49 l0 x6_1).f1) ((rd_T49 l0 x6_1).f2) ((rd_T49 l0 x6_1).f3))) = some r := H
     have A29 := Aside0.mk A290
     clear A290
     by_cases c30 : t369 = true
     rotate_left
     ·replace c30 := Bool.eq_false_iff.mpr c30
      subst c30
      have H1 : (spec_l8Follow.l1 k4 l0 a1 x5_4 x6_1 (wrap64 (x8_4 + 1)) ((rd_T49 l0 x6_1).f0) ((rd_T49 l0 x6_1).f1) ((rd_T49 l0 x6_1).f2) ((rd_T49 l0 x6_1).f3)) = some r := by rw [if_neg (show ¬ (false = true) by decide)] at H; exact H
      clear H
      have H := H1
      clear H1
      have H' := Aside0.mk H
      clear H
      obtain ⟨⟨hcz53_0, hcz53_1, hcz53_2, hcz53_3⟩, hfz53_0, hfz53_1, hfz53_2, hfz53_3⟩ := blkC4 BK354.out
      have p365 : 0 ≤ (x8_4 : Int) := of_decide_eq_true dq22
      have q365 : x8_4 < (((rd_T49 l0 x6_1).f2).length : Int) := of_decide_eq_true dq22
      obtain ⟨ad365, e365, hx365_0⟩ := Kd.at_int HR353_2.out x8_4 p365 q365
      cases e365
      replace hx365_0 := (HB.out.cell (World.block_lt_of_cell? w _ hx365_0)).trans hx365_0
      replace p365 := eq_true p365
      replace q365 := eq_true q365
      go_wp2_with (first | ((with_reducible refine gate_callee (f := 35) rfl ?_); refine goesL_ (some 52) rfl rfl Try.func35 dq21 rfl #[.slice (some ad353) l0.length c0, .int .i64 (rd ((rd_T49 l0 x6_1).f2) x8_4), .bool true] rfl dq20 ?_; (with_reducible refine (spec_l8Edge.calls k4 _ _ l0 (rd ((rd_T49 l0 x6_1).f2) x8_4) true t366 _ ?side1 ?side2 A28.out).mono ?_); (case side1 => exact dq5); (case side2 => exact dq4); rintro e w54 ⟨v367, rfl, ho0, hb⟩; refine ⟨_, rfl, ?_⟩; have n0_ := Aside0.mk (Kd.R_elder' dq65 (Kd.R_base ho0) hb); have n1_ := Aside0.mk (Kd.R_lower (Kd.R_new' ho0 (Kd.R_lt dq65)) (below_size dq66)); have n2_ := Aside0.mk (blk_below (g := gb354) (o := .cells #[.int .i64 ((rd_T49 l0 x6_1).f0), .string ((rd_T49 l0 x6_1).f1), .slice (some ad365) ((rd_T49 l0 x6_1).f2).length c353_2, .int .i64 ((rd_T49 l0 x6_1).f3)] 49 (0, 0)) dq69 hb); have n3_ := Aside0.mk (below_step dq66 hb); clear HO_5; clear BK354; clear HB; have HO_5 := n0_; have HO368 := n1_; have BK354 := n2_; have HB := n3_; clear n0_ n1_ n2_ n3_; (try clear hb); (try clear hb2); (try clear hk); (try clear hi); (try clear ho0); obtain ⟨Ao55, co55, eo55⟩ := Kd.R_slice HO368.out; subst eo55) | ((with_reducible refine gate_callee (f := 52) rfl ?_); refine goesL_ (some 54) rfl rfl Try.func52 dq21 rfl #[.slice Ao55 t366.length co55, .int .i64 a1] rfl dq20 ?_; (with_reducible refine (spec_l8Has.calls k4 _ _ t366 a1 false _ ?side1 ?side2 A29.out).mono ?_); (case side1 => repeat (first | exact (Kd.R_reads' HO368.out).2.2 | (with_reducible refine Kd.C_alloc ?_ _) | (with_reducible refine Kd.C_drewN ?_ _) | (with_reducible refine Kd.C_drew ?_))); (case side2 => exact (Kd.R_reads' HO368.out).2.1); rintro e w' ⟨rfl, ⟨nd, rfl⟩⟩; refine ⟨_, rfl, ?_⟩))
      go_roundg k4
      case measure => have := HK1.out; have := HJ6.out; have := HJ16.out; have := HK4.out; omega
      case rel => exact ⟨(x5_4), (wrap64 (x8_4 + 1)), dq15, H', ⟨by have := HK1.out; have := HJ6.out; have := HJ16.out; have := HK4.out; omega⟩, ⟨dq70⟩, ⟨dq69⟩, ⟨dq66⟩⟩
     subst c30
     have H1 : (spec_l8Follow.l2 k4 l0 a1 x5_4 x6_1 x8_4 (wrap64 (x8_4 + 1)) ((rd_T49 l0 x6_1).f0) ((rd_T49 l0 x6_1).f1) ((rd_T49 l0 x6_1).f2) ((rd_T49 l0 x6_1).f3)) = some r := by rw [if_pos rfl] at H; exact H
     clear H
     have H := H1
     clear H1
     have H' := Aside0.mk H
     clear H
     obtain ⟨⟨hcz31_0, hcz31_1, hcz31_2, hcz31_3⟩, hfz31_0, hfz31_1, hfz31_2, hfz31_3⟩ := blkC4 BK354.out
     have p365 : 0 ≤ (x8_4 : Int) := of_decide_eq_true dq22
     have q365 : x8_4 < (((rd_T49 l0 x6_1).f2).length : Int) := of_decide_eq_true dq22
     obtain ⟨ad365, e365, hx365_0⟩ := Kd.at_int HR353_2.out x8_4 p365 q365
     cases e365
     replace hx365_0 := (HB.out.cell (World.block_lt_of_cell? w _ hx365_0)).trans hx365_0
     replace p365 := eq_true p365
     replace q365 := eq_true q365
     go_wp2_with (first | ((with_reducible refine gate_callee (f := 35) rfl ?_); refine goesL_ (some 52) rfl rfl Try.func35 dq21 rfl #[.slice (some ad353) l0.length c0, .int .i64 (rd ((rd_T49 l0 x6_1).f2) x8_4), .bool true] rfl dq20 ?_; (with_reducible refine (spec_l8Edge.calls k4 _ _ l0 (rd ((rd_T49 l0 x6_1).f2) x8_4) true t366 _ ?side1 ?side2 A28.out).mono ?_); (case side1 => exact dq5); (case side2 => exact dq4); rintro e w32 ⟨v367, rfl, ho0, hb⟩; refine ⟨_, rfl, ?_⟩; have n0_ := Aside0.mk (Kd.R_elder' dq65 (Kd.R_base ho0) hb); have n1_ := Aside0.mk (Kd.R_lower (Kd.R_new' ho0 (Kd.R_lt dq65)) (below_size dq66)); have n2_ := Aside0.mk (blk_below (g := gb354) (o := .cells #[.int .i64 ((rd_T49 l0 x6_1).f0), .string ((rd_T49 l0 x6_1).f1), .slice (some ad365) ((rd_T49 l0 x6_1).f2).length c353_2, .int .i64 ((rd_T49 l0 x6_1).f3)] 49 (0, 0)) dq69 hb); have n3_ := Aside0.mk (below_step dq66 hb); clear HO_5; clear BK354; clear HB; have HO_5 := n0_; have HO368 := n1_; have BK354 := n2_; have HB := n3_; clear n0_ n1_ n2_ n3_; (try clear hb); (try clear hb2); (try clear hk); (try clear hi); (try clear ho0); obtain ⟨Ao33, co33, eo33⟩ := Kd.R_slice HO368.out; subst eo33) | ((with_reducible refine gate_callee (f := 52) rfl ?_); refine goesL_ (some 54) rfl rfl Try.func52 dq21 rfl #[.slice Ao33 t366.length co33, .int .i64 a1] rfl dq20 ?_; (with_reducible refine (spec_l8Has.calls k4 _ _ t366 a1 true _ ?side1 ?side2 A29.out).mono ?_); (case side1 => repeat (first | exact (Kd.R_reads' HO368.out).2.2 | (with_reducible refine Kd.C_alloc ?_ _) | (with_reducible refine Kd.C_drewN ?_ _) | (with_reducible refine Kd.C_drew ?_))); (case side2 => exact (Kd.R_reads' HO368.out).2.1); rintro e w' ⟨rfl, ⟨nd, rfl⟩⟩; refine ⟨_, rfl, ?_⟩))
     go_loopg [5, 9] k4 (fun kq v5 v9 w' => ∃ (x5_5 : List Int) (x9_5 : Int), v9 = .int .i64 x9_5 ∧ Aside0 (spec_l8Follow.l2 kq l0 a1 x5_5 x6_1 x8_4 x9_5 ((rd_T49 l0 x6_1).f0) ((rd_T49 l0 x6_1).f1) ((rd_T49 l0 x6_1).f2) ((rd_T49 l0 x6_1).f3) = some r) ∧ Aside0 (kq ≤ k4) ∧ Aside0 (Kd.R (Kd.int .i64) 2 w' w.heap.size (fun _ => True) v5 x5_5) ∧ Aside0 (w'.heap[gb354]? = some (.cells #[.int .i64 ((rd_T49 l0 x6_1).f0), .string ((rd_T49 l0 x6_1).f1), (.slice (some ad365) ((rd_T49 l0 x6_1).f2).length c353_2), .int .i64 ((rd_T49 l0 x6_1).f3)] 49 (0, 0))) ∧ Aside0 (Below w.heap.size w w'))
     case atStart => exact ⟨(x5_4), (wrap64 (x8_4 + 1)), dq15, H', ⟨Nat.le_refl _⟩, ⟨dq70⟩, ⟨dq69⟩, ⟨dq66⟩⟩
     clear H'
     try clear c26b0
     try clear c27b0
     try clear hcz31_0
     try clear hcz31_1
     try clear hcz31_2
     try clear hcz31_3
     try clear hfz31_0
     try clear hfz31_1
     try clear hfz31_2
     try clear hfz31_3
     try clear hx365_0
     try clear p365
     try clear q365
     obtain ⟨x5_5, x9_5, rfl, HA, HK5, HO_5, BK354, HB⟩ := hrel
     cases gk with
     | zero => exact absurd HA.out (by simp [spec_l8Follow.l2])
     | succ k5 =>
      have H := HA.out
      clear HA
      simp only [spec_l8Follow.l2] at H
      by_cases c34 : x9_5 < (((rd_T49 l0 x6_1).f2).length : Int)
      rotate_left
      ·rw [if_neg c34] at H
       have c34b0 := decide_eq_false c34
       clear c34
       have H' := Aside0.mk H
       clear H
       obtain ⟨⟨hcz52_0, hcz52_1, hcz52_2, hcz52_3⟩, hfz52_0, hfz52_1, hfz52_2, hfz52_3⟩ := blkC4 BK354.out
       go_wp2
       go_roundg k5
       case measure => have := HK1.out; have := HJ6.out; have := HJ16.out; have := HK4.out; have := HK5.out; omega
       case rel => exact ⟨(x5_5), (wrap64 (x8_4 + 1)), dq15, H', ⟨dq74⟩, ⟨dq65⟩, ⟨dq69⟩, ⟨dq66⟩⟩
      rw [if_pos c34] at H
      have c34b0 := decide_eq_true c34
      clear c34
      by_cases c35 : 0 ≤ x9_5
      rotate_left
      ·rw [if_neg c35] at H
       exact absurd H dq24
      rw [if_pos c35] at H
      have c35b0 := decide_eq_true c35
      clear c35
      replace H := Option.bind_eq_some_iff.mp H
      obtain ⟨t371, A360, H⟩ := H
      replace H : (if x5_5.length + t371.length < 17592186044416 then ((some (x5_5 ++ t371 : List Int)).bind fun y374 => ((spec_l8Null.f k5 l0 (rd ((rd_T49 l0 x6_1).f2) x9_5)).bind fun t378 => (if t378 = true then (spec_l8Follow.l2 k5 l0 a1 y374 x6_1 x8_4 (wrap64 (x9_5 + 1)) ((rd_T49 l0 x6_1).f0) ((rd_T49 l0 x6_1).f1) ((rd_T49 l0 x6_1).f2) ((rd_T49 l0 x6_1).f3)) else (spec_l8Follow.l1 k5 l0 a1 y374 x6_1 (wrap64 (x8_4 + 1)) ((rd_T49 l0 x6_1).f0) ((rd_T49 l0 x6_1).f1) ((rd_T49 l0 x6_1).f2) ((rd_T49 l0 x6_1).f3))))) else (none)) = some r := H
      have A36 := Aside0.mk A360
      clear A360
      by_cases c37 : x5_5.length + t371.length < 17592186044416
      rotate_left
      ·rw [if_neg c37] at H
       exact absurd H dq24
      rw [if_pos c37] at H
      have LMc37 := Aside0.mk c37
      clear c37
      obtain ⟨y374, hy374⟩ : ∃ y_ : List Int, y_ = (x5_5 ++ t371) := ⟨_, rfl⟩
      replace H : ((spec_l8Null.f k5 l0 (rd ((rd_T49 l0 x6_1).f2) x9_5)).bind fun t378 => (if t378 = true then (spec_l8Follow.l2 k5 l0 a1 y374 x6_1 x8_4 (wrap64 (x9_5 + 1)) ((rd_T49 l0 x6_1).f0) ((rd_T49 l0 x6_1).f1) ((rd_T49 l0 x6_1).f2) ((rd_T49 l0 x6_1).f3)) else (spec_l8Follow.l1 k5 l0 a1 y374 x6_1 (wrap64 (x8_4 + 1)) ((rd_T49 l0 x6_1).f0) ((rd_T49 l0 x6_1).f1) ((rd_T49 l0 x6_1).f2) ((rd_T49 l0 x6_1).f3)))) = some r := by first | (rw [hy374]; with_reducible exact H) | (have H2_ := (Option.bind_some _ _).symm.trans H; rw [hy374]; with_reducible exact H2_) | (have H2_ := (Option.bind_some _ _).symm.trans H; with_reducible exact H2_) | with_reducible exact H | (rw [hy374]; exact H) | exact H
      have Ny374 := Aside0.mk hy374
      clear hy374
      replace H := Option.bind_eq_some_iff.mp H
      obtain ⟨t378, A380, H⟩ := H
      replace H : (if t378 = true then (spec_l8Follow.l2 k5 l0 a1 y374 x6_1 x8_4 (wrap64 (x9_5 + 1)) ((rd_T49 l0 x6_1).f0) ((rd_T49 l0 x6_1).f1) ((rd_T49 l0 x6_1).f2) ((rd_T49 l0 x6_1).f3)) else (spec_l8Follow.l1 k5 l0 a1 y374 x6_1 (wrap64 (x8_4 + 1)) ((rd_T49 l0 x6_1).f0) ((rd_T49 l0 x6_1).f1) ((rd_T49 l0 x6_1).f2) ((rd_T49 l0 x6_1).f3))) = some r := H
      have A38 := Aside0.mk A380
      clear A380
      by_cases c39 : t378 = true
      ·subst c39
       have H1 : (spec_l8Follow.l2 k5 l0 a1 y374 x6_1 x8_4 (wrap64 (x9_5 + 1)) ((rd_T49 l0 x6_1).f0) ((rd_T49 l0 x6_1).f1) ((rd_T49 l0 x6_1).f2) ((rd_T49 l0 x6_1).f3)) = some r := by rw [if_pos rfl] at H; exact H
       clear H
       have H := H1
       clear H1
       have H' := Aside0.mk H
       clear H
       obtain ⟨⟨hcz40_0, hcz40_1, hcz40_2, hcz40_3⟩, hfz40_0, hfz40_1, hfz40_2, hfz40_3⟩ := blkC4 BK354.out
       have p370 : 0 ≤ (x9_5 : Int) := of_decide_eq_true dq22
       have q370 : x9_5 < (((rd_T49 l0 x6_1).f2).length : Int) := of_decide_eq_true dq22
       obtain ⟨ad370, e370, hx370_0⟩ := Kd.at_int HR353_2.out x9_5 p370 q370
       obtain rfl : ad365 = ad370 := (by injection e370)
       replace hx370_0 := (HB.out.cell (World.block_lt_of_cell? w _ hx370_0)).trans hx370_0
       replace p370 := eq_true p370
       replace q370 := eq_true q370
       go_wp2_with (first | ((with_reducible refine gate_callee (f := 35) rfl ?_); refine goesL_ (some 72) rfl rfl Try.func35 dq21 rfl #[.slice (some ad353) l0.length c0, .int .i64 (rd ((rd_T49 l0 x6_1).f2) x9_5), .bool false] rfl dq20 ?_; (with_reducible refine (spec_l8Edge.calls k5 _ _ l0 (rd ((rd_T49 l0 x6_1).f2) x9_5) false t371 _ ?side1 ?side2 A36.out).mono ?_); (case side1 => exact dq5); (case side2 => exact dq4); rintro e w41 ⟨v372, rfl, ho0, hb⟩; refine ⟨_, rfl, ?_⟩; have n0_ := Aside0.mk (Kd.R_elder' dq65 (Kd.R_base ho0) hb); have n1_ := Aside0.mk (Kd.R_lower (Kd.R_new' ho0 (Kd.R_lt dq65)) (below_size dq66)); have n2_ := Aside0.mk (blk_below (g := gb354) (o := .cells #[.int .i64 ((rd_T49 l0 x6_1).f0), .string ((rd_T49 l0 x6_1).f1), .slice (some ad365) ((rd_T49 l0 x6_1).f2).length c353_2, .int .i64 ((rd_T49 l0 x6_1).f3)] 49 (0, 0)) dq69 hb); have n3_ := Aside0.mk (below_step dq66 hb); clear HO_5; clear BK354; clear HB; have HO_5 := n0_; have HO373 := n1_; have BK354 := n2_; have HB := n3_; clear n0_ n1_ n2_ n3_; (try clear hb); (try clear hb2); (try clear hk); (try clear hi); (try clear ho0); obtain ⟨Ao43, co43, eo43⟩ := Kd.R_slice HO373.out; subst eo43) | ((with_reducible refine gate_builtin (b := .append) (xs := #[.tmp 65, .tmp 72]) rfl ?_); at_builtin; refine Kd.R_append_rows (Kd.int .i64) (w0 := w) w.heap.size rfl (.tmp 65) (.tmp 72) 24 2 (.int .i64 0) 8 rfl Try.underlying24 info2 rfl dq26 dq25 u5 x5_5 t371 _ _ _ (fun k_ => some k_ ≠ (.slice Ao43 t371.length co43 : Value).ownBlock) (fun _ => False) rfl rfl ?aO ?aR (fun _ _ h => h) (fun _ h => h.elim) ?aF ?aB ?aS ?aL ?_; (case aR => repeat (first | exact (Kd.R_reads' HO373.out).2.2 | (with_reducible refine Kd.C_alloc ?_ _) | (with_reducible refine Kd.C_drewN ?_ _) | (with_reducible refine Kd.C_drew ?_))); (case aB => exact dq66); (case aF => exact (fun k_ hk => Kd.fresh' (Kd.R_lt dq72) k_ hk)); (case aO => exact dq71); (case aS => exact (below_size dq66)); (case aL => have := LMc37.out; omega); intro v375 w42 ho hb hg hat; rw [← Ny374.out] at ho; have n0_ := Aside0.mk (blk_grown (g := gb354) (o := .cells #[.int .i64 ((rd_T49 l0 x6_1).f0), .string ((rd_T49 l0 x6_1).f1), .slice (some ad365) ((rd_T49 l0 x6_1).f2).length c353_2, .int .i64 ((rd_T49 l0 x6_1).f3)] 49 (0, 0)) dq69 hg (Kd.R_ne HO_5.out BK354.out dq26)); have n1_ := Aside0.mk (Kd.R_after (ok := (fun _ => True)) dq72 hg hat); have n2_ := Aside0.mk (hb); have n3_ := Aside0.mk (ho); clear BK354; clear HO373; clear HB; clear HO_5; have BK354 := n0_; have HO373 := n1_; have HB := n2_; have HO376 := n3_; clear n0_ n1_ n2_ n3_; clear ho hb hg hat; obtain ⟨⟨hcz44_0, hcz44_1, hcz44_2, hcz44_3⟩, hfz44_0, hfz44_1, hfz44_2, hfz44_3⟩ := blkC4 BK354.out; have p377 : 0 ≤ (x9_5 : Int) := of_decide_eq_true dq22; have q377 : x9_5 < (((rd_T49 l0 x6_1).f2).length : Int) := of_decide_eq_true dq22; obtain ⟨ad377, e377, hx377_0⟩ := Kd.at_int HR353_2.out x9_5 p377 q377; obtain rfl : ad365 = ad377 := (by injection e377); replace hx377_0 := (HB.out.cell (World.block_lt_of_cell? w _ hx377_0)).trans hx377_0; replace p377 := eq_true p377; replace q377 := eq_true q377) | ((with_reducible refine gate_callee (f := 62) rfl ?_); refine goesL_ (some 80) rfl rfl Try.func62 dq21 rfl #[.slice (some ad353) l0.length c0, .int .i64 (rd ((rd_T49 l0 x6_1).f2) x9_5)] rfl dq20 ?_; (with_reducible refine (spec_l8Null.calls k5 _ _ l0 (rd ((rd_T49 l0 x6_1).f2) x9_5) true _ ?side1 ?side2 A38.out).mono ?_); (case side1 => exact dq5); (case side2 => exact dq4); rintro e w45 ⟨rfl, hb⟩; refine ⟨_, rfl, ?_⟩; have n0_ := Aside0.mk (Kd.R_below dq72 hb); have n1_ := Aside0.mk (Kd.R_below (by (with_reducible repeat (first | apply Kd.R_alloc | apply Kd.R_drewN | apply Kd.R_drew)); exact HO376.out) hb); have n2_ := Aside0.mk (blk_below (g := gb354) (o := .cells #[.int .i64 ((rd_T49 l0 x6_1).f0), .string ((rd_T49 l0 x6_1).f1), .slice (some ad365) ((rd_T49 l0 x6_1).f2).length c353_2, .int .i64 ((rd_T49 l0 x6_1).f3)] 49 (0, 0)) dq69 hb); have n3_ := Aside0.mk (below_step dq66 hb); clear HO373; clear HO376; clear BK354; clear HB; have HO373 := n0_; have HO376 := n1_; have BK354 := n2_; have HB := n3_; clear n0_ n1_ n2_ n3_; (try clear hb); (try clear hb2); (try clear hk); (try clear hi)))
       go_roundg k5
       case measure => have := HK1.out; have := HJ6.out; have := HJ16.out; have := HK4.out; have := HK5.out; omega
       case rel => exact ⟨(y374), (wrap64 (x9_5 + 1)), dq15, H', ⟨dq74⟩, ⟨dq73⟩, ⟨dq69⟩, ⟨dq66⟩⟩
      replace c39 := Bool.eq_false_iff.mpr c39
      subst c39
      have H1 : (spec_l8Follow.l1 k5 l0 a1 y374 x6_1 (wrap64 (x8_4 + 1)) ((rd_T49 l0 x6_1).f0) ((rd_T49 l0 x6_1).f1) ((rd_T49 l0 x6_1).f2) ((rd_T49 l0 x6_1).f3)) = some r := by rw [if_neg (show ¬ (false = true) by decide)] at H; exact H
      clear H
      have H := H1
      clear H1
      have H' := Aside0.mk H
      clear H
      obtain ⟨⟨hcz46_0, hcz46_1, hcz46_2, hcz46_3⟩, hfz46_0, hfz46_1, hfz46_2, hfz46_3⟩ := blkC4 BK354.out
      have p370 : 0 ≤ (x9_5 : Int) := of_decide_eq_true dq22
      have q370 : x9_5 < (((rd_T49 l0 x6_1).f2).length : Int) := of_decide_eq_true dq22
      obtain ⟨ad370, e370, hx370_0⟩ := Kd.at_int HR353_2.out x9_5 p370 q370
      obtain rfl : ad365 = ad370 := (by injection e370)
      replace hx370_0 := (HB.out.cell (World.block_lt_of_cell? w _ hx370_0)).trans hx370_0
      replace p370 := eq_true p370
      replace q370 := eq_true q370
      go_wp2_with (first | ((with_reducible refine gate_callee (f := 35) rfl ?_); refine goesL_ (some 72) rfl rfl Try.func35 dq21 rfl #[.slice (some ad353) l0.length c0, .int .i64 (rd ((rd_T49 l0 x6_1).f2) x9_5), .bool false] rfl dq20 ?_; (with_reducible refine (spec_l8Edge.calls k5 _ _ l0 (rd ((rd_T49 l0 x6_1).f2) x9_5) false t371 _ ?side1 ?side2 A36.out).mono ?_); (case side1 => exact dq5); (case side2 => exact dq4); rintro e w47 ⟨v372, rfl, ho0, hb⟩; refine ⟨_, rfl, ?_⟩; have n0_ := Aside0.mk (Kd.R_elder' dq65 (Kd.R_base ho0) hb); have n1_ := Aside0.mk (Kd.R_lower (Kd.R_new' ho0 (Kd.R_lt dq65)) (below_size dq66)); have n2_ := Aside0.mk (blk_below (g := gb354) (o := .cells #[.int .i64 ((rd_T49 l0 x6_1).f0), .string ((rd_T49 l0 x6_1).f1), .slice (some ad365) ((rd_T49 l0 x6_1).f2).length c353_2, .int .i64 ((rd_T49 l0 x6_1).f3)] 49 (0, 0)) dq69 hb); have n3_ := Aside0.mk (below_step dq66 hb); clear HO_5; clear BK354; clear HB; have HO_5 := n0_; have HO373 := n1_; have BK354 := n2_; have HB := n3_; clear n0_ n1_ n2_ n3_; (try clear hb); (try clear hb2); (try clear hk); (try clear hi); (try clear ho0); obtain ⟨Ao49, co49, eo49⟩ := Kd.R_slice HO373.out; subst eo49) | ((with_reducible refine gate_builtin (b := .append) (xs := #[.tmp 65, .tmp 72]) rfl ?_); at_builtin; refine Kd.R_append_rows (Kd.int .i64) (w0 := w) w.heap.size rfl (.tmp 65) (.tmp 72) 24 2 (.int .i64 0) 8 rfl Try.underlying24 info2 rfl dq26 dq25 u5 x5_5 t371 _ _ _ (fun k_ => some k_ ≠ (.slice Ao49 t371.length co49 : Value).ownBlock) (fun _ => False) rfl rfl ?aO ?aR (fun _ _ h => h) (fun _ h => h.elim) ?aF ?aB ?aS ?aL ?_; (case aR => repeat (first | exact (Kd.R_reads' HO373.out).2.2 | (with_reducible refine Kd.C_alloc ?_ _) | (with_reducible refine Kd.C_drewN ?_ _) | (with_reducible refine Kd.C_drew ?_))); (case aB => exact dq66); (case aF => exact (fun k_ hk => Kd.fresh' (Kd.R_lt dq72) k_ hk)); (case aO => exact dq71); (case aS => exact (below_size dq66)); (case aL => have := LMc37.out; omega); intro v375 w48 ho hb hg hat; rw [← Ny374.out] at ho; have n0_ := Aside0.mk (blk_grown (g := gb354) (o := .cells #[.int .i64 ((rd_T49 l0 x6_1).f0), .string ((rd_T49 l0 x6_1).f1), .slice (some ad365) ((rd_T49 l0 x6_1).f2).length c353_2, .int .i64 ((rd_T49 l0 x6_1).f3)] 49 (0, 0)) dq69 hg (Kd.R_ne HO_5.out BK354.out dq26)); have n1_ := Aside0.mk (Kd.R_after (ok := (fun _ => True)) dq72 hg hat); have n2_ := Aside0.mk (hb); have n3_ := Aside0.mk (ho); clear BK354; clear HO373; clear HB; clear HO_5; have BK354 := n0_; have HO373 := n1_; have HB := n2_; have HO376 := n3_; clear n0_ n1_ n2_ n3_; clear ho hb hg hat; obtain ⟨⟨hcz50_0, hcz50_1, hcz50_2, hcz50_3⟩, hfz50_0, hfz50_1, hfz50_2, hfz50_3⟩ := blkC4 BK354.out; have p377 : 0 ≤ (x9_5 : Int) := of_decide_eq_true dq22; have q377 : x9_5 < (((rd_T49 l0 x6_1).f2).length : Int) := of_decide_eq_true dq22; obtain ⟨ad377, e377, hx377_0⟩ := Kd.at_int HR353_2.out x9_5 p377 q377; obtain rfl : ad365 = ad377 := (by injection e377); replace hx377_0 := (HB.out.cell (World.block_lt_of_cell? w _ hx377_0)).trans hx377_0; replace p377 := eq_true p377; replace q377 := eq_true q377) | ((with_reducible refine gate_callee (f := 62) rfl ?_); refine goesL_ (some 80) rfl rfl Try.func62 dq21 rfl #[.slice (some ad353) l0.length c0, .int .i64 (rd ((rd_T49 l0 x6_1).f2) x9_5)] rfl dq20 ?_; (with_reducible refine (spec_l8Null.calls k5 _ _ l0 (rd ((rd_T49 l0 x6_1).f2) x9_5) false _ ?side1 ?side2 A38.out).mono ?_); (case side1 => exact dq5); (case side2 => exact dq4); rintro e w51 ⟨rfl, hb⟩; refine ⟨_, rfl, ?_⟩; have n0_ := Aside0.mk (Kd.R_below dq72 hb); have n1_ := Aside0.mk (Kd.R_below (by (with_reducible repeat (first | apply Kd.R_alloc | apply Kd.R_drewN | apply Kd.R_drew)); exact HO376.out) hb); have n2_ := Aside0.mk (blk_below (g := gb354) (o := .cells #[.int .i64 ((rd_T49 l0 x6_1).f0), .string ((rd_T49 l0 x6_1).f1), .slice (some ad365) ((rd_T49 l0 x6_1).f2).length c353_2, .int .i64 ((rd_T49 l0 x6_1).f3)] 49 (0, 0)) dq69 hb); have n3_ := Aside0.mk (below_step dq66 hb); clear HO373; clear HO376; clear BK354; clear HB; have HO373 := n0_; have HO376 := n1_; have BK354 := n2_; have HB := n3_; clear n0_ n1_ n2_ n3_; (try clear hb); (try clear hb2); (try clear hk); (try clear hi)))
      go_roundg k5
      case measure => have := HK1.out; have := HJ6.out; have := HJ16.out; have := HK4.out; have := HK5.out; omega
      case rel => exact ⟨(y374), (wrap64 (x8_4 + 1)), dq15, H', ⟨dq74⟩, ⟨dq73⟩, ⟨dq69⟩, ⟨dq66⟩⟩

/-! ### spec_l8Pos: function 45 -/
def spec_l8Pos.f (l0 : List (S49)) (a1 : Int) : Option (Bool) := (spec_l1In.f a1 0 (wrap64 ((l0.length : Int) - 1))).bind fun t343 => (if t343 = true then (if 0 ≤ a1 then (if a1 < (l0.length : Int) then (if ((rd_T49 l0 a1).f0) = 1 then (some true) else (some (((rd_T49 l0 a1).f0) == 4))) else (none)) else (none)) else (some false))
set_option maxHeartbeats 8000000 in
set_option maxRecDepth 100000 in
theorem spec_l8Pos.calls (A0 : Option Addr) (c0 : Nat) (l0 : List (S49)) (a1 : Int) (r : Bool) (w : World) (hr0 : Kd.C k49 w A0 l0.length l0) (hc0 : l0.length ≤ c0) (h : spec_l8Pos.f l0 a1 = some r) :
  Calls Try.prog 45 #[.slice A0 l0.length c0, .int .i64 a1] w fun e w' => e = .returned (.bool r) ∧ Drawn0 w w' := by
 have HR0 := Aside0.mk hr0
 have HC0 := Aside0.mk hc0
 clear hr0 hc0
 have H : ((spec_l1In.f a1 0 (wrap64 ((l0.length : Int) - 1))).bind fun t343 => (if t343 = true then (if 0 ≤ a1 then (if a1 < (l0.length : Int) then (if ((rd_T49 l0 a1).f0) = 1 then (some true) else (some (((rd_T49 l0 a1).f0) == 4))) else (none)) else (none)) else (some false))) = some r := h
 clear h
 replace H := Option.bind_eq_some_iff.mp H
 obtain ⟨t343, A30, H⟩ := H
 replace H : (if t343 = true then (if 0 ≤ a1 then (if a1 < (l0.length : Int) then (if ((rd_T49 l0 a1).f0) = 1 then (some true) else (some (((rd_T49 l0 a1).f0) == 4))) else (none)) else (none)) else (some false)) = some r := H
 have A3 := Aside0.mk A30
 clear A30
 by_cases c4 : t343 = true
 rotate_left
 ·replace c4 := Bool.eq_false_iff.mpr c4
  subst c4
  have H1 : (some false) = some r := by rw [if_neg (show ¬ (false = true) by decide)] at H; exact H
  clear H
  have H := H1
  clear H1
  obtain rfl := Option.some.inj H
  go_enter Try.func45, Try.ntmps45
  go_wp2_with (first | ((with_reducible refine gate_callee (f := 58) rfl ?_); refine goesL_ (some 9) rfl rfl Try.func58 dq21 rfl #[.int .i64 a1, .int .i64 0, .int .i64 (wrap64 ((l0.length : Int) - 1))] rfl dq20 ?_; (with_reducible refine (spec_l1In.calls a1 0 (wrap64 ((l0.length : Int) - 1)) false _ A3.out).mono ?_); rintro e w' ⟨rfl, ⟨nd, rfl⟩⟩; refine ⟨_, rfl, ?_⟩))
  go_ret
  exact ⟨dq15, dq14⟩
 subst c4
 have H1 : (if 0 ≤ a1 then (if a1 < (l0.length : Int) then (if ((rd_T49 l0 a1).f0) = 1 then (some true) else (some (((rd_T49 l0 a1).f0) == 4))) else (none)) else (none)) = some r := by rw [if_pos rfl] at H; exact H
 clear H
 have H := H1
 clear H1
 by_cases c5 : 0 ≤ a1
 rotate_left
 ·rw [if_neg c5] at H
  exact absurd H dq24
 rw [if_pos c5] at H
 have c5b0 := decide_eq_true c5
 clear c5
 by_cases c6 : a1 < (l0.length : Int)
 rotate_left
 ·rw [if_neg c6] at H
  exact absurd H dq24
 rw [if_pos c6] at H
 have c6b0 := decide_eq_true c6
 clear c6
 by_cases c7 : ((rd_T49 l0 a1).f0) = 1
 ·rw [if_pos c7] at H
  have c7b0 := beq_iff_eq.mpr c7
  have c7b1 := bne_eq_false_iff_eq.mpr c7
  clear c7
  obtain rfl := Option.some.inj H
  go_enter Try.func45, Try.ntmps45
  go_wp2_with (first | ((with_reducible refine gate_callee (f := 58) rfl ?_); refine goesL_ (some 9) rfl rfl Try.func58 dq21 rfl #[.int .i64 a1, .int .i64 0, .int .i64 (wrap64 ((l0.length : Int) - 1))] rfl dq20 ?_; (with_reducible refine (spec_l1In.calls a1 0 (wrap64 ((l0.length : Int) - 1)) true _ A3.out).mono ?_); rintro e w' ⟨rfl, ⟨nd, rfl⟩⟩; refine ⟨_, rfl, ?_⟩; have p344 : 0 ≤ (a1 : Int) := of_decide_eq_true dq22; have q344 : a1 < (l0.length : Int) := of_decide_eq_true dq22; obtain ⟨ad344, A344_2, c344_2, e344, hx344_0, hx344_1, hx344_2, hx344_3, hl344_2, hi344_2⟩ := at_T49 HR0.out a1 p344 q344; cases e344; have HR344_2 := Aside0.mk hi344_2; have HC344_2 := Aside0.mk hl344_2; clear hi344_2 hl344_2; replace p344 := eq_true p344; replace q344 := eq_true q344))
  go_ret
  exact ⟨dq15, dq14⟩
 rw [if_neg c7] at H
 have c7b0 := beq_eq_false_iff_ne.mpr c7
 have c7b1 := bne_iff_ne.mpr c7
 obtain rfl := Option.some.inj H
 go_enter Try.func45, Try.ntmps45
 go_wp2_with (first | ((with_reducible refine gate_callee (f := 58) rfl ?_); refine goesL_ (some 9) rfl rfl Try.func58 dq21 rfl #[.int .i64 a1, .int .i64 0, .int .i64 (wrap64 ((l0.length : Int) - 1))] rfl dq20 ?_; (with_reducible refine (spec_l1In.calls a1 0 (wrap64 ((l0.length : Int) - 1)) true _ A3.out).mono ?_); rintro e w' ⟨rfl, ⟨nd, rfl⟩⟩; refine ⟨_, rfl, ?_⟩; have p344 : 0 ≤ (a1 : Int) := of_decide_eq_true dq22; have q344 : a1 < (l0.length : Int) := of_decide_eq_true dq22; obtain ⟨ad344, A344_2, c344_2, e344, hx344_0, hx344_1, hx344_2, hx344_3, hl344_2, hi344_2⟩ := at_T49 HR0.out a1 p344 q344; cases e344; have HR344_2 := Aside0.mk hi344_2; have HC344_2 := Aside0.mk hl344_2; clear hi344_2 hl344_2; replace p344 := eq_true p344; replace q344 := eq_true q344; have p345 : 0 ≤ (a1 : Int) := of_decide_eq_true dq22; have q345 : a1 < (l0.length : Int) := of_decide_eq_true dq22; obtain ⟨ad345, A345_2, c345_2, e345, hx345_0, hx345_1, hx345_2, hx345_3, hl345_2, hi345_2⟩ := at_T49 HR0.out a1 p345 q345; obtain rfl : ad344 = ad345 := (by injection e345); have HR345_2 := Aside0.mk hi345_2; have HC345_2 := Aside0.mk hl345_2; clear hi345_2 hl345_2; replace p345 := eq_true p345; replace q345 := eq_true q345; have ea_ := Option.some.inj (hx344_2.symm.trans hx345_2); injection ea_ with ea_ en_ ec_; subst ea_; subst ec_; clear en_))
 go_ret
 exact ⟨dq15, dq14⟩

/-! ### spec_l8Apart: function 49 -/
mutual
def spec_l8Apart.l0 : Nat → List (S49) → List Int → Int → Option (Bool)
 | 0, _, _, _ => none
 | k + 1, x0, x1, x5 => if x5 < (x1.length : Int) then (spec_l8Apart.l1 k x0 x1 x5 0) else (some true)
def spec_l8Apart.l1 : Nat → List (S49) → List Int → Int → Int → Option (Bool)
 | 0, _, _, _, _ => none
 | k + 1, x0, x1, x5, x6 => if x6 < x5 then (if 0 ≤ x5 then (if x5 < (x1.length : Int) then (if 0 ≤ (rd x1 x5) then (if (rd x1 x5) < (x0.length : Int) then (if 0 ≤ x6 then (if x6 < (x1.length : Int) then (if 0 ≤ (rd x1 x6) then (if (rd x1 x6) < (x0.length : Int) then (if ((rd_T49 x0 (rd x1 x5)).f0) = 4 then (some false) else (if ((rd_T49 x0 (rd x1 x6)).f0) = 4 then (some false) else (if ((rd_T49 x0 (rd x1 x5)).f1).toList = ((rd_T49 x0 (rd x1 x6)).f1).toList then (some false) else (spec_l8Apart.l1 k x0 x1 x5 (wrap64 (x6 + 1)))))) else (none)) else (none)) else (none)) else (none)) else (none)) else (none)) else (none)) else (none)) else (spec_l8Apart.l0 k x0 x1 (wrap64 (x5 + 1)))
end
def spec_l8Apart.f (k : Nat) (l0 : List (S49)) (l1 : List Int) : Option (Bool) := spec_l8Apart.l0 k l0 l1 0
set_option maxHeartbeats 8000000 in
set_option maxRecDepth 100000 in
theorem spec_l8Apart.calls (k : Nat) (A0 : Option Addr) (c0 : Nat) (l0 : List (S49)) (A1 : Option Addr) (c1 : Nat) (l1 : List Int) (r : Bool) (w : World) (hr0 : Kd.C k49 w A0 l0.length l0) (hc0 : l0.length ≤ c0) (hr1 : Kd.C (Kd.int .i64) w A1 l1.length l1) (hc1 : l1.length ≤ c1) (h : spec_l8Apart.f k l0 l1 = some r) :
  Calls Try.prog 49 #[.slice A0 l0.length c0, .slice A1 l1.length c1] w fun e w' => e = .returned (.bool r) ∧ Below w.heap.size w w' := by
 have hu49 := Try.underlying49
 have HR0 := Aside0.mk hr0
 have HC0 := Aside0.mk hc0
 clear hr0 hc0
 have HR1 := Aside0.mk hr1
 have HC1 := Aside0.mk hc1
 clear hr1 hc1
 have HB := Aside0.mk (Below.refl w.heap.size w)
 have H : (spec_l8Apart.l0 k l0 l1 0) = some r := h
 clear h
 have H' := Aside0.mk H
 clear H
 go_enter Try.func49, Try.ntmps49
 go_wp2
 go_loopg [5] k (fun kq v5 w' => ∃ (x5_1 : Int), v5 = .int .i64 x5_1 ∧ Aside0 (spec_l8Apart.l0 kq l0 l1 x5_1 = some r) ∧ Aside0 (kq ≤ k) ∧ Aside0 (Below w.heap.size w w'))
 case atStart => exact ⟨(0), dq15, H', ⟨Nat.le_refl _⟩, ⟨dq17⟩⟩
 clear H'
 obtain ⟨x5_1, rfl, HA, HK1, HB⟩ := hrel
 cases gk with
 | zero => exact absurd HA.out (by simp [spec_l8Apart.l0])
 | succ k1 =>
  have H := HA.out
  clear HA
  simp only [spec_l8Apart.l0] at H
  by_cases c3 : x5_1 < (l1.length : Int)
  rotate_left
  ·rw [if_neg c3] at H
   have c3b0 := decide_eq_false c3
   clear c3
   obtain rfl := Option.some.inj H
   go_wp2
   go_ret
   exact ⟨dq19, dq17⟩
  rw [if_pos c3] at H
  have c3b0 := decide_eq_true c3
  clear c3
  have H' := Aside0.mk H
  clear H
  go_wp2
  go_loopg [6] k1 (fun kq v6 w' => ∃ (x6_2 : Int), v6 = .int .i64 x6_2 ∧ Aside0 (spec_l8Apart.l1 kq l0 l1 x5_1 x6_2 = some r) ∧ Aside0 (kq ≤ k1) ∧ Aside0 (Below w.heap.size w w'))
  case atStart => exact ⟨(0), dq15, H', ⟨Nat.le_refl _⟩, ⟨dq17⟩⟩
  clear H'
  try clear c3b0
  obtain ⟨x6_2, rfl, HA, HK2, HB⟩ := hrel
  cases gk with
  | zero => exact absurd HA.out (by simp [spec_l8Apart.l1])
  | succ k2 =>
   have H := HA.out
   clear HA
   simp only [spec_l8Apart.l1] at H
   by_cases c4 : x6_2 < x5_1
   rotate_left
   ·rw [if_neg c4] at H
    have c4b0 := decide_eq_false c4
    clear c4
    have H' := Aside0.mk H
    clear H
    go_wp2
    go_roundg k2
    case measure => have := HK1.out; have := HK2.out; omega
    case rel => exact ⟨(wrap64 (x5_1 + 1)), dq15, H', ⟨dq52⟩, ⟨dq17⟩⟩
   rw [if_pos c4] at H
   have c4b0 := decide_eq_true c4
   clear c4
   by_cases c5 : 0 ≤ x5_1
   rotate_left
   ·rw [if_neg c5] at H
    exact absurd H dq24
   rw [if_pos c5] at H
   have c5b0 := decide_eq_true c5
   clear c5
   by_cases c6 : x5_1 < (l1.length : Int)
   rotate_left
   ·rw [if_neg c6] at H
    exact absurd H dq24
   rw [if_pos c6] at H
   have c6b0 := decide_eq_true c6
   clear c6
   by_cases c7 : 0 ≤ (rd l1 x5_1)
   rotate_left
   ·rw [if_neg c7] at H
    exact absurd H dq24
   rw [if_pos c7] at H
   have c7b0 := decide_eq_true c7
   clear c7
   by_cases c8 : (rd l1 x5_1) < (l0.length : Int)
   rotate_left
   ·rw [if_neg c8] at H
    exact absurd H dq24
   rw [if_pos c8] at H
   have c8b0 := decide_eq_true c8
   clear c8
   by_cases c9 : 0 ≤ x6_2
   rotate_left
   ·rw [if_neg c9] at H
    exact absurd H dq24
   rw [if_pos c9] at H
   have c9b0 := decide_eq_true c9
   clear c9
   by_cases c10 : x6_2 < (l1.length : Int)
   rotate_left
   ·rw [if_neg c10] at H
    exact absurd H dq24
   rw [if_pos c10] at H
   have c10b0 := decide_eq_true c10
   clear c10
   by_cases c11 : 0 ≤ (rd l1 x6_2)
   rotate_left
   ·rw [if_neg c11] at H
    exact absurd H dq24
   rw [if_pos c11] at H
   have c11b0 := decide_eq_true c11
   clear c11
   by_cases c12 : (rd l1 x6_2) < (l0.length : Int)
   rotate_left
   ·rw [if_neg c12] at H
    exact absurd H dq24
   rw [if_pos c12] at H
   have c12b0 := decide_eq_true c12
   clear c12
   by_cases c13 : ((rd_T49 l0 (rd l1 x5_1)).f0) = 4
   ·rw [if_pos c13] at H
    have c13b0 := beq_iff_eq.mpr c13
    have c13b1 := bne_eq_false_iff_eq.mpr c13
    clear c13
    obtain rfl := Option.some.inj H
    have p421 : 0 ≤ (x5_1 : Int) := of_decide_eq_true dq22
    have q421 : x5_1 < (l1.length : Int) := of_decide_eq_true dq22
    obtain ⟨ad421, e421, hx421_0⟩ := Kd.at_int HR1.out x5_1 p421 q421
    cases e421
    replace hx421_0 := (HB.out.cell (World.block_lt_of_cell? w _ hx421_0)).trans hx421_0
    replace p421 := eq_true p421
    replace q421 := eq_true q421
    have p422 : 0 ≤ ((rd l1 x5_1) : Int) := of_decide_eq_true dq22
    have q422 : (rd l1 x5_1) < (l0.length : Int) := of_decide_eq_true dq22
    obtain ⟨ad422, A422_2, c422_2, e422, hx422_0, hx422_1, hx422_2, hx422_3, hl422_2, hi422_2⟩ := at_T49 HR0.out (rd l1 x5_1) p422 q422
    cases e422
    replace hx422_0 := (HB.out.cell (World.block_lt_of_cell? w _ hx422_0)).trans hx422_0
    replace hx422_1 := (HB.out.cell (World.block_lt_of_cell? w _ hx422_1)).trans hx422_1
    replace hx422_2 := (HB.out.cell (World.block_lt_of_cell? w _ hx422_2)).trans hx422_2
    replace hx422_3 := (HB.out.cell (World.block_lt_of_cell? w _ hx422_3)).trans hx422_3
    have HR422_2 := Aside0.mk hi422_2
    have HC422_2 := Aside0.mk hl422_2
    clear hi422_2 hl422_2
    replace p422 := eq_true p422
    replace q422 := eq_true q422
    go_wp2_with (first | ((with_reducible refine gate_dst (N := 7) rfl ?_); refine box_event ?hg (N := 7) ?hd (cs := #[.int .i64 0, .string (⟨#[]⟩ : ByteArray), .slice none 0 0, .int .i64 0]) (t := 49) ?hr ?_; (case hd => rfl); (case hg => rfl); (case hr => exact dq0); intro gb423 hg w14 hbox hb; have n0_ := Aside0.mk (below_step dq17 hb); have n1_ := Aside0.mk (hbox); have n2_ := Aside0.mk ((dq16 : w.heap.size ≤ gb423)); have n3_ := Aside0.mk ((dq16 : w.heap.size ≤ gb423)); clear HB; have HB := n0_; have BK423 := n1_; have GW423 := n2_; have GE423 := n3_; clear n0_ n1_ n2_ n3_; clear hb hbox hg; obtain ⟨⟨hcz15_0, hcz15_1, hcz15_2, hcz15_3⟩, hfz15_0, hfz15_1, hfz15_2, hfz15_3⟩ := blkC4 BK423.out; have p424 : 0 ≤ (x6_2 : Int) := of_decide_eq_true dq22; have q424 : x6_2 < (l1.length : Int) := of_decide_eq_true dq22; obtain ⟨ad424, e424, hx424_0⟩ := Kd.at_int HR1.out x6_2 p424 q424; obtain rfl : ad421 = ad424 := (by injection e424); have hn424_0 : ad421.block ≠ gb423 := Nat.ne_of_lt (Nat.lt_of_lt_of_le dq89 GW423.out); have hn424_1 : ad421.block ≠ gb423 := Nat.ne_of_lt (Nat.lt_of_lt_of_le dq89 GW423.out); have hn424_2 : ad421.block ≠ gb423 := Nat.ne_of_lt (Nat.lt_of_lt_of_le dq89 GW423.out); have hn424_3 : ad421.block ≠ gb423 := Nat.ne_of_lt (Nat.lt_of_lt_of_le dq89 GW423.out); replace hx424_0 := (HB.out.cell (World.block_lt_of_cell? w _ hx424_0)).trans hx424_0; replace hx424_0 := (cell_far (p := ⟨gb423, 0, none⟩) dq88 (.int .i64 ((rd_T49 l0 (rd l1 x5_1)).f0))).trans hx424_0; replace hx424_0 := (cell_far (p := ⟨gb423, 1, none⟩) dq87 (.string ((rd_T49 l0 (rd l1 x5_1)).f1))).trans hx424_0; replace hx424_0 := (cell_far (p := ⟨gb423, 2, none⟩) dq86 (.slice A422_2 ((rd_T49 l0 (rd l1 x5_1)).f2).length c422_2)).trans hx424_0; replace hx424_0 := (cell_far (p := ⟨gb423, 3, none⟩) dq85 (.int .i64 ((rd_T49 l0 (rd l1 x5_1)).f3))).trans hx424_0; clear hn424_0; clear hn424_1; clear hn424_2; clear hn424_3; replace p424 := eq_true p424; replace q424 := eq_true q424; have p425 : 0 ≤ ((rd l1 x6_2) : Int) := of_decide_eq_true dq22; have q425 : (rd l1 x6_2) < (l0.length : Int) := of_decide_eq_true dq22; obtain ⟨ad425, A425_2, c425_2, e425, hx425_0, hx425_1, hx425_2, hx425_3, hl425_2, hi425_2⟩ := at_T49 HR0.out (rd l1 x6_2) p425 q425; obtain rfl : ad422 = ad425 := (by injection e425); have hn425_0 : ad422.block ≠ gb423 := Nat.ne_of_lt (Nat.lt_of_lt_of_le dq84 GW423.out); have hn425_1 : ad422.block ≠ gb423 := Nat.ne_of_lt (Nat.lt_of_lt_of_le dq84 GW423.out); have hn425_2 : ad422.block ≠ gb423 := Nat.ne_of_lt (Nat.lt_of_lt_of_le dq84 GW423.out); have hn425_3 : ad422.block ≠ gb423 := Nat.ne_of_lt (Nat.lt_of_lt_of_le dq84 GW423.out); replace hx425_0 := (HB.out.cell (World.block_lt_of_cell? w _ hx425_0)).trans hx425_0; replace hx425_1 := (HB.out.cell (World.block_lt_of_cell? w _ hx425_1)).trans hx425_1; replace hx425_2 := (HB.out.cell (World.block_lt_of_cell? w _ hx425_2)).trans hx425_2; replace hx425_3 := (HB.out.cell (World.block_lt_of_cell? w _ hx425_3)).trans hx425_3; have HR425_2 := Aside0.mk hi425_2; have HC425_2 := Aside0.mk hl425_2; clear hi425_2 hl425_2; replace hx425_0 := (cell_far (p := ⟨gb423, 0, none⟩) dq83 (.int .i64 ((rd_T49 l0 (rd l1 x5_1)).f0))).trans hx425_0; replace hx425_1 := (cell_far (p := ⟨gb423, 0, none⟩) dq83 (.int .i64 ((rd_T49 l0 (rd l1 x5_1)).f0))).trans hx425_1; replace hx425_2 := (cell_far (p := ⟨gb423, 0, none⟩) dq83 (.int .i64 ((rd_T49 l0 (rd l1 x5_1)).f0))).trans hx425_2; replace hx425_3 := (cell_far (p := ⟨gb423, 0, none⟩) dq83 (.int .i64 ((rd_T49 l0 (rd l1 x5_1)).f0))).trans hx425_3; replace hx425_0 := (cell_far (p := ⟨gb423, 1, none⟩) dq82 (.string ((rd_T49 l0 (rd l1 x5_1)).f1))).trans hx425_0; replace hx425_1 := (cell_far (p := ⟨gb423, 1, none⟩) dq82 (.string ((rd_T49 l0 (rd l1 x5_1)).f1))).trans hx425_1; replace hx425_2 := (cell_far (p := ⟨gb423, 1, none⟩) dq82 (.string ((rd_T49 l0 (rd l1 x5_1)).f1))).trans hx425_2; replace hx425_3 := (cell_far (p := ⟨gb423, 1, none⟩) dq82 (.string ((rd_T49 l0 (rd l1 x5_1)).f1))).trans hx425_3; replace hx425_0 := (cell_far (p := ⟨gb423, 2, none⟩) dq81 (.slice A422_2 ((rd_T49 l0 (rd l1 x5_1)).f2).length c422_2)).trans hx425_0; replace hx425_1 := (cell_far (p := ⟨gb423, 2, none⟩) dq81 (.slice A422_2 ((rd_T49 l0 (rd l1 x5_1)).f2).length c422_2)).trans hx425_1; replace hx425_2 := (cell_far (p := ⟨gb423, 2, none⟩) dq81 (.slice A422_2 ((rd_T49 l0 (rd l1 x5_1)).f2).length c422_2)).trans hx425_2; replace hx425_3 := (cell_far (p := ⟨gb423, 2, none⟩) dq81 (.slice A422_2 ((rd_T49 l0 (rd l1 x5_1)).f2).length c422_2)).trans hx425_3; replace hx425_0 := (cell_far (p := ⟨gb423, 3, none⟩) dq80 (.int .i64 ((rd_T49 l0 (rd l1 x5_1)).f3))).trans hx425_0; replace hx425_1 := (cell_far (p := ⟨gb423, 3, none⟩) dq80 (.int .i64 ((rd_T49 l0 (rd l1 x5_1)).f3))).trans hx425_1; replace hx425_2 := (cell_far (p := ⟨gb423, 3, none⟩) dq80 (.int .i64 ((rd_T49 l0 (rd l1 x5_1)).f3))).trans hx425_2; replace hx425_3 := (cell_far (p := ⟨gb423, 3, none⟩) dq80 (.int .i64 ((rd_T49 l0 (rd l1 x5_1)).f3))).trans hx425_3; clear hn425_0; clear hn425_1; clear hn425_2; clear hn425_3; replace p425 := eq_true p425; replace q425 := eq_true q425) | ((with_reducible refine gate_dst (N := 8) rfl ?_); refine box_event ?hg (N := 8) ?hd (cs := #[.int .i64 0, .string (⟨#[]⟩ : ByteArray), .slice none 0 0, .int .i64 0]) (t := 49) ?hr ?_; (case hd => rfl); (case hg => rfl); (case hr => exact dq0); intro gb426 hg w16 hbox hb; have n0_ := Aside0.mk (blk_below (g := gb423) (o := .cells #[.int .i64 ((rd_T49 l0 (rd l1 x5_1)).f0), .string ((rd_T49 l0 (rd l1 x5_1)).f1), .slice A422_2 ((rd_T49 l0 (rd l1 x5_1)).f2).length c422_2, .int .i64 ((rd_T49 l0 (rd l1 x5_1)).f3)] 49 (0, 0)) dq79 hb); have n1_ := Aside0.mk (below_step dq78 hb); have n2_ := Aside0.mk (hbox); have n3_ := Aside0.mk ((dq77 : w.heap.size ≤ gb426)); have n4_ := Aside0.mk ((dq77 : w.heap.size ≤ gb426)); have n5_ := Aside0.mk ((dq76 : gb423 ≠ gb426)); have n6_ := Aside0.mk ((dq75 : gb426 ≠ gb423)); clear BK423; clear HB; have BK423 := n0_; have HB := n1_; have BK426 := n2_; have GW426 := n3_; have GE426 := n4_; have NB423_426 := n5_; have NB426_423 := n6_; clear n0_ n1_ n2_ n3_ n4_ n5_ n6_; clear hb hbox hg; have hnb17 := NB426_423.out; have hnc17 := NB423_426.out; obtain ⟨⟨hcz18_0, hcz18_1, hcz18_2, hcz18_3⟩, hfz18_0, hfz18_1, hfz18_2, hfz18_3⟩ := blkC4 BK426.out; obtain ⟨⟨hcz19_0, hcz19_1, hcz19_2, hcz19_3⟩, hfz19_0, hfz19_1, hfz19_2, hfz19_3⟩ := blkC4 BK423.out))
    go_ret
    exact ⟨dq19, dq90⟩
   rw [if_neg c13] at H
   have c13b0 := beq_eq_false_iff_ne.mpr c13
   have c13b1 := bne_iff_ne.mpr c13
   by_cases c20 : ((rd_T49 l0 (rd l1 x6_2)).f0) = 4
   ·rw [if_pos c20] at H
    have c20b0 := beq_iff_eq.mpr c20
    have c20b1 := bne_eq_false_iff_eq.mpr c20
    clear c20
    obtain rfl := Option.some.inj H
    have p421 : 0 ≤ (x5_1 : Int) := of_decide_eq_true dq22
    have q421 : x5_1 < (l1.length : Int) := of_decide_eq_true dq22
    obtain ⟨ad421, e421, hx421_0⟩ := Kd.at_int HR1.out x5_1 p421 q421
    cases e421
    replace hx421_0 := (HB.out.cell (World.block_lt_of_cell? w _ hx421_0)).trans hx421_0
    replace p421 := eq_true p421
    replace q421 := eq_true q421
    have p422 : 0 ≤ ((rd l1 x5_1) : Int) := of_decide_eq_true dq22
    have q422 : (rd l1 x5_1) < (l0.length : Int) := of_decide_eq_true dq22
    obtain ⟨ad422, A422_2, c422_2, e422, hx422_0, hx422_1, hx422_2, hx422_3, hl422_2, hi422_2⟩ := at_T49 HR0.out (rd l1 x5_1) p422 q422
    cases e422
    replace hx422_0 := (HB.out.cell (World.block_lt_of_cell? w _ hx422_0)).trans hx422_0
    replace hx422_1 := (HB.out.cell (World.block_lt_of_cell? w _ hx422_1)).trans hx422_1
    replace hx422_2 := (HB.out.cell (World.block_lt_of_cell? w _ hx422_2)).trans hx422_2
    replace hx422_3 := (HB.out.cell (World.block_lt_of_cell? w _ hx422_3)).trans hx422_3
    have HR422_2 := Aside0.mk hi422_2
    have HC422_2 := Aside0.mk hl422_2
    clear hi422_2 hl422_2
    replace p422 := eq_true p422
    replace q422 := eq_true q422
    go_wp2_with (first | ((with_reducible refine gate_dst (N := 7) rfl ?_); refine box_event ?hg (N := 7) ?hd (cs := #[.int .i64 0, .string (⟨#[]⟩ : ByteArray), .slice none 0 0, .int .i64 0]) (t := 49) ?hr ?_; (case hd => rfl); (case hg => rfl); (case hr => exact dq0); intro gb423 hg w21 hbox hb; have n0_ := Aside0.mk (below_step dq17 hb); have n1_ := Aside0.mk (hbox); have n2_ := Aside0.mk ((dq16 : w.heap.size ≤ gb423)); have n3_ := Aside0.mk ((dq16 : w.heap.size ≤ gb423)); clear HB; have HB := n0_; have BK423 := n1_; have GW423 := n2_; have GE423 := n3_; clear n0_ n1_ n2_ n3_; clear hb hbox hg; obtain ⟨⟨hcz22_0, hcz22_1, hcz22_2, hcz22_3⟩, hfz22_0, hfz22_1, hfz22_2, hfz22_3⟩ := blkC4 BK423.out; have p424 : 0 ≤ (x6_2 : Int) := of_decide_eq_true dq22; have q424 : x6_2 < (l1.length : Int) := of_decide_eq_true dq22; obtain ⟨ad424, e424, hx424_0⟩ := Kd.at_int HR1.out x6_2 p424 q424; obtain rfl : ad421 = ad424 := (by injection e424); have hn424_0 : ad421.block ≠ gb423 := Nat.ne_of_lt (Nat.lt_of_lt_of_le dq89 GW423.out); have hn424_1 : ad421.block ≠ gb423 := Nat.ne_of_lt (Nat.lt_of_lt_of_le dq89 GW423.out); have hn424_2 : ad421.block ≠ gb423 := Nat.ne_of_lt (Nat.lt_of_lt_of_le dq89 GW423.out); have hn424_3 : ad421.block ≠ gb423 := Nat.ne_of_lt (Nat.lt_of_lt_of_le dq89 GW423.out); replace hx424_0 := (HB.out.cell (World.block_lt_of_cell? w _ hx424_0)).trans hx424_0; replace hx424_0 := (cell_far (p := ⟨gb423, 0, none⟩) dq88 (.int .i64 ((rd_T49 l0 (rd l1 x5_1)).f0))).trans hx424_0; replace hx424_0 := (cell_far (p := ⟨gb423, 1, none⟩) dq87 (.string ((rd_T49 l0 (rd l1 x5_1)).f1))).trans hx424_0; replace hx424_0 := (cell_far (p := ⟨gb423, 2, none⟩) dq86 (.slice A422_2 ((rd_T49 l0 (rd l1 x5_1)).f2).length c422_2)).trans hx424_0; replace hx424_0 := (cell_far (p := ⟨gb423, 3, none⟩) dq85 (.int .i64 ((rd_T49 l0 (rd l1 x5_1)).f3))).trans hx424_0; clear hn424_0; clear hn424_1; clear hn424_2; clear hn424_3; replace p424 := eq_true p424; replace q424 := eq_true q424; have p425 : 0 ≤ ((rd l1 x6_2) : Int) := of_decide_eq_true dq22; have q425 : (rd l1 x6_2) < (l0.length : Int) := of_decide_eq_true dq22; obtain ⟨ad425, A425_2, c425_2, e425, hx425_0, hx425_1, hx425_2, hx425_3, hl425_2, hi425_2⟩ := at_T49 HR0.out (rd l1 x6_2) p425 q425; obtain rfl : ad422 = ad425 := (by injection e425); have hn425_0 : ad422.block ≠ gb423 := Nat.ne_of_lt (Nat.lt_of_lt_of_le dq84 GW423.out); have hn425_1 : ad422.block ≠ gb423 := Nat.ne_of_lt (Nat.lt_of_lt_of_le dq84 GW423.out); have hn425_2 : ad422.block ≠ gb423 := Nat.ne_of_lt (Nat.lt_of_lt_of_le dq84 GW423.out); have hn425_3 : ad422.block ≠ gb423 := Nat.ne_of_lt (Nat.lt_of_lt_of_le dq84 GW423.out); replace hx425_0 := (HB.out.cell (World.block_lt_of_cell? w _ hx425_0)).trans hx425_0; replace hx425_1 := (HB.out.cell (World.block_lt_of_cell? w _ hx425_1)).trans hx425_1; replace hx425_2 := (HB.out.cell (World.block_lt_of_cell? w _ hx425_2)).trans hx425_2; replace hx425_3 := (HB.out.cell (World.block_lt_of_cell? w _ hx425_3)).trans hx425_3; have HR425_2 := Aside0.mk hi425_2; have HC425_2 := Aside0.mk hl425_2; clear hi425_2 hl425_2; replace hx425_0 := (cell_far (p := ⟨gb423, 0, none⟩) dq83 (.int .i64 ((rd_T49 l0 (rd l1 x5_1)).f0))).trans hx425_0; replace hx425_1 := (cell_far (p := ⟨gb423, 0, none⟩) dq83 (.int .i64 ((rd_T49 l0 (rd l1 x5_1)).f0))).trans hx425_1; replace hx425_2 := (cell_far (p := ⟨gb423, 0, none⟩) dq83 (.int .i64 ((rd_T49 l0 (rd l1 x5_1)).f0))).trans hx425_2; replace hx425_3 := (cell_far (p := ⟨gb423, 0, none⟩) dq83 (.int .i64 ((rd_T49 l0 (rd l1 x5_1)).f0))).trans hx425_3; replace hx425_0 := (cell_far (p := ⟨gb423, 1, none⟩) dq82 (.string ((rd_T49 l0 (rd l1 x5_1)).f1))).trans hx425_0; replace hx425_1 := (cell_far (p := ⟨gb423, 1, none⟩) dq82 (.string ((rd_T49 l0 (rd l1 x5_1)).f1))).trans hx425_1; replace hx425_2 := (cell_far (p := ⟨gb423, 1, none⟩) dq82 (.string ((rd_T49 l0 (rd l1 x5_1)).f1))).trans hx425_2; replace hx425_3 := (cell_far (p := ⟨gb423, 1, none⟩) dq82 (.string ((rd_T49 l0 (rd l1 x5_1)).f1))).trans hx425_3; replace hx425_0 := (cell_far (p := ⟨gb423, 2, none⟩) dq81 (.slice A422_2 ((rd_T49 l0 (rd l1 x5_1)).f2).length c422_2)).trans hx425_0; replace hx425_1 := (cell_far (p := ⟨gb423, 2, none⟩) dq81 (.slice A422_2 ((rd_T49 l0 (rd l1 x5_1)).f2).length c422_2)).trans hx425_1; replace hx425_2 := (cell_far (p := ⟨gb423, 2, none⟩) dq81 (.slice A422_2 ((rd_T49 l0 (rd l1 x5_1)).f2).length c422_2)).trans hx425_2; replace hx425_3 := (cell_far (p := ⟨gb423, 2, none⟩) dq81 (.slice A422_2 ((rd_T49 l0 (rd l1 x5_1)).f2).length c422_2)).trans hx425_3; replace hx425_0 := (cell_far (p := ⟨gb423, 3, none⟩) dq80 (.int .i64 ((rd_T49 l0 (rd l1 x5_1)).f3))).trans hx425_0; replace hx425_1 := (cell_far (p := ⟨gb423, 3, none⟩) dq80 (.int .i64 ((rd_T49 l0 (rd l1 x5_1)).f3))).trans hx425_1; replace hx425_2 := (cell_far (p := ⟨gb423, 3, none⟩) dq80 (.int .i64 ((rd_T49 l0 (rd l1 x5_1)).f3))).trans hx425_2; replace hx425_3 := (cell_far (p := ⟨gb423, 3, none⟩) dq80 (.int .i64 ((rd_T49 l0 (rd l1 x5_1)).f3))).trans hx425_3; clear hn425_0; clear hn425_1; clear hn425_2; clear hn425_3; replace p425 := eq_true p425; replace q425 := eq_true q425) | ((with_reducible refine gate_dst (N := 8) rfl ?_); refine box_event ?hg (N := 8) ?hd (cs := #[.int .i64 0, .string (⟨#[]⟩ : ByteArray), .slice none 0 0, .int .i64 0]) (t := 49) ?hr ?_; (case hd => rfl); (case hg => rfl); (case hr => exact dq0); intro gb426 hg w23 hbox hb; have n0_ := Aside0.mk (blk_below (g := gb423) (o := .cells #[.int .i64 ((rd_T49 l0 (rd l1 x5_1)).f0), .string ((rd_T49 l0 (rd l1 x5_1)).f1), .slice A422_2 ((rd_T49 l0 (rd l1 x5_1)).f2).length c422_2, .int .i64 ((rd_T49 l0 (rd l1 x5_1)).f3)] 49 (0, 0)) dq79 hb); have n1_ := Aside0.mk (below_step dq78 hb); have n2_ := Aside0.mk (hbox); have n3_ := Aside0.mk ((dq77 : w.heap.size ≤ gb426)); have n4_ := Aside0.mk ((dq77 : w.heap.size ≤ gb426)); have n5_ := Aside0.mk ((dq76 : gb423 ≠ gb426)); have n6_ := Aside0.mk ((dq75 : gb426 ≠ gb423)); clear BK423; clear HB; have BK423 := n0_; have HB := n1_; have BK426 := n2_; have GW426 := n3_; have GE426 := n4_; have NB423_426 := n5_; have NB426_423 := n6_; clear n0_ n1_ n2_ n3_ n4_ n5_ n6_; clear hb hbox hg; have hnb24 := NB426_423.out; have hnc24 := NB423_426.out; obtain ⟨⟨hcz25_0, hcz25_1, hcz25_2, hcz25_3⟩, hfz25_0, hfz25_1, hfz25_2, hfz25_3⟩ := blkC4 BK426.out; obtain ⟨⟨hcz26_0, hcz26_1, hcz26_2, hcz26_3⟩, hfz26_0, hfz26_1, hfz26_2, hfz26_3⟩ := blkC4 BK423.out))
    go_ret
    exact ⟨dq19, dq90⟩
   rw [if_neg c20] at H
   have c20b0 := beq_eq_false_iff_ne.mpr c20
   have c20b1 := bne_iff_ne.mpr c20
   by_cases c27 : ((rd_T49 l0 (rd l1 x5_1)).f1).toList = ((rd_T49 l0 (rd l1 x6_2)).f1).toList
   ·rw [if_pos c27] at H
    have c27b0 := beq_iff_eq.mpr c27
    have c27b1 := bne_eq_false_iff_eq.mpr c27
    clear c27
    obtain rfl := Option.some.inj H
    have p421 : 0 ≤ (x5_1 : Int) := of_decide_eq_true dq22
    have q421 : x5_1 < (l1.length : Int) := of_decide_eq_true dq22
    obtain ⟨ad421, e421, hx421_0⟩ := Kd.at_int HR1.out x5_1 p421 q421
    cases e421
    replace hx421_0 := (HB.out.cell (World.block_lt_of_cell? w _ hx421_0)).trans hx421_0
    replace p421 := eq_true p421
    replace q421 := eq_true q421
    have p422 : 0 ≤ ((rd l1 x5_1) : Int) := of_decide_eq_true dq22
    have q422 : (rd l1 x5_1) < (l0.length : Int) := of_decide_eq_true dq22
    obtain ⟨ad422, A422_2, c422_2, e422, hx422_0, hx422_1, hx422_2, hx422_3, hl422_2, hi422_2⟩ := at_T49 HR0.out (rd l1 x5_1) p422 q422
    cases e422
    replace hx422_0 := (HB.out.cell (World.block_lt_of_cell? w _ hx422_0)).trans hx422_0
    replace hx422_1 := (HB.out.cell (World.block_lt_of_cell? w _ hx422_1)).trans hx422_1
    replace hx422_2 := (HB.out.cell (World.block_lt_of_cell? w _ hx422_2)).trans hx422_2
    replace hx422_3 := (HB.out.cell (World.block_lt_of_cell? w _ hx422_3)).trans hx422_3
    have HR422_2 := Aside0.mk hi422_2
    have HC422_2 := Aside0.mk hl422_2
    clear hi422_2 hl422_2
    replace p422 := eq_true p422
    replace q422 := eq_true q422
    go_wp2_with (first | ((with_reducible refine gate_dst (N := 7) rfl ?_); refine box_event ?hg (N := 7) ?hd (cs := #[.int .i64 0, .string (⟨#[]⟩ : ByteArray), .slice none 0 0, .int .i64 0]) (t := 49) ?hr ?_; (case hd => rfl); (case hg => rfl); (case hr => exact dq0); intro gb423 hg w28 hbox hb; have n0_ := Aside0.mk (below_step dq17 hb); have n1_ := Aside0.mk (hbox); have n2_ := Aside0.mk ((dq16 : w.heap.size ≤ gb423)); have n3_ := Aside0.mk ((dq16 : w.heap.size ≤ gb423)); clear HB; have HB := n0_; have BK423 := n1_; have GW423 := n2_; have GE423 := n3_; clear n0_ n1_ n2_ n3_; clear hb hbox hg; obtain ⟨⟨hcz29_0, hcz29_1, hcz29_2, hcz29_3⟩, hfz29_0, hfz29_1, hfz29_2, hfz29_3⟩ := blkC4 BK423.out; have p424 : 0 ≤ (x6_2 : Int) := of_decide_eq_true dq22; have q424 : x6_2 < (l1.length : Int) := of_decide_eq_true dq22; obtain ⟨ad424, e424, hx424_0⟩ := Kd.at_int HR1.out x6_2 p424 q424; obtain rfl : ad421 = ad424 := (by injection e424); have hn424_0 : ad421.block ≠ gb423 := Nat.ne_of_lt (Nat.lt_of_lt_of_le dq89 GW423.out); have hn424_1 : ad421.block ≠ gb423 := Nat.ne_of_lt (Nat.lt_of_lt_of_le dq89 GW423.out); have hn424_2 : ad421.block ≠ gb423 := Nat.ne_of_lt (Nat.lt_of_lt_of_le dq89 GW423.out); have hn424_3 : ad421.block ≠ gb423 := Nat.ne_of_lt (Nat.lt_of_lt_of_le dq89 GW423.out); replace hx424_0 := (HB.out.cell (World.block_lt_of_cell? w _ hx424_0)).trans hx424_0; replace hx424_0 := (cell_far (p := ⟨gb423, 0, none⟩) dq88 (.int .i64 ((rd_T49 l0 (rd l1 x5_1)).f0))).trans hx424_0; replace hx424_0 := (cell_far (p := ⟨gb423, 1, none⟩) dq87 (.string ((rd_T49 l0 (rd l1 x5_1)).f1))).trans hx424_0; replace hx424_0 := (cell_far (p := ⟨gb423, 2, none⟩) dq86 (.slice A422_2 ((rd_T49 l0 (rd l1 x5_1)).f2).length c422_2)).trans hx424_0; replace hx424_0 := (cell_far (p := ⟨gb423, 3, none⟩) dq85 (.int .i64 ((rd_T49 l0 (rd l1 x5_1)).f3))).trans hx424_0; clear hn424_0; clear hn424_1; clear hn424_2; clear hn424_3; replace p424 := eq_true p424; replace q424 := eq_true q424; have p425 : 0 ≤ ((rd l1 x6_2) : Int) := of_decide_eq_true dq22; have q425 : (rd l1 x6_2) < (l0.length : Int) := of_decide_eq_true dq22; obtain ⟨ad425, A425_2, c425_2, e425, hx425_0, hx425_1, hx425_2, hx425_3, hl425_2, hi425_2⟩ := at_T49 HR0.out (rd l1 x6_2) p425 q425; obtain rfl : ad422 = ad425 := (by injection e425); have hn425_0 : ad422.block ≠ gb423 := Nat.ne_of_lt (Nat.lt_of_lt_of_le dq84 GW423.out); have hn425_1 : ad422.block ≠ gb423 := Nat.ne_of_lt (Nat.lt_of_lt_of_le dq84 GW423.out); have hn425_2 : ad422.block ≠ gb423 := Nat.ne_of_lt (Nat.lt_of_lt_of_le dq84 GW423.out); have hn425_3 : ad422.block ≠ gb423 := Nat.ne_of_lt (Nat.lt_of_lt_of_le dq84 GW423.out); replace hx425_0 := (HB.out.cell (World.block_lt_of_cell? w _ hx425_0)).trans hx425_0; replace hx425_1 := (HB.out.cell (World.block_lt_of_cell? w _ hx425_1)).trans hx425_1; replace hx425_2 := (HB.out.cell (World.block_lt_of_cell? w _ hx425_2)).trans hx425_2; replace hx425_3 := (HB.out.cell (World.block_lt_of_cell? w _ hx425_3)).trans hx425_3; have HR425_2 := Aside0.mk hi425_2; have HC425_2 := Aside0.mk hl425_2; clear hi425_2 hl425_2; replace hx425_0 := (cell_far (p := ⟨gb423, 0, none⟩) dq83 (.int .i64 ((rd_T49 l0 (rd l1 x5_1)).f0))).trans hx425_0; replace hx425_1 := (cell_far (p := ⟨gb423, 0, none⟩) dq83 (.int .i64 ((rd_T49 l0 (rd l1 x5_1)).f0))).trans hx425_1; replace hx425_2 := (cell_far (p := ⟨gb423, 0, none⟩) dq83 (.int .i64 ((rd_T49 l0 (rd l1 x5_1)).f0))).trans hx425_2; replace hx425_3 := (cell_far (p := ⟨gb423, 0, none⟩) dq83 (.int .i64 ((rd_T49 l0 (rd l1 x5_1)).f0))).trans hx425_3; replace hx425_0 := (cell_far (p := ⟨gb423, 1, none⟩) dq82 (.string ((rd_T49 l0 (rd l1 x5_1)).f1))).trans hx425_0; replace hx425_1 := (cell_far (p := ⟨gb423, 1, none⟩) dq82 (.string ((rd_T49 l0 (rd l1 x5_1)).f1))).trans hx425_1; replace hx425_2 := (cell_far (p := ⟨gb423, 1, none⟩) dq82 (.string ((rd_T49 l0 (rd l1 x5_1)).f1))).trans hx425_2; replace hx425_3 := (cell_far (p := ⟨gb423, 1, none⟩) dq82 (.string ((rd_T49 l0 (rd l1 x5_1)).f1))).trans hx425_3; replace hx425_0 := (cell_far (p := ⟨gb423, 2, none⟩) dq81 (.slice A422_2 ((rd_T49 l0 (rd l1 x5_1)).f2).length c422_2)).trans hx425_0; replace hx425_1 := (cell_far (p := ⟨gb423, 2, none⟩) dq81 (.slice A422_2 ((rd_T49 l0 (rd l1 x5_1)).f2).length c422_2)).trans hx425_1; replace hx425_2 := (cell_far (p := ⟨gb423, 2, none⟩) dq81 (.slice A422_2 ((rd_T49 l0 (rd l1 x5_1)).f2).length c422_2)).trans hx425_2; replace hx425_3 := (cell_far (p := ⟨gb423, 2, none⟩) dq81 (.slice A422_2 ((rd_T49 l0 (rd l1 x5_1)).f2).length c422_2)).trans hx425_3; replace hx425_0 := (cell_far (p := ⟨gb423, 3, none⟩) dq80 (.int .i64 ((rd_T49 l0 (rd l1 x5_1)).f3))).trans hx425_0; replace hx425_1 := (cell_far (p := ⟨gb423, 3, none⟩) dq80 (.int .i64 ((rd_T49 l0 (rd l1 x5_1)).f3))).trans hx425_1; replace hx425_2 := (cell_far (p := ⟨gb423, 3, none⟩) dq80 (.int .i64 ((rd_T49 l0 (rd l1 x5_1)).f3))).trans hx425_2; replace hx425_3 := (cell_far (p := ⟨gb423, 3, none⟩) dq80 (.int .i64 ((rd_T49 l0 (rd l1 x5_1)).f3))).trans hx425_3; clear hn425_0; clear hn425_1; clear hn425_2; clear hn425_3; replace p425 := eq_true p425; replace q425 := eq_true q425) | ((with_reducible refine gate_dst (N := 8) rfl ?_); refine box_event ?hg (N := 8) ?hd (cs := #[.int .i64 0, .string (⟨#[]⟩ : ByteArray), .slice none 0 0, .int .i64 0]) (t := 49) ?hr ?_; (case hd => rfl); (case hg => rfl); (case hr => exact dq0); intro gb426 hg w30 hbox hb; have n0_ := Aside0.mk (blk_below (g := gb423) (o := .cells #[.int .i64 ((rd_T49 l0 (rd l1 x5_1)).f0), .string ((rd_T49 l0 (rd l1 x5_1)).f1), .slice A422_2 ((rd_T49 l0 (rd l1 x5_1)).f2).length c422_2, .int .i64 ((rd_T49 l0 (rd l1 x5_1)).f3)] 49 (0, 0)) dq79 hb); have n1_ := Aside0.mk (below_step dq78 hb); have n2_ := Aside0.mk (hbox); have n3_ := Aside0.mk ((dq77 : w.heap.size ≤ gb426)); have n4_ := Aside0.mk ((dq77 : w.heap.size ≤ gb426)); have n5_ := Aside0.mk ((dq76 : gb423 ≠ gb426)); have n6_ := Aside0.mk ((dq75 : gb426 ≠ gb423)); clear BK423; clear HB; have BK423 := n0_; have HB := n1_; have BK426 := n2_; have GW426 := n3_; have GE426 := n4_; have NB423_426 := n5_; have NB426_423 := n6_; clear n0_ n1_ n2_ n3_ n4_ n5_ n6_; clear hb hbox hg; have hnb31 := NB426_423.out; have hnc31 := NB423_426.out; obtain ⟨⟨hcz32_0, hcz32_1, hcz32_2, hcz32_3⟩, hfz32_0, hfz32_1, hfz32_2, hfz32_3⟩ := blkC4 BK426.out; obtain ⟨⟨hcz33_0, hcz33_1, hcz33_2, hcz33_3⟩, hfz33_0, hfz33_1, hfz33_2, hfz33_3⟩ := blkC4 BK423.out))
    go_ret
    exact ⟨dq19, dq90⟩
   rw [if_neg c27] at H
   have c27b0 := beq_eq_false_iff_ne.mpr c27
   have c27b1 := bne_iff_ne.mpr c27
   have H' := Aside0.mk H
   clear H
   have p421 : 0 ≤ (x5_1 : Int) := of_decide_eq_true dq22
   have q421 : x5_1 < (l1.length : Int) := of_decide_eq_true dq22
   obtain ⟨ad421, e421, hx421_0⟩ := Kd.at_int HR1.out x5_1 p421 q421
   cases e421
   replace hx421_0 := (HB.out.cell (World.block_lt_of_cell? w _ hx421_0)).trans hx421_0
   replace p421 := eq_true p421
   replace q421 := eq_true q421
   have p422 : 0 ≤ ((rd l1 x5_1) : Int) := of_decide_eq_true dq22
   have q422 : (rd l1 x5_1) < (l0.length : Int) := of_decide_eq_true dq22
   obtain ⟨ad422, A422_2, c422_2, e422, hx422_0, hx422_1, hx422_2, hx422_3, hl422_2, hi422_2⟩ := at_T49 HR0.out (rd l1 x5_1) p422 q422
   cases e422
   replace hx422_0 := (HB.out.cell (World.block_lt_of_cell? w _ hx422_0)).trans hx422_0
   replace hx422_1 := (HB.out.cell (World.block_lt_of_cell? w _ hx422_1)).trans hx422_1
   replace hx422_2 := (HB.out.cell (World.block_lt_of_cell? w _ hx422_2)).trans hx422_2
   replace hx422_3 := (HB.out.cell (World.block_lt_of_cell? w _ hx422_3)).trans hx422_3
   have HR422_2 := Aside0.mk hi422_2
   have HC422_2 := Aside0.mk hl422_2
   clear hi422_2 hl422_2
   replace p422 := eq_true p422
   replace q422 := eq_true q422
   go_wp2_with (first | ((with_reducible refine gate_dst (N := 7) rfl ?_); refine box_event ?hg (N := 7) ?hd (cs := #[.int .i64 0, .string (⟨#[]⟩ : ByteArray), .slice none 0 0, .int .i64 0]) (t := 49) ?hr ?_; (case hd => rfl); (case hg => rfl); (case hr => exact dq0); intro gb423 hg w34 hbox hb; have n0_ := Aside0.mk (below_step dq17 hb); have n1_ := Aside0.mk (hbox); have n2_ := Aside0.mk ((dq16 : w.heap.size ≤ gb423)); have n3_ := Aside0.mk ((dq16 : w.heap.size ≤ gb423)); clear HB; have HB := n0_; have BK423 := n1_; have GW423 := n2_; have GE423 := n3_; clear n0_ n1_ n2_ n3_; clear hb hbox hg; obtain ⟨⟨hcz35_0, hcz35_1, hcz35_2, hcz35_3⟩, hfz35_0, hfz35_1, hfz35_2, hfz35_3⟩ := blkC4 BK423.out; have p424 : 0 ≤ (x6_2 : Int) := of_decide_eq_true dq22; have q424 : x6_2 < (l1.length : Int) := of_decide_eq_true dq22; obtain ⟨ad424, e424, hx424_0⟩ := Kd.at_int HR1.out x6_2 p424 q424; obtain rfl : ad421 = ad424 := (by injection e424); have hn424_0 : ad421.block ≠ gb423 := Nat.ne_of_lt (Nat.lt_of_lt_of_le dq89 GW423.out); have hn424_1 : ad421.block ≠ gb423 := Nat.ne_of_lt (Nat.lt_of_lt_of_le dq89 GW423.out); have hn424_2 : ad421.block ≠ gb423 := Nat.ne_of_lt (Nat.lt_of_lt_of_le dq89 GW423.out); have hn424_3 : ad421.block ≠ gb423 := Nat.ne_of_lt (Nat.lt_of_lt_of_le dq89 GW423.out); replace hx424_0 := (HB.out.cell (World.block_lt_of_cell? w _ hx424_0)).trans hx424_0; replace hx424_0 := (cell_far (p := ⟨gb423, 0, none⟩) dq88 (.int .i64 ((rd_T49 l0 (rd l1 x5_1)).f0))).trans hx424_0; replace hx424_0 := (cell_far (p := ⟨gb423, 1, none⟩) dq87 (.string ((rd_T49 l0 (rd l1 x5_1)).f1))).trans hx424_0; replace hx424_0 := (cell_far (p := ⟨gb423, 2, none⟩) dq86 (.slice A422_2 ((rd_T49 l0 (rd l1 x5_1)).f2).length c422_2)).trans hx424_0; replace hx424_0 := (cell_far (p := ⟨gb423, 3, none⟩) dq85 (.int .i64 ((rd_T49 l0 (rd l1 x5_1)).f3))).trans hx424_0; clear hn424_0; clear hn424_1; clear hn424_2; clear hn424_3; replace p424 := eq_true p424; replace q424 := eq_true q424; have p425 : 0 ≤ ((rd l1 x6_2) : Int) := of_decide_eq_true dq22; have q425 : (rd l1 x6_2) < (l0.length : Int) := of_decide_eq_true dq22; obtain ⟨ad425, A425_2, c425_2, e425, hx425_0, hx425_1, hx425_2, hx425_3, hl425_2, hi425_2⟩ := at_T49 HR0.out (rd l1 x6_2) p425 q425; obtain rfl : ad422 = ad425 := (by injection e425); have hn425_0 : ad422.block ≠ gb423 := Nat.ne_of_lt (Nat.lt_of_lt_of_le dq84 GW423.out); have hn425_1 : ad422.block ≠ gb423 := Nat.ne_of_lt (Nat.lt_of_lt_of_le dq84 GW423.out); have hn425_2 : ad422.block ≠ gb423 := Nat.ne_of_lt (Nat.lt_of_lt_of_le dq84 GW423.out); have hn425_3 : ad422.block ≠ gb423 := Nat.ne_of_lt (Nat.lt_of_lt_of_le dq84 GW423.out); replace hx425_0 := (HB.out.cell (World.block_lt_of_cell? w _ hx425_0)).trans hx425_0; replace hx425_1 := (HB.out.cell (World.block_lt_of_cell? w _ hx425_1)).trans hx425_1; replace hx425_2 := (HB.out.cell (World.block_lt_of_cell? w _ hx425_2)).trans hx425_2; replace hx425_3 := (HB.out.cell (World.block_lt_of_cell? w _ hx425_3)).trans hx425_3; have HR425_2 := Aside0.mk hi425_2; have HC425_2 := Aside0.mk hl425_2; clear hi425_2 hl425_2; replace hx425_0 := (cell_far (p := ⟨gb423, 0, none⟩) dq83 (.int .i64 ((rd_T49 l0 (rd l1 x5_1)).f0))).trans hx425_0; replace hx425_1 := (cell_far (p := ⟨gb423, 0, none⟩) dq83 (.int .i64 ((rd_T49 l0 (rd l1 x5_1)).f0))).trans hx425_1; replace hx425_2 := (cell_far (p := ⟨gb423, 0, none⟩) dq83 (.int .i64 ((rd_T49 l0 (rd l1 x5_1)).f0))).trans hx425_2; replace hx425_3 := (cell_far (p := ⟨gb423, 0, none⟩) dq83 (.int .i64 ((rd_T49 l0 (rd l1 x5_1)).f0))).trans hx425_3; replace hx425_0 := (cell_far (p := ⟨gb423, 1, none⟩) dq82 (.string ((rd_T49 l0 (rd l1 x5_1)).f1))).trans hx425_0; replace hx425_1 := (cell_far (p := ⟨gb423, 1, none⟩) dq82 (.string ((rd_T49 l0 (rd l1 x5_1)).f1))).trans hx425_1; replace hx425_2 := (cell_far (p := ⟨gb423, 1, none⟩) dq82 (.string ((rd_T49 l0 (rd l1 x5_1)).f1))).trans hx425_2; replace hx425_3 := (cell_far (p := ⟨gb423, 1, none⟩) dq82 (.string ((rd_T49 l0 (rd l1 x5_1)).f1))).trans hx425_3; replace hx425_0 := (cell_far (p := ⟨gb423, 2, none⟩) dq81 (.slice A422_2 ((rd_T49 l0 (rd l1 x5_1)).f2).length c422_2)).trans hx425_0; replace hx425_1 := (cell_far (p := ⟨gb423, 2, none⟩) dq81 (.slice A422_2 ((rd_T49 l0 (rd l1 x5_1)).f2).length c422_2)).trans hx425_1; replace hx425_2 := (cell_far (p := ⟨gb423, 2, none⟩) dq81 (.slice A422_2 ((rd_T49 l0 (rd l1 x5_1)).f2).length c422_2)).trans hx425_2; replace hx425_3 := (cell_far (p := ⟨gb423, 2, none⟩) dq81 (.slice A422_2 ((rd_T49 l0 (rd l1 x5_1)).f2).length c422_2)).trans hx425_3; replace hx425_0 := (cell_far (p := ⟨gb423, 3, none⟩) dq80 (.int .i64 ((rd_T49 l0 (rd l1 x5_1)).f3))).trans hx425_0; replace hx425_1 := (cell_far (p := ⟨gb423, 3, none⟩) dq80 (.int .i64 ((rd_T49 l0 (rd l1 x5_1)).f3))).trans hx425_1; replace hx425_2 := (cell_far (p := ⟨gb423, 3, none⟩) dq80 (.int .i64 ((rd_T49 l0 (rd l1 x5_1)).f3))).trans hx425_2; replace hx425_3 := (cell_far (p := ⟨gb423, 3, none⟩) dq80 (.int .i64 ((rd_T49 l0 (rd l1 x5_1)).f3))).trans hx425_3; clear hn425_0; clear hn425_1; clear hn425_2; clear hn425_3; replace p425 := eq_true p425; replace q425 := eq_true q425) | ((with_reducible refine gate_dst (N := 8) rfl ?_); refine box_event ?hg (N := 8) ?hd (cs := #[.int .i64 0, .string (⟨#[]⟩ : ByteArray), .slice none 0 0, .int .i64 0]) (t := 49) ?hr ?_; (case hd => rfl); (case hg => rfl); (case hr => exact dq0); intro gb426 hg w36 hbox hb; have n0_ := Aside0.mk (blk_below (g := gb423) (o := .cells #[.int .i64 ((rd_T49 l0 (rd l1 x5_1)).f0), .string ((rd_T49 l0 (rd l1 x5_1)).f1), .slice A422_2 ((rd_T49 l0 (rd l1 x5_1)).f2).length c422_2, .int .i64 ((rd_T49 l0 (rd l1 x5_1)).f3)] 49 (0, 0)) dq79 hb); have n1_ := Aside0.mk (below_step dq78 hb); have n2_ := Aside0.mk (hbox); have n3_ := Aside0.mk ((dq77 : w.heap.size ≤ gb426)); have n4_ := Aside0.mk ((dq77 : w.heap.size ≤ gb426)); have n5_ := Aside0.mk ((dq76 : gb423 ≠ gb426)); have n6_ := Aside0.mk ((dq75 : gb426 ≠ gb423)); clear BK423; clear HB; have BK423 := n0_; have HB := n1_; have BK426 := n2_; have GW426 := n3_; have GE426 := n4_; have NB423_426 := n5_; have NB426_423 := n6_; clear n0_ n1_ n2_ n3_ n4_ n5_ n6_; clear hb hbox hg; have hnb37 := NB426_423.out; have hnc37 := NB423_426.out; obtain ⟨⟨hcz38_0, hcz38_1, hcz38_2, hcz38_3⟩, hfz38_0, hfz38_1, hfz38_2, hfz38_3⟩ := blkC4 BK426.out; obtain ⟨⟨hcz39_0, hcz39_1, hcz39_2, hcz39_3⟩, hfz39_0, hfz39_1, hfz39_2, hfz39_3⟩ := blkC4 BK423.out))
   go_roundg k2
   case measure => have := HK1.out; have := HK2.out; omega
   case rel => exact ⟨(wrap64 (x6_2 + 1)), dq15, H', ⟨dq52⟩, ⟨dq90⟩⟩

end Go.Proofs.Ytejkkdjfiebmfaa.L
