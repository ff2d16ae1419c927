/- Words and contracts for the row RowFnExactLastOf: what the Go functions answer that it calls; printed by programs of the kit and of this session, and merged. -/
import Derived.Test.YtkflnbmmjnjgkaaQb3
namespace Go.Proofs.Ytkflnbmmjnjgkaa.L
open Go.RowKit Go.Proofs.YtkflnbmmjnjgkaaW.PrintWords Go.Proofs.YtkflnbmmjnjgkaaW.PrintLast Go.Proofs.YtkflnbmmjnjgkaaW.PrintMore
attribute [local go_sem] max2_int min2_int max_two min_two max_three min_three max_four min_four
set_option linter.unusedVariables false
set_option linter.unusedSimpArgs false

/-! ### spec_l8Null: function 62 -/
mutual
def spec_l8Null.j0 : Nat → List (S49) → Bool → Int → ByteArray → List Int → Int → Option (Bool)
 | 0, _, _, _, _, _, _ => none
 | k + 1, x0, x19, x178000, x178001, x178002, x178003 => if x19 = true then (some true) else (if x178000 = 2 then (spec_l8Null.l0 k x0 0 x178000 x178001 x178002 x178003) else (if x178000 = 3 then (spec_l8Null.l1 k x0 0 x178000 x178001 x178002 x178003) else (some false)))
def spec_l8Null.l0 : Nat → List (S49) → Int → Int → ByteArray → List Int → Int → Option (Bool)
 | 0, _, _, _, _, _, _ => none
 | k + 1, x0, x6, x178000, x178001, x178002, x178003 => if x6 < (x178002.length : Int) then (if 0 ≤ x6 then ((spec_l8Null.f k x0 (rd x178002 x6)).bind fun t179 => (if t179 = true then (spec_l8Null.l0 k x0 (wrap64 (x6 + 1)) x178000 x178001 x178002 x178003) else (some false))) else (none)) else (some true)
def spec_l8Null.l1 : Nat → List (S49) → Int → Int → ByteArray → List Int → Int → Option (Bool)
 | 0, _, _, _, _, _, _ => none
 | k + 1, x0, x7, x178000, x178001, x178002, x178003 => if x7 < (x178002.length : Int) then (if 0 ≤ x7 then ((spec_l8Null.f k x0 (rd x178002 x7)).bind fun t181 => (if t181 = true then (some true) else (spec_l8Null.l1 k x0 (wrap64 (x7 + 1)) x178000 x178001 x178002 x178003))) else (none)) else (some false)
def spec_l8Null.f : Nat → List (S49) → Int → Option (Bool)
 | 0, _, _ => none
 | k + 1, l0, a1 => if 0 ≤ a1 then (if a1 < (l0.length : Int) then (if ((rd_T49 l0 a1).f3) = 1 then (spec_l8Null.j0 k l0 true ((rd_T49 l0 a1).f0) ((rd_T49 l0 a1).f1) ((rd_T49 l0 a1).f2) ((rd_T49 l0 a1).f3)) else (spec_l8Null.j0 k l0 (((rd_T49 l0 a1).f3) == 2) ((rd_T49 l0 a1).f0) ((rd_T49 l0 a1).f1) ((rd_T49 l0 a1).f2) ((rd_T49 l0 a1).f3))) else (none)) else (none)
end
set_option maxHeartbeats 8000000 in
set_option maxRecDepth 100000 in
theorem spec_l8Null.calls (k : Nat) : ∀ (A0 : Option Addr) (c0 : Nat) (l0 : List (S49)) (a1 : Int) (r : Bool) (w : World) (hr0 : Kd.C k49 w A0 l0.length l0) (hc0 : l0.length ≤ c0) (h : spec_l8Null.f k l0 a1 = some r),
  Calls Try.prog 62 #[.slice A0 l0.length c0, .int .i64 a1] w fun e w' => e = .returned (.bool r) ∧ Below w.heap.size w w' := by
 induction k using Nat.strongRecOn with
 | _ k ih =>
 intro A0 c0 l0 a1 r w hr0 hc0 h
 cases k with
 | zero => exact absurd h (by simp [spec_l8Null.f])
 | succ k =>
 simp only [spec_l8Null.f] at h
 have hu49 := Try.underlying49
 have HR0 := Aside0.mk hr0
 have HC0 := Aside0.mk hc0
 clear hr0 hc0
 have HB := Aside0.mk (Below.refl w.heap.size w)
 have H : (if 0 ≤ a1 then (if a1 < (l0.length : Int) then (if ((rd_T49 l0 a1).f3) = 1 then (spec_l8Null.j0 k l0 true ((rd_T49 l0 a1).f0) ((rd_T49 l0 a1).f1) ((rd_T49 l0 a1).f2) ((rd_T49 l0 a1).f3)) else (spec_l8Null.j0 k l0 (((rd_T49 l0 a1).f3) == 2) ((rd_T49 l0 a1).f0) ((rd_T49 l0 a1).f1) ((rd_T49 l0 a1).f2) ((rd_T49 l0 a1).f3))) else (none)) else (none)) = some r := h
 clear h
 by_cases c3 : 0 ≤ a1
 rotate_left
 ·rw [if_neg c3] at H
  exact absurd H dq26
 rw [if_pos c3] at H
 have c3b0 := decide_eq_true c3
 clear c3
 by_cases c4 : a1 < (l0.length : Int)
 rotate_left
 ·rw [if_neg c4] at H
  exact absurd H dq26
 rw [if_pos c4] at H
 have c4b0 := decide_eq_true c4
 clear c4
 have HC5 := Aside0.mk H
 clear H
 have p176 : 0 ≤ (a1 : Int) := of_decide_eq_true dq24
 have q176 : a1 < (l0.length : Int) := of_decide_eq_true dq24
 obtain ⟨ad176, A176_2, c176_2, e176, hx176_0, hx176_1, hx176_2, hx176_3, hl176_2, hi176_2⟩ := at_T49 HR0.out a1 p176 q176
 cases e176
 have HR176_2 := Aside0.mk hi176_2
 have HC176_2 := Aside0.mk hl176_2
 clear hi176_2 hl176_2
 replace p176 := eq_true p176
 replace q176 := eq_true q176
 go_enter Try.func62, Try.ntmps62
 go_upto_region 2 with (first | ((with_reducible refine gate_dst (N := 5) rfl ?_); refine box_event ?hg (N := 5) ?hd (cs := #[.int .i64 0, .string (⟨#[]⟩ : ByteArray), .slice none 0 0, .int .i64 0]) (t := 49) ?hr ?_; (case hd => rfl); (case hg => rfl); (case hr => exact dq0); intro gb177 hg w6 hbox hb; have n0_ := Aside0.mk (below_step dq19 hb); have n1_ := Aside0.mk (hbox); have n2_ := Aside0.mk ((dq18 : w.heap.size ≤ gb177)); have n3_ := Aside0.mk ((dq18 : w.heap.size ≤ gb177)); clear HB; have HB := n0_; have BK177 := n1_; have GW177 := n2_; have GE177 := n3_; clear n0_ n1_ n2_ n3_; clear hb hbox hg; obtain ⟨⟨hcz7_0, hcz7_1, hcz7_2, hcz7_3⟩, hfz7_0, hfz7_1, hfz7_2, hfz7_3⟩ := blkC4 BK177.out))
 (try simp only [Act.put, List.setIfInBounds_toArray, List.set_cons_zero, List.set_cons_succ])
 go_cut [19] (fun v19 wc => ∃ (kq : Nat) (x19_4 : Bool), v19 = .bool x19_4 ∧ Aside0 (spec_l8Null.j0 kq l0 x19_4 ((rd_T49 l0 a1).f0) ((rd_T49 l0 a1).f1) ((rd_T49 l0 a1).f2) ((rd_T49 l0 a1).f3) = some r) ∧ Aside0 (kq ≤ k) ∧ Aside0 (wc.heap[gb177]? = some (.cells #[.int .i64 ((rd_T49 l0 a1).f0), .string ((rd_T49 l0 a1).f1), (.slice A176_2 ((rd_T49 l0 a1).f2).length c176_2), .int .i64 ((rd_T49 l0 a1).f3)] 49 (0, 0))) ∧ Aside0 (Below w.heap.size w wc))
 case first =>
  have H := HC5.out
  clear HC5
  by_cases c8 : ((rd_T49 l0 a1).f3) = 1
  ·rw [if_pos c8] at H
   have c8b0 := beq_iff_eq.mpr c8
   have c8b1 := bne_eq_false_iff_eq.mpr c8
   clear c8
   (first | rw [c8b0] | (simp only [i64_w, i32_w]; rw [c8b0]) | skip)
   have H' := Aside0.mk H
   clear H
   obtain ⟨⟨hcz9_0, hcz9_1, hcz9_2, hcz9_3⟩, hfz9_0, hfz9_1, hfz9_2, hfz9_3⟩ := blkC4 BK177.out
   go_wp2
   go_meet
   case rel => exact ⟨_, (true), dq17, H', ⟨dq46⟩, ⟨dq64⟩, ⟨dq63⟩⟩
  rw [if_neg c8] at H
  have c8b0 := beq_eq_false_iff_ne.mpr c8
  have c8b1 := bne_iff_ne.mpr c8
  (first | rw [c8b0] | (simp only [i64_w, i32_w]; rw [c8b0]) | skip)
  have H' := Aside0.mk H
  clear H
  obtain ⟨⟨hcz10_0, hcz10_1, hcz10_2, hcz10_3⟩, hfz10_0, hfz10_1, hfz10_2, hfz10_3⟩ := blkC4 BK177.out
  go_wp2
  go_meet
  case rel => exact ⟨_, ((((rd_T49 l0 a1).f3) == 2)), dq17, H', ⟨dq46⟩, ⟨dq64⟩, ⟨dq63⟩⟩
 clear HC5
 try clear c1
 try clear p1
 try clear q1
 try clear hx1
 try clear p2
 try clear c3
 try clear c3b0
 try clear c4
 try clear c4b0
 try clear c6
 try clear c8
 try clear c8b0
 try clear c8b1
 try clear hcz10_0
 try clear hcz10_1
 try clear hcz10_2
 try clear hcz10_3
 try clear hcz7_0
 try clear hcz7_1
 try clear hcz7_2
 try clear hcz7_3
 try clear hcz9_0
 try clear hcz9_1
 try clear hcz9_2
 try clear hcz9_3
 try clear hfz10_0
 try clear hfz10_1
 try clear hfz10_2
 try clear hfz10_3
 try clear hfz7_0
 try clear hfz7_1
 try clear hfz7_2
 try clear hfz7_3
 try clear hfz9_0
 try clear hfz9_1
 try clear hfz9_2
 try clear hfz9_3
 try clear hx176_0
 try clear hx176_1
 try clear hx176_2
 try clear hx176_3
 try clear p176
 try clear q176
 obtain ⟨kq, x19_4, rfl, HA, HJ4, BK177, HB⟩ := hcut
 cases kq with
 | zero => exact absurd HA.out (by simp [spec_l8Null.j0])
 | succ kj4 =>
  have H := HA.out
  clear HA
  simp only [spec_l8Null.j0] at H
  by_cases c11 : x19_4 = true
  ·subst c11
   have H1 : (some true) = some r := by rw [if_pos rfl] at H; exact H
   clear H
   have H := H1
   clear H1
   obtain rfl := Option.some.inj H
   go_wp2
   go_ret
   exact ⟨dq21, dq63⟩
  replace c11 := Bool.eq_false_iff.mpr c11
  subst c11
  have H1 : (if ((rd_T49 l0 a1).f0) = 2 then (spec_l8Null.l0 kj4 l0 0 ((rd_T49 l0 a1).f0) ((rd_T49 l0 a1).f1) ((rd_T49 l0 a1).f2) ((rd_T49 l0 a1).f3)) else (if ((rd_T49 l0 a1).f0) = 3 then (spec_l8Null.l1 kj4 l0 0 ((rd_T49 l0 a1).f0) ((rd_T49 l0 a1).f1) ((rd_T49 l0 a1).f2) ((rd_T49 l0 a1).f3)) else (some false))) = some r := by rw [if_neg (show ¬ (false = true) by decide)] at H; exact H
  clear H
  have H := H1
  clear H1
  by_cases c12 : ((rd_T49 l0 a1).f0) = 2
  ·rw [if_pos c12] at H
   have c12b0 := beq_iff_eq.mpr c12
   have c12b1 := bne_eq_false_iff_eq.mpr c12
   clear c12
   have H' := Aside0.mk H
   clear H
   obtain ⟨⟨hcz13_0, hcz13_1, hcz13_2, hcz13_3⟩, hfz13_0, hfz13_1, hfz13_2, hfz13_3⟩ := blkC4 BK177.out
   go_wp2
   go_loopg [6] kj4 (fun kq v6 w' => ∃ (x6_2 : Int), v6 = .int .i64 x6_2 ∧ Aside0 (spec_l8Null.l0 kq l0 x6_2 ((rd_T49 l0 a1).f0) ((rd_T49 l0 a1).f1) ((rd_T49 l0 a1).f2) ((rd_T49 l0 a1).f3) = some r) ∧ Aside0 (kq ≤ kj4) ∧ Aside0 (w'.heap[gb177]? = some (.cells #[.int .i64 ((rd_T49 l0 a1).f0), .string ((rd_T49 l0 a1).f1), (.slice A176_2 ((rd_T49 l0 a1).f2).length c176_2), .int .i64 ((rd_T49 l0 a1).f3)] 49 (0, 0))) ∧ Aside0 (Below w.heap.size w w'))
   case atStart => exact ⟨(0), dq17, H', ⟨Nat.le_refl _⟩, ⟨dq65⟩, ⟨dq63⟩⟩
   clear H'
   try clear c1
   try clear p1
   try clear q1
   try clear hx1
   try clear p2
   try clear c3
   try clear c3b0
   try clear c4
   try clear c4b0
   try clear c6
   try clear c8
   try clear c8b0
   try clear c8b1
   try clear c11
   try clear c12
   try clear c12b0
   try clear c12b1
   try clear hcz10_0
   try clear hcz10_1
   try clear hcz10_2
   try clear hcz10_3
   try clear hcz13_0
   try clear hcz13_1
   try clear hcz13_2
   try clear hcz13_3
   try clear hcz7_0
   try clear hcz7_1
   try clear hcz7_2
   try clear hcz7_3
   try clear hcz9_0
   try clear hcz9_1
   try clear hcz9_2
   try clear hcz9_3
   try clear hfz10_0
   try clear hfz10_1
   try clear hfz10_2
   try clear hfz10_3
   try clear hfz13_0
   try clear hfz13_1
   try clear hfz13_2
   try clear hfz13_3
   try clear hfz7_0
   try clear hfz7_1
   try clear hfz7_2
   try clear hfz7_3
   try clear hfz9_0
   try clear hfz9_1
   try clear hfz9_2
   try clear hfz9_3
   try clear hx176_0
   try clear hx176_1
   try clear hx176_2
   try clear hx176_3
   try clear p1
   try clear p176
   try clear p2
   try clear q1
   try clear q176
   obtain ⟨x6_2, rfl, HA, HK2, BK177, HB⟩ := hrel
   cases gk with
   | zero => exact absurd HA.out (by simp [spec_l8Null.l0])
   | succ k2 =>
    have H := HA.out
    clear HA
    simp only [spec_l8Null.l0] at H
    by_cases c14 : x6_2 < (((rd_T49 l0 a1).f2).length : Int)
    rotate_left
    ·rw [if_neg c14] at H
     have c14b0 := decide_eq_false c14
     clear c14
     obtain rfl := Option.some.inj H
     obtain ⟨⟨hcz22_0, hcz22_1, hcz22_2, hcz22_3⟩, hfz22_0, hfz22_1, hfz22_2, hfz22_3⟩ := blkC4 BK177.out
     go_wp2
     go_ret
     exact ⟨dq21, dq63⟩
    rw [if_pos c14] at H
    have c14b0 := decide_eq_true c14
    clear c14
    by_cases c15 : 0 ≤ x6_2
    rotate_left
    ·rw [if_neg c15] at H
     exact absurd H dq26
    rw [if_pos c15] at H
    have c15b0 := decide_eq_true c15
    clear c15
    replace H := Option.bind_eq_some_iff.mp H
    obtain ⟨t179, A160, H⟩ := H
    replace H : (if t179 = true then (spec_l8Null.l0 k2 l0 (wrap64 (x6_2 + 1)) ((rd_T49 l0 a1).f0) ((rd_T49 l0 a1).f1) ((rd_T49 l0 a1).f2) ((rd_T49 l0 a1).f3)) else (some false)) = some r := H
    have A16 := Aside0.mk A160
    clear A160
    by_cases c17 : t179 = true
    rotate_left
    ·replace c17 := Bool.eq_false_iff.mpr c17
     subst c17
     have H1 : (some false) = some r := by rw [if_neg (show ¬ (false = true) by decide)] at H; exact H
     clear H
     have H := H1
     clear H1
     obtain rfl := Option.some.inj H
     obtain ⟨⟨hcz20_0, hcz20_1, hcz20_2, hcz20_3⟩, hfz20_0, hfz20_1, hfz20_2, hfz20_3⟩ := blkC4 BK177.out
     have p178 : 0 ≤ (x6_2 : Int) := of_decide_eq_true dq24
     have q178 : x6_2 < (((rd_T49 l0 a1).f2).length : Int) := of_decide_eq_true dq24
     obtain ⟨ad178, e178, hx178_0⟩ := Kd.at_int HR176_2.out x6_2 p178 q178
     cases e178
     replace hx178_0 := (HB.out.cell (World.block_lt_of_cell? w _ hx178_0)).trans hx178_0
     replace p178 := eq_true p178
     replace q178 := eq_true q178
     go_wp2_with (first | ((with_reducible refine gate_callee (f := 62) rfl ?_); refine goesL_ (some 37) rfl rfl Try.func62 dq23 rfl #[.slice (some ad176) l0.length c0, .int .i64 (rd ((rd_T49 l0 a1).f2) x6_2)] rfl dq22 ?_; (with_reducible refine (ih k2 dq66 _ _ l0 (rd ((rd_T49 l0 a1).f2) x6_2) false _ ?side1 ?side2 A16.out).mono ?_); (case side1 => exact dq4); (case side2 => exact HC0.out); rintro e w21 ⟨rfl, hb⟩; refine ⟨_, rfl, ?_⟩; have n0_ := Aside0.mk (blk_below (g := gb177) (o := .cells #[.int .i64 ((rd_T49 l0 a1).f0), .string ((rd_T49 l0 a1).f1), .slice (some ad178) ((rd_T49 l0 a1).f2).length c176_2, .int .i64 ((rd_T49 l0 a1).f3)] 49 (0, 0)) dq65 hb); have n1_ := Aside0.mk (below_step dq63 hb); clear BK177; clear HB; have BK177 := n0_; have HB := n1_; clear n0_ n1_; (try clear hb); (try clear hb2); (try clear hk); (try clear hi)))
     go_ret
     exact ⟨dq21, dq63⟩
    subst c17
    have H1 : (spec_l8Null.l0 k2 l0 (wrap64 (x6_2 + 1)) ((rd_T49 l0 a1).f0) ((rd_T49 l0 a1).f1) ((rd_T49 l0 a1).f2) ((rd_T49 l0 a1).f3)) = some r := by rw [if_pos rfl] at H; exact H
    clear H
    have H := H1
    clear H1
    have H' := Aside0.mk H
    clear H
    obtain ⟨⟨hcz18_0, hcz18_1, hcz18_2, hcz18_3⟩, hfz18_0, hfz18_1, hfz18_2, hfz18_3⟩ := blkC4 BK177.out
    have p178 : 0 ≤ (x6_2 : Int) := of_decide_eq_true dq24
    have q178 : x6_2 < (((rd_T49 l0 a1).f2).length : Int) := of_decide_eq_true dq24
    obtain ⟨ad178, e178, hx178_0⟩ := Kd.at_int HR176_2.out x6_2 p178 q178
    cases e178
    replace hx178_0 := (HB.out.cell (World.block_lt_of_cell? w _ hx178_0)).trans hx178_0
    replace p178 := eq_true p178
    replace q178 := eq_true q178
    go_wp2_with (first | ((with_reducible refine gate_callee (f := 62) rfl ?_); refine goesL_ (some 37) rfl rfl Try.func62 dq23 rfl #[.slice (some ad176) l0.length c0, .int .i64 (rd ((rd_T49 l0 a1).f2) x6_2)] rfl dq22 ?_; (with_reducible refine (ih k2 dq66 _ _ l0 (rd ((rd_T49 l0 a1).f2) x6_2) true _ ?side1 ?side2 A16.out).mono ?_); (case side1 => exact dq4); (case side2 => exact HC0.out); rintro e w19 ⟨rfl, hb⟩; refine ⟨_, rfl, ?_⟩; have n0_ := Aside0.mk (blk_below (g := gb177) (o := .cells #[.int .i64 ((rd_T49 l0 a1).f0), .string ((rd_T49 l0 a1).f1), .slice (some ad178) ((rd_T49 l0 a1).f2).length c176_2, .int .i64 ((rd_T49 l0 a1).f3)] 49 (0, 0)) dq65 hb); have n1_ := Aside0.mk (below_step dq63 hb); clear BK177; clear HB; have BK177 := n0_; have HB := n1_; clear n0_ n1_; (try clear hb); (try clear hb2); (try clear hk); (try clear hi)))
    go_roundg k2
    case measure => have := HJ4.out; have := HK2.out; omega
    case rel => exact ⟨(wrap64 (x6_2 + 1)), dq17, H', ⟨dq66⟩, ⟨dq65⟩, ⟨dq63⟩⟩
  rw [if_neg c12] at H
  have c12b0 := beq_eq_false_iff_ne.mpr c12
  have c12b1 := bne_iff_ne.mpr c12
  by_cases c23 : ((rd_T49 l0 a1).f0) = 3
  rotate_left
  ·rw [if_neg c23] at H
   have c23b0 := beq_eq_false_iff_ne.mpr c23
   have c23b1 := bne_iff_ne.mpr c23
   obtain rfl := Option.some.inj H
   obtain ⟨⟨hcz34_0, hcz34_1, hcz34_2, hcz34_3⟩, hfz34_0, hfz34_1, hfz34_2, hfz34_3⟩ := blkC4 BK177.out
   go_wp2
   go_ret
   exact ⟨dq21, dq63⟩
  rw [if_pos c23] at H
  have c23b0 := beq_iff_eq.mpr c23
  have c23b1 := bne_eq_false_iff_eq.mpr c23
  clear c23
  have H' := Aside0.mk H
  clear H
  obtain ⟨⟨hcz24_0, hcz24_1, hcz24_2, hcz24_3⟩, hfz24_0, hfz24_1, hfz24_2, hfz24_3⟩ := blkC4 BK177.out
  go_wp2
  go_loopg [7] kj4 (fun kq v7 w' => ∃ (x7_2 : Int), v7 = .int .i64 x7_2 ∧ Aside0 (spec_l8Null.l1 kq l0 x7_2 ((rd_T49 l0 a1).f0) ((rd_T49 l0 a1).f1) ((rd_T49 l0 a1).f2) ((rd_T49 l0 a1).f3) = some r) ∧ Aside0 (kq ≤ kj4) ∧ Aside0 (w'.heap[gb177]? = some (.cells #[.int .i64 ((rd_T49 l0 a1).f0), .string ((rd_T49 l0 a1).f1), (.slice A176_2 ((rd_T49 l0 a1).f2).length c176_2), .int .i64 ((rd_T49 l0 a1).f3)] 49 (0, 0))) ∧ Aside0 (Below w.heap.size w w'))
  case atStart => exact ⟨(0), dq17, H', ⟨Nat.le_refl _⟩, ⟨dq65⟩, ⟨dq63⟩⟩
  clear H'
  try clear c1
  try clear p1
  try clear q1
  try clear hx1
  try clear c2
  try clear p2
  try clear c3
  try clear c3b0
  try clear c4
  try clear c4b0
  try clear c6
  try clear p6
  try clear c8
  try clear c8b0
  try clear c8b1
  try clear c11
  try clear c12
  try clear c12b0
  try clear c12b1
  try clear c14
  try clear c14b0
  try clear c15
  try clear c15b0
  try clear c17
  try clear p17
  try clear q17
  try clear hx17
  try clear c23
  try clear c23b0
  try clear c23b1
  try clear hcz10_0
  try clear hcz10_1
  try clear hcz10_2
  try clear hcz10_3
  try clear hcz13_0
  try clear hcz13_1
  try clear hcz13_2
  try clear hcz13_3
  try clear hcz18_0
  try clear hcz18_1
  try clear hcz18_2
  try clear hcz18_3
  try clear hcz20_0
  try clear hcz20_1
  try clear hcz20_2
  try clear hcz20_3
  try clear hcz22_0
  try clear hcz22_1
  try clear hcz22_2
  try clear hcz22_3
  try clear hcz24_0
  try clear hcz24_1
  try clear hcz24_2
  try clear hcz24_3
  try clear hcz7_0
  try clear hcz7_1
  try clear hcz7_2
  try clear hcz7_3
  try clear hcz9_0
  try clear hcz9_1
  try clear hcz9_2
  try clear hcz9_3
  try clear hfz10_0
  try clear hfz10_1
  try clear hfz10_2
  try clear hfz10_3
  try clear hfz13_0
  try clear hfz13_1
  try clear hfz13_2
  try clear hfz13_3
  try clear hfz18_0
  try clear hfz18_1
  try clear hfz18_2
  try clear hfz18_3
  try clear hfz20_0
  try clear hfz20_1
  try clear hfz20_2
  try clear hfz20_3
  try clear hfz22_0
  try clear hfz22_1
  try clear hfz22_2
  try clear hfz22_3
  try clear hfz24_0
  try clear hfz24_1
  try clear hfz24_2
  try clear hfz24_3
  try clear hfz7_0
  try clear hfz7_1
  try clear hfz7_2
  try clear hfz7_3
  try clear hfz9_0
  try clear hfz9_1
  try clear hfz9_2
  try clear hfz9_3
  try clear hx176_0
  try clear hx176_1
  try clear hx176_2
  try clear hx176_3
  try clear hx178_0
  try clear p1
  try clear p176
  try clear p178
  try clear p2
  try clear q1
  try clear q176
  try clear q178
  obtain ⟨x7_2, rfl, HA, HK2, BK177, HB⟩ := hrel
  cases gk with
  | zero => exact absurd HA.out (by simp [spec_l8Null.l1])
  | succ k2 =>
   have H := HA.out
   clear HA
   simp only [spec_l8Null.l1] at H
   by_cases c25 : x7_2 < (((rd_T49 l0 a1).f2).length : Int)
   rotate_left
   ·rw [if_neg c25] at H
    have c25b0 := decide_eq_false c25
    clear c25
    obtain rfl := Option.some.inj H
    obtain ⟨⟨hcz33_0, hcz33_1, hcz33_2, hcz33_3⟩, hfz33_0, hfz33_1, hfz33_2, hfz33_3⟩ := blkC4 BK177.out
    go_wp2
    go_ret
    exact ⟨dq21, dq63⟩
   rw [if_pos c25] at H
   have c25b0 := decide_eq_true c25
   clear c25
   by_cases c26 : 0 ≤ x7_2
   rotate_left
   ·rw [if_neg c26] at H
    exact absurd H dq26
   rw [if_pos c26] at H
   have c26b0 := decide_eq_true c26
   clear c26
   replace H := Option.bind_eq_some_iff.mp H
   obtain ⟨t181, A270, H⟩ := H
   replace H : (if t181 = true then (some true) else (spec_l8Null.l1 k2 l0 (wrap64 (x7_2 + 1)) ((rd_T49 l0 a1).f0) ((rd_T49 l0 a1).f1) ((rd_T49 l0 a1).f2) ((rd_T49 l0 a1).f3))) = some r := H
   have A27 := Aside0.mk A270
   clear A270
   by_cases c28 : t181 = true
   ·subst c28
    have H1 : (some true) = some r := by rw [if_pos rfl] at H; exact H
    clear H
    have H := H1
    clear H1
    obtain rfl := Option.some.inj H
    obtain ⟨⟨hcz29_0, hcz29_1, hcz29_2, hcz29_3⟩, hfz29_0, hfz29_1, hfz29_2, hfz29_3⟩ := blkC4 BK177.out
    have p180 : 0 ≤ (x7_2 : Int) := of_decide_eq_true dq24
    have q180 : x7_2 < (((rd_T49 l0 a1).f2).length : Int) := of_decide_eq_true dq24
    obtain ⟨ad180, e180, hx180_0⟩ := Kd.at_int HR176_2.out x7_2 p180 q180
    cases e180
    replace hx180_0 := (HB.out.cell (World.block_lt_of_cell? w _ hx180_0)).trans hx180_0
    replace p180 := eq_true p180
    replace q180 := eq_true q180
    go_wp2_with (first | ((with_reducible refine gate_callee (f := 62) rfl ?_); refine goesL_ (some 54) rfl rfl Try.func62 dq23 rfl #[.slice (some ad176) l0.length c0, .int .i64 (rd ((rd_T49 l0 a1).f2) x7_2)] rfl dq22 ?_; (with_reducible refine (ih k2 dq66 _ _ l0 (rd ((rd_T49 l0 a1).f2) x7_2) true _ ?side1 ?side2 A27.out).mono ?_); (case side1 => exact dq4); (case side2 => exact HC0.out); rintro e w30 ⟨rfl, hb⟩; refine ⟨_, rfl, ?_⟩; have n0_ := Aside0.mk (blk_below (g := gb177) (o := .cells #[.int .i64 ((rd_T49 l0 a1).f0), .string ((rd_T49 l0 a1).f1), .slice (some ad180) ((rd_T49 l0 a1).f2).length c176_2, .int .i64 ((rd_T49 l0 a1).f3)] 49 (0, 0)) dq65 hb); have n1_ := Aside0.mk (below_step dq63 hb); clear BK177; clear HB; have BK177 := n0_; have HB := n1_; clear n0_ n1_; (try clear hb); (try clear hb2); (try clear hk); (try clear hi)))
    go_ret
    exact ⟨dq21, dq63⟩
   replace c28 := Bool.eq_false_iff.mpr c28
   subst c28
   have H1 : (spec_l8Null.l1 k2 l0 (wrap64 (x7_2 + 1)) ((rd_T49 l0 a1).f0) ((rd_T49 l0 a1).f1) ((rd_T49 l0 a1).f2) ((rd_T49 l0 a1).f3)) = some r := by rw [if_neg (show ¬ (false = true) by decide)] at H; exact H
   clear H
   have H := H1
   clear H1
   have H' := Aside0.mk H
   clear H
   obtain ⟨⟨hcz31_0, hcz31_1, hcz31_2, hcz31_3⟩, hfz31_0, hfz31_1, hfz31_2, hfz31_3⟩ := blkC4 BK177.out
   have p180 : 0 ≤ (x7_2 : Int) := of_decide_eq_true dq24
   have q180 : x7_2 < (((rd_T49 l0 a1).f2).length : Int) := of_decide_eq_true dq24
   obtain ⟨ad180, e180, hx180_0⟩ := Kd.at_int HR176_2.out x7_2 p180 q180
   cases e180
   replace hx180_0 := (HB.out.cell (World.block_lt_of_cell? w _ hx180_0)).trans hx180_0
   replace p180 := eq_true p180
   replace q180 := eq_true q180
   go_wp2_with (first | ((with_reducible refine gate_callee (f := 62) rfl ?_); refine goesL_ (some 54) rfl rfl Try.func62 dq23 rfl #[.slice (some ad176) l0.length c0, .int .i64 (rd ((rd_T49 l0 a1).f2) x7_2)] rfl dq22 ?_; (with_reducible refine (ih k2 dq66 _ _ l0 (rd ((rd_T49 l0 a1).f2) x7_2) false _ ?side1 ?side2 A27.out).mono ?_); (case side1 => exact dq4); (case side2 => exact HC0.out); rintro e w32 ⟨rfl, hb⟩; refine ⟨_, rfl, ?_⟩; have n0_ := Aside0.mk (blk_below (g := gb177) (o := .cells #[.int .i64 ((rd_T49 l0 a1).f0), .string ((rd_T49 l0 a1).f1), .slice (some ad180) ((rd_T49 l0 a1).f2).length c176_2, .int .i64 ((rd_T49 l0 a1).f3)] 49 (0, 0)) dq65 hb); have n1_ := Aside0.mk (below_step dq63 hb); clear BK177; clear HB; have BK177 := n0_; have HB := n1_; clear n0_ n1_; (try clear hb); (try clear hb2); (try clear hk); (try clear hi)))
   go_roundg k2
   case measure => have := HJ4.out; have := HK2.out; omega
   case rel => exact ⟨(wrap64 (x7_2 + 1)), dq17, H', ⟨dq66⟩, ⟨dq65⟩, ⟨dq63⟩⟩

/-! ### spec_l8Edge: function 35 -/
mutual
def spec_l8Edge.j0 : Nat → List (S49) → Int → Bool → Bool → Int → ByteArray → List Int → Int → Option (List Int)
 | 0, _, _, _, _, _, _, _, _ => none
 | k + 1, x0, x1, x2, x23, x184000, x184001, x184002, x184003 => if x23 = true then (some (([x1] : List Int))) else (spec_l8Edge.l0 k x0 x2 (([] : List Int)) 0 x184000 x184001 x184002 x184003)
def spec_l8Edge.l0 : Nat → List (S49) → Bool → List Int → Int → Int → ByteArray → List Int → Int → Option (List Int)
 | 0, _, _, _, _, _, _, _, _ => none
 | k + 1, x0, x2, x8, x9, x184000, x184001, x184002, x184003 => if x9 < (x184002.length : Int) then (if x2 = true then (spec_l8Edge.j2 k x0 x2 x8 x9 (wrap64 ((wrap64 ((x184002.length : Int) - 1)) - x9)) x184000 x184001 x184002 x184003) else (spec_l8Edge.j2 k x0 x2 x8 x9 x9 x184000 x184001 x184002 x184003)) else (some x8)
def spec_l8Edge.j2 : Nat → List (S49) → Bool → List Int → Int → Int → Int → ByteArray → List Int → Int → Option (List Int)
 | 0, _, _, _, _, _, _, _, _, _ => none
 | k + 1, x0, x2, x8, x9, x10, x184000, x184001, x184002, x184003 => if 0 ≤ x10 then (if x10 < (x184002.length : Int) then ((spec_l8Edge.f k x0 (rd x184002 x10) x2).bind fun t191 => (if x8.length + t191.length < 17592186044416 then ((some (x8 ++ t191 : List Int)).bind fun y194 => (if x184000 = 2 then ((spec_l8Null.f k x0 (rd x184002 x10)).bind fun t198 => (if t198 = true then (spec_l8Edge.l0 k x0 x2 y194 (wrap64 (x9 + 1)) x184000 x184001 x184002 x184003) else (some y194))) else (spec_l8Edge.l0 k x0 x2 y194 (wrap64 (x9 + 1)) x184000 x184001 x184002 x184003))) else (none))) else (none)) else (none)
def spec_l8Edge.f : Nat → List (S49) → Int → Bool → Option (List Int)
 | 0, _, _, _ => none
 | k + 1, l0, a1, a2 => if 0 ≤ a1 then (if a1 < (l0.length : Int) then (if (((rd_T49 l0 a1).f2).length : Int) = 0 then (spec_l8Edge.j0 k l0 a1 a2 (((rd_T49 l0 a1).f0) != 2) ((rd_T49 l0 a1).f0) ((rd_T49 l0 a1).f1) ((rd_T49 l0 a1).f2) ((rd_T49 l0 a1).f3)) else (spec_l8Edge.j0 k l0 a1 a2 false ((rd_T49 l0 a1).f0) ((rd_T49 l0 a1).f1) ((rd_T49 l0 a1).f2) ((rd_T49 l0 a1).f3))) else (none)) else (none)
end
set_option maxHeartbeats 8000000 in
set_option maxRecDepth 100000 in
theorem spec_l8Edge.calls (k : Nat) : ∀ (A0 : Option Addr) (c0 : Nat) (l0 : List (S49)) (a1 : Int) (a2 : Bool) (r : List Int) (w : World) (hr0 : Kd.C k49 w A0 l0.length l0) (hc0 : l0.length ≤ c0) (h : spec_l8Edge.f k l0 a1 a2 = some r),
  Calls Try.prog 35 #[.slice A0 l0.length c0, .int .i64 a1, .bool a2] w fun e w' => ∃ v0_ : Value, e = .returned (v0_) ∧ Kd.R (Kd.int .i64) 2 w' w.heap.size (fun _ => True) v0_ r ∧ Below w.heap.size w w' := by
 induction k using Nat.strongRecOn with
 | _ k ih =>
 intro A0 c0 l0 a1 a2 r w hr0 hc0 h
 cases k with
 | zero => exact absurd h (by simp [spec_l8Edge.f])
 | succ k =>
 simp only [spec_l8Edge.f] at h
 have hu49 := Try.underlying49
 have HR0 := Aside0.mk hr0
 have HC0 := Aside0.mk hc0
 clear hr0 hc0
 have HB := Aside0.mk (Below.refl w.heap.size w)
 have H : (if 0 ≤ a1 then (if a1 < (l0.length : Int) then (if (((rd_T49 l0 a1).f2).length : Int) = 0 then (spec_l8Edge.j0 k l0 a1 a2 (((rd_T49 l0 a1).f0) != 2) ((rd_T49 l0 a1).f0) ((rd_T49 l0 a1).f1) ((rd_T49 l0 a1).f2) ((rd_T49 l0 a1).f3)) else (spec_l8Edge.j0 k l0 a1 a2 false ((rd_T49 l0 a1).f0) ((rd_T49 l0 a1).f1) ((rd_T49 l0 a1).f2) ((rd_T49 l0 a1).f3))) else (none)) else (none)) = some r := h
 clear h
 by_cases c4 : 0 ≤ a1
 rotate_left
 ·rw [if_neg c4] at H
  exact absurd H dq26
 rw [if_pos c4] at H
 have c4b0 := decide_eq_true c4
 clear c4
 by_cases c5 : a1 < (l0.length : Int)
 rotate_left
 ·rw [if_neg c5] at H
  exact absurd H dq26
 rw [if_pos c5] at H
 have c5b0 := decide_eq_true c5
 clear c5
 have HC6 := Aside0.mk H
 clear H
 have p182 : 0 ≤ (a1 : Int) := of_decide_eq_true dq24
 have q182 : a1 < (l0.length : Int) := of_decide_eq_true dq24
 obtain ⟨ad182, A182_2, c182_2, e182, hx182_0, hx182_1, hx182_2, hx182_3, hl182_2, hi182_2⟩ := at_T49 HR0.out a1 p182 q182
 cases e182
 have HR182_2 := Aside0.mk hi182_2
 have HC182_2 := Aside0.mk hl182_2
 clear hi182_2 hl182_2
 replace p182 := eq_true p182
 replace q182 := eq_true q182
 go_enter Try.func35, Try.ntmps35
 go_upto_region 2 with (first | ((with_reducible refine gate_dst (N := 7) rfl ?_); refine box_event ?hg (N := 7) ?hd (cs := #[.int .i64 0, .string (⟨#[]⟩ : ByteArray), .slice none 0 0, .int .i64 0]) (t := 49) ?hr ?_; (case hd => rfl); (case hg => rfl); (case hr => exact dq0); intro gb183 hg w7 hbox hb; have n0_ := Aside0.mk (below_step dq19 hb); have n1_ := Aside0.mk (hbox); have n2_ := Aside0.mk ((dq18 : w.heap.size ≤ gb183)); have n3_ := Aside0.mk ((dq18 : w.heap.size ≤ gb183)); clear HB; have HB := n0_; have BK183 := n1_; have GW183 := n2_; have GE183 := n3_; clear n0_ n1_ n2_ n3_; clear hb hbox hg; obtain ⟨⟨hcz8_0, hcz8_1, hcz8_2, hcz8_3⟩, hfz8_0, hfz8_1, hfz8_2, hfz8_3⟩ := blkC4 BK183.out))
 (try simp only [Act.put, List.setIfInBounds_toArray, List.set_cons_zero, List.set_cons_succ])
 go_cut [23] (fun v23 wc => ∃ (kq : Nat) (x23_5 : Bool), v23 = .bool x23_5 ∧ Aside0 (spec_l8Edge.j0 kq l0 a1 a2 x23_5 ((rd_T49 l0 a1).f0) ((rd_T49 l0 a1).f1) ((rd_T49 l0 a1).f2) ((rd_T49 l0 a1).f3) = some r) ∧ Aside0 (kq ≤ k) ∧ Aside0 (wc.heap[gb183]? = some (.cells #[.int .i64 ((rd_T49 l0 a1).f0), .string ((rd_T49 l0 a1).f1), (.slice A182_2 ((rd_T49 l0 a1).f2).length c182_2), .int .i64 ((rd_T49 l0 a1).f3)] 49 (0, 0))) ∧ Aside0 (Below w.heap.size w wc))
 case first =>
  have H := HC6.out
  clear HC6
  by_cases c9 : (((rd_T49 l0 a1).f2).length : Int) = 0
  ·rw [if_pos c9] at H
   have c9b0 := beq_iff_eq.mpr c9
   have c9b1 := bne_eq_false_iff_eq.mpr c9
   clear c9
   (first | rw [c9b0] | (simp only [i64_w, i32_w]; rw [c9b0]) | skip)
   have H' := Aside0.mk H
   clear H
   obtain ⟨⟨hcz10_0, hcz10_1, hcz10_2, hcz10_3⟩, hfz10_0, hfz10_1, hfz10_2, hfz10_3⟩ := blkC4 BK183.out
   go_wp2
   go_meet
   case rel => exact ⟨_, ((((rd_T49 l0 a1).f0) != 2)), dq17, H', ⟨dq46⟩, ⟨dq68⟩, ⟨dq67⟩⟩
  rw [if_neg c9] at H
  have c9b0 := beq_eq_false_iff_ne.mpr c9
  have c9b1 := bne_iff_ne.mpr c9
  have c9b2 : ¬ (((rd_T49 l0 a1).f2) = []) := fun h_ => c9 (by rw [h_]; rfl)
  (first | rw [c9b0] | (simp only [i64_w, i32_w]; rw [c9b0]) | skip)
  have H' := Aside0.mk H
  clear H
  obtain ⟨⟨hcz11_0, hcz11_1, hcz11_2, hcz11_3⟩, hfz11_0, hfz11_1, hfz11_2, hfz11_3⟩ := blkC4 BK183.out
  go_wp2
  go_meet
  case rel => exact ⟨_, (false), dq17, H', ⟨dq46⟩, ⟨dq68⟩, ⟨dq67⟩⟩
 clear HC6
 try clear c1
 try clear p1
 try clear q1
 try clear hx1
 try clear p2
 try clear c3
 try clear c4
 try clear c4b0
 try clear c5
 try clear c5b0
 try clear c9
 try clear c9b0
 try clear c9b1
 try clear c9b2
 try clear hcz10_0
 try clear hcz10_1
 try clear hcz10_2
 try clear hcz10_3
 try clear hcz11_0
 try clear hcz11_1
 try clear hcz11_2
 try clear hcz11_3
 try clear hcz8_0
 try clear hcz8_1
 try clear hcz8_2
 try clear hcz8_3
 try clear hfz10_0
 try clear hfz10_1
 try clear hfz10_2
 try clear hfz10_3
 try clear hfz11_0
 try clear hfz11_1
 try clear hfz11_2
 try clear hfz11_3
 try clear hfz8_0
 try clear hfz8_1
 try clear hfz8_2
 try clear hfz8_3
 try clear hx182_0
 try clear hx182_1
 try clear hx182_2
 try clear hx182_3
 try clear p182
 try clear q182
 obtain ⟨kq, x23_5, rfl, HA, HJ5, BK183, HB⟩ := hcut
 cases kq with
 | zero => exact absurd HA.out (by simp [spec_l8Edge.j0])
 | succ kj5 =>
  have H := HA.out
  clear HA
  simp only [spec_l8Edge.j0] at H
  by_cases c12 : x23_5 = true
  ·subst c12
   have H1 : (some (([a1] : List Int))) = some r := by rw [if_pos rfl] at H; exact H
   clear H
   have H := H1
   clear H1
   obtain ⟨y184, hy184⟩ : ∃ y_ : List Int, y_ = (([a1] : List Int)) := ⟨_, rfl⟩
   replace H : (some y184) = some r := by first | (rw [hy184]; with_reducible exact H) | (have H2_ := (Option.bind_some _ _).symm.trans H; rw [hy184]; with_reducible exact H2_) | (have H2_ := (Option.bind_some _ _).symm.trans H; with_reducible exact H2_) | with_reducible exact H | (rw [hy184]; exact H) | exact H
   have Ny184 := Aside0.mk hy184
   clear hy184
   obtain rfl := Option.some.inj H
   go_wp2_with (first | ((with_reducible refine gate_dst (N := 25) rfl ?_); refine Kd.R_lit (Kd.int .i64) _ 2 ?hg (N := 25) ?hd (xs := ([a1] : List Int)) (inner := [.int .i64 a1]) (ok := fun _ => True) (okp := fun _ => True) ?hr ?hp (fun _ hk => hk) trivial (Below.refl _ _) (Nat.le_refl _) dq26 ?_; (case hd => rfl); (case hg => rfl); (case hr => exact dq0); (case hp => exact (Reps.one (show Kd.M (Kd.int .i64) _ _ _ a1 [.int .i64 a1] from rfl) (Reps.none _ _))); intro v185 w13 ho14 hb hg_ hnew_; clear hg_ hnew_; (first | rw [← Ny184.out] at ho14 | (simp only [Int.reduceToNat] at ho14; rw [← Ny184.out] at ho14)); have n0_ := Aside0.mk (Kd.R_lower ho14 (below_size dq67)); have n1_ := Aside0.mk (blk_below (g := gb183) (o := .cells #[.int .i64 ((rd_T49 l0 a1).f0), .string ((rd_T49 l0 a1).f1), .slice A182_2 ((rd_T49 l0 a1).f2).length c182_2, .int .i64 ((rd_T49 l0 a1).f3)] 49 (0, 0)) dq69 hb); have n2_ := Aside0.mk (below_step dq67 hb); clear BK183; clear HB; have HO186 := n0_; have BK183 := n1_; have HB := n2_; clear n0_ n1_ n2_; clear hb ho14))
   go_ret
   exact ⟨_, dq21, by (with_reducible repeat (first | apply Kd.R_alloc | apply Kd.R_drewN | apply Kd.R_drew)); exact HO186.out, dq67⟩
  replace c12 := Bool.eq_false_iff.mpr c12
  subst c12
  have H1 : (spec_l8Edge.l0 kj5 l0 a2 (([] : List Int)) 0 ((rd_T49 l0 a1).f0) ((rd_T49 l0 a1).f1) ((rd_T49 l0 a1).f2) ((rd_T49 l0 a1).f3)) = some r := by rw [if_neg (show ¬ (false = true) by decide)] at H; exact H
  clear H
  have H := H1
  clear H1
  obtain ⟨y187, hy187⟩ : ∃ y_ : List Int, y_ = (([] : List Int)) := ⟨_, rfl⟩
  replace H : (spec_l8Edge.l0 kj5 l0 a2 y187 0 ((rd_T49 l0 a1).f0) ((rd_T49 l0 a1).f1) ((rd_T49 l0 a1).f2) ((rd_T49 l0 a1).f3)) = some r := by first | (rw [hy187]; with_reducible exact H) | (have H2_ := (Option.bind_some _ _).symm.trans H; rw [hy187]; with_reducible exact H2_) | (have H2_ := (Option.bind_some _ _).symm.trans H; with_reducible exact H2_) | with_reducible exact H | (rw [hy187]; exact H) | exact H
  have Ny187 := Aside0.mk hy187
  clear hy187
  have H' := Aside0.mk H
  clear H
  go_wp2_with (first | ((with_reducible refine gate_dst (N := 26) rfl ?_); refine Kd.R_lit (Kd.int .i64) _ 2 ?hg (N := 26) ?hd (xs := ([] : List Int)) (inner := []) (ok := fun _ => True) (okp := fun _ => True) ?hr ?hp (fun _ hk => hk) trivial (Below.refl _ _) (Nat.le_refl _) dq26 ?_; (case hd => rfl); (case hg => rfl); (case hr => exact dq0); (case hp => exact (Reps.none _ _)); intro v188 w15 ho16 hb hg_ hnew_; clear hg_ hnew_; (first | rw [← Ny187.out] at ho16 | (simp only [Int.reduceToNat] at ho16; rw [← Ny187.out] at ho16)); have n0_ := Aside0.mk (Kd.R_lower ho16 (below_size dq67)); have n1_ := Aside0.mk (blk_below (g := gb183) (o := .cells #[.int .i64 ((rd_T49 l0 a1).f0), .string ((rd_T49 l0 a1).f1), .slice A182_2 ((rd_T49 l0 a1).f2).length c182_2, .int .i64 ((rd_T49 l0 a1).f3)] 49 (0, 0)) dq69 hb); have n2_ := Aside0.mk (below_step dq67 hb); clear BK183; clear HB; have HO189 := n0_; have BK183 := n1_; have HB := n2_; clear n0_ n1_ n2_; clear hb ho16))
  go_loopg [8, 9] kj5 (fun kq v8 v9 w' => ∃ (x8_2 : List Int) (x9_2 : Int), v9 = .int .i64 x9_2 ∧ Aside0 (spec_l8Edge.l0 kq l0 a2 x8_2 x9_2 ((rd_T49 l0 a1).f0) ((rd_T49 l0 a1).f1) ((rd_T49 l0 a1).f2) ((rd_T49 l0 a1).f3) = some r) ∧ Aside0 (kq ≤ kj5) ∧ Aside0 (Kd.R (Kd.int .i64) 2 w' w.heap.size (fun _ => True) v8 x8_2) ∧ Aside0 (w'.heap[gb183]? = some (.cells #[.int .i64 ((rd_T49 l0 a1).f0), .string ((rd_T49 l0 a1).f1), (.slice A182_2 ((rd_T49 l0 a1).f2).length c182_2), .int .i64 ((rd_T49 l0 a1).f3)] 49 (0, 0))) ∧ Aside0 (Below w.heap.size w w'))
  case atStart => exact ⟨(y187), (0), dq17, H', ⟨Nat.le_refl _⟩, ⟨by (with_reducible repeat (first | apply Kd.R_alloc | apply Kd.R_drewN | apply Kd.R_drew)); exact HO189.out⟩, ⟨dq69⟩, ⟨dq67⟩⟩
  clear H'
  try clear c1
  try clear p1
  try clear q1
  try clear hx1
  try clear p2
  try clear c3
  try clear c4
  try clear c4b0
  try clear c5
  try clear c5b0
  try clear c9
  try clear c9b0
  try clear c9b1
  try clear c9b2
  try clear c12
  try clear hcz10_0
  try clear hcz10_1
  try clear hcz10_2
  try clear hcz10_3
  try clear hcz11_0
  try clear hcz11_1
  try clear hcz11_2
  try clear hcz11_3
  try clear hcz8_0
  try clear hcz8_1
  try clear hcz8_2
  try clear hcz8_3
  try clear hfz10_0
  try clear hfz10_1
  try clear hfz10_2
  try clear hfz10_3
  try clear hfz11_0
  try clear hfz11_1
  try clear hfz11_2
  try clear hfz11_3
  try clear hfz8_0
  try clear hfz8_1
  try clear hfz8_2
  try clear hfz8_3
  try clear hx182_0
  try clear hx182_1
  try clear hx182_2
  try clear hx182_3
  try clear p1
  try clear p182
  try clear p2
  try clear q1
  try clear q182
  obtain ⟨x8_2, x9_2, rfl, HA, HK2, HO_8, BK183, HB⟩ := hrel
  cases gk with
  | zero => exact absurd HA.out (by simp [spec_l8Edge.l0])
  | succ k2 =>
   have H := HA.out
   clear HA
   simp only [spec_l8Edge.l0] at H
   by_cases c17 : x9_2 < (((rd_T49 l0 a1).f2).length : Int)
   rotate_left
   ·rw [if_neg c17] at H
    have c17b0 := decide_eq_false c17
    clear c17
    obtain rfl := Option.some.inj H
    obtain ⟨⟨hcz46_0, hcz46_1, hcz46_2, hcz46_3⟩, hfz46_0, hfz46_1, hfz46_2, hfz46_3⟩ := blkC4 BK183.out
    go_wp2
    go_ret
    exact ⟨_, dq21, dq70, dq67⟩
   rw [if_pos c17] at H
   have c17b0 := decide_eq_true c17
   clear c17
   have HC18 := Aside0.mk H
   clear H
   obtain ⟨⟨hcz19_0, hcz19_1, hcz19_2, hcz19_3⟩, hfz19_0, hfz19_1, hfz19_2, hfz19_3⟩ := blkC4 BK183.out
   go_upto_if 35 with (fail)
   go_cut [10] (fun v10 wc => ∃ (kq : Nat) (x10_17 : Int), v10 = .int .i64 x10_17 ∧ Aside0 (spec_l8Edge.j2 kq l0 a2 x8_2 x9_2 x10_17 ((rd_T49 l0 a1).f0) ((rd_T49 l0 a1).f1) ((rd_T49 l0 a1).f2) ((rd_T49 l0 a1).f3) = some r) ∧ Aside0 (kq ≤ k2) ∧ Aside0 (Kd.R (Kd.int .i64) 2 wc w.heap.size (fun _ => True) u8 x8_2) ∧ Aside0 (wc.heap[gb183]? = some (.cells #[.int .i64 ((rd_T49 l0 a1).f0), .string ((rd_T49 l0 a1).f1), (.slice A182_2 ((rd_T49 l0 a1).f2).length c182_2), .int .i64 ((rd_T49 l0 a1).f3)] 49 (0, 0))) ∧ Aside0 (Below w.heap.size w wc))
   case first =>
    have H := HC18.out
    clear HC18
    by_cases c20 : a2 = true
    rotate_left
    ·replace c20 := Bool.eq_false_iff.mpr c20
     subst c20
     have H1 : (spec_l8Edge.j2 k2 l0 false x8_2 x9_2 x9_2 ((rd_T49 l0 a1).f0) ((rd_T49 l0 a1).f1) ((rd_T49 l0 a1).f2) ((rd_T49 l0 a1).f3)) = some r := by rw [if_neg (show ¬ (false = true) by decide)] at H; exact H
     clear H
     have H := H1
     clear H1
     have H' := Aside0.mk H
     clear H
     go_wp2
     go_meet
     case rel => exact ⟨_, (x9_2), dq17, H', ⟨by have := HJ5.out; have := HK2.out; first | omega | exact Nat.le_refl _⟩, ⟨dq70⟩, ⟨dq69⟩, ⟨dq67⟩⟩
    subst c20
    have H1 : (spec_l8Edge.j2 k2 l0 true x8_2 x9_2 (wrap64 ((wrap64 ((((rd_T49 l0 a1).f2).length : Int) - 1)) - x9_2)) ((rd_T49 l0 a1).f0) ((rd_T49 l0 a1).f1) ((rd_T49 l0 a1).f2) ((rd_T49 l0 a1).f3)) = some r := by rw [if_pos rfl] at H; exact H
    clear H
    have H := H1
    clear H1
    have H' := Aside0.mk H
    clear H
    obtain ⟨⟨hcz21_0, hcz21_1, hcz21_2, hcz21_3⟩, hfz21_0, hfz21_1, hfz21_2, hfz21_3⟩ := blkC4 BK183.out
    go_wp2
    go_meet
    case rel => exact ⟨_, (wrap64 ((wrap64 ((((rd_T49 l0 a1).f2).length : Int) - 1)) - x9_2)), dq17, H', ⟨by have := HJ5.out; have := HK2.out; first | omega | exact Nat.le_refl _⟩, ⟨dq70⟩, ⟨dq69⟩, ⟨dq67⟩⟩
   clear HC18
   try clear c1
   try clear p1
   try clear q1
   try clear hx1
   try clear c2
   try clear p2
   try clear c3
   try clear c4
   try clear c4b0
   try clear c5
   try clear c5b0
   try clear p6
   try clear c9
   try clear c9b0
   try clear c9b1
   try clear c9b2
   try clear c12
   try clear c17
   try clear c17b0
   try clear c18
   try clear p18
   try clear q18
   try clear hx18
   try clear c20
   try clear hcz10_0
   try clear hcz10_1
   try clear hcz10_2
   try clear hcz10_3
   try clear hcz11_0
   try clear hcz11_1
   try clear hcz11_2
   try clear hcz11_3
   try clear hcz19_0
   try clear hcz19_1
   try clear hcz19_2
   try clear hcz19_3
   try clear hcz21_0
   try clear hcz21_1
   try clear hcz21_2
   try clear hcz21_3
   try clear hcz8_0
   try clear hcz8_1
   try clear hcz8_2
   try clear hcz8_3
   try clear hfz10_0
   try clear hfz10_1
   try clear hfz10_2
   try clear hfz10_3
   try clear hfz11_0
   try clear hfz11_1
   try clear hfz11_2
   try clear hfz11_3
   try clear hfz19_0
   try clear hfz19_1
   try clear hfz19_2
   try clear hfz19_3
   try clear hfz21_0
   try clear hfz21_1
   try clear hfz21_2
   try clear hfz21_3
   try clear hfz8_0
   try clear hfz8_1
   try clear hfz8_2
   try clear hfz8_3
   try clear hx182_0
   try clear hx182_1
   try clear hx182_2
   try clear hx182_3
   try clear p1
   try clear p182
   try clear p2
   try clear q1
   try clear q182
   obtain ⟨kq, x10_17, rfl, HA, HJ17, HO_8, BK183, HB⟩ := hcut
   cases kq with
   | zero => exact absurd HA.out (by simp [spec_l8Edge.j2])
   | succ kj17 =>
    have H := HA.out
    clear HA
    simp only [spec_l8Edge.j2] at H
    by_cases c22 : 0 ≤ x10_17
    rotate_left
    ·rw [if_neg c22] at H
     exact absurd H dq26
    rw [if_pos c22] at H
    have c22b0 := decide_eq_true c22
    clear c22
    by_cases c23 : x10_17 < (((rd_T49 l0 a1).f2).length : Int)
    rotate_left
    ·rw [if_neg c23] at H
     exact absurd H dq26
    rw [if_pos c23] at H
    have c23b0 := decide_eq_true c23
    clear c23
    replace H := Option.bind_eq_some_iff.mp H
    obtain ⟨t191, A240, H⟩ := H
    replace H : (if x8_2.length + t191.length < 17592186044416 then ((some (x8_2 ++ t191 : List Int)).bind fun y194 => (if ((rd_T49 l0 a1).f0) = 2 then ((spec_l8Null.f kj17 l0 (rd ((rd_T49 l0 a1).f2) x10_17)).bind fun t198 => (if t198 = true then (spec_l8Edge.l0 kj17 l0 a2 y194 (wrap64 (x9_2 + 1)) ((rd_T49 l0 a1).f0) ((rd_T49 l0 a1).f1) ((rd_T49 l0 a1).f2) ((rd_T49 l0 a1).f3)) else (some y194))) else (spec_l8Edge.l0 kj17 l0 a2 y194 (wrap64 (x9_2 + 1)) ((rd_T49 l0 a1).f0) ((rd_T49 l0 a1).f1) ((rd_T49 l0 a1).f2) ((rd_T49 l0 a1).f3)))) else (none)) = some r := H
    have A24 := Aside0.mk A240
    clear A240
    by_cases c25 : x8_2.length + t191.length < 17592186044416
    rotate_left
    ·rw [if_neg c25] at H
     exact absurd H dq26
    rw [if_pos c25] at H
    have LMc25 := Aside0.mk c25
    clear c25
    obtain ⟨y194, hy194⟩ : ∃ y_ : List Int, y_ = (x8_2 ++ t191) := ⟨_, rfl⟩
    replace H : (if ((rd_T49 l0 a1).f0) = 2 then ((spec_l8Null.f kj17 l0 (rd ((rd_T49 l0 a1).f2) x10_17)).bind fun t198 => (if t198 = true then (spec_l8Edge.l0 kj17 l0 a2 y194 (wrap64 (x9_2 + 1)) ((rd_T49 l0 a1).f0) ((rd_T49 l0 a1).f1) ((rd_T49 l0 a1).f2) ((rd_T49 l0 a1).f3)) else (some y194))) else (spec_l8Edge.l0 kj17 l0 a2 y194 (wrap64 (x9_2 + 1)) ((rd_T49 l0 a1).f0) ((rd_T49 l0 a1).f1) ((rd_T49 l0 a1).f2) ((rd_T49 l0 a1).f3))) = some r := by first | (rw [hy194]; with_reducible exact H) | (have H2_ := (Option.bind_some _ _).symm.trans H; rw [hy194]; with_reducible exact H2_) | (have H2_ := (Option.bind_some _ _).symm.trans H; with_reducible exact H2_) | with_reducible exact H | (rw [hy194]; exact H) | exact H
    have Ny194 := Aside0.mk hy194
    clear hy194
    by_cases c26 : ((rd_T49 l0 a1).f0) = 2
    rotate_left
    ·rw [if_neg c26] at H
     have c26b0 := beq_eq_false_iff_ne.mpr c26
     have c26b1 := bne_iff_ne.mpr c26
     have H' := Aside0.mk H
     clear H
     obtain ⟨⟨hcz41_0, hcz41_1, hcz41_2, hcz41_3⟩, hfz41_0, hfz41_1, hfz41_2, hfz41_3⟩ := blkC4 BK183.out
     have p190 : 0 ≤ (x10_17 : Int) := of_decide_eq_true dq24
     have q190 : x10_17 < (((rd_T49 l0 a1).f2).length : Int) := of_decide_eq_true dq24
     obtain ⟨ad190, e190, hx190_0⟩ := Kd.at_int HR182_2.out x10_17 p190 q190
     cases e190
     replace hx190_0 := (HB.out.cell (World.block_lt_of_cell? w _ hx190_0)).trans hx190_0
     replace p190 := eq_true p190
     replace q190 := eq_true q190
     go_wp2_with (first | ((with_reducible refine gate_callee (f := 35) rfl ?_); refine goesL_ (some 50) rfl rfl Try.func35 dq23 rfl #[.slice (some ad182) l0.length c0, .int .i64 (rd ((rd_T49 l0 a1).f2) x10_17), .bool a2] rfl dq22 ?_; (with_reducible refine (ih kj17 dq73 _ _ l0 (rd ((rd_T49 l0 a1).f2) x10_17) a2 t191 _ ?side1 ?side2 A24.out).mono ?_); (case side1 => exact dq4); (case side2 => exact HC0.out); rintro e w42 ⟨v192, rfl, ho0, hb⟩; refine ⟨_, rfl, ?_⟩; have n0_ := Aside0.mk (Kd.R_elder' dq70 (Kd.R_base ho0) hb); have n1_ := Aside0.mk (Kd.R_lower (Kd.R_new' ho0 (Kd.R_lt dq70)) (below_size dq67)); have n2_ := Aside0.mk (blk_below (g := gb183) (o := .cells #[.int .i64 ((rd_T49 l0 a1).f0), .string ((rd_T49 l0 a1).f1), .slice (some ad190) ((rd_T49 l0 a1).f2).length c182_2, .int .i64 ((rd_T49 l0 a1).f3)] 49 (0, 0)) dq69 hb); have n3_ := Aside0.mk (below_step dq67 hb); clear HO_8; clear BK183; clear HB; have HO_8 := n0_; have HO193 := n1_; have BK183 := n2_; have HB := n3_; clear n0_ n1_ n2_ n3_; (try clear hb); (try clear hb2); (try clear hk); (try clear hi); (try clear ho0); obtain ⟨Ao44, co44, eo44⟩ := Kd.R_slice HO193.out; subst eo44) | ((with_reducible refine gate_builtin (b := .append) (xs := #[.tmp 42, .tmp 50]) rfl ?_); at_builtin; refine Kd.R_append_rows (Kd.int .i64) (w0 := w) w.heap.size rfl (.tmp 42) (.tmp 50) 24 2 (.int .i64 0) 8 rfl Try.underlying24 info2 rfl dq28 dq27 u8 x8_2 t191 _ _ _ (fun k_ => some k_ ≠ (.slice Ao44 t191.length co44 : Value).ownBlock) (fun _ => False) rfl rfl ?aO ?aR (fun _ _ h => h) (fun _ h => h.elim) ?aF ?aB ?aS ?aL ?_; (case aR => repeat (first | exact (Kd.R_reads' HO193.out).2.2 | (with_reducible refine Kd.C_alloc ?_ _) | (with_reducible refine Kd.C_drewN ?_ _) | (with_reducible refine Kd.C_drew ?_))); (case aB => exact dq67); (case aF => exact (fun k_ hk => Kd.fresh' (Kd.R_lt dq71) k_ hk)); (case aO => exact dq72); (case aS => exact (below_size dq67)); (case aL => have := LMc25.out; omega); intro v195 w43 ho hb hg hat; rw [← Ny194.out] at ho; have n0_ := Aside0.mk (blk_grown (g := gb183) (o := .cells #[.int .i64 ((rd_T49 l0 a1).f0), .string ((rd_T49 l0 a1).f1), .slice (some ad190) ((rd_T49 l0 a1).f2).length c182_2, .int .i64 ((rd_T49 l0 a1).f3)] 49 (0, 0)) dq69 hg (Kd.R_ne HO_8.out BK183.out dq28)); have n1_ := Aside0.mk (Kd.R_after (ok := (fun _ => True)) dq71 hg hat); have n2_ := Aside0.mk (hb); have n3_ := Aside0.mk (ho); clear BK183; clear HO193; clear HB; clear HO_8; have BK183 := n0_; have HO193 := n1_; have HB := n2_; have HO196 := n3_; clear n0_ n1_ n2_ n3_; clear ho hb hg hat; obtain ⟨⟨hcz45_0, hcz45_1, hcz45_2, hcz45_3⟩, hfz45_0, hfz45_1, hfz45_2, hfz45_3⟩ := blkC4 BK183.out))
     go_roundg kj17
     case measure => have := HJ5.out; have := HK2.out; have := HJ17.out; omega
     case rel => exact ⟨(y194), (wrap64 (x9_2 + 1)), dq17, H', ⟨dq73⟩, ⟨dq74⟩, ⟨dq69⟩, ⟨dq67⟩⟩
    rw [if_pos c26] at H
    have c26b0 := beq_iff_eq.mpr c26
    have c26b1 := bne_eq_false_iff_eq.mpr c26
    clear c26
    replace H := Option.bind_eq_some_iff.mp H
    obtain ⟨t198, A270, H⟩ := H
    replace H : (if t198 = true then (spec_l8Edge.l0 kj17 l0 a2 y194 (wrap64 (x9_2 + 1)) ((rd_T49 l0 a1).f0) ((rd_T49 l0 a1).f1) ((rd_T49 l0 a1).f2) ((rd_T49 l0 a1).f3)) else (some y194)) = some r := H
    have A27 := Aside0.mk A270
    clear A270
    by_cases c28 : t198 = true
    rotate_left
    ·replace c28 := Bool.eq_false_iff.mpr c28
     subst c28
     have H1 : (some y194) = some r := by rw [if_neg (show ¬ (false = true) by decide)] at H; exact H
     clear H
     have H := H1
     clear H1
     obtain rfl := Option.some.inj H
     obtain ⟨⟨hcz35_0, hcz35_1, hcz35_2, hcz35_3⟩, hfz35_0, hfz35_1, hfz35_2, hfz35_3⟩ := blkC4 BK183.out
     have p190 : 0 ≤ (x10_17 : Int) := of_decide_eq_true dq24
     have q190 : x10_17 < (((rd_T49 l0 a1).f2).length : Int) := of_decide_eq_true dq24
     obtain ⟨ad190, e190, hx190_0⟩ := Kd.at_int HR182_2.out x10_17 p190 q190
     cases e190
     replace hx190_0 := (HB.out.cell (World.block_lt_of_cell? w _ hx190_0)).trans hx190_0
     replace p190 := eq_true p190
     replace q190 := eq_true q190
     go_wp2_with (first | ((with_reducible refine gate_callee (f := 35) rfl ?_); refine goesL_ (some 50) rfl rfl Try.func35 dq23 rfl #[.slice (some ad182) l0.length c0, .int .i64 (rd ((rd_T49 l0 a1).f2) x10_17), .bool a2] rfl dq22 ?_; (with_reducible refine (ih kj17 dq73 _ _ l0 (rd ((rd_T49 l0 a1).f2) x10_17) a2 t191 _ ?side1 ?side2 A24.out).mono ?_); (case side1 => exact dq4); (case side2 => exact HC0.out); rintro e w36 ⟨v192, rfl, ho0, hb⟩; refine ⟨_, rfl, ?_⟩; have n0_ := Aside0.mk (Kd.R_elder' dq70 (Kd.R_base ho0) hb); have n1_ := Aside0.mk (Kd.R_lower (Kd.R_new' ho0 (Kd.R_lt dq70)) (below_size dq67)); have n2_ := Aside0.mk (blk_below (g := gb183) (o := .cells #[.int .i64 ((rd_T49 l0 a1).f0), .string ((rd_T49 l0 a1).f1), .slice (some ad190) ((rd_T49 l0 a1).f2).length c182_2, .int .i64 ((rd_T49 l0 a1).f3)] 49 (0, 0)) dq69 hb); have n3_ := Aside0.mk (below_step dq67 hb); clear HO_8; clear BK183; clear HB; have HO_8 := n0_; have HO193 := n1_; have BK183 := n2_; have HB := n3_; clear n0_ n1_ n2_ n3_; (try clear hb); (try clear hb2); (try clear hk); (try clear hi); (try clear ho0); obtain ⟨Ao38, co38, eo38⟩ := Kd.R_slice HO193.out; subst eo38) | ((with_reducible refine gate_builtin (b := .append) (xs := #[.tmp 42, .tmp 50]) rfl ?_); at_builtin; refine Kd.R_append_rows (Kd.int .i64) (w0 := w) w.heap.size rfl (.tmp 42) (.tmp 50) 24 2 (.int .i64 0) 8 rfl Try.underlying24 info2 rfl dq28 dq27 u8 x8_2 t191 _ _ _ (fun k_ => some k_ ≠ (.slice Ao38 t191.length co38 : Value).ownBlock) (fun _ => False) rfl rfl ?aO ?aR (fun _ _ h => h) (fun _ h => h.elim) ?aF ?aB ?aS ?aL ?_; (case aR => repeat (first | exact (Kd.R_reads' HO193.out).2.2 | (with_reducible refine Kd.C_alloc ?_ _) | (with_reducible refine Kd.C_drewN ?_ _) | (with_reducible refine Kd.C_drew ?_))); (case aB => exact dq67); (case aF => exact (fun k_ hk => Kd.fresh' (Kd.R_lt dq71) k_ hk)); (case aO => exact dq72); (case aS => exact (below_size dq67)); (case aL => have := LMc25.out; omega); intro v195 w37 ho hb hg hat; rw [← Ny194.out] at ho; have n0_ := Aside0.mk (blk_grown (g := gb183) (o := .cells #[.int .i64 ((rd_T49 l0 a1).f0), .string ((rd_T49 l0 a1).f1), .slice (some ad190) ((rd_T49 l0 a1).f2).length c182_2, .int .i64 ((rd_T49 l0 a1).f3)] 49 (0, 0)) dq69 hg (Kd.R_ne HO_8.out BK183.out dq28)); have n1_ := Aside0.mk (Kd.R_after (ok := (fun _ => True)) dq71 hg hat); have n2_ := Aside0.mk (hb); have n3_ := Aside0.mk (ho); clear BK183; clear HO193; clear HB; clear HO_8; have BK183 := n0_; have HO193 := n1_; have HB := n2_; have HO196 := n3_; clear n0_ n1_ n2_ n3_; clear ho hb hg hat; obtain ⟨⟨hcz39_0, hcz39_1, hcz39_2, hcz39_3⟩, hfz39_0, hfz39_1, hfz39_2, hfz39_3⟩ := blkC4 BK183.out; have p197 : 0 ≤ (x10_17 : Int) := of_decide_eq_true dq24; have q197 : x10_17 < (((rd_T49 l0 a1).f2).length : Int) := of_decide_eq_true dq24; obtain ⟨ad197, e197, hx197_0⟩ := Kd.at_int HR182_2.out x10_17 p197 q197; obtain rfl : ad190 = ad197 := (by injection e197); replace hx197_0 := (HB.out.cell (World.block_lt_of_cell? w _ hx197_0)).trans hx197_0; replace p197 := eq_true p197; replace q197 := eq_true q197) | (go_at_call 62; (with_reducible refine (spec_l8Null.calls kj17 _ _ l0 (rd ((rd_T49 l0 a1).f2) x10_17) false _ ?side1 ?side2 A27.out).mono ?_); (case side1 => exact dq4); (case side2 => exact HC0.out); rintro e w40 ⟨rfl, hb⟩; have n0_ := Aside0.mk (Kd.R_below dq71 hb); have n1_ := Aside0.mk (Kd.R_below (by (with_reducible repeat (first | apply Kd.R_alloc | apply Kd.R_drewN | apply Kd.R_drew)); exact HO196.out) hb); have n2_ := Aside0.mk (blk_below (g := gb183) (o := .cells #[.int .i64 ((rd_T49 l0 a1).f0), .string ((rd_T49 l0 a1).f1), .slice (some ad190) ((rd_T49 l0 a1).f2).length c182_2, .int .i64 ((rd_T49 l0 a1).f3)] 49 (0, 0)) dq69 hb); have n3_ := Aside0.mk (below_step dq67 hb); clear HO193; clear HO196; clear BK183; clear HB; have HO193 := n0_; have HO196 := n1_; have BK183 := n2_; have HB := n3_; clear n0_ n1_ n2_ n3_; (try clear hb); (try clear hb2); (try clear hk); (try clear hi)))
     go_ret
     exact ⟨_, dq21, dq74, dq67⟩
    subst c28
    have H1 : (spec_l8Edge.l0 kj17 l0 a2 y194 (wrap64 (x9_2 + 1)) ((rd_T49 l0 a1).f0) ((rd_T49 l0 a1).f1) ((rd_T49 l0 a1).f2) ((rd_T49 l0 a1).f3)) = some r := by rw [if_pos rfl] at H; exact H
    clear H
    have H := H1
    clear H1
    have H' := Aside0.mk H
    clear H
    obtain ⟨⟨hcz29_0, hcz29_1, hcz29_2, hcz29_3⟩, hfz29_0, hfz29_1, hfz29_2, hfz29_3⟩ := blkC4 BK183.out
    have p190 : 0 ≤ (x10_17 : Int) := of_decide_eq_true dq24
    have q190 : x10_17 < (((rd_T49 l0 a1).f2).length : Int) := of_decide_eq_true dq24
    obtain ⟨ad190, e190, hx190_0⟩ := Kd.at_int HR182_2.out x10_17 p190 q190
    cases e190
    replace hx190_0 := (HB.out.cell (World.block_lt_of_cell? w _ hx190_0)).trans hx190_0
    replace p190 := eq_true p190
    replace q190 := eq_true q190
    go_wp2_with (first | ((with_reducible refine gate_callee (f := 35) rfl ?_); refine goesL_ (some 50) rfl rfl Try.func35 dq23 rfl #[.slice (some ad182) l0.length c0, .int .i64 (rd ((rd_T49 l0 a1).f2) x10_17), .bool a2] rfl dq22 ?_; (with_reducible refine (ih kj17 dq73 _ _ l0 (rd ((rd_T49 l0 a1).f2) x10_17) a2 t191 _ ?side1 ?side2 A24.out).mono ?_); (case side1 => exact dq4); (case side2 => exact HC0.out); rintro e w30 ⟨v192, rfl, ho0, hb⟩; refine ⟨_, rfl, ?_⟩; have n0_ := Aside0.mk (Kd.R_elder' dq70 (Kd.R_base ho0) hb); have n1_ := Aside0.mk (Kd.R_lower (Kd.R_new' ho0 (Kd.R_lt dq70)) (below_size dq67)); have n2_ := Aside0.mk (blk_below (g := gb183) (o := .cells #[.int .i64 ((rd_T49 l0 a1).f0), .string ((rd_T49 l0 a1).f1), .slice (some ad190) ((rd_T49 l0 a1).f2).length c182_2, .int .i64 ((rd_T49 l0 a1).f3)] 49 (0, 0)) dq69 hb); have n3_ := Aside0.mk (below_step dq67 hb); clear HO_8; clear BK183; clear HB; have HO_8 := n0_; have HO193 := n1_; have BK183 := n2_; have HB := n3_; clear n0_ n1_ n2_ n3_; (try clear hb); (try clear hb2); (try clear hk); (try clear hi); (try clear ho0); obtain ⟨Ao32, co32, eo32⟩ := Kd.R_slice HO193.out; subst eo32) | ((with_reducible refine gate_builtin (b := .append) (xs := #[.tmp 42, .tmp 50]) rfl ?_); at_builtin; refine Kd.R_append_rows (Kd.int .i64) (w0 := w) w.heap.size rfl (.tmp 42) (.tmp 50) 24 2 (.int .i64 0) 8 rfl Try.underlying24 info2 rfl dq28 dq27 u8 x8_2 t191 _ _ _ (fun k_ => some k_ ≠ (.slice Ao32 t191.length co32 : Value).ownBlock) (fun _ => False) rfl rfl ?aO ?aR (fun _ _ h => h) (fun _ h => h.elim) ?aF ?aB ?aS ?aL ?_; (case aR => repeat (first | exact (Kd.R_reads' HO193.out).2.2 | (with_reducible refine Kd.C_alloc ?_ _) | (with_reducible refine Kd.C_drewN ?_ _) | (with_reducible refine Kd.C_drew ?_))); (case aB => exact dq67); (case aF => exact (fun k_ hk => Kd.fresh' (Kd.R_lt dq71) k_ hk)); (case aO => exact dq72); (case aS => exact (below_size dq67)); (case aL => have := LMc25.out; omega); intro v195 w31 ho hb hg hat; rw [← Ny194.out] at ho; have n0_ := Aside0.mk (blk_grown (g := gb183) (o := .cells #[.int .i64 ((rd_T49 l0 a1).f0), .string ((rd_T49 l0 a1).f1), .slice (some ad190) ((rd_T49 l0 a1).f2).length c182_2, .int .i64 ((rd_T49 l0 a1).f3)] 49 (0, 0)) dq69 hg (Kd.R_ne HO_8.out BK183.out dq28)); have n1_ := Aside0.mk (Kd.R_after (ok := (fun _ => True)) dq71 hg hat); have n2_ := Aside0.mk (hb); have n3_ := Aside0.mk (ho); clear BK183; clear HO193; clear HB; clear HO_8; have BK183 := n0_; have HO193 := n1_; have HB := n2_; have HO196 := n3_; clear n0_ n1_ n2_ n3_; clear ho hb hg hat; obtain ⟨⟨hcz33_0, hcz33_1, hcz33_2, hcz33_3⟩, hfz33_0, hfz33_1, hfz33_2, hfz33_3⟩ := blkC4 BK183.out; have p197 : 0 ≤ (x10_17 : Int) := of_decide_eq_true dq24; have q197 : x10_17 < (((rd_T49 l0 a1).f2).length : Int) := of_decide_eq_true dq24; obtain ⟨ad197, e197, hx197_0⟩ := Kd.at_int HR182_2.out x10_17 p197 q197; obtain rfl : ad190 = ad197 := (by injection e197); replace hx197_0 := (HB.out.cell (World.block_lt_of_cell? w _ hx197_0)).trans hx197_0; replace p197 := eq_true p197; replace q197 := eq_true q197) | (go_at_call 62; (with_reducible refine (spec_l8Null.calls kj17 _ _ l0 (rd ((rd_T49 l0 a1).f2) x10_17) true _ ?side1 ?side2 A27.out).mono ?_); (case side1 => exact dq4); (case side2 => exact HC0.out); rintro e w34 ⟨rfl, hb⟩; have n0_ := Aside0.mk (Kd.R_below dq71 hb); have n1_ := Aside0.mk (Kd.R_below (by (with_reducible repeat (first | apply Kd.R_alloc | apply Kd.R_drewN | apply Kd.R_drew)); exact HO196.out) hb); have n2_ := Aside0.mk (blk_below (g := gb183) (o := .cells #[.int .i64 ((rd_T49 l0 a1).f0), .string ((rd_T49 l0 a1).f1), .slice (some ad190) ((rd_T49 l0 a1).f2).length c182_2, .int .i64 ((rd_T49 l0 a1).f3)] 49 (0, 0)) dq69 hb); have n3_ := Aside0.mk (below_step dq67 hb); clear HO193; clear HO196; clear BK183; clear HB; have HO193 := n0_; have HO196 := n1_; have BK183 := n2_; have HB := n3_; clear n0_ n1_ n2_ n3_; (try clear hb); (try clear hb2); (try clear hk); (try clear hi)))
    go_roundg kj17
    case measure => have := HJ5.out; have := HK2.out; have := HJ17.out; omega
    case rel => exact ⟨(y194), (wrap64 (x9_2 + 1)), dq17, H', ⟨dq73⟩, ⟨dq74⟩, ⟨dq69⟩, ⟨dq67⟩⟩

/-! ### spec_LastOf: function 18 -/
def spec_LastOf.f (k : Nat) (l0 : List (S49)) : Option (List Int) := (spec_ParticleOk.f k l0).bind fun t302 => (if t302 = true then ((spec_l8Edge.f k l0 (wrap64 ((l0.length : Int) - 1)) true).bind fun t303 => ((spec_l8Sorted.f k t303).bind fun t306 => (some t306))) else (some (([] : List Int))))
set_option maxHeartbeats 8000000 in
set_option maxRecDepth 100000 in
theorem spec_LastOf.calls (k : Nat) (A0 : Option Addr) (c0 : Nat) (l0 : List (S49)) (r : List Int) (w : World) (hr0 : Kd.C k49 w A0 l0.length l0) (hc0 : l0.length ≤ c0) (h : spec_LastOf.f k l0 = some r) :
  Calls Try.prog 18 #[.slice A0 l0.length c0] w fun e w' => ∃ v0_ : Value, e = .returned (v0_) ∧ Kd.R (Kd.int .i64) 2 w' w.heap.size (fun _ => True) v0_ r ∧ Below w.heap.size w w' := by
 have HR0 := Aside0.mk hr0
 have HC0 := Aside0.mk hc0
 clear hr0 hc0
 have HB := Aside0.mk (Below.refl w.heap.size w)
 have H : ((spec_ParticleOk.f k l0).bind fun t302 => (if t302 = true then ((spec_l8Edge.f k l0 (wrap64 ((l0.length : Int) - 1)) true).bind fun t303 => ((spec_l8Sorted.f k t303).bind fun t306 => (some t306))) else (some (([] : List Int))))) = some r := h
 clear h
 replace H := Option.bind_eq_some_iff.mp H
 obtain ⟨t302, A20, H⟩ := H
 replace H : (if t302 = true then ((spec_l8Edge.f k l0 (wrap64 ((l0.length : Int) - 1)) true).bind fun t303 => ((spec_l8Sorted.f k t303).bind fun t306 => (some t306))) else (some (([] : List Int)))) = some r := H
 have A2 := Aside0.mk A20
 clear A20
 by_cases c3 : t302 = true
 rotate_left
 ·replace c3 := Bool.eq_false_iff.mpr c3
  subst c3
  have H1 : (some (([] : List Int))) = some r := by rw [if_neg (show ¬ (false = true) by decide)] at H; exact H
  clear H
  have H := H1
  clear H1
  obtain ⟨y309, hy309⟩ : ∃ y_ : List Int, y_ = (([] : List Int)) := ⟨_, rfl⟩
  replace H : (some y309) = some r := by first | (rw [hy309]; with_reducible exact H) | (have H2_ := (Option.bind_some _ _).symm.trans H; rw [hy309]; with_reducible exact H2_) | (have H2_ := (Option.bind_some _ _).symm.trans H; with_reducible exact H2_) | with_reducible exact H | (rw [hy309]; exact H) | exact H
  have Ny309 := Aside0.mk hy309
  clear hy309
  obtain rfl := Option.some.inj H
  go_enter Try.func18, Try.ntmps18
  go_wp2_with (first | ((with_reducible refine gate_callee (f := 33) rfl ?_); refine goesL_ (some 4) rfl rfl Try.func33 dq23 rfl #[.slice A0 l0.length c0] rfl dq22 ?_; (with_reducible refine (spec_ParticleOk.calls k _ _ l0 false _ ?side1 ?side2 A2.out).mono ?_); (case side1 => exact dq3); (case side2 => exact HC0.out); rintro e w10 ⟨rfl, hb⟩; refine ⟨_, rfl, ?_⟩; have n0_ := Aside0.mk (below_step dq19 hb); clear HB; have HB := n0_; clear n0_; (try clear hb); (try clear hb2); (try clear hk); (try clear hi)) | ((with_reducible refine gate_dst (N := 6) rfl ?_); refine Kd.R_lit (Kd.int .i64) _ 2 ?hg (N := 6) ?hd (xs := ([] : List Int)) (inner := []) (ok := fun _ => True) (okp := fun _ => True) ?hr ?hp (fun _ hk => hk) trivial (Below.refl _ _) (Nat.le_refl _) dq26 ?_; (case hd => rfl); (case hg => rfl); (case hr => exact dq0); (case hp => exact (Reps.none _ _)); intro v310 w11 ho12 hb hg_ hnew_; clear hg_ hnew_; (first | rw [← Ny309.out] at ho12 | (simp only [Int.reduceToNat] at ho12; rw [← Ny309.out] at ho12)); have n0_ := Aside0.mk (Kd.R_lower ho12 (below_size dq19)); have n1_ := Aside0.mk (below_step dq19 hb); clear HB; have HO311 := n0_; have HB := n1_; clear n0_ n1_; clear hb ho12))
  go_ret
  exact ⟨_, dq21, by (with_reducible repeat (first | apply Kd.R_alloc | apply Kd.R_drewN | apply Kd.R_drew)); exact HO311.out, dq19⟩
 subst c3
 have H1 : ((spec_l8Edge.f k l0 (wrap64 ((l0.length : Int) - 1)) true).bind fun t303 => ((spec_l8Sorted.f k t303).bind fun t306 => (some t306))) = some r := by rw [if_pos rfl] at H; exact H
 clear H
 have H := H1
 clear H1
 replace H := Option.bind_eq_some_iff.mp H
 obtain ⟨t303, A40, H⟩ := H
 replace H : ((spec_l8Sorted.f k t303).bind fun t306 => (some t306)) = some r := H
 have A4 := Aside0.mk A40
 clear A40
 replace H := Option.bind_eq_some_iff.mp H
 obtain ⟨t306, A50, H⟩ := H
 replace H : (some t306) = some r := H
 have A5 := Aside0.mk A50
 clear A50
 obtain rfl := Option.some.inj H
 go_enter Try.func18, Try.ntmps18
 go_wp2_with (first | ((with_reducible refine gate_callee (f := 33) rfl ?_); refine goesL_ (some 4) rfl rfl Try.func33 dq23 rfl #[.slice A0 l0.length c0] rfl dq22 ?_; (with_reducible refine (spec_ParticleOk.calls k _ _ l0 true _ ?side1 ?side2 A2.out).mono ?_); (case side1 => exact dq3); (case side2 => exact HC0.out); rintro e w6 ⟨rfl, hb⟩; refine ⟨_, rfl, ?_⟩; have n0_ := Aside0.mk (below_step dq19 hb); clear HB; have HB := n0_; clear n0_; (try clear hb); (try clear hb2); (try clear hk); (try clear hi)) | ((with_reducible refine gate_callee (f := 35) rfl ?_); refine goesL_ (some 11) rfl rfl Try.func35 dq23 rfl #[.slice A0 l0.length c0, .int .i64 (wrap64 ((l0.length : Int) - 1)), .bool true] rfl dq22 ?_; (with_reducible refine (spec_l8Edge.calls k _ _ l0 (wrap64 ((l0.length : Int) - 1)) true t303 _ ?side1 ?side2 A4.out).mono ?_); (case side1 => exact dq4); (case side2 => exact HC0.out); rintro e w7 ⟨v304, rfl, ho0, hb⟩; refine ⟨_, rfl, ?_⟩; have n0_ := Aside0.mk (Kd.R_lower ho0 (below_size dq19)); have n1_ := Aside0.mk (below_step dq19 hb); clear HB; have HO305 := n0_; have HB := n1_; clear n0_ n1_; (try clear hb); (try clear hb2); (try clear hk); (try clear hi); (try clear ho0); obtain ⟨Ao8, co8, eo8⟩ := Kd.R_slice HO305.out; subst eo8) | ((with_reducible refine gate_callee (f := 34) rfl ?_); refine goesL_ (some 12) rfl rfl Try.func34 dq23 rfl #[.slice Ao8 t303.length co8] rfl dq22 ?_; (with_reducible refine (spec_l8Sorted.calls k _ _ t303 t306 _ ?side1 ?side2 A5.out).mono ?_); (case side1 => repeat (first | exact (Kd.R_reads' HO305.out).2.2 | (with_reducible refine Kd.C_alloc ?_ _) | (with_reducible refine Kd.C_drewN ?_ _) | (with_reducible refine Kd.C_drew ?_))); (case side2 => exact (Kd.R_reads' HO305.out).2.1); rintro e w9 ⟨v307, rfl, ho0, hb⟩; refine ⟨_, rfl, ?_⟩; have n0_ := Aside0.mk (Kd.R_elder' (by (with_reducible repeat (first | apply Kd.R_alloc | apply Kd.R_drewN | apply Kd.R_drew)); exact HO305.out) (Kd.R_base ho0) hb); have n1_ := Aside0.mk (Kd.R_lower (Kd.R_new' ho0 (Kd.R_lt (by (with_reducible repeat (first | apply Kd.R_alloc | apply Kd.R_drewN | apply Kd.R_drew)); exact HO305.out))) (below_size dq19)); have n2_ := Aside0.mk (below_step dq19 hb); clear HO305; clear HB; have HO305 := n0_; have HO308 := n1_; have HB := n2_; clear n0_ n1_ n2_; (try clear hb); (try clear hb2); (try clear hk); (try clear hi); (try clear ho0)))
 go_ret
 exact ⟨_, dq21, by (with_reducible repeat (first | apply Kd.R_alloc | apply Kd.R_drewN | apply Kd.R_drew)); exact Kd.R_mono HO308.out (fun _ hk => trivial), dq19⟩

/-! ### impl_in: function 47 -/
def impl_in.f (a0 : Int) (a1 : Int) (a2 : Int) : Option (Bool) := if a1 ≤ a0 then (some (decide (a0 ≤ a2))) else (some false)
set_option maxHeartbeats 8000000 in
set_option maxRecDepth 100000 in
theorem impl_in.calls (a0 : Int) (a1 : Int) (a2 : Int) (r : Bool) (w : World) (h : impl_in.f a0 a1 a2 = some r) :
  Calls Try.prog 47 #[.int .i64 a0, .int .i64 a1, .int .i64 a2] w fun e w' => e = .returned (.bool r) ∧ Drawn0 w w' := by
 have H : (if a1 ≤ a0 then (some (decide (a0 ≤ a2))) else (some false)) = some r := h
 clear h
 by_cases c4 : a1 ≤ a0
 ·rw [if_pos c4] at H
  have c4b0 := decide_eq_true c4
  clear c4
  obtain rfl := Option.some.inj H
  go_enter Try.func47, Try.ntmps47
  go_wp2
  go_ret
  exact ⟨dq17, dq16⟩
 rw [if_neg c4] at H
 have c4b0 := decide_eq_false c4
 clear c4
 obtain rfl := Option.some.inj H
 go_enter Try.func47, Try.ntmps47
 go_wp2
 go_ret
 exact ⟨dq17, dq16⟩

/-! ### impl_PNode_isPosition: function 48 -/
def impl_PNode_isPosition.f (a0_0 : Int) (a0_1 : ByteArray) (l0_2 : List Int) (a0_3 : Int) : Option (Bool) := if a0_0 = 1 then (some true) else (some (a0_0 == 4))
set_option maxHeartbeats 8000000 in
set_option maxRecDepth 100000 in
theorem impl_PNode_isPosition.calls (a0_0 : Int) (a0_1 : ByteArray) (A0_2 : Option Addr) (c0_2 : Nat) (l0_2 : List Int) (a0_3 : Int) (r : Bool) (w : World) (hr0_2 : Kd.C (Kd.int .i64) w A0_2 l0_2.length l0_2) (hc0_2 : l0_2.length ≤ c0_2) (h : impl_PNode_isPosition.f a0_0 a0_1 l0_2 a0_3 = some r) :
  Calls Try.prog 48 #[.agg #[.int .i64 a0_0, .string a0_1, .slice A0_2 l0_2.length c0_2, .int .i64 a0_3]] w fun e w' => e = .returned (.bool r) ∧ Below w.heap.size w w' := by
 have hu49 := Try.underlying49
 have HR0_2 := Aside0.mk hr0_2
 have HC0_2 := Aside0.mk hc0_2
 clear hr0_2 hc0_2
 have HB := Aside0.mk (Below.refl w.heap.size w)
 have H : (if a0_0 = 1 then (some true) else (some (a0_0 == 4))) = some r := h
 clear h
 by_cases c2 : a0_0 = 1
 rotate_left
 ·rw [if_neg c2] at H
  have c2b0 := beq_eq_false_iff_ne.mpr c2
  have c2b1 := bne_iff_ne.mpr c2
  obtain rfl := Option.some.inj H
  go_enter Try.func48, Try.ntmps48
  go_wp2_with (first | ((with_reducible refine gate_dst (N := 1) rfl ?_); refine box_event ?hg (N := 1) ?hd (cs := #[.int .i64 a0_0, .string a0_1, .slice A0_2 l0_2.length c0_2, .int .i64 a0_3]) (t := 49) ?hr ?_; (case hd => rfl); (case hg => rfl); (case hr => exact dq0); intro gb231 hg w5 hbox hb; have n0_ := Aside0.mk (below_step dq19 hb); have n1_ := Aside0.mk (hbox); have n2_ := Aside0.mk ((dq18 : w.heap.size ≤ gb231)); have n3_ := Aside0.mk ((dq18 : w.heap.size ≤ gb231)); clear HB; have HB := n0_; have BK231 := n1_; have GW231 := n2_; have GE231 := n3_; clear n0_ n1_ n2_ n3_; clear hb hbox hg; obtain ⟨⟨hcz6_0, hcz6_1, hcz6_2, hcz6_3⟩, hfz6_0, hfz6_1, hfz6_2, hfz6_3⟩ := blkC4 BK231.out))
  go_ret
  exact ⟨dq21, dq75⟩
 rw [if_pos c2] at H
 have c2b0 := beq_iff_eq.mpr c2
 have c2b1 := bne_eq_false_iff_eq.mpr c2
 clear c2
 obtain rfl := Option.some.inj H
 go_enter Try.func48, Try.ntmps48
 go_wp2_with (first | ((with_reducible refine gate_dst (N := 1) rfl ?_); refine box_event ?hg (N := 1) ?hd (cs := #[.int .i64 a0_0, .string a0_1, .slice A0_2 l0_2.length c0_2, .int .i64 a0_3]) (t := 49) ?hr ?_; (case hd => rfl); (case hg => rfl); (case hr => exact dq0); intro gb231 hg w3 hbox hb; have n0_ := Aside0.mk (below_step dq19 hb); have n1_ := Aside0.mk (hbox); have n2_ := Aside0.mk ((dq18 : w.heap.size ≤ gb231)); have n3_ := Aside0.mk ((dq18 : w.heap.size ≤ gb231)); clear HB; have HB := n0_; have BK231 := n1_; have GW231 := n2_; have GE231 := n3_; clear n0_ n1_ n2_ n3_; clear hb hbox hg; obtain ⟨⟨hcz4_0, hcz4_1, hcz4_2, hcz4_3⟩, hfz4_0, hfz4_1, hfz4_2, hfz4_3⟩ := blkC4 BK231.out))
 go_ret
 exact ⟨dq21, dq75⟩

/-! ### impl_NameOk: function 75 -/
def impl_NameOk.l0 : Nat → ByteArray → Int → Int → Option (Bool)
 | 0, _, _, _ => none
 | k + 1, x0, x7, x8 => if x8 < x7 then (if 0 ≤ x8 then (if x8 < (x0.size : Int) then (if (bt x0 x8) ≥ 97 then (if (bt x0 x8) ≤ 122 then (impl_NameOk.l0 k x0 x7 (wrap64 (x8 + 1))) else (if (bt x0 x8) ≥ 65 then (if (bt x0 x8) ≤ 90 then (impl_NameOk.l0 k x0 x7 (wrap64 (x8 + 1))) else (if ((bt x0 x8) = 95) then (impl_NameOk.l0 k x0 x7 (wrap64 (x8 + 1))) else (if x8 = 0 then (some false) else (if (bt x0 x8) ≥ 48 then (if ((bt x0 x8) ≤ 57) then (impl_NameOk.l0 k x0 x7 (wrap64 (x8 + 1))) else (if (bt x0 x8) = 46 then (impl_NameOk.l0 k x0 x7 (wrap64 (x8 + 1))) else (if (bt x0 x8) = 45 then (impl_NameOk.l0 k x0 x7 (wrap64 (x8 + 1))) else (some false)))) else (if (bt x0 x8) = 46 then (impl_NameOk.l0 k x0 x7 (wrap64 (x8 + 1))) else (if (bt x0 x8) = 45 then (impl_NameOk.l0 k x0 x7 (wrap64 (x8 + 1))) else (some false))))))) else (if ((bt x0 x8) = 95) then (impl_NameOk.l0 k x0 x7 (wrap64 (x8 + 1))) else (if x8 = 0 then (some false) else (if (bt x0 x8) ≥ 48 then (if ((bt x0 x8) ≤ 57) then (impl_NameOk.l0 k x0 x7 (wrap64 (x8 + 1))) else (if (bt x0 x8) = 46 then (impl_NameOk.l0 k x0 x7 (wrap64 (x8 + 1))) else (if (bt x0 x8) = 45 then (impl_NameOk.l0 k x0 x7 (wrap64 (x8 + 1))) else (some false)))) else (if (bt x0 x8) = 46 then (impl_NameOk.l0 k x0 x7 (wrap64 (x8 + 1))) else (if (bt x0 x8) = 45 then (impl_NameOk.l0 k x0 x7 (wrap64 (x8 + 1))) else (some false)))))))) else (if (bt x0 x8) ≥ 65 then (if (bt x0 x8) ≤ 90 then (impl_NameOk.l0 k x0 x7 (wrap64 (x8 + 1))) else (if ((bt x0 x8) = 95) then (impl_NameOk.l0 k x0 x7 (wrap64 (x8 + 1))) else (if x8 = 0 then (some false) else (if (bt x0 x8) ≥ 48 then (if ((bt x0 x8) ≤ 57) then (impl_NameOk.l0 k x0 x7 (wrap64 (x8 + 1))) else (if (bt x0 x8) = 46 then (impl_NameOk.l0 k x0 x7 (wrap64 (x8 + 1))) else (if (bt x0 x8) = 45 then (impl_NameOk.l0 k x0 x7 (wrap64 (x8 + 1))) else (some false)))) else (if (bt x0 x8) = 46 then (impl_NameOk.l0 k x0 x7 (wrap64 (x8 + 1))) else (if (bt x0 x8) = 45 then (impl_NameOk.l0 k x0 x7 (wrap64 (x8 + 1))) else (some false))))))) else (if ((bt x0 x8) = 95) then (impl_NameOk.l0 k x0 x7 (wrap64 (x8 + 1))) else (if x8 = 0 then (some false) else (if (bt x0 x8) ≥ 48 then (if ((bt x0 x8) ≤ 57) then (impl_NameOk.l0 k x0 x7 (wrap64 (x8 + 1))) else (if (bt x0 x8) = 46 then (impl_NameOk.l0 k x0 x7 (wrap64 (x8 + 1))) else (if (bt x0 x8) = 45 then (impl_NameOk.l0 k x0 x7 (wrap64 (x8 + 1))) else (some false)))) else (if (bt x0 x8) = 46 then (impl_NameOk.l0 k x0 x7 (wrap64 (x8 + 1))) else (if (bt x0 x8) = 45 then (impl_NameOk.l0 k x0 x7 (wrap64 (x8 + 1))) else (some false)))))))) else (none)) else (none)) else ((impl_in.f (x0.size : Int) 1 40).bind fun t232 => (some t232))
def impl_NameOk.f (k : Nat) (a0 : ByteArray) : Option (Bool) := impl_NameOk.l0 k a0 (a0.size : Int) 0
set_option maxHeartbeats 8000000 in
set_option maxRecDepth 100000 in
theorem impl_NameOk.calls (k : Nat) (a0 : ByteArray) (r : Bool) (w : World) (h : impl_NameOk.f k a0 = some r) :
  Calls Try.prog 75 #[.string a0] w fun e w' => e = .returned (.bool r) ∧ Drawn0 w w' := by
 have H : (impl_NameOk.l0 k a0 (a0.size : Int) 0) = some r := h
 clear h
 have H' := Aside0.mk H
 clear H
 go_enter Try.func75, Try.ntmps75
 go_wp2
 go_loopg [8] k (fun kq v8 w' => ∃ (x8_1 : Int), v8 = .int .i64 x8_1 ∧ Aside0 (impl_NameOk.l0 kq a0 (a0.size : Int) x8_1 = some r) ∧ Aside0 (kq ≤ k) ∧ Drawn0 w w')
 case atStart => exact ⟨(0), dq17, H', ⟨Nat.le_refl _⟩, dq16⟩
 clear H'
 obtain ⟨x8_1, rfl, HA, HK1, ⟨m1, rfl⟩⟩ := hrel
 cases gk with
 | zero => exact absurd HA.out (by simp [impl_NameOk.l0])
 | succ k1 =>
  have H := HA.out
  clear HA
  simp only [impl_NameOk.l0] at H
  by_cases c2 : x8_1 < (a0.size : Int)
  rotate_left
  ·rw [if_neg c2] at H
   have c2b0 := decide_eq_false c2
   clear c2
   replace H := Option.bind_eq_some_iff.mp H
   obtain ⟨t232, A440, H⟩ := H
   replace H : (some t232) = some r := H
   have A44 := Aside0.mk A440
   clear A440
   obtain rfl := Option.some.inj H
   go_wp2_with (first | ((with_reducible refine gate_callee (f := 47) rfl ?_); refine goesL_ (some 58) rfl rfl Try.func47 dq23 rfl #[.int .i64 (a0.size : Int), .int .i64 1, .int .i64 40] rfl dq22 ?_; (with_reducible refine (impl_in.calls (a0.size : Int) 1 40 t232 _ A44.out).mono ?_); rintro e w' ⟨rfl, ⟨nd, rfl⟩⟩; refine ⟨_, rfl, ?_⟩))
   go_ret
   exact ⟨dq17, dq16⟩
  rw [if_pos c2] at H
  have c2b0 := decide_eq_true c2
  clear c2
  by_cases c3 : 0 ≤ x8_1
  rotate_left
  ·rw [if_neg c3] at H
   exact absurd H dq26
  rw [if_pos c3] at H
  have c3b0 := decide_eq_true c3
  clear c3
  by_cases c4 : x8_1 < (a0.size : Int)
  rotate_left
  ·rw [if_neg c4] at H
   exact absurd H dq26
  rw [if_pos c4] at H
  have c4b0 := decide_eq_true c4
  clear c4
  by_cases c6 : (bt a0 x8_1) ≥ 97
  rotate_left
  ·rw [if_neg c6] at H
   have c6b0 : decide (97 ≤ (bt a0 x8_1)) = false := decide_eq_false c6
   clear c6
   by_cases c26 : (bt a0 x8_1) ≥ 65
   rotate_left
   ·rw [if_neg c26] at H
    have c26b0 : decide (65 ≤ (bt a0 x8_1)) = false := decide_eq_false c26
    clear c26
    by_cases c36 : ((bt a0 x8_1) = 95)
    ·rw [if_pos c36] at H
     have c36b0 : ((bt a0 x8_1) == 95) = true := beq_iff_eq.mpr c36
     have c36b1 : ((bt a0 x8_1) != 95) = false := bne_eq_false_iff_eq.mpr c36
     clear c36
     have H' := Aside0.mk H
     clear H
     have p5 : 0 ≤ (x8_1 : Int) := of_decide_eq_true dq24
     have q5 : x8_1 < (a0.size : Int) := of_decide_eq_true dq24
     have hx5 := bt_at a0 x8_1
     replace p5 := eq_true p5
     replace q5 := eq_true q5
     go_wp2
     go_roundg k1
     case measure => have := HK1.out; omega
     case rel => exact ⟨(wrap64 (x8_1 + 1)), dq17, H', ⟨dq25⟩, dq16⟩
    rw [if_neg c36] at H
    have c36b0 : ((bt a0 x8_1) == 95) = false := beq_eq_false_iff_ne.mpr c36
    have c36b1 : ((bt a0 x8_1) != 95) = true := bne_iff_ne.mpr c36
    by_cases c37 : x8_1 = 0
    ·rw [if_pos c37] at H
     have c37b0 := beq_iff_eq.mpr c37
     have c37b1 := bne_eq_false_iff_eq.mpr c37
     clear c37
     obtain rfl := Option.some.inj H
     have p5 : 0 ≤ (x8_1 : Int) := of_decide_eq_true dq24
     have q5 : x8_1 < (a0.size : Int) := of_decide_eq_true dq24
     have hx5 := bt_at a0 x8_1
     replace p5 := eq_true p5
     replace q5 := eq_true q5
     go_wp2
     go_ret
     exact ⟨dq17, dq16⟩
    rw [if_neg c37] at H
    have c37b0 := beq_eq_false_iff_ne.mpr c37
    have c37b1 := bne_iff_ne.mpr c37
    by_cases c38 : (bt a0 x8_1) ≥ 48
    rotate_left
    ·rw [if_neg c38] at H
     have c38b0 : decide (48 ≤ (bt a0 x8_1)) = false := decide_eq_false c38
     clear c38
     by_cases c42 : (bt a0 x8_1) = 46
     ·rw [if_pos c42] at H
      have c42b0 := beq_iff_eq.mpr c42
      have c42b1 := bne_eq_false_iff_eq.mpr c42
      clear c42
      have H' := Aside0.mk H
      clear H
      have p5 : 0 ≤ (x8_1 : Int) := of_decide_eq_true dq24
      have q5 : x8_1 < (a0.size : Int) := of_decide_eq_true dq24
      have hx5 := bt_at a0 x8_1
      replace p5 := eq_true p5
      replace q5 := eq_true q5
      go_wp2
      go_roundg k1
      case measure => have := HK1.out; omega
      case rel => exact ⟨(wrap64 (x8_1 + 1)), dq17, H', ⟨dq25⟩, dq16⟩
     rw [if_neg c42] at H
     have c42b0 := beq_eq_false_iff_ne.mpr c42
     have c42b1 := bne_iff_ne.mpr c42
     by_cases c43 : (bt a0 x8_1) = 45
     rotate_left
     ·rw [if_neg c43] at H
      have c43b0 := beq_eq_false_iff_ne.mpr c43
      have c43b1 := bne_iff_ne.mpr c43
      obtain rfl := Option.some.inj H
      have p5 : 0 ≤ (x8_1 : Int) := of_decide_eq_true dq24
      have q5 : x8_1 < (a0.size : Int) := of_decide_eq_true dq24
      have hx5 := bt_at a0 x8_1
      replace p5 := eq_true p5
      replace q5 := eq_true q5
      go_wp2
      go_ret
      exact ⟨dq17, dq16⟩
     rw [if_pos c43] at H
     have c43b0 := beq_iff_eq.mpr c43
     have c43b1 := bne_eq_false_iff_eq.mpr c43
     clear c43
     have H' := Aside0.mk H
     clear H
     have p5 : 0 ≤ (x8_1 : Int) := of_decide_eq_true dq24
     have q5 : x8_1 < (a0.size : Int) := of_decide_eq_true dq24
     have hx5 := bt_at a0 x8_1
     replace p5 := eq_true p5
     replace q5 := eq_true q5
     go_wp2
     go_roundg k1
     case measure => have := HK1.out; omega
     case rel => exact ⟨(wrap64 (x8_1 + 1)), dq17, H', ⟨dq25⟩, dq16⟩
    rw [if_pos c38] at H
    have c38b0 : decide (48 ≤ (bt a0 x8_1)) = true := decide_eq_true c38
    clear c38
    by_cases c39 : ((bt a0 x8_1) ≤ 57)
    ·rw [if_pos c39] at H
     have c39b0 : decide ((bt a0 x8_1) ≤ 57) = true := decide_eq_true c39
     clear c39
     have H' := Aside0.mk H
     clear H
     have p5 : 0 ≤ (x8_1 : Int) := of_decide_eq_true dq24
     have q5 : x8_1 < (a0.size : Int) := of_decide_eq_true dq24
     have hx5 := bt_at a0 x8_1
     replace p5 := eq_true p5
     replace q5 := eq_true q5
     go_wp2
     go_roundg k1
     case measure => have := HK1.out; omega
     case rel => exact ⟨(wrap64 (x8_1 + 1)), dq17, H', ⟨dq25⟩, dq16⟩
    rw [if_neg c39] at H
    have c39b0 : decide ((bt a0 x8_1) ≤ 57) = false := decide_eq_false c39
    clear c39
    by_cases c40 : (bt a0 x8_1) = 46
    ·rw [if_pos c40] at H
     have c40b0 := beq_iff_eq.mpr c40
     have c40b1 := bne_eq_false_iff_eq.mpr c40
     clear c40
     have H' := Aside0.mk H
     clear H
     have p5 : 0 ≤ (x8_1 : Int) := of_decide_eq_true dq24
     have q5 : x8_1 < (a0.size : Int) := of_decide_eq_true dq24
     have hx5 := bt_at a0 x8_1
     replace p5 := eq_true p5
     replace q5 := eq_true q5
     go_wp2
     go_roundg k1
     case measure => have := HK1.out; omega
     case rel => exact ⟨(wrap64 (x8_1 + 1)), dq17, H', ⟨dq25⟩, dq16⟩
    rw [if_neg c40] at H
    have c40b0 := beq_eq_false_iff_ne.mpr c40
    have c40b1 := bne_iff_ne.mpr c40
    by_cases c41 : (bt a0 x8_1) = 45
    rotate_left
    ·rw [if_neg c41] at H
     have c41b0 := beq_eq_false_iff_ne.mpr c41
     have c41b1 := bne_iff_ne.mpr c41
     obtain rfl := Option.some.inj H
     have p5 : 0 ≤ (x8_1 : Int) := of_decide_eq_true dq24
     have q5 : x8_1 < (a0.size : Int) := of_decide_eq_true dq24
     have hx5 := bt_at a0 x8_1
     replace p5 := eq_true p5
     replace q5 := eq_true q5
     go_wp2
     go_ret
     exact ⟨dq17, dq16⟩
    rw [if_pos c41] at H
    have c41b0 := beq_iff_eq.mpr c41
    have c41b1 := bne_eq_false_iff_eq.mpr c41
    clear c41
    have H' := Aside0.mk H
    clear H
    have p5 : 0 ≤ (x8_1 : Int) := of_decide_eq_true dq24
    have q5 : x8_1 < (a0.size : Int) := of_decide_eq_true dq24
    have hx5 := bt_at a0 x8_1
    replace p5 := eq_true p5
    replace q5 := eq_true q5
    go_wp2
    go_roundg k1
    case measure => have := HK1.out; omega
    case rel => exact ⟨(wrap64 (x8_1 + 1)), dq17, H', ⟨dq25⟩, dq16⟩
   rw [if_pos c26] at H
   have c26b0 : decide (65 ≤ (bt a0 x8_1)) = true := decide_eq_true c26
   clear c26
   by_cases c27 : (bt a0 x8_1) ≤ 90
   ·rw [if_pos c27] at H
    have c27b0 := decide_eq_true c27
    clear c27
    have H' := Aside0.mk H
    clear H
    have p5 : 0 ≤ (x8_1 : Int) := of_decide_eq_true dq24
    have q5 : x8_1 < (a0.size : Int) := of_decide_eq_true dq24
    have hx5 := bt_at a0 x8_1
    replace p5 := eq_true p5
    replace q5 := eq_true q5
    go_wp2
    go_roundg k1
    case measure => have := HK1.out; omega
    case rel => exact ⟨(wrap64 (x8_1 + 1)), dq17, H', ⟨dq25⟩, dq16⟩
   rw [if_neg c27] at H
   have c27b0 := decide_eq_false c27
   clear c27
   by_cases c28 : ((bt a0 x8_1) = 95)
   ·rw [if_pos c28] at H
    have c28b0 : ((bt a0 x8_1) == 95) = true := beq_iff_eq.mpr c28
    have c28b1 : ((bt a0 x8_1) != 95) = false := bne_eq_false_iff_eq.mpr c28
    clear c28
    have H' := Aside0.mk H
    clear H
    have p5 : 0 ≤ (x8_1 : Int) := of_decide_eq_true dq24
    have q5 : x8_1 < (a0.size : Int) := of_decide_eq_true dq24
    have hx5 := bt_at a0 x8_1
    replace p5 := eq_true p5
    replace q5 := eq_true q5
    go_wp2
    go_roundg k1
    case measure => have := HK1.out; omega
    case rel => exact ⟨(wrap64 (x8_1 + 1)), dq17, H', ⟨dq25⟩, dq16⟩
   rw [if_neg c28] at H
   have c28b0 : ((bt a0 x8_1) == 95) = false := beq_eq_false_iff_ne.mpr c28
   have c28b1 : ((bt a0 x8_1) != 95) = true := bne_iff_ne.mpr c28
   by_cases c29 : x8_1 = 0
   ·rw [if_pos c29] at H
    have c29b0 := beq_iff_eq.mpr c29
    have c29b1 := bne_eq_false_iff_eq.mpr c29
    clear c29
    obtain rfl := Option.some.inj H
    have p5 : 0 ≤ (x8_1 : Int) := of_decide_eq_true dq24
    have q5 : x8_1 < (a0.size : Int) := of_decide_eq_true dq24
    have hx5 := bt_at a0 x8_1
    replace p5 := eq_true p5
    replace q5 := eq_true q5
    go_wp2
    go_ret
    exact ⟨dq17, dq16⟩
   rw [if_neg c29] at H
   have c29b0 := beq_eq_false_iff_ne.mpr c29
   have c29b1 := bne_iff_ne.mpr c29
   by_cases c30 : (bt a0 x8_1) ≥ 48
   rotate_left
   ·rw [if_neg c30] at H
    have c30b0 : decide (48 ≤ (bt a0 x8_1)) = false := decide_eq_false c30
    clear c30
    by_cases c34 : (bt a0 x8_1) = 46
    ·rw [if_pos c34] at H
     have c34b0 := beq_iff_eq.mpr c34
     have c34b1 := bne_eq_false_iff_eq.mpr c34
     clear c34
     have H' := Aside0.mk H
     clear H
     have p5 : 0 ≤ (x8_1 : Int) := of_decide_eq_true dq24
     have q5 : x8_1 < (a0.size : Int) := of_decide_eq_true dq24
     have hx5 := bt_at a0 x8_1
     replace p5 := eq_true p5
     replace q5 := eq_true q5
     go_wp2
     go_roundg k1
     case measure => have := HK1.out; omega
     case rel => exact ⟨(wrap64 (x8_1 + 1)), dq17, H', ⟨dq25⟩, dq16⟩
    rw [if_neg c34] at H
    have c34b0 := beq_eq_false_iff_ne.mpr c34
    have c34b1 := bne_iff_ne.mpr c34
    by_cases c35 : (bt a0 x8_1) = 45
    rotate_left
    ·rw [if_neg c35] at H
     have c35b0 := beq_eq_false_iff_ne.mpr c35
     have c35b1 := bne_iff_ne.mpr c35
     obtain rfl := Option.some.inj H
     have p5 : 0 ≤ (x8_1 : Int) := of_decide_eq_true dq24
     have q5 : x8_1 < (a0.size : Int) := of_decide_eq_true dq24
     have hx5 := bt_at a0 x8_1
     replace p5 := eq_true p5
     replace q5 := eq_true q5
     go_wp2
     go_ret
     exact ⟨dq17, dq16⟩
    rw [if_pos c35] at H
    have c35b0 := beq_iff_eq.mpr c35
    have c35b1 := bne_eq_false_iff_eq.mpr c35
    clear c35
    have H' := Aside0.mk H
    clear H
    have p5 : 0 ≤ (x8_1 : Int) := of_decide_eq_true dq24
    have q5 : x8_1 < (a0.size : Int) := of_decide_eq_true dq24
    have hx5 := bt_at a0 x8_1
    replace p5 := eq_true p5
    replace q5 := eq_true q5
    go_wp2
    go_roundg k1
    case measure => have := HK1.out; omega
    case rel => exact ⟨(wrap64 (x8_1 + 1)), dq17, H', ⟨dq25⟩, dq16⟩
   rw [if_pos c30] at H
   have c30b0 : decide (48 ≤ (bt a0 x8_1)) = true := decide_eq_true c30
   clear c30
   by_cases c31 : ((bt a0 x8_1) ≤ 57)
   ·rw [if_pos c31] at H
    have c31b0 : decide ((bt a0 x8_1) ≤ 57) = true := decide_eq_true c31
    clear c31
    have H' := Aside0.mk H
    clear H
    have p5 : 0 ≤ (x8_1 : Int) := of_decide_eq_true dq24
    have q5 : x8_1 < (a0.size : Int) := of_decide_eq_true dq24
    have hx5 := bt_at a0 x8_1
    replace p5 := eq_true p5
    replace q5 := eq_true q5
    go_wp2
    go_roundg k1
    case measure => have := HK1.out; omega
    case rel => exact ⟨(wrap64 (x8_1 + 1)), dq17, H', ⟨dq25⟩, dq16⟩
   rw [if_neg c31] at H
   have c31b0 : decide ((bt a0 x8_1) ≤ 57) = false := decide_eq_false c31
   clear c31
   by_cases c32 : (bt a0 x8_1) = 46
   ·rw [if_pos c32] at H
    have c32b0 := beq_iff_eq.mpr c32
    have c32b1 := bne_eq_false_iff_eq.mpr c32
    clear c32
    have H' := Aside0.mk H
    clear H
    have p5 : 0 ≤ (x8_1 : Int) := of_decide_eq_true dq24
    have q5 : x8_1 < (a0.size : Int) := of_decide_eq_true dq24
    have hx5 := bt_at a0 x8_1
    replace p5 := eq_true p5
    replace q5 := eq_true q5
    go_wp2
    go_roundg k1
    case measure => have := HK1.out; omega
    case rel => exact ⟨(wrap64 (x8_1 + 1)), dq17, H', ⟨dq25⟩, dq16⟩
   rw [if_neg c32] at H
   have c32b0 := beq_eq_false_iff_ne.mpr c32
   have c32b1 := bne_iff_ne.mpr c32
   by_cases c33 : (bt a0 x8_1) = 45
   rotate_left
   ·rw [if_neg c33] at H
    have c33b0 := beq_eq_false_iff_ne.mpr c33
    have c33b1 := bne_iff_ne.mpr c33
    obtain rfl := Option.some.inj H
    have p5 : 0 ≤ (x8_1 : Int) := of_decide_eq_true dq24
    have q5 : x8_1 < (a0.size : Int) := of_decide_eq_true dq24
    have hx5 := bt_at a0 x8_1
    replace p5 := eq_true p5
    replace q5 := eq_true q5
    go_wp2
    go_ret
    exact ⟨dq17, dq16⟩
   rw [if_pos c33] at H
   have c33b0 := beq_iff_eq.mpr c33
   have c33b1 := bne_eq_false_iff_eq.mpr c33
   clear c33
   have H' := Aside0.mk H
   clear H
   have p5 : 0 ≤ (x8_1 : Int) := of_decide_eq_true dq24
   have q5 : x8_1 < (a0.size : Int) := of_decide_eq_true dq24
   have hx5 := bt_at a0 x8_1
   replace p5 := eq_true p5
   replace q5 := eq_true q5
   go_wp2
   go_roundg k1
   case measure => have := HK1.out; omega
   case rel => exact ⟨(wrap64 (x8_1 + 1)), dq17, H', ⟨dq25⟩, dq16⟩
  rw [if_pos c6] at H
  have c6b0 : decide (97 ≤ (bt a0 x8_1)) = true := decide_eq_true c6
  clear c6
  by_cases c7 : (bt a0 x8_1) ≤ 122
  ·rw [if_pos c7] at H
   have c7b0 := decide_eq_true c7
   clear c7
   have H' := Aside0.mk H
   clear H
   have p5 : 0 ≤ (x8_1 : Int) := of_decide_eq_true dq24
   have q5 : x8_1 < (a0.size : Int) := of_decide_eq_true dq24
   have hx5 := bt_at a0 x8_1
   replace p5 := eq_true p5
   replace q5 := eq_true q5
   go_wp2
   go_roundg k1
   case measure => have := HK1.out; omega
   case rel => exact ⟨(wrap64 (x8_1 + 1)), dq17, H', ⟨dq25⟩, dq16⟩
  rw [if_neg c7] at H
  have c7b0 := decide_eq_false c7
  clear c7
  by_cases c8 : (bt a0 x8_1) ≥ 65
  rotate_left
  ·rw [if_neg c8] at H
   have c8b0 : decide (65 ≤ (bt a0 x8_1)) = false := decide_eq_false c8
   clear c8
   by_cases c18 : ((bt a0 x8_1) = 95)
   ·rw [if_pos c18] at H
    have c18b0 : ((bt a0 x8_1) == 95) = true := beq_iff_eq.mpr c18
    have c18b1 : ((bt a0 x8_1) != 95) = false := bne_eq_false_iff_eq.mpr c18
    clear c18
    have H' := Aside0.mk H
    clear H
    have p5 : 0 ≤ (x8_1 : Int) := of_decide_eq_true dq24
    have q5 : x8_1 < (a0.size : Int) := of_decide_eq_true dq24
    have hx5 := bt_at a0 x8_1
    replace p5 := eq_true p5
    replace q5 := eq_true q5
    go_wp2
    go_roundg k1
    case measure => have := HK1.out; omega
    case rel => exact ⟨(wrap64 (x8_1 + 1)), dq17, H', ⟨dq25⟩, dq16⟩
   rw [if_neg c18] at H
   have c18b0 : ((bt a0 x8_1) == 95) = false := beq_eq_false_iff_ne.mpr c18
   have c18b1 : ((bt a0 x8_1) != 95) = true := bne_iff_ne.mpr c18
   by_cases c19 : x8_1 = 0
   ·rw [if_pos c19] at H
    have c19b0 := beq_iff_eq.mpr c19
    have c19b1 := bne_eq_false_iff_eq.mpr c19
    clear c19
    obtain rfl := Option.some.inj H
    have p5 : 0 ≤ (x8_1 : Int) := of_decide_eq_true dq24
    have q5 : x8_1 < (a0.size : Int) := of_decide_eq_true dq24
    have hx5 := bt_at a0 x8_1
    replace p5 := eq_true p5
    replace q5 := eq_true q5
    go_wp2
    go_ret
    exact ⟨dq17, dq16⟩
   rw [if_neg c19] at H
   have c19b0 := beq_eq_false_iff_ne.mpr c19
   have c19b1 := bne_iff_ne.mpr c19
   by_cases c20 : (bt a0 x8_1) ≥ 48
   rotate_left
   ·rw [if_neg c20] at H
    have c20b0 : decide (48 ≤ (bt a0 x8_1)) = false := decide_eq_false c20
    clear c20
    by_cases c24 : (bt a0 x8_1) = 46
    ·rw [if_pos c24] at H
     have c24b0 := beq_iff_eq.mpr c24
     have c24b1 := bne_eq_false_iff_eq.mpr c24
     clear c24
     have H' := Aside0.mk H
     clear H
     have p5 : 0 ≤ (x8_1 : Int) := of_decide_eq_true dq24
     have q5 : x8_1 < (a0.size : Int) := of_decide_eq_true dq24
     have hx5 := bt_at a0 x8_1
     replace p5 := eq_true p5
     replace q5 := eq_true q5
     go_wp2
     go_roundg k1
     case measure => have := HK1.out; omega
     case rel => exact ⟨(wrap64 (x8_1 + 1)), dq17, H', ⟨dq25⟩, dq16⟩
    rw [if_neg c24] at H
    have c24b0 := beq_eq_false_iff_ne.mpr c24
    have c24b1 := bne_iff_ne.mpr c24
    by_cases c25 : (bt a0 x8_1) = 45
    rotate_left
    ·rw [if_neg c25] at H
     have c25b0 := beq_eq_false_iff_ne.mpr c25
     have c25b1 := bne_iff_ne.mpr c25
     obtain rfl := Option.some.inj H
     have p5 : 0 ≤ (x8_1 : Int) := of_decide_eq_true dq24
     have q5 : x8_1 < (a0.size : Int) := of_decide_eq_true dq24
     have hx5 := bt_at a0 x8_1
     replace p5 := eq_true p5
     replace q5 := eq_true q5
     go_wp2
     go_ret
     exact ⟨dq17, dq16⟩
    rw [if_pos c25] at H
    have c25b0 := beq_iff_eq.mpr c25
    have c25b1 := bne_eq_false_iff_eq.mpr c25
    clear c25
    have H' := Aside0.mk H
    clear H
    have p5 : 0 ≤ (x8_1 : Int) := of_decide_eq_true dq24
    have q5 : x8_1 < (a0.size : Int) := of_decide_eq_true dq24
    have hx5 := bt_at a0 x8_1
    replace p5 := eq_true p5
    replace q5 := eq_true q5
    go_wp2
    go_roundg k1
    case measure => have := HK1.out; omega
    case rel => exact ⟨(wrap64 (x8_1 + 1)), dq17, H', ⟨dq25⟩, dq16⟩
   rw [if_pos c20] at H
   have c20b0 : decide (48 ≤ (bt a0 x8_1)) = true := decide_eq_true c20
   clear c20
   by_cases c21 : ((bt a0 x8_1) ≤ 57)
   ·rw [if_pos c21] at H
    have c21b0 : decide ((bt a0 x8_1) ≤ 57) = true := decide_eq_true c21
    clear c21
    have H' := Aside0.mk H
    clear H
    have p5 : 0 ≤ (x8_1 : Int) := of_decide_eq_true dq24
    have q5 : x8_1 < (a0.size : Int) := of_decide_eq_true dq24
    have hx5 := bt_at a0 x8_1
    replace p5 := eq_true p5
    replace q5 := eq_true q5
    go_wp2
    go_roundg k1
    case measure => have := HK1.out; omega
    case rel => exact ⟨(wrap64 (x8_1 + 1)), dq17, H', ⟨dq25⟩, dq16⟩
   rw [if_neg c21] at H
   have c21b0 : decide ((bt a0 x8_1) ≤ 57) = false := decide_eq_false c21
   clear c21
   by_cases c22 : (bt a0 x8_1) = 46
   ·rw [if_pos c22] at H
    have c22b0 := beq_iff_eq.mpr c22
    have c22b1 := bne_eq_false_iff_eq.mpr c22
    clear c22
    have H' := Aside0.mk H
    clear H
    have p5 : 0 ≤ (x8_1 : Int) := of_decide_eq_true dq24
    have q5 : x8_1 < (a0.size : Int) := of_decide_eq_true dq24
    have hx5 := bt_at a0 x8_1
    replace p5 := eq_true p5
    replace q5 := eq_true q5
    go_wp2
    go_roundg k1
    case measure => have := HK1.out; omega
    case rel => exact ⟨(wrap64 (x8_1 + 1)), dq17, H', ⟨dq25⟩, dq16⟩
   rw [if_neg c22] at H
   have c22b0 := beq_eq_false_iff_ne.mpr c22
   have c22b1 := bne_iff_ne.mpr c22
   by_cases c23 : (bt a0 x8_1) = 45
   rotate_left
   ·rw [if_neg c23] at H
    have c23b0 := beq_eq_false_iff_ne.mpr c23
    have c23b1 := bne_iff_ne.mpr c23
    obtain rfl := Option.some.inj H
    have p5 : 0 ≤ (x8_1 : Int) := of_decide_eq_true dq24
    have q5 : x8_1 < (a0.size : Int) := of_decide_eq_true dq24
    have hx5 := bt_at a0 x8_1
    replace p5 := eq_true p5
    replace q5 := eq_true q5
    go_wp2
    go_ret
    exact ⟨dq17, dq16⟩
   rw [if_pos c23] at H
   have c23b0 := beq_iff_eq.mpr c23
   have c23b1 := bne_eq_false_iff_eq.mpr c23
   clear c23
   have H' := Aside0.mk H
   clear H
   have p5 : 0 ≤ (x8_1 : Int) := of_decide_eq_true dq24
   have q5 : x8_1 < (a0.size : Int) := of_decide_eq_true dq24
   have hx5 := bt_at a0 x8_1
   replace p5 := eq_true p5
   replace q5 := eq_true q5
   go_wp2
   go_roundg k1
   case measure => have := HK1.out; omega
   case rel => exact ⟨(wrap64 (x8_1 + 1)), dq17, H', ⟨dq25⟩, dq16⟩
  rw [if_pos c8] at H
  have c8b0 : decide (65 ≤ (bt a0 x8_1)) = true := decide_eq_true c8
  clear c8
  by_cases c9 : (bt a0 x8_1) ≤ 90
  ·rw [if_pos c9] at H
   have c9b0 := decide_eq_true c9
   clear c9
   have H' := Aside0.mk H
   clear H
   have p5 : 0 ≤ (x8_1 : Int) := of_decide_eq_true dq24
   have q5 : x8_1 < (a0.size : Int) := of_decide_eq_true dq24
   have hx5 := bt_at a0 x8_1
   replace p5 := eq_true p5
   replace q5 := eq_true q5
   go_wp2
   go_roundg k1
   case measure => have := HK1.out; omega
   case rel => exact ⟨(wrap64 (x8_1 + 1)), dq17, H', ⟨dq25⟩, dq16⟩
  rw [if_neg c9] at H
  have c9b0 := decide_eq_false c9
  clear c9
  by_cases c10 : ((bt a0 x8_1) = 95)
  ·rw [if_pos c10] at H
   have c10b0 : ((bt a0 x8_1) == 95) = true := beq_iff_eq.mpr c10
   have c10b1 : ((bt a0 x8_1) != 95) = false := bne_eq_false_iff_eq.mpr c10
   clear c10
   have H' := Aside0.mk H
   clear H
   have p5 : 0 ≤ (x8_1 : Int) := of_decide_eq_true dq24
   have q5 : x8_1 < (a0.size : Int) := of_decide_eq_true dq24
   have hx5 := bt_at a0 x8_1
   replace p5 := eq_true p5
   replace q5 := eq_true q5
   go_wp2
   go_roundg k1
   case measure => have := HK1.out; omega
   case rel => exact ⟨(wrap64 (x8_1 + 1)), dq17, H', ⟨dq25⟩, dq16⟩
  rw [if_neg c10] at H
  have c10b0 : ((bt a0 x8_1) == 95) = false := beq_eq_false_iff_ne.mpr c10
  have c10b1 : ((bt a0 x8_1) != 95) = true := bne_iff_ne.mpr c10
  by_cases c11 : x8_1 = 0
  ·rw [if_pos c11] at H
   have c11b0 := beq_iff_eq.mpr c11
   have c11b1 := bne_eq_false_iff_eq.mpr c11
   clear c11
   obtain rfl := Option.some.inj H
   have p5 : 0 ≤ (x8_1 : Int) := of_decide_eq_true dq24
   have q5 : x8_1 < (a0.size : Int) := of_decide_eq_true dq24
   have hx5 := bt_at a0 x8_1
   replace p5 := eq_true p5
   replace q5 := eq_true q5
   go_wp2
   go_ret
   exact ⟨dq17, dq16⟩
  rw [if_neg c11] at H
  have c11b0 := beq_eq_false_iff_ne.mpr c11
  have c11b1 := bne_iff_ne.mpr c11
  by_cases c12 : (bt a0 x8_1) ≥ 48
  rotate_left
  ·rw [if_neg c12] at H
   have c12b0 : decide (48 ≤ (bt a0 x8_1)) = false := decide_eq_false c12
   clear c12
   by_cases c16 : (bt a0 x8_1) = 46
   ·rw [if_pos c16] at H
    have c16b0 := beq_iff_eq.mpr c16
    have c16b1 := bne_eq_false_iff_eq.mpr c16
    clear c16
    have H' := Aside0.mk H
    clear H
    have p5 : 0 ≤ (x8_1 : Int) := of_decide_eq_true dq24
    have q5 : x8_1 < (a0.size : Int) := of_decide_eq_true dq24
    have hx5 := bt_at a0 x8_1
    replace p5 := eq_true p5
    replace q5 := eq_true q5
    go_wp2
    go_roundg k1
    case measure => have := HK1.out; omega
    case rel => exact ⟨(wrap64 (x8_1 + 1)), dq17, H', ⟨dq25⟩, dq16⟩
   rw [if_neg c16] at H
   have c16b0 := beq_eq_false_iff_ne.mpr c16
   have c16b1 := bne_iff_ne.mpr c16
   by_cases c17 : (bt a0 x8_1) = 45
   rotate_left
   ·rw [if_neg c17] at H
    have c17b0 := beq_eq_false_iff_ne.mpr c17
    have c17b1 := bne_iff_ne.mpr c17
    obtain rfl := Option.some.inj H
    have p5 : 0 ≤ (x8_1 : Int) := of_decide_eq_true dq24
    have q5 : x8_1 < (a0.size : Int) := of_decide_eq_true dq24
    have hx5 := bt_at a0 x8_1
    replace p5 := eq_true p5
    replace q5 := eq_true q5
    go_wp2
    go_ret
    exact ⟨dq17, dq16⟩
   rw [if_pos c17] at H
   have c17b0 := beq_iff_eq.mpr c17
   have c17b1 := bne_eq_false_iff_eq.mpr c17
   clear c17
   have H' := Aside0.mk H
   clear H
   have p5 : 0 ≤ (x8_1 : Int) := of_decide_eq_true dq24
   have q5 : x8_1 < (a0.size : Int) := of_decide_eq_true dq24
   have hx5 := bt_at a0 x8_1
   replace p5 := eq_true p5
   replace q5 := eq_true q5
   go_wp2
   go_roundg k1
   case measure => have := HK1.out; omega
   case rel => exact ⟨(wrap64 (x8_1 + 1)), dq17, H', ⟨dq25⟩, dq16⟩
  rw [if_pos c12] at H
  have c12b0 : decide (48 ≤ (bt a0 x8_1)) = true := decide_eq_true c12
  clear c12
  by_cases c13 : ((bt a0 x8_1) ≤ 57)
  ·rw [if_pos c13] at H
   have c13b0 : decide ((bt a0 x8_1) ≤ 57) = true := decide_eq_true c13
   clear c13
   have H' := Aside0.mk H
   clear H
   have p5 : 0 ≤ (x8_1 : Int) := of_decide_eq_true dq24
   have q5 : x8_1 < (a0.size : Int) := of_decide_eq_true dq24
   have hx5 := bt_at a0 x8_1
   replace p5 := eq_true p5
   replace q5 := eq_true q5
   go_wp2
   go_roundg k1
   case measure => have := HK1.out; omega
   case rel => exact ⟨(wrap64 (x8_1 + 1)), dq17, H', ⟨dq25⟩, dq16⟩
  rw [if_neg c13] at H
  have c13b0 : decide ((bt a0 x8_1) ≤ 57) = false := decide_eq_false c13
  clear c13
  by_cases c14 : (bt a0 x8_1) = 46
  ·rw [if_pos c14] at H
   have c14b0 := beq_iff_eq.mpr c14
   have c14b1 := bne_eq_false_iff_eq.mpr c14
   clear c14
   have H' := Aside0.mk H
   clear H
   have p5 : 0 ≤ (x8_1 : Int) := of_decide_eq_true dq24
   have q5 : x8_1 < (a0.size : Int) := of_decide_eq_true dq24
   have hx5 := bt_at a0 x8_1
   replace p5 := eq_true p5
   replace q5 := eq_true q5
   go_wp2
   go_roundg k1
   case measure => have := HK1.out; omega
   case rel => exact ⟨(wrap64 (x8_1 + 1)), dq17, H', ⟨dq25⟩, dq16⟩
  rw [if_neg c14] at H
  have c14b0 := beq_eq_false_iff_ne.mpr c14
  have c14b1 := bne_iff_ne.mpr c14
  by_cases c15 : (bt a0 x8_1) = 45
  rotate_left
  ·rw [if_neg c15] at H
   have c15b0 := beq_eq_false_iff_ne.mpr c15
   have c15b1 := bne_iff_ne.mpr c15
   obtain rfl := Option.some.inj H
   have p5 : 0 ≤ (x8_1 : Int) := of_decide_eq_true dq24
   have q5 : x8_1 < (a0.size : Int) := of_decide_eq_true dq24
   have hx5 := bt_at a0 x8_1
   replace p5 := eq_true p5
   replace q5 := eq_true q5
   go_wp2
   go_ret
   exact ⟨dq17, dq16⟩
  rw [if_pos c15] at H
  have c15b0 := beq_iff_eq.mpr c15
  have c15b1 := bne_eq_false_iff_eq.mpr c15
  clear c15
  have H' := Aside0.mk H
  clear H
  have p5 : 0 ≤ (x8_1 : Int) := of_decide_eq_true dq24
  have q5 : x8_1 < (a0.size : Int) := of_decide_eq_true dq24
  have hx5 := bt_at a0 x8_1
  replace p5 := eq_true p5
  replace q5 := eq_true q5
  go_wp2
  go_roundg k1
  case measure => have := HK1.out; omega
  case rel => exact ⟨(wrap64 (x8_1 + 1)), dq17, H', ⟨dq25⟩, dq16⟩

/-! ### impl_PNode_fits: function 64 -/
def impl_PNode_fits.f (k : Nat) (a0_0 : Int) (a0_1 : ByteArray) (l0_2 : List Int) (a0_3 : Int) : Option (Bool) := if a0_0 = 1 then ((impl_NameOk.f k a0_1).bind fun t234 => (if t234 = true then (some ((l0_2.length : Int) == 0)) else (some false))) else (if a0_0 = 4 then (if a0_1.toList = ([] : List UInt8) then (if a0_0 = 2 then (some true) else (some ((l0_2.length : Int) == 0))) else (some false)) else (if a0_0 = 2 then (if a0_1.toList = ([] : List UInt8) then (some true) else (some false)) else (if a0_0 = 3 then (if a0_1.toList = ([] : List UInt8) then (some (decide ((l0_2.length : Int) ≥ 2))) else (some false)) else (some false))))
set_option maxHeartbeats 8000000 in
set_option maxRecDepth 100000 in
theorem impl_PNode_fits.calls (k : Nat) (a0_0 : Int) (a0_1 : ByteArray) (A0_2 : Option Addr) (c0_2 : Nat) (l0_2 : List Int) (a0_3 : Int) (r : Bool) (w : World) (hr0_2 : Kd.C (Kd.int .i64) w A0_2 l0_2.length l0_2) (hc0_2 : l0_2.length ≤ c0_2) (h : impl_PNode_fits.f k a0_0 a0_1 l0_2 a0_3 = some r) :
  Calls Try.prog 64 #[.agg #[.int .i64 a0_0, .string a0_1, .slice A0_2 l0_2.length c0_2, .int .i64 a0_3]] w fun e w' => e = .returned (.bool r) ∧ Below w.heap.size w w' := by
 have hu49 := Try.underlying49
 have HR0_2 := Aside0.mk hr0_2
 have HC0_2 := Aside0.mk hc0_2
 clear hr0_2 hc0_2
 have HB := Aside0.mk (Below.refl w.heap.size w)
 have H : (if a0_0 = 1 then ((impl_NameOk.f k a0_1).bind fun t234 => (if t234 = true then (some ((l0_2.length : Int) == 0)) else (some false))) else (if a0_0 = 4 then (if a0_1.toList = ([] : List UInt8) then (if a0_0 = 2 then (some true) else (some ((l0_2.length : Int) == 0))) else (some false)) else (if a0_0 = 2 then (if a0_1.toList = ([] : List UInt8) then (some true) else (some false)) else (if a0_0 = 3 then (if a0_1.toList = ([] : List UInt8) then (some (decide ((l0_2.length : Int) ≥ 2))) else (some false)) else (some false))))) = some r := h
 clear h
 by_cases c2 : a0_0 = 1
 ·rw [if_pos c2] at H
  have c2b0 := beq_iff_eq.mpr c2
  have c2b1 := bne_eq_false_iff_eq.mpr c2
  clear c2
  replace H := Option.bind_eq_some_iff.mp H
  obtain ⟨t234, A30, H⟩ := H
  replace H : (if t234 = true then (some ((l0_2.length : Int) == 0)) else (some false)) = some r := H
  have A3 := Aside0.mk A30
  clear A30
  by_cases c4 : t234 = true
  ·subst c4
   have H1 : (some ((l0_2.length : Int) == 0)) = some r := by rw [if_pos rfl] at H; exact H
   clear H
   have H := H1
   clear H1
   obtain rfl := Option.some.inj H
   go_enter Try.func64, Try.ntmps64
   go_wp2_with (first | ((with_reducible refine gate_dst (N := 1) rfl ?_); (try (refine gate_guard (by rfl) ?_; dsimp only)); refine box_event ?hg (N := 1) ?hd (cs := #[.int .i64 a0_0, .string a0_1, .slice A0_2 l0_2.length c0_2, .int .i64 a0_3]) (t := 49) ?hr ?_; (case hd => rfl); (case hg => rfl); (case hr => exact dq0); intro gb233 hg w5 hbox hb; have n0_ := Aside0.mk (below_step dq19 hb); have n1_ := Aside0.mk (hbox); have n2_ := Aside0.mk ((dq18 : w.heap.size ≤ gb233)); have n3_ := Aside0.mk ((dq18 : w.heap.size ≤ gb233)); clear HB; have HB := n0_; have BK233 := n1_; have GW233 := n2_; have GE233 := n3_; clear n0_ n1_ n2_ n3_; clear hb hbox hg; obtain ⟨⟨hcz6_0, hcz6_1, hcz6_2, hcz6_3⟩, hfz6_0, hfz6_1, hfz6_2, hfz6_3⟩ := blkC4 BK233.out) | ((with_reducible refine gate_callee (f := 75) rfl ?_); refine goesL_ (some 9) rfl rfl Try.func75 dq23 rfl #[.string a0_1] rfl dq22 ?_; (with_reducible refine (impl_NameOk.calls k a0_1 true _ A3.out).mono ?_); rintro e w' ⟨rfl, ⟨nd, rfl⟩⟩; refine ⟨_, rfl, ?_⟩))
   go_ret
   exact ⟨dq21, dq76⟩
  replace c4 := Bool.eq_false_iff.mpr c4
  subst c4
  have H1 : (some false) = some r := by rw [if_neg (show ¬ (false = true) by decide)] at H; exact H
  clear H
  have H := H1
  clear H1
  obtain rfl := Option.some.inj H
  go_enter Try.func64, Try.ntmps64
  go_wp2_with (first | ((with_reducible refine gate_dst (N := 1) rfl ?_); (try (refine gate_guard (by rfl) ?_; dsimp only)); refine box_event ?hg (N := 1) ?hd (cs := #[.int .i64 a0_0, .string a0_1, .slice A0_2 l0_2.length c0_2, .int .i64 a0_3]) (t := 49) ?hr ?_; (case hd => rfl); (case hg => rfl); (case hr => exact dq0); intro gb233 hg w7 hbox hb; have n0_ := Aside0.mk (below_step dq19 hb); have n1_ := Aside0.mk (hbox); have n2_ := Aside0.mk ((dq18 : w.heap.size ≤ gb233)); have n3_ := Aside0.mk ((dq18 : w.heap.size ≤ gb233)); clear HB; have HB := n0_; have BK233 := n1_; have GW233 := n2_; have GE233 := n3_; clear n0_ n1_ n2_ n3_; clear hb hbox hg; obtain ⟨⟨hcz8_0, hcz8_1, hcz8_2, hcz8_3⟩, hfz8_0, hfz8_1, hfz8_2, hfz8_3⟩ := blkC4 BK233.out) | ((with_reducible refine gate_callee (f := 75) rfl ?_); refine goesL_ (some 9) rfl rfl Try.func75 dq23 rfl #[.string a0_1] rfl dq22 ?_; (with_reducible refine (impl_NameOk.calls k a0_1 false _ A3.out).mono ?_); rintro e w' ⟨rfl, ⟨nd, rfl⟩⟩; refine ⟨_, rfl, ?_⟩))
  go_ret
  exact ⟨dq21, dq76⟩
 rw [if_neg c2] at H
 have c2b0 := beq_eq_false_iff_ne.mpr c2
 have c2b1 := bne_iff_ne.mpr c2
 by_cases c9 : a0_0 = 4
 ·rw [if_pos c9] at H
  have c9b0 := beq_iff_eq.mpr c9
  have c9b1 := bne_eq_false_iff_eq.mpr c9
  clear c9
  by_cases c10 : a0_1.toList = ([] : List UInt8)
  rotate_left
  ·rw [if_neg c10] at H
   have c10b0 := beq_eq_false_iff_ne.mpr c10
   have c10b1 := bne_iff_ne.mpr c10
   obtain rfl := Option.some.inj H
   go_enter Try.func64, Try.ntmps64
   go_wp2_with (first | ((with_reducible refine gate_dst (N := 1) rfl ?_); (try (refine gate_guard (by rfl) ?_; dsimp only)); refine box_event ?hg (N := 1) ?hd (cs := #[.int .i64 a0_0, .string a0_1, .slice A0_2 l0_2.length c0_2, .int .i64 a0_3]) (t := 49) ?hr ?_; (case hd => rfl); (case hg => rfl); (case hr => exact dq0); intro gb233 hg w16 hbox hb; have n0_ := Aside0.mk (below_step dq19 hb); have n1_ := Aside0.mk (hbox); have n2_ := Aside0.mk ((dq18 : w.heap.size ≤ gb233)); have n3_ := Aside0.mk ((dq18 : w.heap.size ≤ gb233)); clear HB; have HB := n0_; have BK233 := n1_; have GW233 := n2_; have GE233 := n3_; clear n0_ n1_ n2_ n3_; clear hb hbox hg; obtain ⟨⟨hcz17_0, hcz17_1, hcz17_2, hcz17_3⟩, hfz17_0, hfz17_1, hfz17_2, hfz17_3⟩ := blkC4 BK233.out))
   go_ret
   exact ⟨dq21, dq76⟩
  rw [if_pos c10] at H
  have c10b0 := beq_iff_eq.mpr c10
  have c10b1 := bne_eq_false_iff_eq.mpr c10
  clear c10
  by_cases c11 : a0_0 = 2
  rotate_left
  ·rw [if_neg c11] at H
   have c11b0 := beq_eq_false_iff_ne.mpr c11
   have c11b1 := bne_iff_ne.mpr c11
   obtain rfl := Option.some.inj H
   go_enter Try.func64, Try.ntmps64
   go_wp2_with (first | ((with_reducible refine gate_dst (N := 1) rfl ?_); (try (refine gate_guard (by rfl) ?_; dsimp only)); refine box_event ?hg (N := 1) ?hd (cs := #[.int .i64 a0_0, .string a0_1, .slice A0_2 l0_2.length c0_2, .int .i64 a0_3]) (t := 49) ?hr ?_; (case hd => rfl); (case hg => rfl); (case hr => exact dq0); intro gb233 hg w14 hbox hb; have n0_ := Aside0.mk (below_step dq19 hb); have n1_ := Aside0.mk (hbox); have n2_ := Aside0.mk ((dq18 : w.heap.size ≤ gb233)); have n3_ := Aside0.mk ((dq18 : w.heap.size ≤ gb233)); clear HB; have HB := n0_; have BK233 := n1_; have GW233 := n2_; have GE233 := n3_; clear n0_ n1_ n2_ n3_; clear hb hbox hg; obtain ⟨⟨hcz15_0, hcz15_1, hcz15_2, hcz15_3⟩, hfz15_0, hfz15_1, hfz15_2, hfz15_3⟩ := blkC4 BK233.out))
   go_ret
   exact ⟨dq21, dq76⟩
  rw [if_pos c11] at H
  have c11b0 := beq_iff_eq.mpr c11
  have c11b1 := bne_eq_false_iff_eq.mpr c11
  clear c11
  obtain rfl := Option.some.inj H
  go_enter Try.func64, Try.ntmps64
  go_wp2_with (first | ((with_reducible refine gate_dst (N := 1) rfl ?_); (try (refine gate_guard (by rfl) ?_; dsimp only)); refine box_event ?hg (N := 1) ?hd (cs := #[.int .i64 a0_0, .string a0_1, .slice A0_2 l0_2.length c0_2, .int .i64 a0_3]) (t := 49) ?hr ?_; (case hd => rfl); (case hg => rfl); (case hr => exact dq0); intro gb233 hg w12 hbox hb; have n0_ := Aside0.mk (below_step dq19 hb); have n1_ := Aside0.mk (hbox); have n2_ := Aside0.mk ((dq18 : w.heap.size ≤ gb233)); have n3_ := Aside0.mk ((dq18 : w.heap.size ≤ gb233)); clear HB; have HB := n0_; have BK233 := n1_; have GW233 := n2_; have GE233 := n3_; clear n0_ n1_ n2_ n3_; clear hb hbox hg; obtain ⟨⟨hcz13_0, hcz13_1, hcz13_2, hcz13_3⟩, hfz13_0, hfz13_1, hfz13_2, hfz13_3⟩ := blkC4 BK233.out))
  go_ret
  exact ⟨dq21, dq76⟩
 rw [if_neg c9] at H
 have c9b0 := beq_eq_false_iff_ne.mpr c9
 have c9b1 := bne_iff_ne.mpr c9
 by_cases c18 : a0_0 = 2
 ·rw [if_pos c18] at H
  have c18b0 := beq_iff_eq.mpr c18
  have c18b1 := bne_eq_false_iff_eq.mpr c18
  clear c18
  by_cases c19 : a0_1.toList = ([] : List UInt8)
  rotate_left
  ·rw [if_neg c19] at H
   have c19b0 := beq_eq_false_iff_ne.mpr c19
   have c19b1 := bne_iff_ne.mpr c19
   obtain rfl := Option.some.inj H
   go_enter Try.func64, Try.ntmps64
   go_wp2_with (first | ((with_reducible refine gate_dst (N := 1) rfl ?_); (try (refine gate_guard (by rfl) ?_; dsimp only)); refine box_event ?hg (N := 1) ?hd (cs := #[.int .i64 a0_0, .string a0_1, .slice A0_2 l0_2.length c0_2, .int .i64 a0_3]) (t := 49) ?hr ?_; (case hd => rfl); (case hg => rfl); (case hr => exact dq0); intro gb233 hg w22 hbox hb; have n0_ := Aside0.mk (below_step dq19 hb); have n1_ := Aside0.mk (hbox); have n2_ := Aside0.mk ((dq18 : w.heap.size ≤ gb233)); have n3_ := Aside0.mk ((dq18 : w.heap.size ≤ gb233)); clear HB; have HB := n0_; have BK233 := n1_; have GW233 := n2_; have GE233 := n3_; clear n0_ n1_ n2_ n3_; clear hb hbox hg; obtain ⟨⟨hcz23_0, hcz23_1, hcz23_2, hcz23_3⟩, hfz23_0, hfz23_1, hfz23_2, hfz23_3⟩ := blkC4 BK233.out))
   go_ret
   exact ⟨dq21, dq76⟩
  rw [if_pos c19] at H
  have c19b0 := beq_iff_eq.mpr c19
  have c19b1 := bne_eq_false_iff_eq.mpr c19
  clear c19
  obtain rfl := Option.some.inj H
  go_enter Try.func64, Try.ntmps64
  go_wp2_with (first | ((with_reducible refine gate_dst (N := 1) rfl ?_); (try (refine gate_guard (by rfl) ?_; dsimp only)); refine box_event ?hg (N := 1) ?hd (cs := #[.int .i64 a0_0, .string a0_1, .slice A0_2 l0_2.length c0_2, .int .i64 a0_3]) (t := 49) ?hr ?_; (case hd => rfl); (case hg => rfl); (case hr => exact dq0); intro gb233 hg w20 hbox hb; have n0_ := Aside0.mk (below_step dq19 hb); have n1_ := Aside0.mk (hbox); have n2_ := Aside0.mk ((dq18 : w.heap.size ≤ gb233)); have n3_ := Aside0.mk ((dq18 : w.heap.size ≤ gb233)); clear HB; have HB := n0_; have BK233 := n1_; have GW233 := n2_; have GE233 := n3_; clear n0_ n1_ n2_ n3_; clear hb hbox hg; obtain ⟨⟨hcz21_0, hcz21_1, hcz21_2, hcz21_3⟩, hfz21_0, hfz21_1, hfz21_2, hfz21_3⟩ := blkC4 BK233.out))
  go_ret
  exact ⟨dq21, dq76⟩
 rw [if_neg c18] at H
 have c18b0 := beq_eq_false_iff_ne.mpr c18
 have c18b1 := bne_iff_ne.mpr c18
 by_cases c24 : a0_0 = 3
 rotate_left
 ·rw [if_neg c24] at H
  have c24b0 := beq_eq_false_iff_ne.mpr c24
  have c24b1 := bne_iff_ne.mpr c24
  obtain rfl := Option.some.inj H
  go_enter Try.func64, Try.ntmps64
  go_wp2_with (first | ((with_reducible refine gate_dst (N := 1) rfl ?_); (try (refine gate_guard (by rfl) ?_; dsimp only)); refine box_event ?hg (N := 1) ?hd (cs := #[.int .i64 a0_0, .string a0_1, .slice A0_2 l0_2.length c0_2, .int .i64 a0_3]) (t := 49) ?hr ?_; (case hd => rfl); (case hg => rfl); (case hr => exact dq0); intro gb233 hg w30 hbox hb; have n0_ := Aside0.mk (below_step dq19 hb); have n1_ := Aside0.mk (hbox); have n2_ := Aside0.mk ((dq18 : w.heap.size ≤ gb233)); have n3_ := Aside0.mk ((dq18 : w.heap.size ≤ gb233)); clear HB; have HB := n0_; have BK233 := n1_; have GW233 := n2_; have GE233 := n3_; clear n0_ n1_ n2_ n3_; clear hb hbox hg; obtain ⟨⟨hcz31_0, hcz31_1, hcz31_2, hcz31_3⟩, hfz31_0, hfz31_1, hfz31_2, hfz31_3⟩ := blkC4 BK233.out))
  go_ret
  exact ⟨dq21, dq76⟩
 rw [if_pos c24] at H
 have c24b0 := beq_iff_eq.mpr c24
 have c24b1 := bne_eq_false_iff_eq.mpr c24
 clear c24
 by_cases c25 : a0_1.toList = ([] : List UInt8)
 rotate_left
 ·rw [if_neg c25] at H
  have c25b0 := beq_eq_false_iff_ne.mpr c25
  have c25b1 := bne_iff_ne.mpr c25
  obtain rfl := Option.some.inj H
  go_enter Try.func64, Try.ntmps64
  go_wp2_with (first | ((with_reducible refine gate_dst (N := 1) rfl ?_); (try (refine gate_guard (by rfl) ?_; dsimp only)); refine box_event ?hg (N := 1) ?hd (cs := #[.int .i64 a0_0, .string a0_1, .slice A0_2 l0_2.length c0_2, .int .i64 a0_3]) (t := 49) ?hr ?_; (case hd => rfl); (case hg => rfl); (case hr => exact dq0); intro gb233 hg w28 hbox hb; have n0_ := Aside0.mk (below_step dq19 hb); have n1_ := Aside0.mk (hbox); have n2_ := Aside0.mk ((dq18 : w.heap.size ≤ gb233)); have n3_ := Aside0.mk ((dq18 : w.heap.size ≤ gb233)); clear HB; have HB := n0_; have BK233 := n1_; have GW233 := n2_; have GE233 := n3_; clear n0_ n1_ n2_ n3_; clear hb hbox hg; obtain ⟨⟨hcz29_0, hcz29_1, hcz29_2, hcz29_3⟩, hfz29_0, hfz29_1, hfz29_2, hfz29_3⟩ := blkC4 BK233.out))
  go_ret
  exact ⟨dq21, dq76⟩
 rw [if_pos c25] at H
 have c25b0 := beq_iff_eq.mpr c25
 have c25b1 := bne_eq_false_iff_eq.mpr c25
 clear c25
 obtain rfl := Option.some.inj H
 go_enter Try.func64, Try.ntmps64
 go_wp2_with (first | ((with_reducible refine gate_dst (N := 1) rfl ?_); (try (refine gate_guard (by rfl) ?_; dsimp only)); refine box_event ?hg (N := 1) ?hd (cs := #[.int .i64 a0_0, .string a0_1, .slice A0_2 l0_2.length c0_2, .int .i64 a0_3]) (t := 49) ?hr ?_; (case hd => rfl); (case hg => rfl); (case hr => exact dq0); intro gb233 hg w26 hbox hb; have n0_ := Aside0.mk (below_step dq19 hb); have n1_ := Aside0.mk (hbox); have n2_ := Aside0.mk ((dq18 : w.heap.size ≤ gb233)); have n3_ := Aside0.mk ((dq18 : w.heap.size ≤ gb233)); clear HB; have HB := n0_; have BK233 := n1_; have GW233 := n2_; have GE233 := n3_; clear n0_ n1_ n2_ n3_; clear hb hbox hg; obtain ⟨⟨hcz27_0, hcz27_1, hcz27_2, hcz27_3⟩, hfz27_0, hfz27_1, hfz27_2, hfz27_3⟩ := blkC4 BK233.out))
 go_ret
 exact ⟨dq21, dq76⟩

end Go.Proofs.Ytkflnbmmjnjgkaa.L
