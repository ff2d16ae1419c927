/- Words and contracts for the row RowFnExactMatches: what the Go functions answer that it calls; printed by programs of the kit and of this session, and merged. -/
import Derived.Test.YtilmhfkbpnejeaaDoorQm1
namespace Go.Proofs.YtilmhfkbpnejeaaDoor.L
open Go.RowKit Go.Proofs.YtilmhfkbpnejeaaDoorW.PrintWords Go.Proofs.YtilmhfkbpnejeaaDoorW.PrintLast Go.Proofs.YtilmhfkbpnejeaaDoorW.PrintMore
attribute [local go_sem] max2_int min2_int max_two min_two max_three min_three max_four min_four
set_option linter.unusedVariables false
set_option linter.unusedSimpArgs false

/-! ### spec_ClassHas: function 109 -/
mutual
def spec_ClassHas.j0 : Nat → Int → Bool → Int → Bool → List (S100) → Int → Int → Int → Int → Option (Bool)
 | 0, _, _, _, _, _, _, _, _, _ => none
 | k + 1, x1, x19, x142000, x142001, x142002, x142003, x142004, x142005, x142006 => if x19 = true then (some false) else (spec_ClassHas.l0 k x1 false 0 x142000 x142001 x142002 x142003 x142004 x142005 x142006)
def spec_ClassHas.l0 : Nat → Int → Bool → Int → Int → Bool → List (S100) → Int → Int → Int → Int → Option (Bool)
 | 0, _, _, _, _, _, _, _, _, _, _ => none
 | k + 1, x1, x5, x6, x142000, x142001, x142002, x142003, x142004, x142005, x142006 => if x6 < (x142002.length : Int) then (if x5 = true then (spec_ClassHas.l0 k x1 true (wrap64 (x6 + 1)) x142000 x142001 x142002 x142003 x142004 x142005 x142006) else (if 0 ≤ x6 then ((spec_l1In.f x1 ((rd_T100 x142002 x6).f0) ((rd_T100 x142002 x6).f1)).bind fun t146 => (spec_ClassHas.l0 k x1 t146 (wrap64 (x6 + 1)) x142000 x142001 x142002 x142003 x142004 x142005 x142006)) else (none))) else (some (x5 != x142001))
end
def spec_ClassHas.f (k : Nat) (a0_0 : Int) (a0_1 : Bool) (l0_2 : List (S100)) (a0_3 : Int) (a0_4 : Int) (a0_5 : Int) (a0_6 : Int) (a1 : Int) : Option (Bool) := if a0_0 = 2 then ((spec_l6NodeOk.f k a0_0 a0_1 l0_2 a0_3 a0_4 a0_5 a0_6).bind fun t142 => (if t142 = true then ((spec_l1Char.f a1).bind fun t143 => (spec_ClassHas.j0 k a1 (!t143) a0_0 a0_1 l0_2 a0_3 a0_4 a0_5 a0_6)) else (spec_ClassHas.j0 k a1 true a0_0 a0_1 l0_2 a0_3 a0_4 a0_5 a0_6))) else (spec_ClassHas.j0 k a1 true a0_0 a0_1 l0_2 a0_3 a0_4 a0_5 a0_6)
set_option maxHeartbeats 8000000 in
set_option maxRecDepth 100000 in
theorem spec_ClassHas.calls (k : Nat) (a0_0 : Int) (a0_1 : Bool) (A0_2 : Option Addr) (c0_2 : Nat) (l0_2 : List (S100)) (a0_3 : Int) (a0_4 : Int) (a0_5 : Int) (a0_6 : Int) (a1 : Int) (r : Bool) (w : World) (hr0_2 : Kd.C k100 w A0_2 l0_2.length l0_2) (hc0_2 : l0_2.length ≤ c0_2) (h : spec_ClassHas.f k a0_0 a0_1 l0_2 a0_3 a0_4 a0_5 a0_6 a1 = some r) :
  Calls Tryd.prog 109 #[.agg #[.int .i64 a0_0, .bool a0_1, .slice A0_2 l0_2.length c0_2, .int .i64 a0_3, .int .i64 a0_4, .int .i64 a0_5, .int .i64 a0_6], .int .i64 a1] w fun e w' => e = .returned (.bool r) ∧ Below w.heap.size w w' := by
 have hu93 := Tryd.underlying93
 have HR0_2 := Aside0.mk hr0_2
 have HC0_2 := Aside0.mk hc0_2
 clear hr0_2 hc0_2
 have HB := Aside0.mk (Below.refl w.heap.size w)
 have H : (if a0_0 = 2 then ((spec_l6NodeOk.f k a0_0 a0_1 l0_2 a0_3 a0_4 a0_5 a0_6).bind fun t142 => (if t142 = true then ((spec_l1Char.f a1).bind fun t143 => (spec_ClassHas.j0 k a1 (!t143) a0_0 a0_1 l0_2 a0_3 a0_4 a0_5 a0_6)) else (spec_ClassHas.j0 k a1 true a0_0 a0_1 l0_2 a0_3 a0_4 a0_5 a0_6))) else (spec_ClassHas.j0 k a1 true a0_0 a0_1 l0_2 a0_3 a0_4 a0_5 a0_6)) = some r := h
 clear h
 have HC3 := Aside0.mk H
 clear H
 go_enter Tryd.func109, Tryd.ntmps109
 go_upto_region 1 with (first | ((with_reducible refine gate_dst (N := 2) rfl ?_); refine box_event ?hg (N := 2) ?hd (cs := #[.int .i64 a0_0, .bool a0_1, .slice A0_2 l0_2.length c0_2, .int .i64 a0_3, .int .i64 a0_4, .int .i64 a0_5, .int .i64 a0_6]) (t := 93) ?hr ?_; (case hd => rfl); (case hg => rfl); (case hr => exact dq0); intro gb141 hg w4 hbox hb; have n0_ := Aside0.mk (below_step dq18 hb); have n1_ := Aside0.mk (hbox); have n2_ := Aside0.mk ((dq17 : w.heap.size ≤ gb141)); have n3_ := Aside0.mk ((dq17 : w.heap.size ≤ gb141)); clear HB; have HB := n0_; have BK141 := n1_; have GW141 := n2_; have GE141 := n3_; clear n0_ n1_ n2_ n3_; clear hb hbox hg))
 repeat (go_quiet (first | ((with_reducible refine gate_dst (N := 2) rfl ?_); refine box_event ?hg (N := 2) ?hd (cs := #[.int .i64 a0_0, .bool a0_1, .slice A0_2 l0_2.length c0_2, .int .i64 a0_3, .int .i64 a0_4, .int .i64 a0_5, .int .i64 a0_6]) (t := 93) ?hr ?_; (case hd => rfl); (case hg => rfl); (case hr => exact dq0); intro gb141 hg w4 hbox hb; have n0_ := Aside0.mk (below_step dq18 hb); have n1_ := Aside0.mk (hbox); have n2_ := Aside0.mk ((dq17 : w.heap.size ≤ gb141)); have n3_ := Aside0.mk ((dq17 : w.heap.size ≤ gb141)); clear HB; have HB := n0_; have BK141 := n1_; have GW141 := n2_; have GE141 := n3_; clear n0_ n1_ n2_ n3_; clear hb hbox hg)); go_upto_region 1 with (first | ((with_reducible refine gate_dst (N := 2) rfl ?_); refine box_event ?hg (N := 2) ?hd (cs := #[.int .i64 a0_0, .bool a0_1, .slice A0_2 l0_2.length c0_2, .int .i64 a0_3, .int .i64 a0_4, .int .i64 a0_5, .int .i64 a0_6]) (t := 93) ?hr ?_; (case hd => rfl); (case hg => rfl); (case hr => exact dq0); intro gb141 hg w4 hbox hb; have n0_ := Aside0.mk (below_step dq18 hb); have n1_ := Aside0.mk (hbox); have n2_ := Aside0.mk ((dq17 : w.heap.size ≤ gb141)); have n3_ := Aside0.mk ((dq17 : w.heap.size ≤ gb141)); clear HB; have HB := n0_; have BK141 := n1_; have GW141 := n2_; have GE141 := n3_; clear n0_ n1_ n2_ n3_; clear hb hbox hg)))
 (try simp only [Act.put, List.setIfInBounds_toArray, List.set_cons_zero, List.set_cons_succ])
 go_cut [19] (fun v19 wc => ∃ (kq : Nat) (x19_2 : Bool), v19 = .bool x19_2 ∧ Aside0 (spec_ClassHas.j0 kq a1 x19_2 a0_0 a0_1 l0_2 a0_3 a0_4 a0_5 a0_6 = some r) ∧ Aside0 (kq ≤ k) ∧ Aside0 (wc.heap[gb141]? = some (.cells #[.int .i64 a0_0, .bool a0_1, (.slice A0_2 l0_2.length c0_2), .int .i64 a0_3, .int .i64 a0_4, .int .i64 a0_5, .int .i64 a0_6] 93 (0, 0))) ∧ Aside0 (Below w.heap.size w wc))
 case first =>
  have H := HC3.out
  clear HC3
  by_cases c5 : a0_0 = 2
  ·rw [if_pos c5] at H
   have c5b0 := beq_iff_eq.mpr c5
   have c5b1 := bne_eq_false_iff_eq.mpr c5
   clear c5
   (first | rw [c5b0] | (simp only [i64_w, i32_w]; rw [c5b0]) | skip)
   replace H := Option.bind_eq_some_iff.mp H
   obtain ⟨t142, A60, H⟩ := H
   replace H : (if t142 = true then ((spec_l1Char.f a1).bind fun t143 => (spec_ClassHas.j0 k a1 (!t143) a0_0 a0_1 l0_2 a0_3 a0_4 a0_5 a0_6)) else (spec_ClassHas.j0 k a1 true a0_0 a0_1 l0_2 a0_3 a0_4 a0_5 a0_6)) = some r := H
   have A6 := Aside0.mk A60
   clear A60
   by_cases c7 : t142 = true
   ·subst c7
    have H1 : ((spec_l1Char.f a1).bind fun t143 => (spec_ClassHas.j0 k a1 (!t143) a0_0 a0_1 l0_2 a0_3 a0_4 a0_5 a0_6)) = some r := by rw [if_pos rfl] at H; exact H
    clear H
    have H := H1
    clear H1
    replace H := Option.bind_eq_some_iff.mp H
    obtain ⟨t143, A80, H⟩ := H
    replace H : (spec_ClassHas.j0 k a1 (!t143) a0_0 a0_1 l0_2 a0_3 a0_4 a0_5 a0_6) = some r := H
    have A8 := Aside0.mk A80
    clear A80
    have H' := Aside0.mk H
    clear H
    obtain ⟨⟨hcz9_0, hcz9_1, hcz9_2, hcz9_3, hcz9_4, hcz9_5, hcz9_6⟩, hfz9_0, hfz9_1, hfz9_2, hfz9_3, hfz9_4, hfz9_5, hfz9_6⟩ := blkC7 BK141.out
    go_wp2_with (first | (go_at_call 106; (with_reducible refine (spec_l6NodeOk.calls k a0_0 a0_1 _ _ l0_2 a0_3 a0_4 a0_5 a0_6 true _ ?side1 ?side2 A6.out).mono ?_); (case side1 => exact dq1); (case side2 => exact HC0_2.out); rintro e w10 ⟨rfl, hb⟩; have n0_ := Aside0.mk (blk_below (g := gb141) (o := .cells #[.int .i64 a0_0, .bool a0_1, .slice A0_2 l0_2.length c0_2, .int .i64 a0_3, .int .i64 a0_4, .int .i64 a0_5, .int .i64 a0_6] 93 (0, 0)) dq35 hb); have n1_ := Aside0.mk (below_step dq34 hb); clear BK141; clear HB; have BK141 := n0_; have HB := n1_; clear n0_ n1_; (try clear hb); (try clear hb2); (try clear hk); (try clear hi)) | (go_at_call 122; (with_reducible refine (spec_l1Char.calls a1 t143 _ A8.out).mono ?_); rintro e w' ⟨rfl, ⟨nd, rfl⟩⟩; (try first | exact ⟨rfl, _, World.drewN_drewN _ _ _⟩ | exact ⟨rfl, _, Eq.trans (World.drewN_drewN _ _ _) (congrArg (World.drewN _) (Nat.add_assoc _ _ _))⟩)))
    repeat (go_quiet (first | (go_at_call 106; (with_reducible refine (spec_l6NodeOk.calls k a0_0 a0_1 _ _ l0_2 a0_3 a0_4 a0_5 a0_6 true _ ?side1 ?side2 A6.out).mono ?_); (case side1 => exact dq1); (case side2 => exact HC0_2.out); rintro e w10 ⟨rfl, hb⟩; have n0_ := Aside0.mk (blk_below (g := gb141) (o := .cells #[.int .i64 a0_0, .bool a0_1, .slice A0_2 l0_2.length c0_2, .int .i64 a0_3, .int .i64 a0_4, .int .i64 a0_5, .int .i64 a0_6] 93 (0, 0)) dq35 hb); have n1_ := Aside0.mk (below_step dq34 hb); clear BK141; clear HB; have BK141 := n0_; have HB := n1_; clear n0_ n1_; (try clear hb); (try clear hb2); (try clear hk); (try clear hi)) | (go_at_call 122; (with_reducible refine (spec_l1Char.calls a1 t143 _ A8.out).mono ?_); rintro e w' ⟨rfl, ⟨nd, rfl⟩⟩; (try first | exact ⟨rfl, _, World.drewN_drewN _ _ _⟩ | exact ⟨rfl, _, Eq.trans (World.drewN_drewN _ _ _) (congrArg (World.drewN _) (Nat.add_assoc _ _ _))⟩))); try go_wp2_with (first | (go_at_call 106; (with_reducible refine (spec_l6NodeOk.calls k a0_0 a0_1 _ _ l0_2 a0_3 a0_4 a0_5 a0_6 true _ ?side1 ?side2 A6.out).mono ?_); (case side1 => exact dq1); (case side2 => exact HC0_2.out); rintro e w10 ⟨rfl, hb⟩; have n0_ := Aside0.mk (blk_below (g := gb141) (o := .cells #[.int .i64 a0_0, .bool a0_1, .slice A0_2 l0_2.length c0_2, .int .i64 a0_3, .int .i64 a0_4, .int .i64 a0_5, .int .i64 a0_6] 93 (0, 0)) dq35 hb); have n1_ := Aside0.mk (below_step dq34 hb); clear BK141; clear HB; have BK141 := n0_; have HB := n1_; clear n0_ n1_; (try clear hb); (try clear hb2); (try clear hk); (try clear hi)) | (go_at_call 122; (with_reducible refine (spec_l1Char.calls a1 t143 _ A8.out).mono ?_); rintro e w' ⟨rfl, ⟨nd, rfl⟩⟩; (try first | exact ⟨rfl, _, World.drewN_drewN _ _ _⟩ | exact ⟨rfl, _, Eq.trans (World.drewN_drewN _ _ _) (congrArg (World.drewN _) (Nat.add_assoc _ _ _))⟩))))
    go_meet
    case rel => exact ⟨_, (!t143), dq14, H', ⟨dq25⟩, ⟨dq35⟩, ⟨dq34⟩⟩
   ·replace c7 := Bool.eq_false_iff.mpr c7
    subst c7
    have H1 : (spec_ClassHas.j0 k a1 true a0_0 a0_1 l0_2 a0_3 a0_4 a0_5 a0_6) = some r := by rw [if_neg (show ¬ (false = true) by decide)] at H; exact H
    clear H
    have H := H1
    clear H1
    have H' := Aside0.mk H
    clear H
    obtain ⟨⟨hcz11_0, hcz11_1, hcz11_2, hcz11_3, hcz11_4, hcz11_5, hcz11_6⟩, hfz11_0, hfz11_1, hfz11_2, hfz11_3, hfz11_4, hfz11_5, hfz11_6⟩ := blkC7 BK141.out
    go_wp2_with (first | (go_at_call 106; (with_reducible refine (spec_l6NodeOk.calls k a0_0 a0_1 _ _ l0_2 a0_3 a0_4 a0_5 a0_6 false _ ?side1 ?side2 A6.out).mono ?_); (case side1 => exact dq1); (case side2 => exact HC0_2.out); rintro e w12 ⟨rfl, hb⟩; have n0_ := Aside0.mk (blk_below (g := gb141) (o := .cells #[.int .i64 a0_0, .bool a0_1, .slice A0_2 l0_2.length c0_2, .int .i64 a0_3, .int .i64 a0_4, .int .i64 a0_5, .int .i64 a0_6] 93 (0, 0)) dq35 hb); have n1_ := Aside0.mk (below_step dq34 hb); clear BK141; clear HB; have BK141 := n0_; have HB := n1_; clear n0_ n1_; (try clear hb); (try clear hb2); (try clear hk); (try clear hi)))
    repeat (go_quiet (first | (go_at_call 106; (with_reducible refine (spec_l6NodeOk.calls k a0_0 a0_1 _ _ l0_2 a0_3 a0_4 a0_5 a0_6 false _ ?side1 ?side2 A6.out).mono ?_); (case side1 => exact dq1); (case side2 => exact HC0_2.out); rintro e w12 ⟨rfl, hb⟩; have n0_ := Aside0.mk (blk_below (g := gb141) (o := .cells #[.int .i64 a0_0, .bool a0_1, .slice A0_2 l0_2.length c0_2, .int .i64 a0_3, .int .i64 a0_4, .int .i64 a0_5, .int .i64 a0_6] 93 (0, 0)) dq35 hb); have n1_ := Aside0.mk (below_step dq34 hb); clear BK141; clear HB; have BK141 := n0_; have HB := n1_; clear n0_ n1_; (try clear hb); (try clear hb2); (try clear hk); (try clear hi))); try go_wp2_with (first | (go_at_call 106; (with_reducible refine (spec_l6NodeOk.calls k a0_0 a0_1 _ _ l0_2 a0_3 a0_4 a0_5 a0_6 false _ ?side1 ?side2 A6.out).mono ?_); (case side1 => exact dq1); (case side2 => exact HC0_2.out); rintro e w12 ⟨rfl, hb⟩; have n0_ := Aside0.mk (blk_below (g := gb141) (o := .cells #[.int .i64 a0_0, .bool a0_1, .slice A0_2 l0_2.length c0_2, .int .i64 a0_3, .int .i64 a0_4, .int .i64 a0_5, .int .i64 a0_6] 93 (0, 0)) dq35 hb); have n1_ := Aside0.mk (below_step dq34 hb); clear BK141; clear HB; have BK141 := n0_; have HB := n1_; clear n0_ n1_; (try clear hb); (try clear hb2); (try clear hk); (try clear hi))))
    go_meet
    case rel => exact ⟨_, (true), dq14, H', ⟨dq25⟩, ⟨dq35⟩, ⟨dq34⟩⟩
  ·rw [if_neg c5] at H
   have c5b0 := beq_eq_false_iff_ne.mpr c5
   have c5b1 := bne_iff_ne.mpr c5
   (first | rw [c5b0] | (simp only [i64_w, i32_w]; rw [c5b0]) | skip)
   have H' := Aside0.mk H
   clear H
   obtain ⟨⟨hcz13_0, hcz13_1, hcz13_2, hcz13_3, hcz13_4, hcz13_5, hcz13_6⟩, hfz13_0, hfz13_1, hfz13_2, hfz13_3, hfz13_4, hfz13_5, hfz13_6⟩ := blkC7 BK141.out
   go_wp2
   repeat (go_quiet (fail); try go_wp2)
   go_meet
   case rel => exact ⟨_, (true), dq14, H', ⟨dq25⟩, ⟨dq35⟩, ⟨dq34⟩⟩
 case rest =>
  clear HC3
  try clear c1
  try clear p2
  try clear c5
  try clear c5b0
  try clear c5b1
  try clear c7
  try clear c10
  try clear hcz11_0
  try clear hcz11_1
  try clear hcz11_2
  try clear hcz11_3
  try clear hcz11_4
  try clear hcz11_5
  try clear hcz11_6
  try clear hcz13_0
  try clear hcz13_1
  try clear hcz13_2
  try clear hcz13_3
  try clear hcz13_4
  try clear hcz13_5
  try clear hcz13_6
  try clear hcz9_0
  try clear hcz9_1
  try clear hcz9_2
  try clear hcz9_3
  try clear hcz9_4
  try clear hcz9_5
  try clear hcz9_6
  try clear hfz11_0
  try clear hfz11_1
  try clear hfz11_2
  try clear hfz11_3
  try clear hfz11_4
  try clear hfz11_5
  try clear hfz11_6
  try clear hfz13_0
  try clear hfz13_1
  try clear hfz13_2
  try clear hfz13_3
  try clear hfz13_4
  try clear hfz13_5
  try clear hfz13_6
  try clear hfz9_0
  try clear hfz9_1
  try clear hfz9_2
  try clear hfz9_3
  try clear hfz9_4
  try clear hfz9_5
  try clear hfz9_6
  obtain ⟨kq, x19_2, rfl, HA, HJ2, BK141, HB⟩ := hcut
  cases kq with
  | zero => exact absurd HA.out (by simp [spec_ClassHas.j0])
  | succ kj2 =>
   have H := HA.out
   clear HA
   simp only [spec_ClassHas.j0] at H
   by_cases c14 : x19_2 = true
   ·subst c14
    have H1 : (some false) = some r := by rw [if_pos rfl] at H; exact H
    clear H
    have H := H1
    clear H1
    obtain rfl := Option.some.inj H
    go_wp2
    repeat (go_quiet (fail); try go_wp2)
    go_ret
    exact ⟨dq20, dq34⟩
   ·replace c14 := Bool.eq_false_iff.mpr c14
    subst c14
    have H1 : (spec_ClassHas.l0 kj2 a1 false 0 a0_0 a0_1 l0_2 a0_3 a0_4 a0_5 a0_6) = some r := by rw [if_neg (show ¬ (false = true) by decide)] at H; exact H
    clear H
    have H := H1
    clear H1
    have H' := Aside0.mk H
    clear H
    go_wp2
    repeat (go_quiet (fail); try go_wp2)
    go_loopg [5, 6] kj2 (fun kq v5 v6 w' => ∃ (x5_2 : Bool) (x6_2 : Int), v5 = .bool x5_2 ∧ v6 = .int .i64 x6_2 ∧ Aside0 (spec_ClassHas.l0 kq a1 x5_2 x6_2 a0_0 a0_1 l0_2 a0_3 a0_4 a0_5 a0_6 = some r) ∧ Aside0 (kq ≤ kj2) ∧ Aside0 (w'.heap[gb141]? = some (.cells #[.int .i64 a0_0, .bool a0_1, (.slice A0_2 l0_2.length c0_2), .int .i64 a0_3, .int .i64 a0_4, .int .i64 a0_5, .int .i64 a0_6] 93 (0, 0))) ∧ Aside0 (Below w.heap.size w w'))
    case atStart => exact ⟨(false), (0), dq14, dq14, H', ⟨Nat.le_refl _⟩, ⟨dq35⟩, ⟨dq34⟩⟩
    case round =>
     clear H'
     try clear c1
     try clear p2
     try clear c5
     try clear c5b0
     try clear c5b1
     try clear c7
     try clear c10
     try clear c14
     try clear hcz11_0
     try clear hcz11_1
     try clear hcz11_2
     try clear hcz11_3
     try clear hcz11_4
     try clear hcz11_5
     try clear hcz11_6
     try clear hcz13_0
     try clear hcz13_1
     try clear hcz13_2
     try clear hcz13_3
     try clear hcz13_4
     try clear hcz13_5
     try clear hcz13_6
     try clear hcz9_0
     try clear hcz9_1
     try clear hcz9_2
     try clear hcz9_3
     try clear hcz9_4
     try clear hcz9_5
     try clear hcz9_6
     try clear hfz11_0
     try clear hfz11_1
     try clear hfz11_2
     try clear hfz11_3
     try clear hfz11_4
     try clear hfz11_5
     try clear hfz11_6
     try clear hfz13_0
     try clear hfz13_1
     try clear hfz13_2
     try clear hfz13_3
     try clear hfz13_4
     try clear hfz13_5
     try clear hfz13_6
     try clear hfz9_0
     try clear hfz9_1
     try clear hfz9_2
     try clear hfz9_3
     try clear hfz9_4
     try clear hfz9_5
     try clear hfz9_6
     try clear p2
     obtain ⟨x5_2, x6_2, rfl, rfl, HA, HK2, BK141, HB⟩ := hrel
     cases gk with
     | zero => exact absurd HA.out (by simp [spec_ClassHas.l0])
     | succ k2 =>
      have H := HA.out
      clear HA
      simp only [spec_ClassHas.l0] at H
      by_cases c15 : x6_2 < (l0_2.length : Int)
      ·rw [if_pos c15] at H
       have c15b0 := decide_eq_true c15
       clear c15
       by_cases c16 : x5_2 = true
       ·subst c16
        have H1 : (spec_ClassHas.l0 k2 a1 true (wrap64 (x6_2 + 1)) a0_0 a0_1 l0_2 a0_3 a0_4 a0_5 a0_6) = some r := by rw [if_pos rfl] at H; exact H
        clear H
        have H := H1
        clear H1
        have H' := Aside0.mk H
        clear H
        obtain ⟨⟨hcz17_0, hcz17_1, hcz17_2, hcz17_3, hcz17_4, hcz17_5, hcz17_6⟩, hfz17_0, hfz17_1, hfz17_2, hfz17_3, hfz17_4, hfz17_5, hfz17_6⟩ := blkC7 BK141.out
        go_wp2
        repeat (go_quiet (fail); try go_wp2)
        go_roundg k2
        case measure => have := HJ2.out; have := HK2.out; omega
        case rel => exact ⟨(true), (wrap64 (x6_2 + 1)), dq14, dq14, H', ⟨by have := HJ2.out; have := HK2.out; omega⟩, ⟨dq35⟩, ⟨dq34⟩⟩
       ·replace c16 := Bool.eq_false_iff.mpr c16
        subst c16
        have H1 : (if 0 ≤ x6_2 then ((spec_l1In.f a1 ((rd_T100 l0_2 x6_2).f0) ((rd_T100 l0_2 x6_2).f1)).bind fun t146 => (spec_ClassHas.l0 k2 a1 t146 (wrap64 (x6_2 + 1)) a0_0 a0_1 l0_2 a0_3 a0_4 a0_5 a0_6)) else (none)) = some r := by rw [if_neg (show ¬ (false = true) by decide)] at H; exact H
        clear H
        have H := H1
        clear H1
        by_cases c18 : 0 ≤ x6_2
        ·rw [if_pos c18] at H
         have c18b0 := decide_eq_true c18
         clear c18
         replace H := Option.bind_eq_some_iff.mp H
         obtain ⟨t146, A190, H⟩ := H
         replace H : (spec_ClassHas.l0 k2 a1 t146 (wrap64 (x6_2 + 1)) a0_0 a0_1 l0_2 a0_3 a0_4 a0_5 a0_6) = some r := H
         have A19 := Aside0.mk A190
         clear A190
         have H' := Aside0.mk H
         clear H
         obtain ⟨⟨hcz20_0, hcz20_1, hcz20_2, hcz20_3, hcz20_4, hcz20_5, hcz20_6⟩, hfz20_0, hfz20_1, hfz20_2, hfz20_3, hfz20_4, hfz20_5, hfz20_6⟩ := blkC7 BK141.out
         have p144 : 0 ≤ (x6_2 : Int) := of_decide_eq_true dq21
         have q144 : x6_2 < (l0_2.length : Int) := of_decide_eq_true dq21
         obtain ⟨ad144, e144, hx144_0, hx144_1⟩ := at_T100 HR0_2.out x6_2 p144 q144
         cases e144
         replace hx144_0 := (HB.out.cell (World.block_lt_of_cell? w _ hx144_0)).trans hx144_0
         replace hx144_1 := (HB.out.cell (World.block_lt_of_cell? w _ hx144_1)).trans hx144_1
         replace p144 := eq_true p144
         replace q144 := eq_true q144
         have p145 : 0 ≤ (x6_2 : Int) := of_decide_eq_true dq21
         have q145 : x6_2 < (l0_2.length : Int) := of_decide_eq_true dq21
         obtain ⟨ad145, e145, hx145_0, hx145_1⟩ := at_T100 HR0_2.out x6_2 p145 q145
         obtain rfl : ad144 = ad145 := (by injection e145)
         replace hx145_0 := (HB.out.cell (World.block_lt_of_cell? w _ hx145_0)).trans hx145_0
         replace hx145_1 := (HB.out.cell (World.block_lt_of_cell? w _ hx145_1)).trans hx145_1
         replace p145 := eq_true p145
         replace q145 := eq_true q145
         go_wp2_with (first | (go_at_call 90; (with_reducible refine (spec_l1In.calls a1 ((rd_T100 l0_2 x6_2).f0) ((rd_T100 l0_2 x6_2).f1) t146 _ A19.out).mono ?_); rintro e w' ⟨rfl, ⟨nd, rfl⟩⟩; (try first | exact ⟨rfl, _, World.drewN_drewN _ _ _⟩ | exact ⟨rfl, _, Eq.trans (World.drewN_drewN _ _ _) (congrArg (World.drewN _) (Nat.add_assoc _ _ _))⟩)))
         repeat (go_quiet (first | (go_at_call 90; (with_reducible refine (spec_l1In.calls a1 ((rd_T100 l0_2 x6_2).f0) ((rd_T100 l0_2 x6_2).f1) t146 _ A19.out).mono ?_); rintro e w' ⟨rfl, ⟨nd, rfl⟩⟩; (try first | exact ⟨rfl, _, World.drewN_drewN _ _ _⟩ | exact ⟨rfl, _, Eq.trans (World.drewN_drewN _ _ _) (congrArg (World.drewN _) (Nat.add_assoc _ _ _))⟩))); try go_wp2_with (first | (go_at_call 90; (with_reducible refine (spec_l1In.calls a1 ((rd_T100 l0_2 x6_2).f0) ((rd_T100 l0_2 x6_2).f1) t146 _ A19.out).mono ?_); rintro e w' ⟨rfl, ⟨nd, rfl⟩⟩; (try first | exact ⟨rfl, _, World.drewN_drewN _ _ _⟩ | exact ⟨rfl, _, Eq.trans (World.drewN_drewN _ _ _) (congrArg (World.drewN _) (Nat.add_assoc _ _ _))⟩))))
         go_roundg k2
         case measure => have := HJ2.out; have := HK2.out; omega
         case rel => exact ⟨(t146), (wrap64 (x6_2 + 1)), dq14, dq14, H', ⟨by have := HJ2.out; have := HK2.out; omega⟩, ⟨dq35⟩, ⟨dq34⟩⟩
        ·rw [if_neg c18] at H
         exact absurd H dq23
      ·rw [if_neg c15] at H
       have c15b0 := decide_eq_false c15
       clear c15
       obtain rfl := Option.some.inj H
       obtain ⟨⟨hcz21_0, hcz21_1, hcz21_2, hcz21_3, hcz21_4, hcz21_5, hcz21_6⟩, hfz21_0, hfz21_1, hfz21_2, hfz21_3, hfz21_4, hfz21_5, hfz21_6⟩ := blkC7 BK141.out
       go_wp2
       repeat (go_quiet (fail); try go_wp2)
       go_ret
       exact ⟨dq20, dq34⟩

/-! ### spec_l6Step: function 74 -/
mutual
def spec_l6Step.l0 : Nat → List Int → List Bool → List Bool → Int → Int → Bool → List (S100) → Int → Int → Int → Int → Option (List Bool)
 | 0, _, _, _, _, _, _, _, _, _, _, _ => none
 | k + 1, x2, x3, x9, x11, x152000, x152001, x152002, x152003, x152004, x152005, x152006 => if x11 < (x2.length : Int) then (if 0 ≤ x11 then (if x11 < (x3.length : Int) then (if rdOf false x3 x11 = true then ((spec_ClassHas.f k x152000 x152001 x152002 x152003 x152004 x152005 x152006 (rd x2 x11)).bind fun t160 => (if t160 = true then (if 0 ≤ (wrap64 (x11 + 1)) then (if (wrap64 (x11 + 1)) < (x9.length : Int) then (spec_l6Step.l0 k x2 x3 (x9.set ((wrap64 (x11 + 1)) : Int).toNat true) (wrap64 (x11 + 1)) x152000 x152001 x152002 x152003 x152004 x152005 x152006) else (none)) else (none)) else (spec_l6Step.l0 k x2 x3 x9 (wrap64 (x11 + 1)) x152000 x152001 x152002 x152003 x152004 x152005 x152006))) else (spec_l6Step.l0 k x2 x3 x9 (wrap64 (x11 + 1)) x152000 x152001 x152002 x152003 x152004 x152005 x152006)) else (none)) else (none)) else (some x9)
def spec_l6Step.l1 : Nat → List Bool → List Bool → List Bool → Int → Option (List Bool)
 | 0, _, _, _, _ => none
 | k + 1, x9, x12, x13, x14 => if x14 < (x9.length : Int) then (if 0 ≤ x14 then (if x14 < (x12.length : Int) then (if rdOf false x12 x14 = true then (spec_l6Step.l1 k (x9.set (x14 : Int).toNat true) x12 x13 (wrap64 (x14 + 1))) else (if x14 < (x13.length : Int) then (spec_l6Step.l1 k (x9.set (x14 : Int).toNat (rdOf false x13 x14)) x12 x13 (wrap64 (x14 + 1))) else (none))) else (none)) else (none)) else (some x9)
def spec_l6Step.l2 : Nat → List (S93) → List Int → List Bool → Int → Int → Bool → List (S100) → Int → Int → Int → Int → Option (List Bool)
 | 0, _, _, _, _, _, _, _, _, _, _, _ => none
 | k + 1, x0, x2, x15, x16, x152000, x152001, x152002, x152003, x152004, x152005, x152006 => if x16 < x152005 then ((spec_l6Step.f k x0 x152003 x2 x15).bind fun t184 => (spec_l6Step.l2 k x0 x2 t184 (wrap64 (x16 + 1)) x152000 x152001 x152002 x152003 x152004 x152005 x152006)) else ((some (([] : List Bool) : List Bool)).bind fun y187 => (if y187.length + x15.length < 140737488355328 then (spec_l6Step.l3 k x0 x2 (y187 ++ x15) x15 x152005 x152000 x152001 x152002 x152003 x152004 x152005 x152006) else (none)))
def spec_l6Step.l3 : Nat → List (S93) → List Int → List Bool → List Bool → Int → Int → Bool → List (S100) → Int → Int → Int → Int → Option (List Bool)
 | 0, _, _, _, _, _, _, _, _, _, _, _, _ => none
 | k + 1, x0, x2, x9, x15, x17, x152000, x152001, x152002, x152003, x152004, x152005, x152006 => if x17 < x152006 then (spec_l6Step.j4 k x0 x2 x9 x15 x17 true x152000 x152001 x152002 x152003 x152004 x152005 x152006) else (spec_l6Step.j4 k x0 x2 x9 x15 x17 (x152006 == (-1)) x152000 x152001 x152002 x152003 x152004 x152005 x152006)
def spec_l6Step.j4 : Nat → List (S93) → List Int → List Bool → List Bool → Int → Bool → Int → Bool → List (S100) → Int → Int → Int → Int → Option (List Bool)
 | 0, _, _, _, _, _, _, _, _, _, _, _, _, _ => none
 | k + 1, x0, x2, x9, x15, x17, x134, x152000, x152001, x152002, x152003, x152004, x152005, x152006 => if x134 = true then ((spec_l6Step.f k x0 x152003 x2 x15).bind fun t193 => (spec_l6Step.l4 k x0 x2 x9 t193 x17 false 0 x152000 x152001 x152002 x152003 x152004 x152005 x152006)) else (some x9)
def spec_l6Step.l4 : Nat → List (S93) → List Int → List Bool → List Bool → Int → Bool → Int → Int → Bool → List (S100) → Int → Int → Int → Int → Option (List Bool)
 | 0, _, _, _, _, _, _, _, _, _, _, _, _, _, _ => none
 | k + 1, x0, x2, x9, x15, x17, x18, x19, x152000, x152001, x152002, x152003, x152004, x152005, x152006 => if x19 < (x9.length : Int) then (if x18 = true then (if 0 ≤ x19 then (if rdOf false x9 x19 = true then (spec_l6Step.l4 k x0 x2 (x9.set (x19 : Int).toNat true) x15 x17 true (wrap64 (x19 + 1)) x152000 x152001 x152002 x152003 x152004 x152005 x152006) else (if x19 < (x15.length : Int) then (spec_l6Step.l4 k x0 x2 (x9.set (x19 : Int).toNat (rdOf false x15 x19)) x15 x17 true (wrap64 (x19 + 1)) x152000 x152001 x152002 x152003 x152004 x152005 x152006) else (none))) else (none)) else (if 0 ≤ x19 then (if x19 < (x15.length : Int) then (if rdOf false x15 x19 = true then (if rdOf false x9 x19 = true then (spec_l6Step.l4 k x0 x2 (x9.set (x19 : Int).toNat true) x15 x17 (!(rdOf false x9 x19)) (wrap64 (x19 + 1)) x152000 x152001 x152002 x152003 x152004 x152005 x152006) else (spec_l6Step.l4 k x0 x2 (x9.set (x19 : Int).toNat (rdOf false x15 x19)) x15 x17 (!(rdOf false x9 x19)) (wrap64 (x19 + 1)) x152000 x152001 x152002 x152003 x152004 x152005 x152006)) else (if rdOf false x9 x19 = true then (spec_l6Step.l4 k x0 x2 (x9.set (x19 : Int).toNat true) x15 x17 false (wrap64 (x19 + 1)) x152000 x152001 x152002 x152003 x152004 x152005 x152006) else (spec_l6Step.l4 k x0 x2 (x9.set (x19 : Int).toNat (rdOf false x15 x19)) x15 x17 false (wrap64 (x19 + 1)) x152000 x152001 x152002 x152003 x152004 x152005 x152006))) else (none)) else (none))) else (if x18 = true then (if x152006 = (-1) then ((some (([] : List Bool) : List Bool)).bind fun y210 => (if y210.length + x9.length < 140737488355328 then (spec_l6Step.l3 k x0 x2 x9 (y210 ++ x9) (wrap64 (x17 + 1)) x152000 x152001 x152002 x152003 x152004 x152005 x152006) else (none))) else (spec_l6Step.l3 k x0 x2 x9 x15 (wrap64 (x17 + 1)) x152000 x152001 x152002 x152003 x152004 x152005 x152006)) else (some x9))
def spec_l6Step.f : Nat → List (S93) → Int → List Int → List Bool → Option (List Bool)
 | 0, _, _, _, _ => none
 | k + 1, l0, a1, l2, l3 => if 0 ≤ (l3.length : Int) then (if ((l3.length : Int) : Int).toNat ≤ 281474976710656 then ((some (List.replicate ((l3.length : Int) : Int).toNat false : List Bool)).bind fun y147 => (if 0 ≤ a1 then (if a1 < (l0.length : Int) then (if ((rd_T93 l0 a1).f0) = 1 then ((some (([] : List Bool) : List Bool)).bind fun y152 => (if y152.length + l3.length < 140737488355328 then (some (y152 ++ l3)) else (none))) else (if ((rd_T93 l0 a1).f0) = 2 then (spec_l6Step.l0 k l2 l3 y147 0 ((rd_T93 l0 a1).f0) ((rd_T93 l0 a1).f1) ((rd_T93 l0 a1).f2) ((rd_T93 l0 a1).f3) ((rd_T93 l0 a1).f4) ((rd_T93 l0 a1).f5) ((rd_T93 l0 a1).f6)) else (if ((rd_T93 l0 a1).f0) = 3 then ((spec_l6Step.f k l0 ((rd_T93 l0 a1).f3) l2 l3).bind fun t162 => ((spec_l6Step.f k l0 ((rd_T93 l0 a1).f4) l2 t162).bind fun t165 => (some t165))) else (if ((rd_T93 l0 a1).f0) = 4 then ((spec_l6Step.f k l0 ((rd_T93 l0 a1).f3) l2 l3).bind fun t168 => ((spec_l6Step.f k l0 ((rd_T93 l0 a1).f4) l2 l3).bind fun t171 => (spec_l6Step.l1 k y147 t168 t171 0))) else (if ((rd_T93 l0 a1).f0) = 5 then ((some (([] : List Bool) : List Bool)).bind fun y178 => (if y178.length + l3.length < 140737488355328 then (spec_l6Step.l2 k l0 l2 (y178 ++ l3) 0 ((rd_T93 l0 a1).f0) ((rd_T93 l0 a1).f1) ((rd_T93 l0 a1).f2) ((rd_T93 l0 a1).f3) ((rd_T93 l0 a1).f4) ((rd_T93 l0 a1).f5) ((rd_T93 l0 a1).f6)) else (none))) else (some y147)))))) else (none)) else (none))) else (none)) else (none)
end
def spec_l6Step.T10 : Bool × List (List Nat × List Nat) := (true, [([], []), ([], []), ([0, 1], [0, 1]), ([2], [2]), ([3], [3]), ([4], [4]), ([4], [4]), ([4], [4]), ([6, 7, 4], [4, 6, 7]), ([8, 4], [4, 8]), ([5, 9, 4, 4], [4, 5, 9]), ([4, 10], [4, 10])])
def spec_l6Step.B10 : List Nat := [0, 0, 3, 7, 15, 31, 31, 31, 223, 479, 1023, 2047]
theorem spec_l6Step.tab10 : rtab .any (opsOf Tryd.f74 10) = spec_l6Step.T10 := by kernel_rfl
theorem spec_l6Step.bits10 : waitsOk spec_l6Step.T10.2 spec_l6Step.B10 = true := by kernel_rfl
def spec_l6Step.T13 : Bool × List (List Nat × List Nat) := (true, [([], []), ([], []), ([1], [1]), ([], []), ([], []), ([], []), ([5], [5]), ([], []), ([], []), ([4, 6, 7, 8], [4, 6, 7, 8]), ([0, 2, 3, 9, 9], [0, 2, 3, 9]), ([10, 10, 0, 1, 2, 3, 4, 5, 6, 7, 8, 9, 10], [10])])
def spec_l6Step.B13 : List Nat := [0, 0, 2, 0, 0, 0, 32, 0, 0, 496, 1023, 2047]
theorem spec_l6Step.tab13 : rtab .any (opsOf Tryd.f74 13) = spec_l6Step.T13 := by kernel_rfl
theorem spec_l6Step.bits13 : waitsOk spec_l6Step.T13.2 spec_l6Step.B13 = true := by kernel_rfl
set_option maxHeartbeats 8000000 in
set_option maxRecDepth 100000 in
theorem spec_l6Step.calls (k : Nat) : ∀ (A0 : Option Addr) (c0 : Nat) (l0 : List (S93)) (a1 : Int) (A2 : Option Addr) (c2 : Nat) (l2 : List Int) (A3 : Option Addr) (c3 : Nat) (l3 : List Bool) (r : List Bool) (w : World) (hr0 : Kd.C k93 w A0 l0.length l0) (hc0 : l0.length ≤ c0) (hr2 : Kd.C (Kd.int .i64) w A2 l2.length l2) (hc2 : l2.length ≤ c2) (hr3 : Kd.C Kd.bool w A3 l3.length l3) (hc3 : l3.length ≤ c3) (h : spec_l6Step.f k l0 a1 l2 l3 = some r),
  Calls Tryd.prog 74 #[.slice A0 l0.length c0, .int .i64 a1, .slice A2 l2.length c2, .slice A3 l3.length c3] w fun e w' => ∃ v0_ : Value, e = .returned (v0_) ∧ Kd.R Kd.bool 4 w' w.heap.size (fun _ => True) v0_ r ∧ Below w.heap.size w w' := by
 induction k using Nat.strongRecOn with
 | _ k ih =>
 intro A0 c0 l0 a1 A2 c2 l2 A3 c3 l3 r w hr0 hc0 hr2 hc2 hr3 hc3 h
 cases k with
 | zero => exact absurd h (by simp [spec_l6Step.f])
 | succ k =>
 simp only [spec_l6Step.f] at h
 have hu93 := Tryd.underlying93
 have HR0 := Aside0.mk hr0
 have HC0 := Aside0.mk hc0
 clear hr0 hc0
 have HR2 := Aside0.mk hr2
 have HC2 := Aside0.mk hc2
 clear hr2 hc2
 have HR3 := Aside0.mk hr3
 have HC3 := Aside0.mk hc3
 clear hr3 hc3
 have HB := Aside0.mk (Below.refl w.heap.size w)
 have H : (if 0 ≤ (l3.length : Int) then (if ((l3.length : Int) : Int).toNat ≤ 281474976710656 then ((some (List.replicate ((l3.length : Int) : Int).toNat false : List Bool)).bind fun y147 => (if 0 ≤ a1 then (if a1 < (l0.length : Int) then (if ((rd_T93 l0 a1).f0) = 1 then ((some (([] : List Bool) : List Bool)).bind fun y152 => (if y152.length + l3.length < 140737488355328 then (some (y152 ++ l3)) else (none))) else (if ((rd_T93 l0 a1).f0) = 2 then (spec_l6Step.l0 k l2 l3 y147 0 ((rd_T93 l0 a1).f0) ((rd_T93 l0 a1).f1) ((rd_T93 l0 a1).f2) ((rd_T93 l0 a1).f3) ((rd_T93 l0 a1).f4) ((rd_T93 l0 a1).f5) ((rd_T93 l0 a1).f6)) else (if ((rd_T93 l0 a1).f0) = 3 then ((spec_l6Step.f k l0 ((rd_T93 l0 a1).f3) l2 l3).bind fun t162 => ((spec_l6Step.f k l0 ((rd_T93 l0 a1).f4) l2 t162).bind fun t165 => (some t165))) else (if ((rd_T93 l0 a1).f0) = 4 then ((spec_l6Step.f k l0 ((rd_T93 l0 a1).f3) l2 l3).bind fun t168 => ((spec_l6Step.f k l0 ((rd_T93 l0 a1).f4) l2 l3).bind fun t171 => (spec_l6Step.l1 k y147 t168 t171 0))) else (if ((rd_T93 l0 a1).f0) = 5 then ((some (([] : List Bool) : List Bool)).bind fun y178 => (if y178.length + l3.length < 140737488355328 then (spec_l6Step.l2 k l0 l2 (y178 ++ l3) 0 ((rd_T93 l0 a1).f0) ((rd_T93 l0 a1).f1) ((rd_T93 l0 a1).f2) ((rd_T93 l0 a1).f3) ((rd_T93 l0 a1).f4) ((rd_T93 l0 a1).f5) ((rd_T93 l0 a1).f6)) else (none))) else (some y147)))))) else (none)) else (none))) else (none)) else (none)) = some r := h
 clear h
 by_cases c5 : 0 ≤ (l3.length : Int)
 ·rw [if_pos c5] at H
  have c5b0 := eq_true c5
  have c5b1 := decide_eq_true c5
  clear c5
  by_cases c6 : ((l3.length : Int) : Int).toNat ≤ 281474976710656
  ·rw [if_pos c6] at H
   have c6b0 := eq_true c6
   have c6b1 := decide_eq_true c6
   clear c6
   obtain ⟨y147, hy147⟩ : ∃ y_ : List Bool, y_ = (List.replicate ((l3.length : Int) : Int).toNat false) := ⟨_, rfl⟩
   replace H : (if 0 ≤ a1 then (if a1 < (l0.length : Int) then (if ((rd_T93 l0 a1).f0) = 1 then ((some (([] : List Bool) : List Bool)).bind fun y152 => (if y152.length + l3.length < 140737488355328 then (some (y152 ++ l3)) else (none))) else (if ((rd_T93 l0 a1).f0) = 2 then (spec_l6Step.l0 k l2 l3 y147 0 ((rd_T93 l0 a1).f0) ((rd_T93 l0 a1).f1) ((rd_T93 l0 a1).f2) ((rd_T93 l0 a1).f3) ((rd_T93 l0 a1).f4) ((rd_T93 l0 a1).f5) ((rd_T93 l0 a1).f6)) else (if ((rd_T93 l0 a1).f0) = 3 then ((spec_l6Step.f k l0 ((rd_T93 l0 a1).f3) l2 l3).bind fun t162 => ((spec_l6Step.f k l0 ((rd_T93 l0 a1).f4) l2 t162).bind fun t165 => (some t165))) else (if ((rd_T93 l0 a1).f0) = 4 then ((spec_l6Step.f k l0 ((rd_T93 l0 a1).f3) l2 l3).bind fun t168 => ((spec_l6Step.f k l0 ((rd_T93 l0 a1).f4) l2 l3).bind fun t171 => (spec_l6Step.l1 k y147 t168 t171 0))) else (if ((rd_T93 l0 a1).f0) = 5 then ((some (([] : List Bool) : List Bool)).bind fun y178 => (if y178.length + l3.length < 140737488355328 then (spec_l6Step.l2 k l0 l2 (y178 ++ l3) 0 ((rd_T93 l0 a1).f0) ((rd_T93 l0 a1).f1) ((rd_T93 l0 a1).f2) ((rd_T93 l0 a1).f3) ((rd_T93 l0 a1).f4) ((rd_T93 l0 a1).f5) ((rd_T93 l0 a1).f6)) else (none))) else (some y147)))))) else (none)) else (none)) = some r := by first | (rw [hy147]; with_reducible exact H) | (have H2_ := (Option.bind_some _ _).symm.trans H; rw [hy147]; with_reducible exact H2_) | (have H2_ := (Option.bind_some _ _).symm.trans H; with_reducible exact H2_) | with_reducible exact H | (rw [hy147]; exact H) | exact H
   have Ny147 := Aside0.mk hy147
   clear hy147
   by_cases c7 : 0 ≤ a1
   ·rw [if_pos c7] at H
    have c7b0 := decide_eq_true c7
    clear c7
    by_cases c8 : a1 < (l0.length : Int)
    ·rw [if_pos c8] at H
     have c8b0 := decide_eq_true c8
     clear c8
     by_cases c9 : ((rd_T93 l0 a1).f0) = 1
     ·rw [if_pos c9] at H
      have c9b0 := beq_iff_eq.mpr c9
      have c9b1 := bne_eq_false_iff_eq.mpr c9
      clear c9
      obtain ⟨y152, hy152⟩ : ∃ y_ : List Bool, y_ = (([] : List Bool)) := ⟨_, rfl⟩
      replace H : (if y152.length + l3.length < 140737488355328 then (some (y152 ++ l3)) else (none)) = some r := by first | (rw [hy152]; with_reducible exact H) | (have H2_ := (Option.bind_some _ _).symm.trans H; rw [hy152]; with_reducible exact H2_) | (have H2_ := (Option.bind_some _ _).symm.trans H; with_reducible exact H2_) | with_reducible exact H | (rw [hy152]; exact H) | exact H
      have Ny152 := Aside0.mk hy152
      clear hy152
      by_cases c10 : y152.length + l3.length < 140737488355328
      ·rw [if_pos c10] at H
       have LMc10 := Aside0.mk c10
       clear c10
       obtain ⟨y155, hy155⟩ : ∃ y_ : List Bool, y_ = (y152 ++ l3) := ⟨_, rfl⟩
       replace H : (some y155) = some r := by first | (rw [hy155]; with_reducible exact H) | (have H2_ := (Option.bind_some _ _).symm.trans H; rw [hy155]; with_reducible exact H2_) | (have H2_ := (Option.bind_some _ _).symm.trans H; with_reducible exact H2_) | with_reducible exact H | (rw [hy155]; exact H) | exact H
       have Ny155 := Aside0.mk hy155
       clear hy155
       obtain rfl := Option.some.inj H
       go_enter Tryd.func74, Tryd.ntmps74
       go_wp2_with (first | ((with_reducible refine gate_dst (N := 22) rfl ?_); refine Kd.R_make Kd.bool _ 4 rfl (N := 22) rfl 89 _ _ rfl (l3.length : Int) rfl rfl Tryd.underlying89 (.bool false) 1 info4 rfl dq28 dq24 false (ok := fun _ => True) (okp := fun _ => True) rfl (fun _ hk => hk) trivial (of_decide_eq_true dq21) (Nat.le_trans (Nat.mul_le_mul_right _ (of_decide_eq_true dq21 : (l3.length : Int).toNat ≤ 281474976710656)) dq24) (Below.refl _ _) (Nat.le_refl _) ?_; intro v148 w11 ho12 hb hg_ hnew_; clear hg_ hnew_; (first | rw [← Ny147.out] at ho12 | (simp only [Int.reduceToNat] at ho12; rw [← Ny147.out] at ho12)); have n0_ := Aside0.mk (Kd.R_lower ho12 (below_size dq18)); have n1_ := Aside0.mk (below_step dq18 hb); clear HB; have HO149 := n0_; have HB := n1_; clear n0_ n1_; clear hb ho12; have p150 : 0 ≤ (a1 : Int) := of_decide_eq_true dq21; have q150 : a1 < (l0.length : Int) := of_decide_eq_true dq21; obtain ⟨ad150, A150_2, c150_2, e150, hx150_0, hx150_1, hx150_2, hx150_3, hx150_4, hx150_5, hx150_6, hl150_2, hi150_2⟩ := at_T93 HR0.out a1 p150 q150; cases e150; replace hx150_0 := (HB.out.cell (World.block_lt_of_cell? w _ hx150_0)).trans hx150_0; replace hx150_1 := (HB.out.cell (World.block_lt_of_cell? w _ hx150_1)).trans hx150_1; replace hx150_2 := (HB.out.cell (World.block_lt_of_cell? w _ hx150_2)).trans hx150_2; replace hx150_3 := (HB.out.cell (World.block_lt_of_cell? w _ hx150_3)).trans hx150_3; replace hx150_4 := (HB.out.cell (World.block_lt_of_cell? w _ hx150_4)).trans hx150_4; replace hx150_5 := (HB.out.cell (World.block_lt_of_cell? w _ hx150_5)).trans hx150_5; replace hx150_6 := (HB.out.cell (World.block_lt_of_cell? w _ hx150_6)).trans hx150_6; have HR150_2 := Aside0.mk hi150_2; have HC150_2 := Aside0.mk hl150_2; clear hi150_2 hl150_2; replace p150 := eq_true p150; replace q150 := eq_true q150) | ((with_reducible refine gate_dst (N := 10) rfl ?_); refine box_event ?hg (N := 10) ?hd (cs := #[.int .i64 0, .bool false, .slice none 0 0, .int .i64 0, .int .i64 0, .int .i64 0, .int .i64 0]) (t := 93) ?hr ?_; (case hd => rfl); (case hg => rfl); (case hr => exact dq0); intro gb151 hg w13 hbox hb; have n0_ := Aside0.mk (Kd.R_below dq37 hb); have n1_ := Aside0.mk (below_step dq18 hb); have n2_ := Aside0.mk (hbox); have n3_ := Aside0.mk ((dq17 : w.heap.size ≤ gb151)); have n4_ := Aside0.mk ((dq17 : w.heap.size ≤ gb151)); clear HO149; clear HB; have HO149 := n0_; have HB := n1_; have BK151 := n2_; have GW151 := n3_; have GE151 := n4_; clear n0_ n1_ n2_ n3_ n4_; clear hb hbox hg; obtain ⟨⟨hcz14_0, hcz14_1, hcz14_2, hcz14_3, hcz14_4, hcz14_5, hcz14_6⟩, hfz14_0, hfz14_1, hfz14_2, hfz14_3, hfz14_4, hfz14_5, hfz14_6⟩ := blkC7 BK151.out) | ((with_reducible refine gate_dst (N := 31) rfl ?_); refine Kd.R_lit Kd.bool _ 4 ?hg (N := 31) ?hd (xs := ([] : List Bool)) (inner := []) (ok := fun _ => True) (okp := fun _ => True) ?hr ?hp (fun _ hk => hk) trivial (Below.refl _ _) (Nat.le_refl _) dq23 ?_; (case hd => rfl); (case hg => rfl); (case hr => exact dq0); (case hp => exact (Reps.none _ _)); intro v153 w15 ho16 hb hg_ hnew_; clear hg_ hnew_; (first | rw [← Ny152.out] at ho16 | (simp only [Int.reduceToNat] at ho16; rw [← Ny152.out] at ho16)); have n0_ := Aside0.mk (Kd.R_elder' dq40 (Kd.R_base ho16) hb); have n1_ := Aside0.mk (Kd.R_lower (Kd.R_new' ho16 (Kd.R_lt dq40)) (below_size dq38)); have n2_ := Aside0.mk (blk_below (g := gb151) (o := .cells #[.int .i64 ((rd_T93 l0 a1).f0), .bool ((rd_T93 l0 a1).f1), .slice A150_2 ((rd_T93 l0 a1).f2).length c150_2, .int .i64 ((rd_T93 l0 a1).f3), .int .i64 ((rd_T93 l0 a1).f4), .int .i64 ((rd_T93 l0 a1).f5), .int .i64 ((rd_T93 l0 a1).f6)] 93 (0, 0)) dq39 hb); have n3_ := Aside0.mk (below_step dq38 hb); clear HO149; clear BK151; clear HB; have HO149 := n0_; have HO154 := n1_; have BK151 := n2_; have HB := n3_; clear n0_ n1_ n2_ n3_; clear hb ho16) | ((with_reducible refine gate_builtin (b := .append) (xs := #[.tmp 31, .tmp 32]) rfl ?_); at_builtin; refine Kd.R_append_rows Kd.bool (w0 := w) w.heap.size rfl (.tmp 31) (.tmp 32) 89 4 (.bool false) 1 rfl Tryd.underlying89 info4 rfl dq28 dq24 v153 y152 l3 _ _ _ (fun k_ => some k_ ≠ (v148 : Value).ownBlock) (fun _ => False) rfl rfl ?aO ?aR (fun _ _ h => h) (fun _ h => h.elim) ?aF ?aB ?aS ?aL ?_; (case aR => repeat (first | exact (Kd.C_below HR3.out HB.out) | (with_reducible refine Kd.C_alloc ?_ _) | (with_reducible refine Kd.C_drewN ?_ _) | (with_reducible refine Kd.C_drew ?_))); (case aB => exact dq38); (case aF => exact (fun k_ hk => Kd.fresh' (Kd.R_lt dq37) k_ hk)); (case aO => exact (by (with_reducible repeat (first | apply Kd.R_alloc | apply Kd.R_drewN | apply Kd.R_drew)); exact Kd.R_mono HO154.out (fun _ hk => hk.2))); (case aS => exact (below_size dq38)); (case aL => have := LMc10.out; omega); intro v156 w17 ho hb hg hat; rw [← Ny155.out] at ho; have n0_ := Aside0.mk (Kd.R_after (ok := (fun _ => True)) dq37 hg hat); have n1_ := Aside0.mk (blk_grown (g := gb151) (o := .cells #[.int .i64 ((rd_T93 l0 a1).f0), .bool ((rd_T93 l0 a1).f1), .slice A150_2 ((rd_T93 l0 a1).f2).length c150_2, .int .i64 ((rd_T93 l0 a1).f3), .int .i64 ((rd_T93 l0 a1).f4), .int .i64 ((rd_T93 l0 a1).f5), .int .i64 ((rd_T93 l0 a1).f6)] 93 (0, 0)) dq36 hg (Kd.R_ne HO154.out BK151.out dq28)); have n2_ := Aside0.mk (hb); have n3_ := Aside0.mk (ho); clear HO149; clear BK151; clear HB; clear HO154; have HO149 := n0_; have BK151 := n1_; have HB := n2_; have HO157 := n3_; clear n0_ n1_ n2_ n3_; clear ho hb hg hat))
       go_ret
       exact ⟨_, dq20, by (with_reducible repeat (first | apply Kd.R_alloc | apply Kd.R_drewN | apply Kd.R_drew)); exact Kd.R_mono HO157.out (fun _ hk => trivial), dq38⟩
      ·rw [if_neg c10] at H
       exact absurd H dq23
     ·rw [if_neg c9] at H
      have c9b0 := beq_eq_false_iff_ne.mpr c9
      have c9b1 := bne_iff_ne.mpr c9
      by_cases c18 : ((rd_T93 l0 a1).f0) = 2
      ·rw [if_pos c18] at H
       have c18b0 := beq_iff_eq.mpr c18
       have c18b1 := bne_eq_false_iff_eq.mpr c18
       clear c18
       have H' := Aside0.mk H
       clear H
       go_enter Tryd.func74, Tryd.ntmps74
       go_wp2_with (first | ((with_reducible refine gate_dst (N := 22) rfl ?_); refine Kd.R_make Kd.bool _ 4 rfl (N := 22) rfl 89 _ _ rfl (l3.length : Int) rfl rfl Tryd.underlying89 (.bool false) 1 info4 rfl dq28 dq24 false (ok := fun _ => True) (okp := fun _ => True) rfl (fun _ hk => hk) trivial (of_decide_eq_true dq21) (Nat.le_trans (Nat.mul_le_mul_right _ (of_decide_eq_true dq21 : (l3.length : Int).toNat ≤ 281474976710656)) dq24) (Below.refl _ _) (Nat.le_refl _) ?_; intro v148 w19 ho20 hb hg_ hnew_; clear hg_ hnew_; (first | rw [← Ny147.out] at ho20 | (simp only [Int.reduceToNat] at ho20; rw [← Ny147.out] at ho20)); have n0_ := Aside0.mk (Kd.R_lower ho20 (below_size dq18)); have n1_ := Aside0.mk (below_step dq18 hb); clear HB; have HO149 := n0_; have HB := n1_; clear n0_ n1_; clear hb ho20; have p150 : 0 ≤ (a1 : Int) := of_decide_eq_true dq21; have q150 : a1 < (l0.length : Int) := of_decide_eq_true dq21; obtain ⟨ad150, A150_2, c150_2, e150, hx150_0, hx150_1, hx150_2, hx150_3, hx150_4, hx150_5, hx150_6, hl150_2, hi150_2⟩ := at_T93 HR0.out a1 p150 q150; cases e150; replace hx150_0 := (HB.out.cell (World.block_lt_of_cell? w _ hx150_0)).trans hx150_0; replace hx150_1 := (HB.out.cell (World.block_lt_of_cell? w _ hx150_1)).trans hx150_1; replace hx150_2 := (HB.out.cell (World.block_lt_of_cell? w _ hx150_2)).trans hx150_2; replace hx150_3 := (HB.out.cell (World.block_lt_of_cell? w _ hx150_3)).trans hx150_3; replace hx150_4 := (HB.out.cell (World.block_lt_of_cell? w _ hx150_4)).trans hx150_4; replace hx150_5 := (HB.out.cell (World.block_lt_of_cell? w _ hx150_5)).trans hx150_5; replace hx150_6 := (HB.out.cell (World.block_lt_of_cell? w _ hx150_6)).trans hx150_6; have HR150_2 := Aside0.mk hi150_2; have HC150_2 := Aside0.mk hl150_2; clear hi150_2 hl150_2; replace p150 := eq_true p150; replace q150 := eq_true q150) | ((with_reducible refine gate_dst (N := 10) rfl ?_); refine box_event ?hg (N := 10) ?hd (cs := #[.int .i64 0, .bool false, .slice none 0 0, .int .i64 0, .int .i64 0, .int .i64 0, .int .i64 0]) (t := 93) ?hr ?_; (case hd => rfl); (case hg => rfl); (case hr => exact dq0); intro gb151 hg w21 hbox hb; have n0_ := Aside0.mk (Kd.R_below dq37 hb); have n1_ := Aside0.mk (below_step dq18 hb); have n2_ := Aside0.mk (hbox); have n3_ := Aside0.mk ((dq17 : w.heap.size ≤ gb151)); have n4_ := Aside0.mk ((dq17 : w.heap.size ≤ gb151)); clear HO149; clear HB; have HO149 := n0_; have HB := n1_; have BK151 := n2_; have GW151 := n3_; have GE151 := n4_; clear n0_ n1_ n2_ n3_ n4_; clear hb hbox hg; obtain ⟨⟨hcz22_0, hcz22_1, hcz22_2, hcz22_3, hcz22_4, hcz22_5, hcz22_6⟩, hfz22_0, hfz22_1, hfz22_2, hfz22_3, hfz22_4, hfz22_5, hfz22_6⟩ := blkC7 BK151.out))
       go_loopg [11] k (fun kq v11 w' => ∃ (x9_1 : List Bool) (x11_1 : Int), v11 = .int .i64 x11_1 ∧ Aside0 (spec_l6Step.l0 kq l2 l3 x9_1 x11_1 ((rd_T93 l0 a1).f0) ((rd_T93 l0 a1).f1) ((rd_T93 l0 a1).f2) ((rd_T93 l0 a1).f3) ((rd_T93 l0 a1).f4) ((rd_T93 l0 a1).f5) ((rd_T93 l0 a1).f6) = some r) ∧ Aside0 (kq ≤ k) ∧ Aside0 (Kd.R Kd.bool 4 w' w.heap.size (fun _ => True) v148 x9_1) ∧ Aside0 (w'.heap[gb151]? = some (.cells #[.int .i64 ((rd_T93 l0 a1).f0), .bool ((rd_T93 l0 a1).f1), (.slice A150_2 ((rd_T93 l0 a1).f2).length c150_2), .int .i64 ((rd_T93 l0 a1).f3), .int .i64 ((rd_T93 l0 a1).f4), .int .i64 ((rd_T93 l0 a1).f5), .int .i64 ((rd_T93 l0 a1).f6)] 93 (0, 0))) ∧ Aside0 (Below w.heap.size w w'))
       case atStart => exact ⟨(y147), (0), dq14, H', ⟨Nat.le_refl _⟩, ⟨dq41⟩, ⟨dq39⟩, ⟨dq38⟩⟩
       case round =>
        clear H'
        try clear c1
        try clear p1
        try clear q1
        try clear hx1
        try clear c2
        try clear p2
        try clear c3
        try clear c5
        try clear c5b0
        try clear c5b1
        try clear c6
        try clear c6b0
        try clear c6b1
        try clear c7
        try clear c7b0
        try clear c8
        try clear c8b0
        try clear c9
        try clear c9b0
        try clear c9b1
        try clear c10
        try clear c15
        try clear p15
        try clear q15
        try clear hx15
        try clear c18
        try clear c18b0
        try clear c18b1
        try clear hcz14_0
        try clear hcz14_1
        try clear hcz14_2
        try clear hcz14_3
        try clear hcz14_4
        try clear hcz14_5
        try clear hcz14_6
        try clear hcz22_0
        try clear hcz22_1
        try clear hcz22_2
        try clear hcz22_3
        try clear hcz22_4
        try clear hcz22_5
        try clear hcz22_6
        try clear hfz14_0
        try clear hfz14_1
        try clear hfz14_2
        try clear hfz14_3
        try clear hfz14_4
        try clear hfz14_5
        try clear hfz14_6
        try clear hfz22_0
        try clear hfz22_1
        try clear hfz22_2
        try clear hfz22_3
        try clear hfz22_4
        try clear hfz22_5
        try clear hfz22_6
        try clear hx150_0
        try clear hx150_1
        try clear hx150_2
        try clear hx150_3
        try clear hx150_4
        try clear hx150_5
        try clear hx150_6
        try clear p150
        try clear q150
        obtain ⟨x9_1, x11_1, rfl, HA, HK1, HO_9, BK151, HB⟩ := hrel
        cases gk with
        | zero => exact absurd HA.out (by simp [spec_l6Step.l0])
        | succ k1 =>
         have H := HA.out
         clear HA
         simp only [spec_l6Step.l0] at H
         by_cases c23 : x11_1 < (l2.length : Int)
         ·rw [if_pos c23] at H
          have c23b0 := decide_eq_true c23
          clear c23
          by_cases c24 : 0 ≤ x11_1
          ·rw [if_pos c24] at H
           have c24b0 := decide_eq_true c24
           clear c24
           by_cases c25 : x11_1 < (l3.length : Int)
           ·rw [if_pos c25] at H
            have c25b0 := decide_eq_true c25
            clear c25
            obtain ⟨bq26, hbq26⟩ : ∃ b_ : Bool, b_ = (rdOf false l3 x11_1) := ⟨_, rfl⟩
            replace H : (if bq26 = true then ((spec_ClassHas.f k1 ((rd_T93 l0 a1).f0) ((rd_T93 l0 a1).f1) ((rd_T93 l0 a1).f2) ((rd_T93 l0 a1).f3) ((rd_T93 l0 a1).f4) ((rd_T93 l0 a1).f5) ((rd_T93 l0 a1).f6) (rd l2 x11_1)).bind fun t160 => (if t160 = true then (if 0 ≤ (wrap64 (x11_1 + 1)) then (if (wrap64 (x11_1 + 1)) < (x9_1.length : Int) then (spec_l6Step.l0 k1 l2 l3 (x9_1.set ((wrap64 (x11_1 + 1)) : Int).toNat true) (wrap64 (x11_1 + 1)) ((rd_T93 l0 a1).f0) ((rd_T93 l0 a1).f1) ((rd_T93 l0 a1).f2) ((rd_T93 l0 a1).f3) ((rd_T93 l0 a1).f4) ((rd_T93 l0 a1).f5) ((rd_T93 l0 a1).f6)) else (none)) else (none)) else (spec_l6Step.l0 k1 l2 l3 x9_1 (wrap64 (x11_1 + 1)) ((rd_T93 l0 a1).f0) ((rd_T93 l0 a1).f1) ((rd_T93 l0 a1).f2) ((rd_T93 l0 a1).f3) ((rd_T93 l0 a1).f4) ((rd_T93 l0 a1).f5) ((rd_T93 l0 a1).f6)))) else (spec_l6Step.l0 k1 l2 l3 x9_1 (wrap64 (x11_1 + 1)) ((rd_T93 l0 a1).f0) ((rd_T93 l0 a1).f1) ((rd_T93 l0 a1).f2) ((rd_T93 l0 a1).f3) ((rd_T93 l0 a1).f4) ((rd_T93 l0 a1).f5) ((rd_T93 l0 a1).f6))) = some r := by rw [← hbq26] at H; exact H
            have Nbq26 := Aside0.mk hbq26
            clear hbq26
            by_cases c27 : bq26 = true
            ·subst c27
             have H1 : ((spec_ClassHas.f k1 ((rd_T93 l0 a1).f0) ((rd_T93 l0 a1).f1) ((rd_T93 l0 a1).f2) ((rd_T93 l0 a1).f3) ((rd_T93 l0 a1).f4) ((rd_T93 l0 a1).f5) ((rd_T93 l0 a1).f6) (rd l2 x11_1)).bind fun t160 => (if t160 = true then (if 0 ≤ (wrap64 (x11_1 + 1)) then (if (wrap64 (x11_1 + 1)) < (x9_1.length : Int) then (spec_l6Step.l0 k1 l2 l3 (x9_1.set ((wrap64 (x11_1 + 1)) : Int).toNat true) (wrap64 (x11_1 + 1)) ((rd_T93 l0 a1).f0) ((rd_T93 l0 a1).f1) ((rd_T93 l0 a1).f2) ((rd_T93 l0 a1).f3) ((rd_T93 l0 a1).f4) ((rd_T93 l0 a1).f5) ((rd_T93 l0 a1).f6)) else (none)) else (none)) else (spec_l6Step.l0 k1 l2 l3 x9_1 (wrap64 (x11_1 + 1)) ((rd_T93 l0 a1).f0) ((rd_T93 l0 a1).f1) ((rd_T93 l0 a1).f2) ((rd_T93 l0 a1).f3) ((rd_T93 l0 a1).f4) ((rd_T93 l0 a1).f5) ((rd_T93 l0 a1).f6)))) = some r := by rw [if_pos rfl] at H; exact H
             clear H
             have H := H1
             clear H1
             replace H := Option.bind_eq_some_iff.mp H
             obtain ⟨t160, A280, H⟩ := H
             replace H : (if t160 = true then (if 0 ≤ (wrap64 (x11_1 + 1)) then (if (wrap64 (x11_1 + 1)) < (x9_1.length : Int) then (spec_l6Step.l0 k1 l2 l3 (x9_1.set ((wrap64 (x11_1 + 1)) : Int).toNat true) (wrap64 (x11_1 + 1)) ((rd_T93 l0 a1).f0) ((rd_T93 l0 a1).f1) ((rd_T93 l0 a1).f2) ((rd_T93 l0 a1).f3) ((rd_T93 l0 a1).f4) ((rd_T93 l0 a1).f5) ((rd_T93 l0 a1).f6)) else (none)) else (none)) else (spec_l6Step.l0 k1 l2 l3 x9_1 (wrap64 (x11_1 + 1)) ((rd_T93 l0 a1).f0) ((rd_T93 l0 a1).f1) ((rd_T93 l0 a1).f2) ((rd_T93 l0 a1).f3) ((rd_T93 l0 a1).f4) ((rd_T93 l0 a1).f5) ((rd_T93 l0 a1).f6))) = some r := H
             have A28 := Aside0.mk A280
             clear A280
             by_cases c29 : t160 = true
             ·subst c29
              have H1 : (if 0 ≤ (wrap64 (x11_1 + 1)) then (if (wrap64 (x11_1 + 1)) < (x9_1.length : Int) then (spec_l6Step.l0 k1 l2 l3 (x9_1.set ((wrap64 (x11_1 + 1)) : Int).toNat true) (wrap64 (x11_1 + 1)) ((rd_T93 l0 a1).f0) ((rd_T93 l0 a1).f1) ((rd_T93 l0 a1).f2) ((rd_T93 l0 a1).f3) ((rd_T93 l0 a1).f4) ((rd_T93 l0 a1).f5) ((rd_T93 l0 a1).f6)) else (none)) else (none)) = some r := by rw [if_pos rfl] at H; exact H
              clear H
              have H := H1
              clear H1
              obtain ⟨ji30, hji30⟩ : ∃ j_ : Int, (wrap64 (x11_1 + 1)) = j_ := ⟨_, rfl⟩
              replace H : (if 0 ≤ (ji30) then (if (ji30) < (x9_1.length : Int) then (spec_l6Step.l0 k1 l2 l3 (x9_1.set ((ji30) : Int).toNat true) ji30 ((rd_T93 l0 a1).f0) ((rd_T93 l0 a1).f1) ((rd_T93 l0 a1).f2) ((rd_T93 l0 a1).f3) ((rd_T93 l0 a1).f4) ((rd_T93 l0 a1).f5) ((rd_T93 l0 a1).f6)) else (none)) else (none)) = some r := by first | (rw [hji30] at H; exact H) | (simp only [hji30] at H ⊢; exact H)
              (try rw [hji30] at A28)
              have hji30w : (IntKind.i64.wrap (x11_1 + 1)) = ji30 := (i64_w _).trans hji30
              by_cases c31 : 0 ≤ (ji30)
              ·rw [if_pos c31] at H
               have c31b0 := decide_eq_true c31
               clear c31
               by_cases c32 : (ji30) < (x9_1.length : Int)
               ·rw [if_pos c32] at H
                have c32b0 := decide_eq_true c32
                clear c32
                obtain ⟨y161, hy161⟩ : ∃ y_ : List Bool, y_ = (x9_1.set ((ji30) : Int).toNat true) := ⟨_, rfl⟩
                replace H : (spec_l6Step.l0 k1 l2 l3 y161 ji30 ((rd_T93 l0 a1).f0) ((rd_T93 l0 a1).f1) ((rd_T93 l0 a1).f2) ((rd_T93 l0 a1).f3) ((rd_T93 l0 a1).f4) ((rd_T93 l0 a1).f5) ((rd_T93 l0 a1).f6)) = some r := by first | (rw [hy161]; with_reducible exact H) | (have H2_ := (Option.bind_some _ _).symm.trans H; rw [hy161]; with_reducible exact H2_) | (have H2_ := (Option.bind_some _ _).symm.trans H; with_reducible exact H2_) | with_reducible exact H | (rw [hy161]; exact H) | exact H
                have Ny161 := Aside0.mk hy161
                clear hy161
                have H' := Aside0.mk H
                clear H
                try go_wp2
                have n0_ := Aside0.mk (Kd.R_drew HO_9.out)
                have n1_ := Aside0.mk (blk_drew BK151.out)
                have n2_ := Aside0.mk (below_drew1 HB.out)
                clear HO_9
                clear BK151
                clear HB
                have HO_9 := n0_
                have BK151 := n1_
                have HB := n2_
                clear n0_ n1_ n2_
                have p158 : 0 ≤ (x11_1 : Int) := of_decide_eq_true dq21
                have q158 : x11_1 < (l3.length : Int) := of_decide_eq_true dq21
                obtain ⟨ad158, e158, hx158_0⟩ := Kd.at_bool HR3.out x11_1 p158 q158
                (try rw [← Nbq26.out] at hx158_0)
                have hw158_0 := hx158_0
                cases e158
                replace hx158_0 := (HB.out.cell (World.block_lt_of_cell? w _ hx158_0)).trans hx158_0
                replace p158 := eq_true p158
                replace q158 := eq_true q158
                have p159 : 0 ≤ (x11_1 : Int) := of_decide_eq_true dq21
                have q159 : x11_1 < (l2.length : Int) := of_decide_eq_true dq21
                obtain ⟨ad159, e159, hx159_0⟩ := Kd.at_int HR2.out x11_1 p159 q159
                have hw159_0 := hx159_0
                cases e159
                replace hx159_0 := (HB.out.cell (World.block_lt_of_cell? w _ hx159_0)).trans hx159_0
                replace p159 := eq_true p159
                replace q159 := eq_true q159
                refine start_ (n := 12) (S := fun w' => w'.cell? ⟨gb151, 0, none⟩ = some (.int .i64 ((rd_T93 l0 a1).f0)) ∧ w'.cell? ⟨gb151, 1, none⟩ = some (.bool ((rd_T93 l0 a1).f1)) ∧ w'.cell? ⟨gb151, 2, none⟩ = some (.slice A150_2 ((rd_T93 l0 a1).f2).length c150_2) ∧ w'.cell? ⟨gb151, 3, none⟩ = some (.int .i64 ((rd_T93 l0 a1).f3)) ∧ w'.cell? ⟨gb151, 4, none⟩ = some (.int .i64 ((rd_T93 l0 a1).f4)) ∧ w'.cell? ⟨gb151, 5, none⟩ = some (.int .i64 ((rd_T93 l0 a1).f5)) ∧ w'.cell? ⟨gb151, 6, none⟩ = some (.int .i64 ((rd_T93 l0 a1).f6)) ∧ w'.cell? (ad158.add (x11_1).toNat) = some (.bool true) ∧ w'.cell? (ad159.add (x11_1).toNat) = some (.int .i64 (rd l2 x11_1))) (ds := []) #[false, false, false, false, false, false, false, false, false, false, false, false] dq16 rfl rfl ⟨(blk_cell BK151.out 0).trans rfl, (blk_cell BK151.out 1).trans rfl, (blk_cell BK151.out 2).trans rfl, (blk_cell BK151.out 3).trans rfl, (blk_cell BK151.out 4).trans rfl, (blk_cell BK151.out 5).trans rfl, (blk_cell BK151.out 6).trans rfl, ((HB.out.cell (World.block_lt_of_cell? w _ hw158_0)).trans hw158_0), ((HB.out.cell (World.block_lt_of_cell? w _ hw159_0)).trans hw159_0)⟩ (fun hHeld => ?_); refine with_tabW spec_l6Step.tab10 spec_l6Step.bits10 (fun HT_ HW_ => ?_)
                generalize wr.drew = w34 at HO_9 BK151 HB hx158_0 hx159_0 hHeld ⊢
                refine pureA (i := 0) (N := some 42) #[true, false, false, false, false, false, false, false, false, false, false, false] ?_
                refine pureA (i := 1) (N := some 43) #[true, true, false, false, false, false, false, false, false, false, false, false] ?_
                refine pureA (i := 2) (N := some 44) #[true, true, true, false, false, false, false, false, false, false, false, false] ?_
                refine takeA9 (i := 3) (N := some 45) #[true, true, true, true, false, false, false, false, false, false, false, false] ?_
                refine pureA (i := 4) (N := some 46) #[true, true, true, true, true, false, false, false, false, false, false, false] ?_
                refine pureA (i := 6) (N := some 48) #[true, true, true, true, true, false, true, false, false, false, false, false] ?_
                refine pureA (i := 7) (N := some 49) #[true, true, true, true, true, false, true, true, false, false, false, false] ?_
                refine pureA (i := 8) (N := some 50) #[true, true, true, true, true, false, true, true, true, false, false, false] ?_
                refine takeA9 (i := 5) (N := some 47) #[true, true, true, true, true, true, true, true, true, false, false, false] ?_
                refine takeA9 (i := 9) (N := some 51) #[true, true, true, true, true, true, true, true, true, true, false, false] ?_
                refine one_ (i := 10) (N := some 52) #[true, true, true, true, true, true, true, true, true, true, true, false] rfl rfl (one_of HT_.out dq16) dq28 (fun K hK => ?_)
                refine goes_ Tryd.func109 dq16 rfl #[.agg #[.int .i64 ((rd_T93 l0 a1).f0), .bool ((rd_T93 l0 a1).f1), .slice A150_2 ((rd_T93 l0 a1).f2).length c150_2, .int .i64 ((rd_T93 l0 a1).f3), .int .i64 ((rd_T93 l0 a1).f4), .int .i64 ((rd_T93 l0 a1).f5), .int .i64 ((rd_T93 l0 a1).f6)], .int .i64 (rd l2 x11_1)] dq29 rfl rfl dq15 ?_
                with_reducible refine (spec_ClassHas.calls k1 ((rd_T93 l0 a1).f0) ((rd_T93 l0 a1).f1) _ _ ((rd_T93 l0 a1).f2) ((rd_T93 l0 a1).f3) ((rd_T93 l0 a1).f4) ((rd_T93 l0 a1).f5) ((rd_T93 l0 a1).f6) (rd l2 x11_1) true _ ?side1 ?side2 A28.out).mono ?_
                (case side1 => repeat (first | exact (Kd.C_below HR150_2.out HB.out) | (with_reducible refine Kd.C_alloc ?_ _) | (with_reducible refine Kd.C_drewN ?_ _) | (with_reducible refine Kd.C_drew ?_)))
                (case side2 => exact HC150_2.out)
                rintro e w35 ⟨rfl, hb⟩
                refine ⟨_, rfl, ?_⟩
                have n0_ := Aside0.mk (Kd.R_below dq42 hb)
                have n1_ := Aside0.mk (blk_below (g := gb151) (o := .cells #[.int .i64 ((rd_T93 l0 a1).f0), .bool ((rd_T93 l0 a1).f1), .slice A150_2 ((rd_T93 l0 a1).f2).length c150_2, .int .i64 ((rd_T93 l0 a1).f3), .int .i64 ((rd_T93 l0 a1).f4), .int .i64 ((rd_T93 l0 a1).f5), .int .i64 ((rd_T93 l0 a1).f6)] 93 (0, 0)) dq36 hb)
                have n2_ := Aside0.mk (below_step dq38 hb)
                clear HO_9
                clear BK151
                clear HB
                have HO_9 := n0_
                have BK151 := n1_
                have HB := n2_
                clear n0_ n1_ n2_
                (try clear hb)
                (try clear hb2)
                (try clear hk)
                (try clear hi)
                refine hK.out _ _ ⟨(blk_cell BK151.out 0).trans rfl, (blk_cell BK151.out 1).trans rfl, (blk_cell BK151.out 2).trans rfl, (blk_cell BK151.out 3).trans rfl, (blk_cell BK151.out 4).trans rfl, (blk_cell BK151.out 5).trans rfl, (blk_cell BK151.out 6).trans rfl, ((HB.out.cell (World.block_lt_of_cell? w _ hw158_0)).trans hw158_0), ((HB.out.cell (World.block_lt_of_cell? w _ hw159_0)).trans hw159_0)⟩ (fun hHeld => ?_)
                clear hK K
                refine norm_ (a' := ?_) ?_ ?_
                rotate_left
                ·show Act.put _ (some 52) _ = _
                 simp only [Act.put, List.setIfInBounds_toArray, List.set_cons_zero, List.set_cons_succ, i64_w, i32_w]
                 rfl
                refine pureA (i := 11) (N := some 53) #[true, true, true, true, true, true, true, true, true, true, true, true] ?_
                refine done_ (done_of HT_.out dq16) ?_
                have p33 : 0 ≤ ((ji30) : Int) := of_decide_eq_true dq21
                have q33 : ((ji30) : Int) < ((x9_1.length : Int) : Int) := of_decide_eq_true dq21
                obtain ⟨go33, co33, eo33, gb33, gl33, cl33, HG33⟩ := Kd.R_form HO_9.out dq24
                (first | cases eo33 | (injection eo33 with ea_ en_ ec_; (first | subst ea_ | (injection ea_ with ea_; subst ea_)); subst ec_; clear en_))
                have GB33 := Aside0.mk gb33
                have GG33 := Aside0.mk HG33
                clear gb33 gl33 HG33
                obtain ⟨hx33_0, hf33_0⟩ := Kd.R_celln false HO_9.out ((ji30) : Int) p33 q33
                replace p33 := eq_true p33
                replace q33 := eq_true q33
                obtain ⟨hy36_, hz36_⟩ := Kd.R_celln false HO_9.out ((ji30) : Int) (of_decide_eq_true dq21) (of_decide_eq_true dq21)
                have HP36 := Kd.R_putg HO_9.out ((ji30) : Int) true
                try go_wp2_with (first | ((with_reducible refine gate_store (t := 4) (p := 57) rfl ?_); refine store_event (t := 4) (p := 57) (v := ?vo_w37) (w1 := (w35.setCell ⟨go33, ((ji30) : Int).toNat, none⟩ (.bool true))) ?hg ?ho ?hn ?hr ?_; (case ho => rfl); (case hg => rfl); (case hn => rfl); (case hr => exact dq0); intro w37 hw; have hg : w35.grownBy w37 (some go33) := (by rw [hw]; exact HP36.2); have hp_ : Kd.R Kd.bool 4 w37 w.heap.size (fun _ => True) (.slice (some ⟨go33, 0, none⟩) x9_1.length co33) y161 := (by rw [hw, Ny161.out]; exact HP36.1); clear HP36; have n0_ := Aside0.mk (hp_); have n1_ := Aside0.mk (blk_grown (g := gb151) (o := .cells #[.int .i64 ((rd_T93 l0 a1).f0), .bool ((rd_T93 l0 a1).f1), .slice A150_2 ((rd_T93 l0 a1).f2).length c150_2, .int .i64 ((rd_T93 l0 a1).f3), .int .i64 ((rd_T93 l0 a1).f4), .int .i64 ((rd_T93 l0 a1).f5), .int .i64 ((rd_T93 l0 a1).f6)] 93 (0, 0)) dq36 hg (Kd.R_ne HO_9.out BK151.out dq28)); have n2_ := Aside0.mk ((by rw [hw]; exact below_set (HB.out) GB33.out : Below w.heap.size w w37)); clear HO_9; clear BK151; clear HB; have HO_9 := n0_; have BK151 := n1_; have HB := n2_; clear n0_ n1_ n2_; clear hg hw hp_))
                go_roundg k1
                case measure => have := HK1.out; omega
                case rel => exact ⟨(y161), (ji30), (by first | rfl | (simp; done) | (simp only [← hji30] <;> (first | rfl | simp)) | (simp [*]; done)), H', ⟨dq22⟩, ⟨dq42⟩, ⟨dq36⟩, ⟨dq38⟩⟩
               ·rw [if_neg c32] at H
                exact absurd H dq23
              ·rw [if_neg c31] at H
               exact absurd H dq23
             ·replace c29 := Bool.eq_false_iff.mpr c29
              subst c29
              have H1 : (spec_l6Step.l0 k1 l2 l3 x9_1 (wrap64 (x11_1 + 1)) ((rd_T93 l0 a1).f0) ((rd_T93 l0 a1).f1) ((rd_T93 l0 a1).f2) ((rd_T93 l0 a1).f3) ((rd_T93 l0 a1).f4) ((rd_T93 l0 a1).f5) ((rd_T93 l0 a1).f6)) = some r := by rw [if_neg (show ¬ (false = true) by decide)] at H; exact H
              clear H
              have H := H1
              clear H1
              have H' := Aside0.mk H
              clear H
              try go_wp2
              have n0_ := Aside0.mk (Kd.R_drew HO_9.out)
              have n1_ := Aside0.mk (blk_drew BK151.out)
              have n2_ := Aside0.mk (below_drew1 HB.out)
              clear HO_9
              clear BK151
              clear HB
              have HO_9 := n0_
              have BK151 := n1_
              have HB := n2_
              clear n0_ n1_ n2_
              have p158 : 0 ≤ (x11_1 : Int) := of_decide_eq_true dq21
              have q158 : x11_1 < (l3.length : Int) := of_decide_eq_true dq21
              obtain ⟨ad158, e158, hx158_0⟩ := Kd.at_bool HR3.out x11_1 p158 q158
              (try rw [← Nbq26.out] at hx158_0)
              have hw158_0 := hx158_0
              cases e158
              replace hx158_0 := (HB.out.cell (World.block_lt_of_cell? w _ hx158_0)).trans hx158_0
              replace p158 := eq_true p158
              replace q158 := eq_true q158
              have p159 : 0 ≤ (x11_1 : Int) := of_decide_eq_true dq21
              have q159 : x11_1 < (l2.length : Int) := of_decide_eq_true dq21
              obtain ⟨ad159, e159, hx159_0⟩ := Kd.at_int HR2.out x11_1 p159 q159
              have hw159_0 := hx159_0
              cases e159
              replace hx159_0 := (HB.out.cell (World.block_lt_of_cell? w _ hx159_0)).trans hx159_0
              replace p159 := eq_true p159
              replace q159 := eq_true q159
              refine start_ (n := 12) (S := fun w' => w'.cell? ⟨gb151, 0, none⟩ = some (.int .i64 ((rd_T93 l0 a1).f0)) ∧ w'.cell? ⟨gb151, 1, none⟩ = some (.bool ((rd_T93 l0 a1).f1)) ∧ w'.cell? ⟨gb151, 2, none⟩ = some (.slice A150_2 ((rd_T93 l0 a1).f2).length c150_2) ∧ w'.cell? ⟨gb151, 3, none⟩ = some (.int .i64 ((rd_T93 l0 a1).f3)) ∧ w'.cell? ⟨gb151, 4, none⟩ = some (.int .i64 ((rd_T93 l0 a1).f4)) ∧ w'.cell? ⟨gb151, 5, none⟩ = some (.int .i64 ((rd_T93 l0 a1).f5)) ∧ w'.cell? ⟨gb151, 6, none⟩ = some (.int .i64 ((rd_T93 l0 a1).f6)) ∧ w'.cell? (ad158.add (x11_1).toNat) = some (.bool true) ∧ w'.cell? (ad159.add (x11_1).toNat) = some (.int .i64 (rd l2 x11_1))) (ds := []) #[false, false, false, false, false, false, false, false, false, false, false, false] dq16 rfl rfl ⟨(blk_cell BK151.out 0).trans rfl, (blk_cell BK151.out 1).trans rfl, (blk_cell BK151.out 2).trans rfl, (blk_cell BK151.out 3).trans rfl, (blk_cell BK151.out 4).trans rfl, (blk_cell BK151.out 5).trans rfl, (blk_cell BK151.out 6).trans rfl, ((HB.out.cell (World.block_lt_of_cell? w _ hw158_0)).trans hw158_0), ((HB.out.cell (World.block_lt_of_cell? w _ hw159_0)).trans hw159_0)⟩ (fun hHeld => ?_); refine with_tabW spec_l6Step.tab10 spec_l6Step.bits10 (fun HT_ HW_ => ?_)
              generalize wr.drew = w38 at HO_9 BK151 HB hx158_0 hx159_0 hHeld ⊢
              refine pureA (i := 0) (N := some 42) #[true, false, false, false, false, false, false, false, false, false, false, false] ?_
              refine pureA (i := 1) (N := some 43) #[true, true, false, false, false, false, false, false, false, false, false, false] ?_
              refine pureA (i := 2) (N := some 44) #[true, true, true, false, false, false, false, false, false, false, false, false] ?_
              refine takeA9 (i := 3) (N := some 45) #[true, true, true, true, false, false, false, false, false, false, false, false] ?_
              refine pureA (i := 4) (N := some 46) #[true, true, true, true, true, false, false, false, false, false, false, false] ?_
              refine pureA (i := 6) (N := some 48) #[true, true, true, true, true, false, true, false, false, false, false, false] ?_
              refine pureA (i := 7) (N := some 49) #[true, true, true, true, true, false, true, true, false, false, false, false] ?_
              refine pureA (i := 8) (N := some 50) #[true, true, true, true, true, false, true, true, true, false, false, false] ?_
              refine takeA9 (i := 5) (N := some 47) #[true, true, true, true, true, true, true, true, true, false, false, false] ?_
              refine takeA9 (i := 9) (N := some 51) #[true, true, true, true, true, true, true, true, true, true, false, false] ?_
              refine one_ (i := 10) (N := some 52) #[true, true, true, true, true, true, true, true, true, true, true, false] rfl rfl (one_of HT_.out dq16) dq28 (fun K hK => ?_)
              refine goes_ Tryd.func109 dq16 rfl #[.agg #[.int .i64 ((rd_T93 l0 a1).f0), .bool ((rd_T93 l0 a1).f1), .slice A150_2 ((rd_T93 l0 a1).f2).length c150_2, .int .i64 ((rd_T93 l0 a1).f3), .int .i64 ((rd_T93 l0 a1).f4), .int .i64 ((rd_T93 l0 a1).f5), .int .i64 ((rd_T93 l0 a1).f6)], .int .i64 (rd l2 x11_1)] dq29 rfl rfl dq15 ?_
              with_reducible refine (spec_ClassHas.calls k1 ((rd_T93 l0 a1).f0) ((rd_T93 l0 a1).f1) _ _ ((rd_T93 l0 a1).f2) ((rd_T93 l0 a1).f3) ((rd_T93 l0 a1).f4) ((rd_T93 l0 a1).f5) ((rd_T93 l0 a1).f6) (rd l2 x11_1) false _ ?side1 ?side2 A28.out).mono ?_
              (case side1 => repeat (first | exact (Kd.C_below HR150_2.out HB.out) | (with_reducible refine Kd.C_alloc ?_ _) | (with_reducible refine Kd.C_drewN ?_ _) | (with_reducible refine Kd.C_drew ?_)))
              (case side2 => exact HC150_2.out)
              rintro e w39 ⟨rfl, hb⟩
              refine ⟨_, rfl, ?_⟩
              have n0_ := Aside0.mk (Kd.R_below dq42 hb)
              have n1_ := Aside0.mk (blk_below (g := gb151) (o := .cells #[.int .i64 ((rd_T93 l0 a1).f0), .bool ((rd_T93 l0 a1).f1), .slice A150_2 ((rd_T93 l0 a1).f2).length c150_2, .int .i64 ((rd_T93 l0 a1).f3), .int .i64 ((rd_T93 l0 a1).f4), .int .i64 ((rd_T93 l0 a1).f5), .int .i64 ((rd_T93 l0 a1).f6)] 93 (0, 0)) dq36 hb)
              have n2_ := Aside0.mk (below_step dq38 hb)
              clear HO_9
              clear BK151
              clear HB
              have HO_9 := n0_
              have BK151 := n1_
              have HB := n2_
              clear n0_ n1_ n2_
              (try clear hb)
              (try clear hb2)
              (try clear hk)
              (try clear hi)
              refine hK.out _ _ ⟨(blk_cell BK151.out 0).trans rfl, (blk_cell BK151.out 1).trans rfl, (blk_cell BK151.out 2).trans rfl, (blk_cell BK151.out 3).trans rfl, (blk_cell BK151.out 4).trans rfl, (blk_cell BK151.out 5).trans rfl, (blk_cell BK151.out 6).trans rfl, ((HB.out.cell (World.block_lt_of_cell? w _ hw158_0)).trans hw158_0), ((HB.out.cell (World.block_lt_of_cell? w _ hw159_0)).trans hw159_0)⟩ (fun hHeld => ?_)
              clear hK K
              refine norm_ (a' := ?_) ?_ ?_
              rotate_left
              ·show Act.put _ (some 52) _ = _
               simp only [Act.put, List.setIfInBounds_toArray, List.set_cons_zero, List.set_cons_succ, i64_w, i32_w]
               rfl
              refine pureA (i := 11) (N := some 53) #[true, true, true, true, true, true, true, true, true, true, true, true] ?_
              refine done_ (done_of HT_.out dq16) ?_
              try go_wp2
              go_roundg k1
              case measure => have := HK1.out; omega
              case rel => exact ⟨(x9_1), (wrap64 (x11_1 + 1)), dq14, H', ⟨dq22⟩, ⟨dq42⟩, ⟨dq36⟩, ⟨dq38⟩⟩
            ·replace c27 := Bool.eq_false_iff.mpr c27
             subst c27
             have H1 : (spec_l6Step.l0 k1 l2 l3 x9_1 (wrap64 (x11_1 + 1)) ((rd_T93 l0 a1).f0) ((rd_T93 l0 a1).f1) ((rd_T93 l0 a1).f2) ((rd_T93 l0 a1).f3) ((rd_T93 l0 a1).f4) ((rd_T93 l0 a1).f5) ((rd_T93 l0 a1).f6)) = some r := by rw [if_neg (show ¬ (false = true) by decide)] at H; exact H
             clear H
             have H := H1
             clear H1
             have H' := Aside0.mk H
             clear H
             try go_wp2
             have n0_ := Aside0.mk (Kd.R_drew HO_9.out)
             have n1_ := Aside0.mk (blk_drew BK151.out)
             have n2_ := Aside0.mk (below_drew1 HB.out)
             clear HO_9
             clear BK151
             clear HB
             have HO_9 := n0_
             have BK151 := n1_
             have HB := n2_
             clear n0_ n1_ n2_
             have p158 : 0 ≤ (x11_1 : Int) := of_decide_eq_true dq21
             have q158 : x11_1 < (l3.length : Int) := of_decide_eq_true dq21
             obtain ⟨ad158, e158, hx158_0⟩ := Kd.at_bool HR3.out x11_1 p158 q158
             (try rw [← Nbq26.out] at hx158_0)
             have hw158_0 := hx158_0
             cases e158
             replace hx158_0 := (HB.out.cell (World.block_lt_of_cell? w _ hx158_0)).trans hx158_0
             replace p158 := eq_true p158
             replace q158 := eq_true q158
             refine start_ (n := 12) (S := fun w' => w'.cell? (ad158.add (x11_1).toNat) = some (.bool false)) (ds := []) #[false, false, false, false, false, false, false, false, false, false, false, false] dq16 rfl rfl (((HB.out.cell (World.block_lt_of_cell? w _ hw158_0)).trans hw158_0)) (fun hHeld => ?_); refine with_tabW spec_l6Step.tab10 spec_l6Step.bits10 (fun HT_ HW_ => ?_)
             generalize wr.drew = w40 at HO_9 BK151 HB hx158_0 hHeld ⊢
             refine pureA (i := 0) (N := some 42) #[true, false, false, false, false, false, false, false, false, false, false, false] ?_
             refine pureA (i := 1) (N := some 43) #[true, true, false, false, false, false, false, false, false, false, false, false] ?_
             refine pureA (i := 2) (N := some 44) #[true, true, true, false, false, false, false, false, false, false, false, false] ?_
             refine take_ (i := 3) (N := some 45) (v := ?_) (a' := ?_) #[true, true, true, true, false, false, false, false, false, false, false, false] rfl rfl (take_ofW HT_.out HW_.out dq16) (fun _ _ _ h => h) (Or.inl ⟨dq29, ?_⟩) hHeld ?_ ?_
             rotate_left
             ·intro w' s0
              go_simp
              with_reducible rfl
             rotate_left
             ·exact dAct
             refine pureA (i := 4) (N := some 46) #[true, true, true, true, true, false, false, false, false, false, false, false] ?_
             refine pure_ (i := 5) (N := some 47) (v := undef) (a' := ?_) #[true, true, true, true, true, true, false, false, false, false, false, false] rfl rfl (any_of HT_.out dq16) (fun _ _ _ h => h) (Or.inr ⟨dq29, rfl⟩) ?_ ?_
             rotate_left
             ·exact dAct
             refine pure_ (i := 6) (N := some 48) (v := undef) (a' := ?_) #[true, true, true, true, true, true, true, false, false, false, false, false] rfl rfl (any_of HT_.out dq16) (fun _ _ _ h => h) (Or.inr ⟨dq29, rfl⟩) ?_ ?_
             rotate_left
             ·exact dAct
             refine pure_ (i := 7) (N := some 49) (v := undef) (a' := ?_) #[true, true, true, true, true, true, true, true, false, false, false, false] rfl rfl (any_of HT_.out dq16) (fun _ _ _ h => h) (Or.inr ⟨dq29, rfl⟩) ?_ ?_
             rotate_left
             ·exact dAct
             refine pure_ (i := 8) (N := some 50) (v := undef) (a' := ?_) #[true, true, true, true, true, true, true, true, true, false, false, false] rfl rfl (any_of HT_.out dq16) (fun _ _ _ h => h) (Or.inr ⟨dq29, rfl⟩) ?_ ?_
             rotate_left
             ·exact dAct
             refine pure_ (i := 9) (N := some 51) (v := undef) (a' := ?_) #[true, true, true, true, true, true, true, true, true, true, false, false] rfl rfl (any_of HT_.out dq16) (fun _ _ _ h => h) (Or.inr ⟨dq29, rfl⟩) ?_ ?_
             rotate_left
             ·exact dAct
             refine pure_ (i := 10) (N := some 52) (v := undef) (a' := ?_) #[true, true, true, true, true, true, true, true, true, true, true, false] rfl rfl (any_of HT_.out dq16) (fun _ _ _ h => h) (Or.inr ⟨dq29, rfl⟩) ?_ ?_
             rotate_left
             ·exact dAct
             refine pureA (i := 11) (N := some 53) #[true, true, true, true, true, true, true, true, true, true, true, true] ?_
             refine done_ (done_of HT_.out dq16) ?_
             try go_wp2
             go_roundg k1
             case measure => have := HK1.out; omega
             case rel => exact ⟨(x9_1), (wrap64 (x11_1 + 1)), dq14, H', ⟨dq22⟩, ⟨dq42⟩, ⟨dq36⟩, ⟨dq38⟩⟩
           ·rw [if_neg c25] at H
            exact absurd H dq23
          ·rw [if_neg c24] at H
           exact absurd H dq23
         ·rw [if_neg c23] at H
          have c23b0 := decide_eq_false c23
          clear c23
          obtain rfl := Option.some.inj H
          go_wp2
          go_ret
          exact ⟨_, dq20, dq42, dq38⟩
      ·rw [if_neg c18] at H
       have c18b0 := beq_eq_false_iff_ne.mpr c18
       have c18b1 := bne_iff_ne.mpr c18
       by_cases c41 : ((rd_T93 l0 a1).f0) = 3
       ·rw [if_pos c41] at H
        have c41b0 := beq_iff_eq.mpr c41
        have c41b1 := bne_eq_false_iff_eq.mpr c41
        clear c41
        replace H := Option.bind_eq_some_iff.mp H
        obtain ⟨t162, A420, H⟩ := H
        replace H : ((spec_l6Step.f k l0 ((rd_T93 l0 a1).f4) l2 t162).bind fun t165 => (some t165)) = some r := H
        have A42 := Aside0.mk A420
        clear A420
        replace H := Option.bind_eq_some_iff.mp H
        obtain ⟨t165, A430, H⟩ := H
        replace H : (some t165) = some r := H
        have A43 := Aside0.mk A430
        clear A430
        obtain rfl := Option.some.inj H
        go_enter Tryd.func74, Tryd.ntmps74
        try go_wp2_with (first | ((with_reducible refine gate_dst (N := 22) rfl ?_); refine Kd.R_make Kd.bool _ 4 rfl (N := 22) rfl 89 _ _ rfl (l3.length : Int) rfl rfl Tryd.underlying89 (.bool false) 1 info4 rfl dq28 dq24 false (ok := fun _ => True) (okp := fun _ => True) rfl (fun _ hk => hk) trivial (of_decide_eq_true dq21) (Nat.le_trans (Nat.mul_le_mul_right _ (of_decide_eq_true dq21 : (l3.length : Int).toNat ≤ 281474976710656)) dq24) (Below.refl _ _) (Nat.le_refl _) ?_; intro v148 w44 ho45 hb hg_ hnew_; clear hg_ hnew_; (first | rw [← Ny147.out] at ho45 | (simp only [Int.reduceToNat] at ho45; rw [← Ny147.out] at ho45)); have n0_ := Aside0.mk (Kd.R_lower ho45 (below_size dq18)); have n1_ := Aside0.mk (below_step dq18 hb); clear HB; have HO149 := n0_; have HB := n1_; clear n0_ n1_; clear hb ho45; have p150 : 0 ≤ (a1 : Int) := of_decide_eq_true dq21; have q150 : a1 < (l0.length : Int) := of_decide_eq_true dq21; obtain ⟨ad150, A150_2, c150_2, e150, hx150_0, hx150_1, hx150_2, hx150_3, hx150_4, hx150_5, hx150_6, hl150_2, hi150_2⟩ := at_T93 HR0.out a1 p150 q150; cases e150; replace hx150_0 := (HB.out.cell (World.block_lt_of_cell? w _ hx150_0)).trans hx150_0; replace hx150_1 := (HB.out.cell (World.block_lt_of_cell? w _ hx150_1)).trans hx150_1; replace hx150_2 := (HB.out.cell (World.block_lt_of_cell? w _ hx150_2)).trans hx150_2; replace hx150_3 := (HB.out.cell (World.block_lt_of_cell? w _ hx150_3)).trans hx150_3; replace hx150_4 := (HB.out.cell (World.block_lt_of_cell? w _ hx150_4)).trans hx150_4; replace hx150_5 := (HB.out.cell (World.block_lt_of_cell? w _ hx150_5)).trans hx150_5; replace hx150_6 := (HB.out.cell (World.block_lt_of_cell? w _ hx150_6)).trans hx150_6; have HR150_2 := Aside0.mk hi150_2; have HC150_2 := Aside0.mk hl150_2; clear hi150_2 hl150_2; replace p150 := eq_true p150; replace q150 := eq_true q150) | ((with_reducible refine gate_dst (N := 10) rfl ?_); refine box_event ?hg (N := 10) ?hd (cs := #[.int .i64 0, .bool false, .slice none 0 0, .int .i64 0, .int .i64 0, .int .i64 0, .int .i64 0]) (t := 93) ?hr ?_; (case hd => rfl); (case hg => rfl); (case hr => exact dq0); intro gb151 hg w46 hbox hb; have n0_ := Aside0.mk (Kd.R_below dq37 hb); have n1_ := Aside0.mk (below_step dq18 hb); have n2_ := Aside0.mk (hbox); have n3_ := Aside0.mk ((dq17 : w.heap.size ≤ gb151)); have n4_ := Aside0.mk ((dq17 : w.heap.size ≤ gb151)); clear HO149; clear HB; have HO149 := n0_; have HB := n1_; have BK151 := n2_; have GW151 := n3_; have GE151 := n4_; clear n0_ n1_ n2_ n3_ n4_; clear hb hbox hg; obtain ⟨⟨hcz47_0, hcz47_1, hcz47_2, hcz47_3, hcz47_4, hcz47_5, hcz47_6⟩, hfz47_0, hfz47_1, hfz47_2, hfz47_3, hfz47_4, hfz47_5, hfz47_6⟩ := blkC7 BK151.out))
        have n0_ : Aside0 (Kd.R Kd.bool 4 (((((((w46.setCell ⟨gb151, 0, none⟩ (.int .i64 ((rd_T93 l0 a1).f0))).setCell ⟨gb151, 1, none⟩ (.bool ((rd_T93 l0 a1).f1))).setCell ⟨gb151, 2, none⟩ (.slice A150_2 ((rd_T93 l0 a1).f2).length c150_2)).setCell ⟨gb151, 3, none⟩ (.int .i64 ((rd_T93 l0 a1).f3))).setCell ⟨gb151, 4, none⟩ (.int .i64 ((rd_T93 l0 a1).f4))).setCell ⟨gb151, 5, none⟩ (.int .i64 ((rd_T93 l0 a1).f5))).setCell ⟨gb151, 6, none⟩ (.int .i64 ((rd_T93 l0 a1).f6))) w.heap.size (fun _ => True) v148 y147) := ⟨dq41⟩
        have n1_ : Aside0 ((((((((w46.setCell ⟨gb151, 0, none⟩ (.int .i64 ((rd_T93 l0 a1).f0))).setCell ⟨gb151, 1, none⟩ (.bool ((rd_T93 l0 a1).f1))).setCell ⟨gb151, 2, none⟩ (.slice A150_2 ((rd_T93 l0 a1).f2).length c150_2)).setCell ⟨gb151, 3, none⟩ (.int .i64 ((rd_T93 l0 a1).f3))).setCell ⟨gb151, 4, none⟩ (.int .i64 ((rd_T93 l0 a1).f4))).setCell ⟨gb151, 5, none⟩ (.int .i64 ((rd_T93 l0 a1).f5))).setCell ⟨gb151, 6, none⟩ (.int .i64 ((rd_T93 l0 a1).f6))).heap[gb151]? = some (.cells #[.int .i64 ((rd_T93 l0 a1).f0), .bool ((rd_T93 l0 a1).f1), .slice A150_2 ((rd_T93 l0 a1).f2).length c150_2, .int .i64 ((rd_T93 l0 a1).f3), .int .i64 ((rd_T93 l0 a1).f4), .int .i64 ((rd_T93 l0 a1).f5), .int .i64 ((rd_T93 l0 a1).f6)] 93 (0, 0))) := ⟨dq39⟩
        have n2_ : Aside0 (Below w.heap.size w (((((((w46.setCell ⟨gb151, 0, none⟩ (.int .i64 ((rd_T93 l0 a1).f0))).setCell ⟨gb151, 1, none⟩ (.bool ((rd_T93 l0 a1).f1))).setCell ⟨gb151, 2, none⟩ (.slice A150_2 ((rd_T93 l0 a1).f2).length c150_2)).setCell ⟨gb151, 3, none⟩ (.int .i64 ((rd_T93 l0 a1).f3))).setCell ⟨gb151, 4, none⟩ (.int .i64 ((rd_T93 l0 a1).f4))).setCell ⟨gb151, 5, none⟩ (.int .i64 ((rd_T93 l0 a1).f5))).setCell ⟨gb151, 6, none⟩ (.int .i64 ((rd_T93 l0 a1).f6)))) := ⟨dq38⟩
        (try clear HO149)
        (try clear BK151)
        (try clear HB)
        generalize (((((((w46.setCell ⟨gb151, 0, none⟩ (.int .i64 ((rd_T93 l0 a1).f0))).setCell ⟨gb151, 1, none⟩ (.bool ((rd_T93 l0 a1).f1))).setCell ⟨gb151, 2, none⟩ (.slice A150_2 ((rd_T93 l0 a1).f2).length c150_2)).setCell ⟨gb151, 3, none⟩ (.int .i64 ((rd_T93 l0 a1).f3))).setCell ⟨gb151, 4, none⟩ (.int .i64 ((rd_T93 l0 a1).f4))).setCell ⟨gb151, 5, none⟩ (.int .i64 ((rd_T93 l0 a1).f5))).setCell ⟨gb151, 6, none⟩ (.int .i64 ((rd_T93 l0 a1).f6))) = w48 at n0_ n1_ n2_ ⊢
        have HO149 := n0_
        have BK151 := n1_
        have HB := n2_
        clear n0_ n1_ n2_
        have n0_ := Aside0.mk (Kd.R_drew HO149.out)
        have n1_ := Aside0.mk (blk_drew BK151.out)
        have n2_ := Aside0.mk (below_drew1 HB.out)
        clear HO149
        clear BK151
        clear HB
        have HO149 := n0_
        have BK151 := n1_
        have HB := n2_
        clear n0_ n1_ n2_
        refine start_ (n := 12) (S := fun w' => w'.cell? ⟨gb151, 0, none⟩ = some (.int .i64 ((rd_T93 l0 a1).f0)) ∧ w'.cell? ⟨gb151, 1, none⟩ = some (.bool ((rd_T93 l0 a1).f1)) ∧ w'.cell? ⟨gb151, 2, none⟩ = some (.slice A150_2 ((rd_T93 l0 a1).f2).length c150_2) ∧ w'.cell? ⟨gb151, 3, none⟩ = some (.int .i64 ((rd_T93 l0 a1).f3)) ∧ w'.cell? ⟨gb151, 4, none⟩ = some (.int .i64 ((rd_T93 l0 a1).f4)) ∧ w'.cell? ⟨gb151, 5, none⟩ = some (.int .i64 ((rd_T93 l0 a1).f5)) ∧ w'.cell? ⟨gb151, 6, none⟩ = some (.int .i64 ((rd_T93 l0 a1).f6))) (ds := []) #[false, false, false, false, false, false, false, false, false, false, false, false] dq16 rfl rfl ⟨(blk_cell BK151.out 0).trans rfl, (blk_cell BK151.out 1).trans rfl, (blk_cell BK151.out 2).trans rfl, (blk_cell BK151.out 3).trans rfl, (blk_cell BK151.out 4).trans rfl, (blk_cell BK151.out 5).trans rfl, (blk_cell BK151.out 6).trans rfl⟩ (fun hHeld => ?_); refine with_tabW spec_l6Step.tab13 spec_l6Step.bits13 (fun HT_ HW_ => ?_)
        generalize w48.drew = w49 at HO149 BK151 HB hHeld ⊢
        refine pureA (i := 0) (N := some 60) #[true, false, false, false, false, false, false, false, false, false, false, false] ?_
        refine pureA (i := 1) (N := some 61) #[true, true, false, false, false, false, false, false, false, false, false, false] ?_
        refine pureA (i := 3) (N := some 63) #[true, true, false, true, false, false, false, false, false, false, false, false] ?_
        refine pureA (i := 4) (N := some 64) #[true, true, false, true, true, false, false, false, false, false, false, false] ?_
        refine pureA (i := 5) (N := some 65) #[true, true, false, true, true, true, false, false, false, false, false, false] ?_
        refine pureA (i := 7) (N := some 67) #[true, true, false, true, true, true, false, true, false, false, false, false] ?_
        refine pureA (i := 8) (N := some 68) #[true, true, false, true, true, true, false, true, true, false, false, false] ?_
        refine takeA7 (i := 2) (N := some 62) #[true, true, true, true, true, true, false, true, true, false, false, false] ?_
        refine takeA7 (i := 6) (N := some 66) #[true, true, true, true, true, true, true, true, true, false, false, false] ?_
        refine one_ (i := 9) (N := some 69) #[true, true, true, true, true, true, true, true, true, true, false, false] rfl rfl (one_of HT_.out dq16) dq28 (fun K hK => ?_)
        refine goes_ Tryd.func74 dq16 rfl #[.slice (some ad150) l0.length c0, .int .i64 ((rd_T93 l0 a1).f3), .slice A2 l2.length c2, .slice A3 l3.length c3] dq29 rfl rfl dq15 ?_
        with_reducible refine (ih k dq24 _ _ l0 ((rd_T93 l0 a1).f3) _ _ l2 _ _ l3 t162 _ ?side1 ?side2 ?side3 ?side4 ?side5 ?side6 A42.out).mono ?_
        (case side1 => exact dq4)
        (case side2 => exact dq3)
        (case side3 => exact dq5)
        (case side4 => exact HC2.out)
        (case side5 => repeat (first | exact (Kd.C_below HR3.out HB.out) | (with_reducible refine Kd.C_alloc ?_ _) | (with_reducible refine Kd.C_drewN ?_ _) | (with_reducible refine Kd.C_drew ?_)))
        (case side6 => exact HC3.out)
        rintro e w50 ⟨v163, rfl, ho0, hb⟩
        refine ⟨_, rfl, ?_⟩
        have n0_ := Aside0.mk (Kd.R_elder' dq37 (Kd.R_base ho0) hb)
        have n1_ := Aside0.mk (Kd.R_lower (Kd.R_new' ho0 (Kd.R_lt dq37)) (below_size dq38))
        have n2_ := Aside0.mk (blk_below (g := gb151) (o := .cells #[.int .i64 ((rd_T93 l0 a1).f0), .bool ((rd_T93 l0 a1).f1), .slice A150_2 ((rd_T93 l0 a1).f2).length c150_2, .int .i64 ((rd_T93 l0 a1).f3), .int .i64 ((rd_T93 l0 a1).f4), .int .i64 ((rd_T93 l0 a1).f5), .int .i64 ((rd_T93 l0 a1).f6)] 93 (0, 0)) dq36 hb)
        have n3_ := Aside0.mk (below_step dq38 hb)
        clear HO149
        clear BK151
        clear HB
        have HO149 := n0_
        have HO164 := n1_
        have BK151 := n2_
        have HB := n3_
        clear n0_ n1_ n2_ n3_
        (try clear hb)
        (try clear hb2)
        (try clear hk)
        (try clear hi)
        (try clear ho0)
        obtain ⟨Ao51, co51, eo51⟩ := Kd.R_slice HO164.out
        (first | subst eo51 | (injection eo51 with f1_ f2_ f3_; have f4_ := f1_.symm; have f5_ := f3_.symm; clear f1_ f2_ f3_; subst f4_; subst f5_))
        refine hK.out _ _ ⟨(blk_cell BK151.out 0).trans rfl, (blk_cell BK151.out 1).trans rfl, (blk_cell BK151.out 2).trans rfl, (blk_cell BK151.out 3).trans rfl, (blk_cell BK151.out 4).trans rfl, (blk_cell BK151.out 5).trans rfl, (blk_cell BK151.out 6).trans rfl⟩ (fun hHeld => ?_)
        clear hK K
        refine norm_ (a' := ?_) ?_ ?_
        rotate_left
        ·show Act.put _ (some 69) _ = _
         simp only [Act.put, List.setIfInBounds_toArray, List.set_cons_zero, List.set_cons_succ, i64_w, i32_w]
         rfl
        refine one_ (i := 10) (N := some 70) #[true, true, true, true, true, true, true, true, true, true, true, false] rfl rfl (one_of HT_.out dq16) dq28 (fun K hK => ?_)
        refine goes_ Tryd.func74 dq16 rfl #[.slice (some ad150) l0.length c0, .int .i64 ((rd_T93 l0 a1).f4), .slice A2 l2.length c2, .slice Ao51 t162.length co51] dq29 rfl rfl dq15 ?_
        with_reducible refine (ih k dq24 _ _ l0 ((rd_T93 l0 a1).f4) _ _ l2 _ _ t162 t165 _ ?side1 ?side2 ?side3 ?side4 ?side5 ?side6 A43.out).mono ?_
        (case side1 => exact dq4)
        (case side2 => exact dq3)
        (case side3 => exact dq5)
        (case side4 => exact HC2.out)
        (case side5 => repeat (first | exact (Kd.R_reads' HO164.out).2.2 | (with_reducible refine Kd.C_alloc ?_ _) | (with_reducible refine Kd.C_drewN ?_ _) | (with_reducible refine Kd.C_drew ?_)))
        (case side6 => exact (Kd.R_reads' HO164.out).2.1)
        rintro e w52 ⟨v166, rfl, ho0, hb⟩
        refine ⟨_, rfl, ?_⟩
        have n0_ := Aside0.mk (Kd.R_elder' dq37 (Kd.R_base ho0) hb)
        have n1_ := Aside0.mk (Kd.R_elder' (by (with_reducible repeat (first | apply Kd.R_alloc | apply Kd.R_drewN | apply Kd.R_drew)); exact HO164.out) (Kd.R_base ho0) hb)
        have n2_ := Aside0.mk (Kd.R_lower (Kd.R_new' (Kd.R_new' ho0 (Kd.R_lt dq37)) (Kd.R_lt (by (with_reducible repeat (first | apply Kd.R_alloc | apply Kd.R_drewN | apply Kd.R_drew)); exact HO164.out))) (below_size dq38))
        have n3_ := Aside0.mk (blk_below (g := gb151) (o := .cells #[.int .i64 ((rd_T93 l0 a1).f0), .bool ((rd_T93 l0 a1).f1), .slice A150_2 ((rd_T93 l0 a1).f2).length c150_2, .int .i64 ((rd_T93 l0 a1).f3), .int .i64 ((rd_T93 l0 a1).f4), .int .i64 ((rd_T93 l0 a1).f5), .int .i64 ((rd_T93 l0 a1).f6)] 93 (0, 0)) dq36 hb)
        have n4_ := Aside0.mk (below_step dq38 hb)
        clear HO149
        clear HO164
        clear BK151
        clear HB
        have HO149 := n0_
        have HO164 := n1_
        have HO167 := n2_
        have BK151 := n3_
        have HB := n4_
        clear n0_ n1_ n2_ n3_ n4_
        (try clear hb)
        (try clear hb2)
        (try clear hk)
        (try clear hi)
        (try clear ho0)
        refine hK.out _ _ ⟨(blk_cell BK151.out 0).trans rfl, (blk_cell BK151.out 1).trans rfl, (blk_cell BK151.out 2).trans rfl, (blk_cell BK151.out 3).trans rfl, (blk_cell BK151.out 4).trans rfl, (blk_cell BK151.out 5).trans rfl, (blk_cell BK151.out 6).trans rfl⟩ (fun hHeld => ?_)
        clear hK K
        refine norm_ (a' := ?_) ?_ ?_
        rotate_left
        ·show Act.put _ (some 70) _ = _
         simp only [Act.put, List.setIfInBounds_toArray, List.set_cons_zero, List.set_cons_succ, i64_w, i32_w]
         rfl
        refine pureA (i := 11) (N := some 8) #[true, true, true, true, true, true, true, true, true, true, true, true] ?_
        refine done_ (done_of HT_.out dq16) ?_
        try go_wp2
        go_ret
        exact ⟨_, dq20, by (with_reducible repeat (first | apply Kd.R_alloc | apply Kd.R_drewN | apply Kd.R_drew)); exact Kd.R_mono HO167.out (fun _ hk => trivial), dq38⟩
       ·rw [if_neg c41] at H
        have c41b0 := beq_eq_false_iff_ne.mpr c41
        have c41b1 := bne_iff_ne.mpr c41
        by_cases c53 : ((rd_T93 l0 a1).f0) = 4
        ·rw [if_pos c53] at H
         have c53b0 := beq_iff_eq.mpr c53
         have c53b1 := bne_eq_false_iff_eq.mpr c53
         clear c53
         replace H := Option.bind_eq_some_iff.mp H
         obtain ⟨t168, A540, H⟩ := H
         replace H : ((spec_l6Step.f k l0 ((rd_T93 l0 a1).f4) l2 l3).bind fun t171 => (spec_l6Step.l1 k y147 t168 t171 0)) = some r := H
         have A54 := Aside0.mk A540
         clear A540
         replace H := Option.bind_eq_some_iff.mp H
         obtain ⟨t171, A550, H⟩ := H
         replace H : (spec_l6Step.l1 k y147 t168 t171 0) = some r := H
         have A55 := Aside0.mk A550
         clear A550
         have H' := Aside0.mk H
         clear H
         go_enter Tryd.func74, Tryd.ntmps74
         go_wp2_with (first | ((with_reducible refine gate_dst (N := 22) rfl ?_); refine Kd.R_make Kd.bool _ 4 rfl (N := 22) rfl 89 _ _ rfl (l3.length : Int) rfl rfl Tryd.underlying89 (.bool false) 1 info4 rfl dq28 dq24 false (ok := fun _ => True) (okp := fun _ => True) rfl (fun _ hk => hk) trivial (of_decide_eq_true dq21) (Nat.le_trans (Nat.mul_le_mul_right _ (of_decide_eq_true dq21 : (l3.length : Int).toNat ≤ 281474976710656)) dq24) (Below.refl _ _) (Nat.le_refl _) ?_; intro v148 w56 ho57 hb hg_ hnew_; clear hg_ hnew_; (first | rw [← Ny147.out] at ho57 | (simp only [Int.reduceToNat] at ho57; rw [← Ny147.out] at ho57)); have n0_ := Aside0.mk (Kd.R_lower ho57 (below_size dq18)); have n1_ := Aside0.mk (below_step dq18 hb); clear HB; have HO149 := n0_; have HB := n1_; clear n0_ n1_; clear hb ho57; have p150 : 0 ≤ (a1 : Int) := of_decide_eq_true dq21; have q150 : a1 < (l0.length : Int) := of_decide_eq_true dq21; obtain ⟨ad150, A150_2, c150_2, e150, hx150_0, hx150_1, hx150_2, hx150_3, hx150_4, hx150_5, hx150_6, hl150_2, hi150_2⟩ := at_T93 HR0.out a1 p150 q150; cases e150; replace hx150_0 := (HB.out.cell (World.block_lt_of_cell? w _ hx150_0)).trans hx150_0; replace hx150_1 := (HB.out.cell (World.block_lt_of_cell? w _ hx150_1)).trans hx150_1; replace hx150_2 := (HB.out.cell (World.block_lt_of_cell? w _ hx150_2)).trans hx150_2; replace hx150_3 := (HB.out.cell (World.block_lt_of_cell? w _ hx150_3)).trans hx150_3; replace hx150_4 := (HB.out.cell (World.block_lt_of_cell? w _ hx150_4)).trans hx150_4; replace hx150_5 := (HB.out.cell (World.block_lt_of_cell? w _ hx150_5)).trans hx150_5; replace hx150_6 := (HB.out.cell (World.block_lt_of_cell? w _ hx150_6)).trans hx150_6; have HR150_2 := Aside0.mk hi150_2; have HC150_2 := Aside0.mk hl150_2; clear hi150_2 hl150_2; replace p150 := eq_true p150; replace q150 := eq_true q150) | ((with_reducible refine gate_dst (N := 10) rfl ?_); refine box_event ?hg (N := 10) ?hd (cs := #[.int .i64 0, .bool false, .slice none 0 0, .int .i64 0, .int .i64 0, .int .i64 0, .int .i64 0]) (t := 93) ?hr ?_; (case hd => rfl); (case hg => rfl); (case hr => exact dq0); intro gb151 hg w58 hbox hb; have n0_ := Aside0.mk (Kd.R_below dq37 hb); have n1_ := Aside0.mk (below_step dq18 hb); have n2_ := Aside0.mk (hbox); have n3_ := Aside0.mk ((dq17 : w.heap.size ≤ gb151)); have n4_ := Aside0.mk ((dq17 : w.heap.size ≤ gb151)); clear HO149; clear HB; have HO149 := n0_; have HB := n1_; have BK151 := n2_; have GW151 := n3_; have GE151 := n4_; clear n0_ n1_ n2_ n3_ n4_; clear hb hbox hg; obtain ⟨⟨hcz59_0, hcz59_1, hcz59_2, hcz59_3, hcz59_4, hcz59_5, hcz59_6⟩, hfz59_0, hfz59_1, hfz59_2, hfz59_3, hfz59_4, hfz59_5, hfz59_6⟩ := blkC7 BK151.out) | ((with_reducible refine gate_callee (f := 74) rfl ?_); refine goesL_ (some 78) rfl rfl Tryd.func74 dq16 rfl #[.slice (some ad150) l0.length c0, .int .i64 ((rd_T93 l0 a1).f3), .slice A2 l2.length c2, .slice A3 l3.length c3] rfl dq15 ?_; (with_reducible refine (ih k dq24 _ _ l0 ((rd_T93 l0 a1).f3) _ _ l2 _ _ l3 t168 _ ?side1 ?side2 ?side3 ?side4 ?side5 ?side6 A54.out).mono ?_); (case side1 => exact Kd.C_below HR0.out dq38); (case side2 => exact dq3); (case side3 => exact Kd.C_below HR2.out dq38); (case side4 => exact HC2.out); (case side5 => exact Kd.C_below HR3.out dq38); (case side6 => exact HC3.out); rintro e w60 ⟨v169, rfl, ho0, hb⟩; refine ⟨_, rfl, ?_⟩; have n0_ := Aside0.mk (Kd.R_elder' dq40 (Kd.R_base ho0) hb); have n1_ := Aside0.mk (Kd.R_lower (Kd.R_new' ho0 (Kd.R_lt dq40)) (below_size dq38)); have n2_ := Aside0.mk (blk_below (g := gb151) (o := .cells #[.int .i64 ((rd_T93 l0 a1).f0), .bool ((rd_T93 l0 a1).f1), .slice A150_2 ((rd_T93 l0 a1).f2).length c150_2, .int .i64 ((rd_T93 l0 a1).f3), .int .i64 ((rd_T93 l0 a1).f4), .int .i64 ((rd_T93 l0 a1).f5), .int .i64 ((rd_T93 l0 a1).f6)] 93 (0, 0)) dq39 hb); have n3_ := Aside0.mk (below_step dq38 hb); clear HO149; clear BK151; clear HB; have HO149 := n0_; have HO170 := n1_; have BK151 := n2_; have HB := n3_; clear n0_ n1_ n2_ n3_; (try clear hb); (try clear hb2); (try clear hk); (try clear hi); (try clear ho0); obtain ⟨⟨hcz61_0, hcz61_1, hcz61_2, hcz61_3, hcz61_4, hcz61_5, hcz61_6⟩, hfz61_0, hfz61_1, hfz61_2, hfz61_3, hfz61_4, hfz61_5, hfz61_6⟩ := blkC7 BK151.out) | ((with_reducible refine gate_callee (f := 74) rfl ?_); refine goesL_ (some 84) rfl rfl Tryd.func74 dq16 rfl #[.slice (some ad150) l0.length c0, .int .i64 ((rd_T93 l0 a1).f4), .slice A2 l2.length c2, .slice A3 l3.length c3] rfl dq15 ?_; (with_reducible refine (ih k dq24 _ _ l0 ((rd_T93 l0 a1).f4) _ _ l2 _ _ l3 t171 _ ?side1 ?side2 ?side3 ?side4 ?side5 ?side6 A55.out).mono ?_); (case side1 => exact dq4); (case side2 => exact dq3); (case side3 => exact dq5); (case side4 => exact HC2.out); (case side5 => repeat (first | exact (Kd.C_below HR3.out HB.out) | (with_reducible refine Kd.C_alloc ?_ _) | (with_reducible refine Kd.C_drewN ?_ _) | (with_reducible refine Kd.C_drew ?_))); (case side6 => exact HC3.out); rintro e w62 ⟨v172, rfl, ho0, hb⟩; refine ⟨_, rfl, ?_⟩; have n0_ := Aside0.mk (Kd.R_elder' dq37 (Kd.R_base ho0) hb); have n1_ := Aside0.mk (Kd.R_elder' (by (with_reducible repeat (first | apply Kd.R_alloc | apply Kd.R_drewN | apply Kd.R_drew)); exact HO170.out) (Kd.R_base ho0) hb); have n2_ := Aside0.mk (Kd.R_lower (Kd.R_new' (Kd.R_new' ho0 (Kd.R_lt dq37)) (Kd.R_lt (by (with_reducible repeat (first | apply Kd.R_alloc | apply Kd.R_drewN | apply Kd.R_drew)); exact HO170.out))) (below_size dq38)); have n3_ := Aside0.mk (blk_below (g := gb151) (o := .cells #[.int .i64 ((rd_T93 l0 a1).f0), .bool ((rd_T93 l0 a1).f1), .slice A150_2 ((rd_T93 l0 a1).f2).length c150_2, .int .i64 ((rd_T93 l0 a1).f3), .int .i64 ((rd_T93 l0 a1).f4), .int .i64 ((rd_T93 l0 a1).f5), .int .i64 ((rd_T93 l0 a1).f6)] 93 (0, 0)) dq36 hb); have n4_ := Aside0.mk (below_step dq38 hb); clear HO149; clear HO170; clear BK151; clear HB; have HO149 := n0_; have HO170 := n1_; have HO173 := n2_; have BK151 := n3_; have HB := n4_; clear n0_ n1_ n2_ n3_ n4_; (try clear hb); (try clear hb2); (try clear hk); (try clear hi); (try clear ho0)))
         go_loopg [14] k (fun kq v14 w' => ∃ (x9_1 : List Bool) (x14_1 : Int), v14 = .int .i64 x14_1 ∧ Aside0 (spec_l6Step.l1 kq x9_1 t168 t171 x14_1 = some r) ∧ Aside0 (kq ≤ k) ∧ Aside0 (Kd.R Kd.bool 4 w' w.heap.size (fun k_ => some k_ ≠ (v169 : Value).ownBlock ∧ some k_ ≠ (v172 : Value).ownBlock) v148 x9_1) ∧ Aside0 (Kd.R Kd.bool 4 w' w.heap.size (fun k_ => some k_ ≠ (v148 : Value).ownBlock ∧ some k_ ≠ (v172 : Value).ownBlock) v169 t168) ∧ Aside0 (Kd.R Kd.bool 4 w' w.heap.size (fun k_ => some k_ ≠ (v148 : Value).ownBlock ∧ some k_ ≠ (v169 : Value).ownBlock) v172 t171) ∧ Aside0 (w'.heap[gb151]? = some (.cells #[.int .i64 ((rd_T93 l0 a1).f0), .bool ((rd_T93 l0 a1).f1), (.slice A150_2 ((rd_T93 l0 a1).f2).length c150_2), .int .i64 ((rd_T93 l0 a1).f3), .int .i64 ((rd_T93 l0 a1).f4), .int .i64 ((rd_T93 l0 a1).f5), .int .i64 ((rd_T93 l0 a1).f6)] 93 (0, 0))) ∧ Aside0 (Below w.heap.size w w'))
         case atStart => exact ⟨(y147), (0), dq14, H', ⟨Nat.le_refl _⟩, ⟨by (with_reducible repeat (first | apply Kd.R_alloc | apply Kd.R_drewN | apply Kd.R_drew)); exact Kd.R_mono HO149.out (fun _ hk => ⟨hk.1.2, hk.2⟩)⟩, ⟨by (with_reducible repeat (first | apply Kd.R_alloc | apply Kd.R_drewN | apply Kd.R_drew)); exact Kd.R_mono HO170.out (fun _ hk => ⟨hk.1.2, hk.2⟩)⟩, ⟨by (with_reducible repeat (first | apply Kd.R_alloc | apply Kd.R_drewN | apply Kd.R_drew)); exact Kd.R_mono HO173.out (fun _ hk => ⟨hk.1.2, hk.2⟩)⟩, ⟨dq36⟩, ⟨dq38⟩⟩
         case round =>
          clear H'
          try clear c1
          try clear p1
          try clear q1
          try clear hx1
          try clear c2
          try clear p2
          try clear q2
          try clear c3
          try clear p3
          try clear q3
          try clear hx3
          try clear c4
          try clear c5
          try clear p6
          try clear c7
          try clear c10
          try clear c15
          try clear p15
          try clear q15
          try clear hx15
          try clear c18
          try clear c18b0
          try clear c18b1
          try clear c23
          try clear c23b0
          try clear c24
          try clear c25
          try clear q26
          try clear c27
          try clear c29
          try clear c31
          try clear c32
          try clear p33
          try clear q33
          try clear hx33
          try clear hf33
          try clear c41
          try clear c41b0
          try clear c41b1
          try clear c53
          try clear c53b0
          try clear c53b1
          try clear hcz47_0
          try clear hcz47_1
          try clear hcz47_2
          try clear hcz47_3
          try clear hcz47_4
          try clear hcz47_5
          try clear hcz47_6
          try clear hcz59_0
          try clear hcz59_1
          try clear hcz59_2
          try clear hcz59_3
          try clear hcz59_4
          try clear hcz59_5
          try clear hcz59_6
          try clear hcz61_0
          try clear hcz61_1
          try clear hcz61_2
          try clear hcz61_3
          try clear hcz61_4
          try clear hcz61_5
          try clear hcz61_6
          try clear hfz47_0
          try clear hfz47_1
          try clear hfz47_2
          try clear hfz47_3
          try clear hfz47_4
          try clear hfz47_5
          try clear hfz47_6
          try clear hfz59_0
          try clear hfz59_1
          try clear hfz59_2
          try clear hfz59_3
          try clear hfz59_4
          try clear hfz59_5
          try clear hfz59_6
          try clear hfz61_0
          try clear hfz61_1
          try clear hfz61_2
          try clear hfz61_3
          try clear hfz61_4
          try clear hfz61_5
          try clear hfz61_6
          try clear hx150_0
          try clear hx150_1
          try clear hx150_2
          try clear hx150_3
          try clear hx150_4
          try clear hx150_5
          try clear hx150_6
          try clear hx158_0
          try clear hx159_0
          try clear hx33_0
          try clear p150
          try clear p158
          try clear p159
          try clear p33
          try clear q150
          try clear q158
          try clear q159
          try clear q33
          obtain ⟨x9_1, x14_1, rfl, HA, HK1, HO_9, HO_12, HO_13, BK151, HB⟩ := hrel
          cases gk with
          | zero => exact absurd HA.out (by simp [spec_l6Step.l1])
          | succ k1 =>
           have H := HA.out
           clear HA
           simp only [spec_l6Step.l1] at H
           by_cases c63 : x14_1 < (x9_1.length : Int)
           ·rw [if_pos c63] at H
            have c63b0 := decide_eq_true c63
            clear c63
            by_cases c64 : 0 ≤ x14_1
            ·rw [if_pos c64] at H
             have c64b0 := decide_eq_true c64
             clear c64
             by_cases c65 : x14_1 < (t168.length : Int)
             ·rw [if_pos c65] at H
              have c65b0 := decide_eq_true c65
              clear c65
              obtain ⟨bq66, hbq66⟩ : ∃ b_ : Bool, b_ = (rdOf false t168 x14_1) := ⟨_, rfl⟩
              replace H : (if bq66 = true then (spec_l6Step.l1 k1 (x9_1.set (x14_1 : Int).toNat true) t168 t171 (wrap64 (x14_1 + 1))) else (if x14_1 < (t171.length : Int) then (spec_l6Step.l1 k1 (x9_1.set (x14_1 : Int).toNat (rdOf false t171 x14_1)) t168 t171 (wrap64 (x14_1 + 1))) else (none))) = some r := by rw [← hbq66] at H; exact H
              have Nbq66 := Aside0.mk hbq66
              clear hbq66
              by_cases c67 : bq66 = true
              ·subst c67
               have H1 : (spec_l6Step.l1 k1 (x9_1.set (x14_1 : Int).toNat true) t168 t171 (wrap64 (x14_1 + 1))) = some r := by rw [if_pos rfl] at H; exact H
               clear H
               have H := H1
               clear H1
               obtain ⟨y175, hy175⟩ : ∃ y_ : List Bool, y_ = (x9_1.set (x14_1 : Int).toNat true) := ⟨_, rfl⟩
               replace H : (spec_l6Step.l1 k1 y175 t168 t171 (wrap64 (x14_1 + 1))) = some r := by first | (rw [hy175]; with_reducible exact H) | (have H2_ := (Option.bind_some _ _).symm.trans H; rw [hy175]; with_reducible exact H2_) | (have H2_ := (Option.bind_some _ _).symm.trans H; with_reducible exact H2_) | with_reducible exact H | (rw [hy175]; exact H) | exact H
               have Ny175 := Aside0.mk hy175
               clear hy175
               have H' := Aside0.mk H
               clear H
               obtain ⟨Ao69, co69, eo69⟩ := Kd.R_slice HO_9.out
               subst eo69
               obtain ⟨Ao70, co70, eo70⟩ := Kd.R_slice HO_12.out
               subst eo70
               have p174 : 0 ≤ (x14_1 : Int) := of_decide_eq_true dq21
               have q174 : x14_1 < (t168.length : Int) := of_decide_eq_true dq21
               obtain ⟨ad174, e174, hx174_0⟩ := Kd.at_bool (Kd.R_reads' HO_12.out).2.2 x14_1 p174 q174
               (try rw [← Nbq66.out] at hx174_0)
               cases e174
               replace p174 := eq_true p174
               replace q174 := eq_true q174
               have p68 : 0 ≤ (x14_1 : Int) := of_decide_eq_true dq21
               have q68 : (x14_1 : Int) < ((x9_1.length : Int) : Int) := of_decide_eq_true dq21
               obtain ⟨go68, co68, eo68, gb68, gl68, cl68, HG68⟩ := Kd.R_form HO_9.out dq24
               (first | cases eo68 | (injection eo68 with ea_ en_ ec_; (first | subst ea_ | (injection ea_ with ea_; subst ea_)); subst ec_; clear en_))
               have GB68 := Aside0.mk gb68
               have GG68 := Aside0.mk HG68
               clear gb68 gl68 HG68
               obtain ⟨hx68_0, hf68_0⟩ := Kd.R_celln false HO_9.out (x14_1 : Int) p68 q68
               replace p68 := eq_true p68
               replace q68 := eq_true q68
               have HP71 := Kd.R_putg HO_9.out (x14_1 : Int) true
               go_wp2_with (first | ((with_reducible refine gate_store (t := 4) (p := 103) rfl ?_); refine store_event (t := 4) (p := 103) (v := ?vo_w72) (w1 := (wr.setCell ⟨go68, (x14_1 : Int).toNat, none⟩ (.bool true))) ?hg ?ho ?hn ?hr ?_; (case ho => rfl); (case hg => rfl); (case hn => rfl); (case hr => exact dq0); intro w72 hw; have hg : wr.grownBy w72 (some go68) := (by rw [hw]; exact HP71.2); have hp_ : Kd.R Kd.bool 4 w72 w.heap.size (fun k_ => some k_ ≠ (.slice (some ad174) t168.length co70 : Value).ownBlock ∧ some k_ ≠ (v172 : Value).ownBlock) (.slice (some ⟨go68, 0, none⟩) x9_1.length co69) y175 := (by rw [hw, Ny175.out]; exact HP71.1); clear HP71; have n0_ := Aside0.mk (hp_); have n1_ := Aside0.mk (Kd.R_after (v := (.slice (some ⟨go68, 0, none⟩) x9_1.length co69)) (v1 := (.slice (some ⟨go68, 0, none⟩) x9_1.length co69)) (ok := (fun k_ => some k_ ≠ (v172 : Value).ownBlock)) dq44 hg (.inl rfl)); have n2_ := Aside0.mk (Kd.R_after (v := (.slice (some ⟨go68, 0, none⟩) x9_1.length co69)) (v1 := (.slice (some ⟨go68, 0, none⟩) x9_1.length co69)) (ok := (fun k_ => some k_ ≠ (.slice (some ad174) t168.length co70 : Value).ownBlock)) dq43 hg (.inl rfl)); have n3_ := Aside0.mk (blk_grown (g := gb151) (o := .cells #[.int .i64 ((rd_T93 l0 a1).f0), .bool ((rd_T93 l0 a1).f1), .slice A150_2 ((rd_T93 l0 a1).f2).length c150_2, .int .i64 ((rd_T93 l0 a1).f3), .int .i64 ((rd_T93 l0 a1).f4), .int .i64 ((rd_T93 l0 a1).f5), .int .i64 ((rd_T93 l0 a1).f6)] 93 (0, 0)) dq36 hg (Kd.R_ne HO_9.out BK151.out dq28)); have n4_ := Aside0.mk ((by rw [hw]; exact below_set (HB.out) GB68.out : Below w.heap.size w w72)); clear HO_9; clear HO_12; clear HO_13; clear BK151; clear HB; have HO_9 := n0_; have HO_12 := n1_; have HO_13 := n2_; have BK151 := n3_; have HB := n4_; clear n0_ n1_ n2_ n3_ n4_; clear hg hw hp_))
               go_roundg k1
               case measure => have := HK1.out; omega
               case rel => exact ⟨(y175), (wrap64 (x14_1 + 1)), dq14, H', ⟨dq22⟩, ⟨dq42⟩, ⟨dq44⟩, ⟨dq43⟩, ⟨dq36⟩, ⟨dq38⟩⟩
              ·replace c67 := Bool.eq_false_iff.mpr c67
               subst c67
               have H1 : (if x14_1 < (t171.length : Int) then (spec_l6Step.l1 k1 (x9_1.set (x14_1 : Int).toNat (rdOf false t171 x14_1)) t168 t171 (wrap64 (x14_1 + 1))) else (none)) = some r := by rw [if_neg (show ¬ (false = true) by decide)] at H; exact H
               clear H
               have H := H1
               clear H1
               by_cases c73 : x14_1 < (t171.length : Int)
               ·rw [if_pos c73] at H
                have c73b0 := decide_eq_true c73
                clear c73
                obtain ⟨y177, hy177⟩ : ∃ y_ : List Bool, y_ = (x9_1.set (x14_1 : Int).toNat (rdOf false t171 x14_1)) := ⟨_, rfl⟩
                replace H : (spec_l6Step.l1 k1 y177 t168 t171 (wrap64 (x14_1 + 1))) = some r := by first | (rw [hy177]; with_reducible exact H) | (have H2_ := (Option.bind_some _ _).symm.trans H; rw [hy177]; with_reducible exact H2_) | (have H2_ := (Option.bind_some _ _).symm.trans H; with_reducible exact H2_) | with_reducible exact H | (rw [hy177]; exact H) | exact H
                have Ny177 := Aside0.mk hy177
                clear hy177
                have H' := Aside0.mk H
                clear H
                obtain ⟨Ao75, co75, eo75⟩ := Kd.R_slice HO_9.out
                subst eo75
                obtain ⟨Ao76, co76, eo76⟩ := Kd.R_slice HO_12.out
                subst eo76
                have p174 : 0 ≤ (x14_1 : Int) := of_decide_eq_true dq21
                have q174 : x14_1 < (t168.length : Int) := of_decide_eq_true dq21
                obtain ⟨ad174, e174, hx174_0⟩ := Kd.at_bool (Kd.R_reads' HO_12.out).2.2 x14_1 p174 q174
                (try rw [← Nbq66.out] at hx174_0)
                cases e174
                replace p174 := eq_true p174
                replace q174 := eq_true q174
                obtain ⟨Ao77, co77, eo77⟩ := Kd.R_slice HO_13.out
                subst eo77
                have p176 : 0 ≤ (x14_1 : Int) := of_decide_eq_true dq21
                have q176 : x14_1 < (t171.length : Int) := of_decide_eq_true dq21
                obtain ⟨ad176, e176, hx176_0⟩ := Kd.at_bool (Kd.R_reads' HO_13.out).2.2 x14_1 p176 q176
                (try rw [← Nbq66.out] at hx176_0)
                cases e176
                replace p176 := eq_true p176
                replace q176 := eq_true q176
                have p74 : 0 ≤ (x14_1 : Int) := of_decide_eq_true dq21
                have q74 : (x14_1 : Int) < ((x9_1.length : Int) : Int) := of_decide_eq_true dq21
                obtain ⟨go74, co74, eo74, gb74, gl74, cl74, HG74⟩ := Kd.R_form HO_9.out dq24
                (first | cases eo74 | (injection eo74 with ea_ en_ ec_; (first | subst ea_ | (injection ea_ with ea_; subst ea_)); subst ec_; clear en_))
                have GB74 := Aside0.mk gb74
                have GG74 := Aside0.mk HG74
                clear gb74 gl74 HG74
                obtain ⟨hx74_0, hf74_0⟩ := Kd.R_celln false HO_9.out (x14_1 : Int) p74 q74
                replace p74 := eq_true p74
                replace q74 := eq_true q74
                have HP78 := Kd.R_putg HO_9.out (x14_1 : Int) (rdOf false t171 x14_1)
                go_wp2_with (first | ((with_reducible refine gate_store (t := 4) (p := 103) rfl ?_); refine store_event (t := 4) (p := 103) (v := ?vo_w79) (w1 := (wr.setCell ⟨go74, (x14_1 : Int).toNat, none⟩ (.bool (rdOf false t171 x14_1)))) ?hg ?ho ?hn ?hr ?_; (case ho => rfl); (case hg => rfl); (case hn => rfl); (case hr => exact dq0); intro w79 hw; have hg : wr.grownBy w79 (some go74) := (by rw [hw]; exact HP78.2); have hp_ : Kd.R Kd.bool 4 w79 w.heap.size (fun k_ => some k_ ≠ (.slice (some ad174) t168.length co76 : Value).ownBlock ∧ some k_ ≠ (.slice (some ad176) t171.length co77 : Value).ownBlock) (.slice (some ⟨go74, 0, none⟩) x9_1.length co75) y177 := (by rw [hw, Ny177.out]; exact HP78.1); clear HP78; have n0_ := Aside0.mk (hp_); have n1_ := Aside0.mk (Kd.R_after (v := (.slice (some ⟨go74, 0, none⟩) x9_1.length co75)) (v1 := (.slice (some ⟨go74, 0, none⟩) x9_1.length co75)) (ok := (fun k_ => some k_ ≠ (.slice (some ad176) t171.length co77 : Value).ownBlock)) dq44 hg (.inl rfl)); have n2_ := Aside0.mk (Kd.R_after (v := (.slice (some ⟨go74, 0, none⟩) x9_1.length co75)) (v1 := (.slice (some ⟨go74, 0, none⟩) x9_1.length co75)) (ok := (fun k_ => some k_ ≠ (.slice (some ad174) t168.length co76 : Value).ownBlock)) dq43 hg (.inl rfl)); have n3_ := Aside0.mk (blk_grown (g := gb151) (o := .cells #[.int .i64 ((rd_T93 l0 a1).f0), .bool ((rd_T93 l0 a1).f1), .slice A150_2 ((rd_T93 l0 a1).f2).length c150_2, .int .i64 ((rd_T93 l0 a1).f3), .int .i64 ((rd_T93 l0 a1).f4), .int .i64 ((rd_T93 l0 a1).f5), .int .i64 ((rd_T93 l0 a1).f6)] 93 (0, 0)) dq36 hg (Kd.R_ne HO_9.out BK151.out dq28)); have n4_ := Aside0.mk ((by rw [hw]; exact below_set (HB.out) GB74.out : Below w.heap.size w w79)); clear HO_9; clear HO_12; clear HO_13; clear BK151; clear HB; have HO_9 := n0_; have HO_12 := n1_; have HO_13 := n2_; have BK151 := n3_; have HB := n4_; clear n0_ n1_ n2_ n3_ n4_; clear hg hw hp_))
                go_roundg k1
                case measure => have := HK1.out; omega
                case rel => exact ⟨(y177), (wrap64 (x14_1 + 1)), dq14, H', ⟨dq22⟩, ⟨dq42⟩, ⟨dq44⟩, ⟨dq43⟩, ⟨dq36⟩, ⟨dq38⟩⟩
               ·rw [if_neg c73] at H
                exact absurd H dq23
             ·rw [if_neg c65] at H
              exact absurd H dq23
            ·rw [if_neg c64] at H
             exact absurd H dq23
           ·rw [if_neg c63] at H
            have c63b0 := decide_eq_false c63
            clear c63
            obtain rfl := Option.some.inj H
            obtain ⟨Ao80, co80, eo80⟩ := Kd.R_slice HO_9.out
            subst eo80
            go_wp2
            go_ret
            exact ⟨_, dq20, dq45, dq38⟩
        ·rw [if_neg c53] at H
         have c53b0 := beq_eq_false_iff_ne.mpr c53
         have c53b1 := bne_iff_ne.mpr c53
         by_cases c81 : ((rd_T93 l0 a1).f0) = 5
         ·rw [if_pos c81] at H
          have c81b0 := beq_iff_eq.mpr c81
          have c81b1 := bne_eq_false_iff_eq.mpr c81
          clear c81
          obtain ⟨y178, hy178⟩ : ∃ y_ : List Bool, y_ = (([] : List Bool)) := ⟨_, rfl⟩
          replace H : (if y178.length + l3.length < 140737488355328 then (spec_l6Step.l2 k l0 l2 (y178 ++ l3) 0 ((rd_T93 l0 a1).f0) ((rd_T93 l0 a1).f1) ((rd_T93 l0 a1).f2) ((rd_T93 l0 a1).f3) ((rd_T93 l0 a1).f4) ((rd_T93 l0 a1).f5) ((rd_T93 l0 a1).f6)) else (none)) = some r := by first | (rw [hy178]; with_reducible exact H) | (have H2_ := (Option.bind_some _ _).symm.trans H; rw [hy178]; with_reducible exact H2_) | (have H2_ := (Option.bind_some _ _).symm.trans H; with_reducible exact H2_) | with_reducible exact H | (rw [hy178]; exact H) | exact H
          have Ny178 := Aside0.mk hy178
          clear hy178
          by_cases c82 : y178.length + l3.length < 140737488355328
          ·rw [if_pos c82] at H
           have LMc82 := Aside0.mk c82
           clear c82
           obtain ⟨y181, hy181⟩ : ∃ y_ : List Bool, y_ = (y178 ++ l3) := ⟨_, rfl⟩
           replace H : (spec_l6Step.l2 k l0 l2 y181 0 ((rd_T93 l0 a1).f0) ((rd_T93 l0 a1).f1) ((rd_T93 l0 a1).f2) ((rd_T93 l0 a1).f3) ((rd_T93 l0 a1).f4) ((rd_T93 l0 a1).f5) ((rd_T93 l0 a1).f6)) = some r := by first | (rw [hy181]; with_reducible exact H) | (have H2_ := (Option.bind_some _ _).symm.trans H; rw [hy181]; with_reducible exact H2_) | (have H2_ := (Option.bind_some _ _).symm.trans H; with_reducible exact H2_) | with_reducible exact H | (rw [hy181]; exact H) | exact H
           have Ny181 := Aside0.mk hy181
           clear hy181
           have H' := Aside0.mk H
           clear H
           go_enter Tryd.func74, Tryd.ntmps74
           go_wp2_with (first | ((with_reducible refine gate_dst (N := 22) rfl ?_); refine Kd.R_make Kd.bool _ 4 rfl (N := 22) rfl 89 _ _ rfl (l3.length : Int) rfl rfl Tryd.underlying89 (.bool false) 1 info4 rfl dq28 dq24 false (ok := fun _ => True) (okp := fun _ => True) rfl (fun _ hk => hk) trivial (of_decide_eq_true dq21) (Nat.le_trans (Nat.mul_le_mul_right _ (of_decide_eq_true dq21 : (l3.length : Int).toNat ≤ 281474976710656)) dq24) (Below.refl _ _) (Nat.le_refl _) ?_; intro v148 w83 ho84 hb hg_ hnew_; clear hg_ hnew_; (first | rw [← Ny147.out] at ho84 | (simp only [Int.reduceToNat] at ho84; rw [← Ny147.out] at ho84)); have n0_ := Aside0.mk (Kd.R_lower ho84 (below_size dq18)); have n1_ := Aside0.mk (below_step dq18 hb); clear HB; have HO149 := n0_; have HB := n1_; clear n0_ n1_; clear hb ho84; have p150 : 0 ≤ (a1 : Int) := of_decide_eq_true dq21; have q150 : a1 < (l0.length : Int) := of_decide_eq_true dq21; obtain ⟨ad150, A150_2, c150_2, e150, hx150_0, hx150_1, hx150_2, hx150_3, hx150_4, hx150_5, hx150_6, hl150_2, hi150_2⟩ := at_T93 HR0.out a1 p150 q150; cases e150; replace hx150_0 := (HB.out.cell (World.block_lt_of_cell? w _ hx150_0)).trans hx150_0; replace hx150_1 := (HB.out.cell (World.block_lt_of_cell? w _ hx150_1)).trans hx150_1; replace hx150_2 := (HB.out.cell (World.block_lt_of_cell? w _ hx150_2)).trans hx150_2; replace hx150_3 := (HB.out.cell (World.block_lt_of_cell? w _ hx150_3)).trans hx150_3; replace hx150_4 := (HB.out.cell (World.block_lt_of_cell? w _ hx150_4)).trans hx150_4; replace hx150_5 := (HB.out.cell (World.block_lt_of_cell? w _ hx150_5)).trans hx150_5; replace hx150_6 := (HB.out.cell (World.block_lt_of_cell? w _ hx150_6)).trans hx150_6; have HR150_2 := Aside0.mk hi150_2; have HC150_2 := Aside0.mk hl150_2; clear hi150_2 hl150_2; replace p150 := eq_true p150; replace q150 := eq_true q150) | ((with_reducible refine gate_dst (N := 10) rfl ?_); refine box_event ?hg (N := 10) ?hd (cs := #[.int .i64 0, .bool false, .slice none 0 0, .int .i64 0, .int .i64 0, .int .i64 0, .int .i64 0]) (t := 93) ?hr ?_; (case hd => rfl); (case hg => rfl); (case hr => exact dq0); intro gb151 hg w85 hbox hb; have n0_ := Aside0.mk (Kd.R_below dq37 hb); have n1_ := Aside0.mk (below_step dq18 hb); have n2_ := Aside0.mk (hbox); have n3_ := Aside0.mk ((dq17 : w.heap.size ≤ gb151)); have n4_ := Aside0.mk ((dq17 : w.heap.size ≤ gb151)); clear HO149; clear HB; have HO149 := n0_; have HB := n1_; have BK151 := n2_; have GW151 := n3_; have GE151 := n4_; clear n0_ n1_ n2_ n3_ n4_; clear hb hbox hg; obtain ⟨⟨hcz86_0, hcz86_1, hcz86_2, hcz86_3, hcz86_4, hcz86_5, hcz86_6⟩, hfz86_0, hfz86_1, hfz86_2, hfz86_3, hfz86_4, hfz86_5, hfz86_6⟩ := blkC7 BK151.out) | ((with_reducible refine gate_dst (N := 106) rfl ?_); refine Kd.R_lit Kd.bool _ 4 ?hg (N := 106) ?hd (xs := ([] : List Bool)) (inner := []) (ok := fun _ => True) (okp := fun _ => True) ?hr ?hp (fun _ hk => hk) trivial (Below.refl _ _) (Nat.le_refl _) dq23 ?_; (case hd => rfl); (case hg => rfl); (case hr => exact dq0); (case hp => exact (Reps.none _ _)); intro v179 w87 ho88 hb hg_ hnew_; clear hg_ hnew_; (first | rw [← Ny178.out] at ho88 | (simp only [Int.reduceToNat] at ho88; rw [← Ny178.out] at ho88)); have n0_ := Aside0.mk (Kd.R_elder' dq40 (Kd.R_base ho88) hb); have n1_ := Aside0.mk (Kd.R_lower (Kd.R_new' ho88 (Kd.R_lt dq40)) (below_size dq38)); have n2_ := Aside0.mk (blk_below (g := gb151) (o := .cells #[.int .i64 ((rd_T93 l0 a1).f0), .bool ((rd_T93 l0 a1).f1), .slice A150_2 ((rd_T93 l0 a1).f2).length c150_2, .int .i64 ((rd_T93 l0 a1).f3), .int .i64 ((rd_T93 l0 a1).f4), .int .i64 ((rd_T93 l0 a1).f5), .int .i64 ((rd_T93 l0 a1).f6)] 93 (0, 0)) dq39 hb); have n3_ := Aside0.mk (below_step dq38 hb); clear HO149; clear BK151; clear HB; have HO149 := n0_; have HO180 := n1_; have BK151 := n2_; have HB := n3_; clear n0_ n1_ n2_ n3_; clear hb ho88) | ((with_reducible refine gate_builtin (b := .append) (xs := #[.tmp 106, .tmp 107]) rfl ?_); at_builtin; refine Kd.R_append_rows Kd.bool (w0 := w) w.heap.size rfl (.tmp 106) (.tmp 107) 89 4 (.bool false) 1 rfl Tryd.underlying89 info4 rfl dq28 dq24 v179 y178 l3 _ _ _ (fun k_ => some k_ ≠ (v148 : Value).ownBlock) (fun _ => False) rfl rfl ?aO ?aR (fun _ _ h => h) (fun _ h => h.elim) ?aF ?aB ?aS ?aL ?_; (case aR => repeat (first | exact (Kd.C_below HR3.out HB.out) | (with_reducible refine Kd.C_alloc ?_ _) | (with_reducible refine Kd.C_drewN ?_ _) | (with_reducible refine Kd.C_drew ?_))); (case aB => exact dq38); (case aF => exact (fun k_ hk => Kd.fresh' (Kd.R_lt dq37) k_ hk)); (case aO => exact (by (with_reducible repeat (first | apply Kd.R_alloc | apply Kd.R_drewN | apply Kd.R_drew)); exact Kd.R_mono HO180.out (fun _ hk => hk.2))); (case aS => exact (below_size dq38)); (case aL => have := LMc82.out; omega); intro v182 w89 ho hb hg hat; rw [← Ny181.out] at ho; have n0_ := Aside0.mk (Kd.R_after (ok := (fun _ => True)) dq37 hg hat); have n1_ := Aside0.mk (blk_grown (g := gb151) (o := .cells #[.int .i64 ((rd_T93 l0 a1).f0), .bool ((rd_T93 l0 a1).f1), .slice A150_2 ((rd_T93 l0 a1).f2).length c150_2, .int .i64 ((rd_T93 l0 a1).f3), .int .i64 ((rd_T93 l0 a1).f4), .int .i64 ((rd_T93 l0 a1).f5), .int .i64 ((rd_T93 l0 a1).f6)] 93 (0, 0)) dq36 hg (Kd.R_ne HO180.out BK151.out dq28)); have n2_ := Aside0.mk (hb); have n3_ := Aside0.mk (ho); clear HO149; clear BK151; clear HB; clear HO180; have HO149 := n0_; have BK151 := n1_; have HB := n2_; have HO183 := n3_; clear n0_ n1_ n2_ n3_; clear ho hb hg hat))
           go_loopg [15, 16] k (fun kq v15 v16 w' => ∃ (x15_1 : List Bool) (x16_1 : Int), v16 = .int .i64 x16_1 ∧ Aside0 (spec_l6Step.l2 kq l0 l2 x15_1 x16_1 ((rd_T93 l0 a1).f0) ((rd_T93 l0 a1).f1) ((rd_T93 l0 a1).f2) ((rd_T93 l0 a1).f3) ((rd_T93 l0 a1).f4) ((rd_T93 l0 a1).f5) ((rd_T93 l0 a1).f6) = some r) ∧ Aside0 (kq ≤ k) ∧ Aside0 (Kd.R Kd.bool 4 w' w.heap.size (fun _ => True) v15 x15_1) ∧ Aside0 (w'.heap[gb151]? = some (.cells #[.int .i64 ((rd_T93 l0 a1).f0), .bool ((rd_T93 l0 a1).f1), (.slice A150_2 ((rd_T93 l0 a1).f2).length c150_2), .int .i64 ((rd_T93 l0 a1).f3), .int .i64 ((rd_T93 l0 a1).f4), .int .i64 ((rd_T93 l0 a1).f5), .int .i64 ((rd_T93 l0 a1).f6)] 93 (0, 0))) ∧ Aside0 (Below w.heap.size w w'))
           case atStart => exact ⟨(y181), (0), dq14, H', ⟨Nat.le_refl _⟩, ⟨by (with_reducible repeat (first | apply Kd.R_alloc | apply Kd.R_drewN | apply Kd.R_drew)); exact Kd.R_mono HO183.out (fun _ hk => trivial)⟩, ⟨dq36⟩, ⟨dq38⟩⟩
           case round =>
            clear H'
            try clear c1
            try clear p1
            try clear q1
            try clear hx1
            try clear c2
            try clear p2
            try clear q2
            try clear c3
            try clear p3
            try clear q3
            try clear hx3
            try clear c4
            try clear c5
            try clear c6
            try clear p6
            try clear q6
            try clear hx6
            try clear hf6
            try clear c7
            try clear p7
            try clear q7
            try clear hx7
            try clear hf7
            try clear c8
            try clear c10
            try clear c15
            try clear p15
            try clear q15
            try clear hx15
            try clear p17
            try clear q17
            try clear hx17
            try clear c18
            try clear c18b0
            try clear c18b1
            try clear c23
            try clear c23b0
            try clear c24
            try clear c25
            try clear q26
            try clear c27
            try clear c29
            try clear c31
            try clear c32
            try clear p33
            try clear q33
            try clear hx33
            try clear hf33
            try clear c41
            try clear c41b0
            try clear c41b1
            try clear c53
            try clear c53b0
            try clear c53b1
            try clear c63
            try clear c63b0
            try clear c64
            try clear c64b0
            try clear p64
            try clear c65
            try clear c65b0
            try clear q66
            try clear c67
            try clear p68
            try clear q68
            try clear hx68
            try clear hf68
            try clear c73
            try clear c73b0
            try clear c74
            try clear p74
            try clear q74
            try clear hx74
            try clear hf74
            try clear c81
            try clear c81b0
            try clear c81b1
            try clear c82
            try clear hcz47_0
            try clear hcz47_1
            try clear hcz47_2
            try clear hcz47_3
            try clear hcz47_4
            try clear hcz47_5
            try clear hcz47_6
            try clear hcz59_0
            try clear hcz59_1
            try clear hcz59_2
            try clear hcz59_3
            try clear hcz59_4
            try clear hcz59_5
            try clear hcz59_6
            try clear hcz61_0
            try clear hcz61_1
            try clear hcz61_2
            try clear hcz61_3
            try clear hcz61_4
            try clear hcz61_5
            try clear hcz61_6
            try clear hcz86_0
            try clear hcz86_1
            try clear hcz86_2
            try clear hcz86_3
            try clear hcz86_4
            try clear hcz86_5
            try clear hcz86_6
            try clear hfz47_0
            try clear hfz47_1
            try clear hfz47_2
            try clear hfz47_3
            try clear hfz47_4
            try clear hfz47_5
            try clear hfz47_6
            try clear hfz59_0
            try clear hfz59_1
            try clear hfz59_2
            try clear hfz59_3
            try clear hfz59_4
            try clear hfz59_5
            try clear hfz59_6
            try clear hfz61_0
            try clear hfz61_1
            try clear hfz61_2
            try clear hfz61_3
            try clear hfz61_4
            try clear hfz61_5
            try clear hfz61_6
            try clear hfz86_0
            try clear hfz86_1
            try clear hfz86_2
            try clear hfz86_3
            try clear hfz86_4
            try clear hfz86_5
            try clear hfz86_6
            try clear hx150_0
            try clear hx150_1
            try clear hx150_2
            try clear hx150_3
            try clear hx150_4
            try clear hx150_5
            try clear hx150_6
            try clear hx158_0
            try clear hx159_0
            try clear hx174_0
            try clear hx176_0
            try clear hx33_0
            try clear hx68_0
            try clear hx74_0
            try clear p1
            try clear p15
            try clear p150
            try clear p158
            try clear p159
            try clear p174
            try clear p176
            try clear p2
            try clear p3
            try clear p33
            try clear p6
            try clear p68
            try clear p74
            try clear q1
            try clear q15
            try clear q150
            try clear q158
            try clear q159
            try clear q174
            try clear q176
            try clear q2
            try clear q26
            try clear q3
            try clear q33
            try clear q68
            try clear q74
            obtain ⟨x15_1, x16_1, rfl, HA, HK1, HO_15, BK151, HB⟩ := hrel
            cases gk with
            | zero => exact absurd HA.out (by simp [spec_l6Step.l2])
            | succ k1 =>
             have H := HA.out
             clear HA
             simp only [spec_l6Step.l2] at H
             by_cases c90 : x16_1 < ((rd_T93 l0 a1).f5)
             ·rw [if_pos c90] at H
              have c90b0 := decide_eq_true c90
              clear c90
              replace H := Option.bind_eq_some_iff.mp H
              obtain ⟨t184, A910, H⟩ := H
              replace H : (spec_l6Step.l2 k1 l0 l2 t184 (wrap64 (x16_1 + 1)) ((rd_T93 l0 a1).f0) ((rd_T93 l0 a1).f1) ((rd_T93 l0 a1).f2) ((rd_T93 l0 a1).f3) ((rd_T93 l0 a1).f4) ((rd_T93 l0 a1).f5) ((rd_T93 l0 a1).f6)) = some r := H
              have A91 := Aside0.mk A910
              clear A910
              have H' := Aside0.mk H
              clear H
              obtain ⟨⟨hcz92_0, hcz92_1, hcz92_2, hcz92_3, hcz92_4, hcz92_5, hcz92_6⟩, hfz92_0, hfz92_1, hfz92_2, hfz92_3, hfz92_4, hfz92_5, hfz92_6⟩ := blkC7 BK151.out
              obtain ⟨Ao93, co93, eo93⟩ := Kd.R_slice HO_15.out
              subst eo93
              go_wp2_with (first | ((with_reducible refine gate_callee (f := 74) rfl ?_); refine goesL_ (some 120) rfl rfl Tryd.func74 dq16 rfl #[.slice (some ad150) l0.length c0, .int .i64 ((rd_T93 l0 a1).f3), .slice A2 l2.length c2, .slice Ao93 x15_1.length co93] rfl dq15 ?_; (with_reducible refine (ih k1 dq22 _ _ l0 ((rd_T93 l0 a1).f3) _ _ l2 _ _ x15_1 t184 _ ?side1 ?side2 ?side3 ?side4 ?side5 ?side6 A91.out).mono ?_); (case side1 => exact dq4); (case side2 => exact dq3); (case side3 => exact dq5); (case side4 => exact HC2.out); (case side5 => repeat (first | exact (Kd.R_reads' HO_15.out).2.2 | (with_reducible refine Kd.C_alloc ?_ _) | (with_reducible refine Kd.C_drewN ?_ _) | (with_reducible refine Kd.C_drew ?_))); (case side6 => exact (Kd.R_reads' HO_15.out).2.1); rintro e w94 ⟨v185, rfl, ho0, hb⟩; refine ⟨_, rfl, ?_⟩; have n0_ := Aside0.mk (Kd.R_elder' dq46 (Kd.R_base ho0) hb); have n1_ := Aside0.mk (Kd.R_lower (Kd.R_new' ho0 (Kd.R_lt dq46)) (below_size dq38)); have n2_ := Aside0.mk (blk_below (g := gb151) (o := .cells #[.int .i64 ((rd_T93 l0 a1).f0), .bool ((rd_T93 l0 a1).f1), .slice A150_2 ((rd_T93 l0 a1).f2).length c150_2, .int .i64 ((rd_T93 l0 a1).f3), .int .i64 ((rd_T93 l0 a1).f4), .int .i64 ((rd_T93 l0 a1).f5), .int .i64 ((rd_T93 l0 a1).f6)] 93 (0, 0)) dq36 hb); have n3_ := Aside0.mk (below_step dq38 hb); clear HO_15; clear BK151; clear HB; have HO_15 := n0_; have HO186 := n1_; have BK151 := n2_; have HB := n3_; clear n0_ n1_ n2_ n3_; (try clear hb); (try clear hb2); (try clear hk); (try clear hi); (try clear ho0)))
              go_roundg k1
              case measure => have := HK1.out; omega
              case rel => exact ⟨(t184), (wrap64 (x16_1 + 1)), dq14, H', ⟨dq22⟩, ⟨by (with_reducible repeat (first | apply Kd.R_alloc | apply Kd.R_drewN | apply Kd.R_drew)); exact Kd.R_mono HO186.out (fun _ hk => trivial)⟩, ⟨dq36⟩, ⟨dq38⟩⟩
             ·rw [if_neg c90] at H
              have c90b0 := decide_eq_false c90
              clear c90
              obtain ⟨y187, hy187⟩ : ∃ y_ : List Bool, y_ = (([] : List Bool)) := ⟨_, rfl⟩
              replace H : (if y187.length + x15_1.length < 140737488355328 then (spec_l6Step.l3 k1 l0 l2 (y187 ++ x15_1) x15_1 ((rd_T93 l0 a1).f5) ((rd_T93 l0 a1).f0) ((rd_T93 l0 a1).f1) ((rd_T93 l0 a1).f2) ((rd_T93 l0 a1).f3) ((rd_T93 l0 a1).f4) ((rd_T93 l0 a1).f5) ((rd_T93 l0 a1).f6)) else (none)) = some r := by first | (rw [hy187]; with_reducible exact H) | (have H2_ := (Option.bind_some _ _).symm.trans H; rw [hy187]; with_reducible exact H2_) | (have H2_ := (Option.bind_some _ _).symm.trans H; with_reducible exact H2_) | with_reducible exact H | (rw [hy187]; exact H) | exact H
              have Ny187 := Aside0.mk hy187
              clear hy187
              by_cases c95 : y187.length + x15_1.length < 140737488355328
              ·rw [if_pos c95] at H
               have LMc95 := Aside0.mk c95
               clear c95
               obtain ⟨y190, hy190⟩ : ∃ y_ : List Bool, y_ = (y187 ++ x15_1) := ⟨_, rfl⟩
               replace H : (spec_l6Step.l3 k1 l0 l2 y190 x15_1 ((rd_T93 l0 a1).f5) ((rd_T93 l0 a1).f0) ((rd_T93 l0 a1).f1) ((rd_T93 l0 a1).f2) ((rd_T93 l0 a1).f3) ((rd_T93 l0 a1).f4) ((rd_T93 l0 a1).f5) ((rd_T93 l0 a1).f6)) = some r := by first | (rw [hy190]; with_reducible exact H) | (have H2_ := (Option.bind_some _ _).symm.trans H; rw [hy190]; with_reducible exact H2_) | (have H2_ := (Option.bind_some _ _).symm.trans H; with_reducible exact H2_) | with_reducible exact H | (rw [hy190]; exact H) | exact H
               have Ny190 := Aside0.mk hy190
               clear hy190
               have H' := Aside0.mk H
               clear H
               obtain ⟨⟨hcz96_0, hcz96_1, hcz96_2, hcz96_3, hcz96_4, hcz96_5, hcz96_6⟩, hfz96_0, hfz96_1, hfz96_2, hfz96_3, hfz96_4, hfz96_5, hfz96_6⟩ := blkC7 BK151.out
               go_wp2_with (first | ((with_reducible refine gate_dst (N := 121) rfl ?_); refine Kd.R_lit Kd.bool _ 4 ?hg (N := 121) ?hd (xs := ([] : List Bool)) (inner := []) (ok := fun _ => True) (okp := fun _ => True) ?hr ?hp (fun _ hk => hk) trivial (Below.refl _ _) (Nat.le_refl _) dq23 ?_; (case hd => rfl); (case hg => rfl); (case hr => exact dq0); (case hp => exact (Reps.none _ _)); intro v188 w97 ho98 hb hg_ hnew_; clear hg_ hnew_; (first | rw [← Ny187.out] at ho98 | (simp only [Int.reduceToNat] at ho98; rw [← Ny187.out] at ho98)); have n0_ := Aside0.mk (Kd.R_elder' dq46 (Kd.R_base ho98) hb); have n1_ := Aside0.mk (Kd.R_lower (Kd.R_new' ho98 (Kd.R_lt dq46)) (below_size dq38)); have n2_ := Aside0.mk (blk_below (g := gb151) (o := .cells #[.int .i64 ((rd_T93 l0 a1).f0), .bool ((rd_T93 l0 a1).f1), .slice A150_2 ((rd_T93 l0 a1).f2).length c150_2, .int .i64 ((rd_T93 l0 a1).f3), .int .i64 ((rd_T93 l0 a1).f4), .int .i64 ((rd_T93 l0 a1).f5), .int .i64 ((rd_T93 l0 a1).f6)] 93 (0, 0)) dq36 hb); have n3_ := Aside0.mk (below_step dq38 hb); clear HO_15; clear BK151; clear HB; have HO_15 := n0_; have HO189 := n1_; have BK151 := n2_; have HB := n3_; clear n0_ n1_ n2_ n3_; clear hb ho98; obtain ⟨Ao100, co100, eo100⟩ := Kd.R_slice HO_15.out; subst eo100) | ((with_reducible refine gate_builtin (b := .append) (xs := #[.tmp 121, .tmp 122]) rfl ?_); at_builtin; refine Kd.R_append_rows Kd.bool (w0 := w) w.heap.size rfl (.tmp 121) (.tmp 122) 89 4 (.bool false) 1 rfl Tryd.underlying89 info4 rfl dq28 dq24 v188 y187 x15_1 _ _ _ (fun k_ => some k_ ≠ (.slice Ao100 x15_1.length co100 : Value).ownBlock) (fun _ => False) rfl rfl ?aO ?aR (fun _ _ h => h) (fun _ h => h.elim) ?aF ?aB ?aS ?aL ?_; (case aR => repeat (first | exact (Kd.R_reads' HO_15.out).2.2 | (with_reducible refine Kd.C_alloc ?_ _) | (with_reducible refine Kd.C_drewN ?_ _) | (with_reducible refine Kd.C_drew ?_))); (case aB => exact dq38); (case aF => exact (fun k_ hk => Kd.fresh' (Kd.R_lt dq46) k_ hk)); (case aO => exact (by (with_reducible repeat (first | apply Kd.R_alloc | apply Kd.R_drewN | apply Kd.R_drew)); exact Kd.R_mono HO189.out (fun _ hk => hk.2))); (case aS => exact (below_size dq38)); (case aL => have := LMc95.out; omega); intro v191 w99 ho hb hg hat; rw [← Ny190.out] at ho; have n0_ := Aside0.mk (Kd.R_after (ok := (fun _ => True)) dq46 hg hat); have n1_ := Aside0.mk (blk_grown (g := gb151) (o := .cells #[.int .i64 ((rd_T93 l0 a1).f0), .bool ((rd_T93 l0 a1).f1), .slice A150_2 ((rd_T93 l0 a1).f2).length c150_2, .int .i64 ((rd_T93 l0 a1).f3), .int .i64 ((rd_T93 l0 a1).f4), .int .i64 ((rd_T93 l0 a1).f5), .int .i64 ((rd_T93 l0 a1).f6)] 93 (0, 0)) dq36 hg (Kd.R_ne HO189.out BK151.out dq28)); have n2_ := Aside0.mk (hb); have n3_ := Aside0.mk (ho); clear HO_15; clear BK151; clear HB; clear HO189; have HO_15 := n0_; have BK151 := n1_; have HB := n2_; have HO192 := n3_; clear n0_ n1_ n2_ n3_; clear ho hb hg hat; obtain ⟨⟨hcz101_0, hcz101_1, hcz101_2, hcz101_3, hcz101_4, hcz101_5, hcz101_6⟩, hfz101_0, hfz101_1, hfz101_2, hfz101_3, hfz101_4, hfz101_5, hfz101_6⟩ := blkC7 BK151.out))
               go_loopg [15, 17] k1 (fun kq v15 v17 w' => ∃ (x9_2 : List Bool) (x15_2 : List Bool) (x17_2 : Int), v17 = .int .i64 x17_2 ∧ Aside0 (spec_l6Step.l3 kq l0 l2 x9_2 x15_2 x17_2 ((rd_T93 l0 a1).f0) ((rd_T93 l0 a1).f1) ((rd_T93 l0 a1).f2) ((rd_T93 l0 a1).f3) ((rd_T93 l0 a1).f4) ((rd_T93 l0 a1).f5) ((rd_T93 l0 a1).f6) = some r) ∧ Aside0 (kq ≤ k1) ∧ Aside0 (Kd.R Kd.bool 4 w' w.heap.size (fun k_ => some k_ ≠ (v15 : Value).ownBlock) v191 x9_2) ∧ Aside0 (Kd.R Kd.bool 4 w' w.heap.size (fun k_ => some k_ ≠ (v191 : Value).ownBlock) v15 x15_2) ∧ Aside0 (w'.heap[gb151]? = some (.cells #[.int .i64 ((rd_T93 l0 a1).f0), .bool ((rd_T93 l0 a1).f1), (.slice A150_2 ((rd_T93 l0 a1).f2).length c150_2), .int .i64 ((rd_T93 l0 a1).f3), .int .i64 ((rd_T93 l0 a1).f4), .int .i64 ((rd_T93 l0 a1).f5), .int .i64 ((rd_T93 l0 a1).f6)] 93 (0, 0))) ∧ Aside0 (Below w.heap.size w w'))
               case atStart => exact ⟨(y190), (x15_1), (((rd_T93 l0 a1).f5)), dq14, H', ⟨Nat.le_refl _⟩, ⟨by (with_reducible repeat (first | apply Kd.R_alloc | apply Kd.R_drewN | apply Kd.R_drew)); exact HO192.out⟩, ⟨dq47⟩, ⟨dq36⟩, ⟨dq38⟩⟩
               case round =>
                clear H'
                try clear c1
                try clear p1
                try clear q1
                try clear hx1
                try clear c2
                try clear p2
                try clear q2
                try clear c3
                try clear p3
                try clear q3
                try clear hx3
                try clear c4
                try clear c5
                try clear c6
                try clear p6
                try clear q6
                try clear hx6
                try clear hf6
                try clear c7
                try clear p7
                try clear q7
                try clear hx7
                try clear hf7
                try clear c8
                try clear c9
                try clear c10
                try clear c15
                try clear p15
                try clear q15
                try clear hx15
                try clear p17
                try clear q17
                try clear hx17
                try clear c18
                try clear c18b0
                try clear c18b1
                try clear c23
                try clear c23b0
                try clear c24
                try clear c25
                try clear q26
                try clear c27
                try clear c29
                try clear c31
                try clear c32
                try clear p33
                try clear q33
                try clear hx33
                try clear hf33
                try clear c41
                try clear c41b0
                try clear c41b1
                try clear c53
                try clear c53b0
                try clear c53b1
                try clear c63
                try clear c63b0
                try clear c64
                try clear c64b0
                try clear p64
                try clear c65
                try clear c65b0
                try clear q66
                try clear c67
                try clear p68
                try clear q68
                try clear hx68
                try clear hf68
                try clear c73
                try clear c73b0
                try clear c74
                try clear p74
                try clear q74
                try clear hx74
                try clear hf74
                try clear c81
                try clear c81b0
                try clear c81b1
                try clear c82
                try clear c90
                try clear c90b0
                try clear c95
                try clear hcz101_0
                try clear hcz101_1
                try clear hcz101_2
                try clear hcz101_3
                try clear hcz101_4
                try clear hcz101_5
                try clear hcz101_6
                try clear hcz47_0
                try clear hcz47_1
                try clear hcz47_2
                try clear hcz47_3
                try clear hcz47_4
                try clear hcz47_5
                try clear hcz47_6
                try clear hcz59_0
                try clear hcz59_1
                try clear hcz59_2
                try clear hcz59_3
                try clear hcz59_4
                try clear hcz59_5
                try clear hcz59_6
                try clear hcz61_0
                try clear hcz61_1
                try clear hcz61_2
                try clear hcz61_3
                try clear hcz61_4
                try clear hcz61_5
                try clear hcz61_6
                try clear hcz86_0
                try clear hcz86_1
                try clear hcz86_2
                try clear hcz86_3
                try clear hcz86_4
                try clear hcz86_5
                try clear hcz86_6
                try clear hcz92_0
                try clear hcz92_1
                try clear hcz92_2
                try clear hcz92_3
                try clear hcz92_4
                try clear hcz92_5
                try clear hcz92_6
                try clear hcz96_0
                try clear hcz96_1
                try clear hcz96_2
                try clear hcz96_3
                try clear hcz96_4
                try clear hcz96_5
                try clear hcz96_6
                try clear hfz101_0
                try clear hfz101_1
                try clear hfz101_2
                try clear hfz101_3
                try clear hfz101_4
                try clear hfz101_5
                try clear hfz101_6
                try clear hfz47_0
                try clear hfz47_1
                try clear hfz47_2
                try clear hfz47_3
                try clear hfz47_4
                try clear hfz47_5
                try clear hfz47_6
                try clear hfz59_0
                try clear hfz59_1
                try clear hfz59_2
                try clear hfz59_3
                try clear hfz59_4
                try clear hfz59_5
                try clear hfz59_6
                try clear hfz61_0
                try clear hfz61_1
                try clear hfz61_2
                try clear hfz61_3
                try clear hfz61_4
                try clear hfz61_5
                try clear hfz61_6
                try clear hfz86_0
                try clear hfz86_1
                try clear hfz86_2
                try clear hfz86_3
                try clear hfz86_4
                try clear hfz86_5
                try clear hfz86_6
                try clear hfz92_0
                try clear hfz92_1
                try clear hfz92_2
                try clear hfz92_3
                try clear hfz92_4
                try clear hfz92_5
                try clear hfz92_6
                try clear hfz96_0
                try clear hfz96_1
                try clear hfz96_2
                try clear hfz96_3
                try clear hfz96_4
                try clear hfz96_5
                try clear hfz96_6
                try clear hx150_0
                try clear hx150_1
                try clear hx150_2
                try clear hx150_3
                try clear hx150_4
                try clear hx150_5
                try clear hx150_6
                try clear hx158_0
                try clear hx159_0
                try clear hx174_0
                try clear hx176_0
                try clear hx33_0
                try clear hx68_0
                try clear hx74_0
                try clear p1
                try clear p15
                try clear p150
                try clear p158
                try clear p159
                try clear p17
                try clear p174
                try clear p176
                try clear p2
                try clear p3
                try clear p33
                try clear p6
                try clear p64
                try clear p68
                try clear p7
                try clear p74
                try clear q1
                try clear q15
                try clear q150
                try clear q158
                try clear q159
                try clear q17
                try clear q174
                try clear q176
                try clear q2
                try clear q26
                try clear q3
                try clear q33
                try clear q6
                try clear q66
                try clear q68
                try clear q7
                try clear q74
                obtain ⟨x9_2, x15_2, x17_2, rfl, HA, HK2, HO_9, HO_15, BK151, HB⟩ := hrel
                cases gk with
                | zero => exact absurd HA.out (by simp [spec_l6Step.l3])
                | succ k2 =>
                 have H := HA.out
                 clear HA
                 simp only [spec_l6Step.l3] at H
                 have HC102 := Aside0.mk H
                 clear H
                 go_upto_region 29 with (fail)
                 go_cut [134] (fun v134 wc => ∃ (kq : Nat) (x134_101 : Bool), v134 = .bool x134_101 ∧ Aside0 (spec_l6Step.j4 kq l0 l2 x9_2 x15_2 x17_2 x134_101 ((rd_T93 l0 a1).f0) ((rd_T93 l0 a1).f1) ((rd_T93 l0 a1).f2) ((rd_T93 l0 a1).f3) ((rd_T93 l0 a1).f4) ((rd_T93 l0 a1).f5) ((rd_T93 l0 a1).f6) = some r) ∧ Aside0 (kq ≤ k2) ∧ Aside0 (Kd.R Kd.bool 4 wc w.heap.size (fun k_ => some k_ ≠ (u15 : Value).ownBlock) v191 x9_2) ∧ Aside0 (Kd.R Kd.bool 4 wc w.heap.size (fun k_ => some k_ ≠ (v191 : Value).ownBlock) u15 x15_2) ∧ Aside0 (wc.heap[gb151]? = some (.cells #[.int .i64 ((rd_T93 l0 a1).f0), .bool ((rd_T93 l0 a1).f1), (.slice A150_2 ((rd_T93 l0 a1).f2).length c150_2), .int .i64 ((rd_T93 l0 a1).f3), .int .i64 ((rd_T93 l0 a1).f4), .int .i64 ((rd_T93 l0 a1).f5), .int .i64 ((rd_T93 l0 a1).f6)] 93 (0, 0))) ∧ Aside0 (Below w.heap.size w wc))
                 case first =>
                  have H := HC102.out
                  clear HC102
                  by_cases c103 : x17_2 < ((rd_T93 l0 a1).f6)
                  ·rw [if_pos c103] at H
                   have c103b0 := decide_eq_true c103
                   clear c103
                   (first | rw [c103b0] | (simp only [i64_w, i32_w]; rw [c103b0]) | skip)
                   have H' := Aside0.mk H
                   clear H
                   obtain ⟨⟨hcz104_0, hcz104_1, hcz104_2, hcz104_3, hcz104_4, hcz104_5, hcz104_6⟩, hfz104_0, hfz104_1, hfz104_2, hfz104_3, hfz104_4, hfz104_5, hfz104_6⟩ := blkC7 BK151.out
                   go_wp2
                   go_meet
                   case rel => exact ⟨_, (true), dq14, H', ⟨dq48⟩, ⟨dq42⟩, ⟨dq46⟩, ⟨dq36⟩, ⟨dq38⟩⟩
                  ·rw [if_neg c103] at H
                   have c103b0 := decide_eq_false c103
                   clear c103
                   (first | rw [c103b0] | (simp only [i64_w, i32_w]; rw [c103b0]) | skip)
                   have H' := Aside0.mk H
                   clear H
                   obtain ⟨⟨hcz105_0, hcz105_1, hcz105_2, hcz105_3, hcz105_4, hcz105_5, hcz105_6⟩, hfz105_0, hfz105_1, hfz105_2, hfz105_3, hfz105_4, hfz105_5, hfz105_6⟩ := blkC7 BK151.out
                   go_wp2
                   go_meet
                   case rel => exact ⟨_, ((((rd_T93 l0 a1).f6) == (-1))), dq14, H', ⟨dq48⟩, ⟨dq42⟩, ⟨dq46⟩, ⟨dq36⟩, ⟨dq38⟩⟩
                 case rest =>
                  clear HC102
                  try clear c1
                  try clear p1
                  try clear q1
                  try clear hx1
                  try clear c2
                  try clear p2
                  try clear q2
                  try clear c3
                  try clear p3
                  try clear q3
                  try clear hx3
                  try clear c4
                  try clear c5
                  try clear c6
                  try clear p6
                  try clear q6
                  try clear hx6
                  try clear hf6
                  try clear c7
                  try clear p7
                  try clear q7
                  try clear hx7
                  try clear hf7
                  try clear c8
                  try clear c9
                  try clear c10
                  try clear c15
                  try clear p15
                  try clear q15
                  try clear hx15
                  try clear p17
                  try clear q17
                  try clear hx17
                  try clear c18
                  try clear c18b0
                  try clear c18b1
                  try clear c23
                  try clear c23b0
                  try clear c24
                  try clear c25
                  try clear q26
                  try clear c27
                  try clear c29
                  try clear c31
                  try clear c32
                  try clear p33
                  try clear q33
                  try clear hx33
                  try clear hf33
                  try clear c41
                  try clear c41b0
                  try clear c41b1
                  try clear c53
                  try clear c53b0
                  try clear c53b1
                  try clear c63
                  try clear c63b0
                  try clear c64
                  try clear c64b0
                  try clear p64
                  try clear c65
                  try clear c65b0
                  try clear q66
                  try clear c67
                  try clear p68
                  try clear q68
                  try clear hx68
                  try clear hf68
                  try clear c73
                  try clear c73b0
                  try clear c74
                  try clear p74
                  try clear q74
                  try clear hx74
                  try clear hf74
                  try clear c81
                  try clear c81b0
                  try clear c81b1
                  try clear c82
                  try clear c90
                  try clear c90b0
                  try clear c95
                  try clear c103
                  try clear c103b0
                  try clear hcz101_0
                  try clear hcz101_1
                  try clear hcz101_2
                  try clear hcz101_3
                  try clear hcz101_4
                  try clear hcz101_5
                  try clear hcz101_6
                  try clear hcz104_0
                  try clear hcz104_1
                  try clear hcz104_2
                  try clear hcz104_3
                  try clear hcz104_4
                  try clear hcz104_5
                  try clear hcz104_6
                  try clear hcz105_0
                  try clear hcz105_1
                  try clear hcz105_2
                  try clear hcz105_3
                  try clear hcz105_4
                  try clear hcz105_5
                  try clear hcz105_6
                  try clear hcz47_0
                  try clear hcz47_1
                  try clear hcz47_2
                  try clear hcz47_3
                  try clear hcz47_4
                  try clear hcz47_5
                  try clear hcz47_6
                  try clear hcz59_0
                  try clear hcz59_1
                  try clear hcz59_2
                  try clear hcz59_3
                  try clear hcz59_4
                  try clear hcz59_5
                  try clear hcz59_6
                  try clear hcz61_0
                  try clear hcz61_1
                  try clear hcz61_2
                  try clear hcz61_3
                  try clear hcz61_4
                  try clear hcz61_5
                  try clear hcz61_6
                  try clear hcz86_0
                  try clear hcz86_1
                  try clear hcz86_2
                  try clear hcz86_3
                  try clear hcz86_4
                  try clear hcz86_5
                  try clear hcz86_6
                  try clear hcz92_0
                  try clear hcz92_1
                  try clear hcz92_2
                  try clear hcz92_3
                  try clear hcz92_4
                  try clear hcz92_5
                  try clear hcz92_6
                  try clear hcz96_0
                  try clear hcz96_1
                  try clear hcz96_2
                  try clear hcz96_3
                  try clear hcz96_4
                  try clear hcz96_5
                  try clear hcz96_6
                  try clear hfz101_0
                  try clear hfz101_1
                  try clear hfz101_2
                  try clear hfz101_3
                  try clear hfz101_4
                  try clear hfz101_5
                  try clear hfz101_6
                  try clear hfz104_0
                  try clear hfz104_1
                  try clear hfz104_2
                  try clear hfz104_3
                  try clear hfz104_4
                  try clear hfz104_5
                  try clear hfz104_6
                  try clear hfz105_0
                  try clear hfz105_1
                  try clear hfz105_2
                  try clear hfz105_3
                  try clear hfz105_4
                  try clear hfz105_5
                  try clear hfz105_6
                  try clear hfz47_0
                  try clear hfz47_1
                  try clear hfz47_2
                  try clear hfz47_3
                  try clear hfz47_4
                  try clear hfz47_5
                  try clear hfz47_6
                  try clear hfz59_0
                  try clear hfz59_1
                  try clear hfz59_2
                  try clear hfz59_3
                  try clear hfz59_4
                  try clear hfz59_5
                  try clear hfz59_6
                  try clear hfz61_0
                  try clear hfz61_1
                  try clear hfz61_2
                  try clear hfz61_3
                  try clear hfz61_4
                  try clear hfz61_5
                  try clear hfz61_6
                  try clear hfz86_0
                  try clear hfz86_1
                  try clear hfz86_2
                  try clear hfz86_3
                  try clear hfz86_4
                  try clear hfz86_5
                  try clear hfz86_6
                  try clear hfz92_0
                  try clear hfz92_1
                  try clear hfz92_2
                  try clear hfz92_3
                  try clear hfz92_4
                  try clear hfz92_5
                  try clear hfz92_6
                  try clear hfz96_0
                  try clear hfz96_1
                  try clear hfz96_2
                  try clear hfz96_3
                  try clear hfz96_4
                  try clear hfz96_5
                  try clear hfz96_6
                  try clear hx150_0
                  try clear hx150_1
                  try clear hx150_2
                  try clear hx150_3
                  try clear hx150_4
                  try clear hx150_5
                  try clear hx150_6
                  try clear hx158_0
                  try clear hx159_0
                  try clear hx174_0
                  try clear hx176_0
                  try clear hx33_0
                  try clear hx68_0
                  try clear hx74_0
                  try clear p1
                  try clear p15
                  try clear p150
                  try clear p158
                  try clear p159
                  try clear p17
                  try clear p174
                  try clear p176
                  try clear p2
                  try clear p3
                  try clear p33
                  try clear p6
                  try clear p64
                  try clear p68
                  try clear p7
                  try clear p74
                  try clear q1
                  try clear q15
                  try clear q150
                  try clear q158
                  try clear q159
                  try clear q17
                  try clear q174
                  try clear q176
                  try clear q2
                  try clear q26
                  try clear q3
                  try clear q33
                  try clear q6
                  try clear q66
                  try clear q68
                  try clear q7
                  try clear q74
                  obtain ⟨kq, x134_101, rfl, HA, HJ101, HO_9, HO_15, BK151, HB⟩ := hcut
                  cases kq with
                  | zero => exact absurd HA.out (by simp [spec_l6Step.j4])
                  | succ kj101 =>
                   have H := HA.out
                   clear HA
                   simp only [spec_l6Step.j4] at H
                   by_cases c106 : x134_101 = true
                   ·subst c106
                    have H1 : ((spec_l6Step.f kj101 l0 ((rd_T93 l0 a1).f3) l2 x15_2).bind fun t193 => (spec_l6Step.l4 kj101 l0 l2 x9_2 t193 x17_2 false 0 ((rd_T93 l0 a1).f0) ((rd_T93 l0 a1).f1) ((rd_T93 l0 a1).f2) ((rd_T93 l0 a1).f3) ((rd_T93 l0 a1).f4) ((rd_T93 l0 a1).f5) ((rd_T93 l0 a1).f6))) = some r := by rw [if_pos rfl] at H; exact H
                    clear H
                    have H := H1
                    clear H1
                    replace H := Option.bind_eq_some_iff.mp H
                    obtain ⟨t193, A1070, H⟩ := H
                    replace H : (spec_l6Step.l4 kj101 l0 l2 x9_2 t193 x17_2 false 0 ((rd_T93 l0 a1).f0) ((rd_T93 l0 a1).f1) ((rd_T93 l0 a1).f2) ((rd_T93 l0 a1).f3) ((rd_T93 l0 a1).f4) ((rd_T93 l0 a1).f5) ((rd_T93 l0 a1).f6)) = some r := H
                    have A107 := Aside0.mk A1070
                    clear A1070
                    have H' := Aside0.mk H
                    clear H
                    obtain ⟨⟨hcz108_0, hcz108_1, hcz108_2, hcz108_3, hcz108_4, hcz108_5, hcz108_6⟩, hfz108_0, hfz108_1, hfz108_2, hfz108_3, hfz108_4, hfz108_5, hfz108_6⟩ := blkC7 BK151.out
                    obtain ⟨Ao109, co109, eo109⟩ := Kd.R_slice HO_15.out
                    subst eo109
                    go_wp2_with (first | ((with_reducible refine gate_callee (f := 74) rfl ?_); refine goesL_ (some 142) rfl rfl Tryd.func74 dq16 rfl #[.slice (some ad150) l0.length c0, .int .i64 ((rd_T93 l0 a1).f3), .slice A2 l2.length c2, .slice Ao109 x15_2.length co109] rfl dq15 ?_; (with_reducible refine (ih kj101 (by have := HK1.out; have := HK2.out; have := HJ101.out; omega) _ _ l0 ((rd_T93 l0 a1).f3) _ _ l2 _ _ x15_2 t193 _ ?side1 ?side2 ?side3 ?side4 ?side5 ?side6 A107.out).mono ?_); (case side1 => exact dq4); (case side2 => exact dq3); (case side3 => exact dq5); (case side4 => exact HC2.out); (case side5 => repeat (first | exact (Kd.R_reads' HO_15.out).2.2 | (with_reducible refine Kd.C_alloc ?_ _) | (with_reducible refine Kd.C_drewN ?_ _) | (with_reducible refine Kd.C_drew ?_))); (case side6 => exact (Kd.R_reads' HO_15.out).2.1); rintro e w110 ⟨v194, rfl, ho0, hb⟩; refine ⟨_, rfl, ?_⟩; have n0_ := Aside0.mk (Kd.R_elder' dq42 (Kd.R_base ho0) hb); have n1_ := Aside0.mk (Kd.R_elder' dq46 (Kd.R_base ho0) hb); have n2_ := Aside0.mk (Kd.R_lower (Kd.R_new' (Kd.R_new' ho0 (Kd.R_lt dq42)) (Kd.R_lt dq46)) (below_size dq38)); have n3_ := Aside0.mk (blk_below (g := gb151) (o := .cells #[.int .i64 ((rd_T93 l0 a1).f0), .bool ((rd_T93 l0 a1).f1), .slice A150_2 ((rd_T93 l0 a1).f2).length c150_2, .int .i64 ((rd_T93 l0 a1).f3), .int .i64 ((rd_T93 l0 a1).f4), .int .i64 ((rd_T93 l0 a1).f5), .int .i64 ((rd_T93 l0 a1).f6)] 93 (0, 0)) dq36 hb); have n4_ := Aside0.mk (below_step dq38 hb); clear HO_9; clear HO_15; clear BK151; clear HB; have HO_9 := n0_; have HO_15 := n1_; have HO195 := n2_; have BK151 := n3_; have HB := n4_; clear n0_ n1_ n2_ n3_ n4_; (try clear hb); (try clear hb2); (try clear hk); (try clear hi); (try clear ho0)))
                    go_loopg [18, 19] kj101 (fun kq v18 v19 w' => ∃ (x9_4 : List Bool) (x18_4 : Bool) (x19_4 : Int), v18 = .bool x18_4 ∧ v19 = .int .i64 x19_4 ∧ Aside0 (spec_l6Step.l4 kq l0 l2 x9_4 t193 x17_2 x18_4 x19_4 ((rd_T93 l0 a1).f0) ((rd_T93 l0 a1).f1) ((rd_T93 l0 a1).f2) ((rd_T93 l0 a1).f3) ((rd_T93 l0 a1).f4) ((rd_T93 l0 a1).f5) ((rd_T93 l0 a1).f6) = some r) ∧ Aside0 (kq ≤ kj101) ∧ Aside0 (Kd.R Kd.bool 4 w' w.heap.size (fun k_ => some k_ ≠ (v194 : Value).ownBlock) v191 x9_4) ∧ Aside0 (Kd.R Kd.bool 4 w' w.heap.size (fun k_ => some k_ ≠ (v191 : Value).ownBlock) v194 t193) ∧ Aside0 (w'.heap[gb151]? = some (.cells #[.int .i64 ((rd_T93 l0 a1).f0), .bool ((rd_T93 l0 a1).f1), (.slice A150_2 ((rd_T93 l0 a1).f2).length c150_2), .int .i64 ((rd_T93 l0 a1).f3), .int .i64 ((rd_T93 l0 a1).f4), .int .i64 ((rd_T93 l0 a1).f5), .int .i64 ((rd_T93 l0 a1).f6)] 93 (0, 0))) ∧ Aside0 (Below w.heap.size w w'))
                    case atStart => exact ⟨(x9_2), (false), (0), dq14, dq14, H', ⟨Nat.le_refl _⟩, ⟨dq49⟩, ⟨by (with_reducible repeat (first | apply Kd.R_alloc | apply Kd.R_drewN | apply Kd.R_drew)); exact Kd.R_mono HO195.out (fun _ hk => hk.1.2)⟩, ⟨dq36⟩, ⟨dq38⟩⟩
                    case round =>
                     clear H'
                     try clear c1
                     try clear p1
                     try clear q1
                     try clear hx1
                     try clear c2
                     try clear p2
                     try clear q2
                     try clear c3
                     try clear p3
                     try clear q3
                     try clear hx3
                     try clear c4
                     try clear c5
                     try clear c6
                     try clear p6
                     try clear q6
                     try clear hx6
                     try clear hf6
                     try clear c7
                     try clear p7
                     try clear q7
                     try clear hx7
                     try clear hf7
                     try clear c8
                     try clear c9
                     try clear c10
                     try clear c15
                     try clear p15
                     try clear q15
                     try clear hx15
                     try clear p17
                     try clear q17
                     try clear hx17
                     try clear c18
                     try clear c18b0
                     try clear c18b1
                     try clear c23
                     try clear c23b0
                     try clear c24
                     try clear c25
                     try clear q26
                     try clear c27
                     try clear c29
                     try clear c31
                     try clear c32
                     try clear p33
                     try clear q33
                     try clear hx33
                     try clear hf33
                     try clear c41
                     try clear c41b0
                     try clear c41b1
                     try clear c53
                     try clear c53b0
                     try clear c53b1
                     try clear c63
                     try clear c63b0
                     try clear c64
                     try clear c64b0
                     try clear p64
                     try clear c65
                     try clear c65b0
                     try clear q66
                     try clear c67
                     try clear p68
                     try clear q68
                     try clear hx68
                     try clear hf68
                     try clear c73
                     try clear c73b0
                     try clear c74
                     try clear p74
                     try clear q74
                     try clear hx74
                     try clear hf74
                     try clear c81
                     try clear c81b0
                     try clear c81b1
                     try clear c82
                     try clear c90
                     try clear c90b0
                     try clear c95
                     try clear c103
                     try clear c103b0
                     try clear c106
                     try clear hcz101_0
                     try clear hcz101_1
                     try clear hcz101_2
                     try clear hcz101_3
                     try clear hcz101_4
                     try clear hcz101_5
                     try clear hcz101_6
                     try clear hcz104_0
                     try clear hcz104_1
                     try clear hcz104_2
                     try clear hcz104_3
                     try clear hcz104_4
                     try clear hcz104_5
                     try clear hcz104_6
                     try clear hcz105_0
                     try clear hcz105_1
                     try clear hcz105_2
                     try clear hcz105_3
                     try clear hcz105_4
                     try clear hcz105_5
                     try clear hcz105_6
                     try clear hcz108_0
                     try clear hcz108_1
                     try clear hcz108_2
                     try clear hcz108_3
                     try clear hcz108_4
                     try clear hcz108_5
                     try clear hcz108_6
                     try clear hcz47_0
                     try clear hcz47_1
                     try clear hcz47_2
                     try clear hcz47_3
                     try clear hcz47_4
                     try clear hcz47_5
                     try clear hcz47_6
                     try clear hcz59_0
                     try clear hcz59_1
                     try clear hcz59_2
                     try clear hcz59_3
                     try clear hcz59_4
                     try clear hcz59_5
                     try clear hcz59_6
                     try clear hcz61_0
                     try clear hcz61_1
                     try clear hcz61_2
                     try clear hcz61_3
                     try clear hcz61_4
                     try clear hcz61_5
                     try clear hcz61_6
                     try clear hcz86_0
                     try clear hcz86_1
                     try clear hcz86_2
                     try clear hcz86_3
                     try clear hcz86_4
                     try clear hcz86_5
                     try clear hcz86_6
                     try clear hcz92_0
                     try clear hcz92_1
                     try clear hcz92_2
                     try clear hcz92_3
                     try clear hcz92_4
                     try clear hcz92_5
                     try clear hcz92_6
                     try clear hcz96_0
                     try clear hcz96_1
                     try clear hcz96_2
                     try clear hcz96_3
                     try clear hcz96_4
                     try clear hcz96_5
                     try clear hcz96_6
                     try clear hfz101_0
                     try clear hfz101_1
                     try clear hfz101_2
                     try clear hfz101_3
                     try clear hfz101_4
                     try clear hfz101_5
                     try clear hfz101_6
                     try clear hfz104_0
                     try clear hfz104_1
                     try clear hfz104_2
                     try clear hfz104_3
                     try clear hfz104_4
                     try clear hfz104_5
                     try clear hfz104_6
                     try clear hfz105_0
                     try clear hfz105_1
                     try clear hfz105_2
                     try clear hfz105_3
                     try clear hfz105_4
                     try clear hfz105_5
                     try clear hfz105_6
                     try clear hfz108_0
                     try clear hfz108_1
                     try clear hfz108_2
                     try clear hfz108_3
                     try clear hfz108_4
                     try clear hfz108_5
                     try clear hfz108_6
                     try clear hfz47_0
                     try clear hfz47_1
                     try clear hfz47_2
                     try clear hfz47_3
                     try clear hfz47_4
                     try clear hfz47_5
                     try clear hfz47_6
                     try clear hfz59_0
                     try clear hfz59_1
                     try clear hfz59_2
                     try clear hfz59_3
                     try clear hfz59_4
                     try clear hfz59_5
                     try clear hfz59_6
                     try clear hfz61_0
                     try clear hfz61_1
                     try clear hfz61_2
                     try clear hfz61_3
                     try clear hfz61_4
                     try clear hfz61_5
                     try clear hfz61_6
                     try clear hfz86_0
                     try clear hfz86_1
                     try clear hfz86_2
                     try clear hfz86_3
                     try clear hfz86_4
                     try clear hfz86_5
                     try clear hfz86_6
                     try clear hfz92_0
                     try clear hfz92_1
                     try clear hfz92_2
                     try clear hfz92_3
                     try clear hfz92_4
                     try clear hfz92_5
                     try clear hfz92_6
                     try clear hfz96_0
                     try clear hfz96_1
                     try clear hfz96_2
                     try clear hfz96_3
                     try clear hfz96_4
                     try clear hfz96_5
                     try clear hfz96_6
                     try clear hx150_0
                     try clear hx150_1
                     try clear hx150_2
                     try clear hx150_3
                     try clear hx150_4
                     try clear hx150_5
                     try clear hx150_6
                     try clear hx158_0
                     try clear hx159_0
                     try clear hx174_0
                     try clear hx176_0
                     try clear hx33_0
                     try clear hx68_0
                     try clear hx74_0
                     try clear p1
                     try clear p15
                     try clear p150
                     try clear p158
                     try clear p159
                     try clear p17
                     try clear p174
                     try clear p176
                     try clear p2
                     try clear p3
                     try clear p33
                     try clear p6
                     try clear p64
                     try clear p68
                     try clear p7
                     try clear p74
                     try clear q1
                     try clear q15
                     try clear q150
                     try clear q158
                     try clear q159
                     try clear q17
                     try clear q174
                     try clear q176
                     try clear q2
                     try clear q26
                     try clear q3
                     try clear q33
                     try clear q6
                     try clear q66
                     try clear q68
                     try clear q7
                     try clear q74
                     obtain ⟨x9_4, x18_4, x19_4, rfl, rfl, HA, HK4, HO_9, HO_15, BK151, HB⟩ := hrel
                     cases gk with
                     | zero => exact absurd HA.out (by simp [spec_l6Step.l4])
                     | succ k4 =>
                      have H := HA.out
                      clear HA
                      simp only [spec_l6Step.l4] at H
                      by_cases c111 : x19_4 < (x9_4.length : Int)
                      ·rw [if_pos c111] at H
                       have c111b0 := decide_eq_true c111
                       clear c111
                       by_cases c112 : x18_4 = true
                       ·subst c112
                        have H1 : (if 0 ≤ x19_4 then (if rdOf false x9_4 x19_4 = true then (spec_l6Step.l4 k4 l0 l2 (x9_4.set (x19_4 : Int).toNat true) t193 x17_2 true (wrap64 (x19_4 + 1)) ((rd_T93 l0 a1).f0) ((rd_T93 l0 a1).f1) ((rd_T93 l0 a1).f2) ((rd_T93 l0 a1).f3) ((rd_T93 l0 a1).f4) ((rd_T93 l0 a1).f5) ((rd_T93 l0 a1).f6)) else (if x19_4 < (t193.length : Int) then (spec_l6Step.l4 k4 l0 l2 (x9_4.set (x19_4 : Int).toNat (rdOf false t193 x19_4)) t193 x17_2 true (wrap64 (x19_4 + 1)) ((rd_T93 l0 a1).f0) ((rd_T93 l0 a1).f1) ((rd_T93 l0 a1).f2) ((rd_T93 l0 a1).f3) ((rd_T93 l0 a1).f4) ((rd_T93 l0 a1).f5) ((rd_T93 l0 a1).f6)) else (none))) else (none)) = some r := by rw [if_pos rfl] at H; exact H
                        clear H
                        have H := H1
                        clear H1
                        by_cases c113 : 0 ≤ x19_4
                        ·rw [if_pos c113] at H
                         have c113b0 := decide_eq_true c113
                         clear c113
                         obtain ⟨bq114, hbq114⟩ : ∃ b_ : Bool, b_ = (rdOf false x9_4 x19_4) := ⟨_, rfl⟩
                         replace H : (if bq114 = true then (spec_l6Step.l4 k4 l0 l2 (x9_4.set (x19_4 : Int).toNat true) t193 x17_2 true (wrap64 (x19_4 + 1)) ((rd_T93 l0 a1).f0) ((rd_T93 l0 a1).f1) ((rd_T93 l0 a1).f2) ((rd_T93 l0 a1).f3) ((rd_T93 l0 a1).f4) ((rd_T93 l0 a1).f5) ((rd_T93 l0 a1).f6)) else (if x19_4 < (t193.length : Int) then (spec_l6Step.l4 k4 l0 l2 (x9_4.set (x19_4 : Int).toNat (rdOf false t193 x19_4)) t193 x17_2 true (wrap64 (x19_4 + 1)) ((rd_T93 l0 a1).f0) ((rd_T93 l0 a1).f1) ((rd_T93 l0 a1).f2) ((rd_T93 l0 a1).f3) ((rd_T93 l0 a1).f4) ((rd_T93 l0 a1).f5) ((rd_T93 l0 a1).f6)) else (none))) = some r := by rw [← hbq114] at H; exact H
                         have Nbq114 := Aside0.mk hbq114
                         clear hbq114
                         by_cases c115 : bq114 = true
                         ·subst c115
                          have H1 : (spec_l6Step.l4 k4 l0 l2 (x9_4.set (x19_4 : Int).toNat true) t193 x17_2 true (wrap64 (x19_4 + 1)) ((rd_T93 l0 a1).f0) ((rd_T93 l0 a1).f1) ((rd_T93 l0 a1).f2) ((rd_T93 l0 a1).f3) ((rd_T93 l0 a1).f4) ((rd_T93 l0 a1).f5) ((rd_T93 l0 a1).f6)) = some r := by rw [if_pos rfl] at H; exact H
                          clear H
                          have H := H1
                          clear H1
                          obtain ⟨y197, hy197⟩ : ∃ y_ : List Bool, y_ = (x9_4.set (x19_4 : Int).toNat true) := ⟨_, rfl⟩
                          replace H : (spec_l6Step.l4 k4 l0 l2 y197 t193 x17_2 true (wrap64 (x19_4 + 1)) ((rd_T93 l0 a1).f0) ((rd_T93 l0 a1).f1) ((rd_T93 l0 a1).f2) ((rd_T93 l0 a1).f3) ((rd_T93 l0 a1).f4) ((rd_T93 l0 a1).f5) ((rd_T93 l0 a1).f6)) = some r := by first | (rw [hy197]; with_reducible exact H) | (have H2_ := (Option.bind_some _ _).symm.trans H; rw [hy197]; with_reducible exact H2_) | (have H2_ := (Option.bind_some _ _).symm.trans H; with_reducible exact H2_) | with_reducible exact H | (rw [hy197]; exact H) | exact H
                          have Ny197 := Aside0.mk hy197
                          clear hy197
                          have H' := Aside0.mk H
                          clear H
                          obtain ⟨Ao117, co117, eo117⟩ := Kd.R_slice HO_9.out
                          subst eo117
                          have p196 : 0 ≤ (x19_4 : Int) := of_decide_eq_true dq21
                          have q196 : x19_4 < (x9_4.length : Int) := of_decide_eq_true dq21
                          obtain ⟨ad196, e196, hx196_0⟩ := Kd.at_bool (Kd.R_reads' HO_9.out).2.2 x19_4 p196 q196
                          (try rw [← Nbq114.out] at hx196_0)
                          cases e196
                          replace p196 := eq_true p196
                          replace q196 := eq_true q196
                          have p116 : 0 ≤ (x19_4 : Int) := of_decide_eq_true dq21
                          have q116 : (x19_4 : Int) < ((x9_4.length : Int) : Int) := of_decide_eq_true dq21
                          obtain ⟨go116, co116, eo116, gb116, gl116, cl116, HG116⟩ := Kd.R_form HO_9.out dq24
                          (first | cases eo116 | (injection eo116 with ea_ en_ ec_; (first | subst ea_ | (injection ea_ with ea_; subst ea_)); subst ec_; clear en_))
                          have GB116 := Aside0.mk gb116
                          have GG116 := Aside0.mk HG116
                          clear gb116 gl116 HG116
                          (first | simp only [add_plain] at hx196_0 | skip)
                          obtain ⟨hx116_0, hf116_0⟩ := Kd.R_celln false HO_9.out (x19_4 : Int) p116 q116
                          replace p116 := eq_true p116
                          replace q116 := eq_true q116
                          have HP118 := Kd.R_putg HO_9.out (x19_4 : Int) true
                          go_wp2_with (first | ((with_reducible refine gate_store (t := 4) (p := 175) rfl ?_); refine store_event (t := 4) (p := 175) (v := ?vo_w119) (w1 := (wr.setCell ⟨go116, (x19_4 : Int).toNat, none⟩ (.bool true))) ?hg ?ho ?hn ?hr ?_; (case ho => rfl); (case hg => rfl); (case hn => rfl); (case hr => exact dq0); intro w119 hw; have hg : wr.grownBy w119 (some go116) := (by rw [hw]; exact HP118.2); have hp_ : Kd.R Kd.bool 4 w119 w.heap.size (fun k_ => some k_ ≠ (v194 : Value).ownBlock) (.slice (some ⟨go116, 0, none⟩) x9_4.length co117) y197 := (by rw [hw, Ny197.out]; exact HP118.1); clear HP118; have n0_ := Aside0.mk (hp_); have n1_ := Aside0.mk (Kd.R_after (v := (.slice (some ⟨go116, 0, none⟩) x9_4.length co117)) (v1 := (.slice (some ⟨go116, 0, none⟩) x9_4.length co117)) (ok := (fun _ => True)) dq50 hg (.inl rfl)); have n2_ := Aside0.mk (blk_grown (g := gb151) (o := .cells #[.int .i64 ((rd_T93 l0 a1).f0), .bool ((rd_T93 l0 a1).f1), .slice A150_2 ((rd_T93 l0 a1).f2).length c150_2, .int .i64 ((rd_T93 l0 a1).f3), .int .i64 ((rd_T93 l0 a1).f4), .int .i64 ((rd_T93 l0 a1).f5), .int .i64 ((rd_T93 l0 a1).f6)] 93 (0, 0)) dq36 hg (Kd.R_ne HO_9.out BK151.out dq28)); have n3_ := Aside0.mk ((by rw [hw]; exact below_set (HB.out) GB116.out : Below w.heap.size w w119)); clear HO_9; clear HO_15; clear BK151; clear HB; have HO_9 := n0_; have HO_15 := n1_; have BK151 := n2_; have HB := n3_; clear n0_ n1_ n2_ n3_; clear hg hw hp_))
                          go_roundg k4
                          case measure => have := HK1.out; have := HK2.out; have := HJ101.out; have := HK4.out; omega
                          case rel => exact ⟨(y197), (true), (wrap64 (x19_4 + 1)), dq14, dq14, H', ⟨dq51⟩, ⟨dq42⟩, ⟨dq47⟩, ⟨dq36⟩, ⟨dq38⟩⟩
                         ·replace c115 := Bool.eq_false_iff.mpr c115
                          subst c115
                          have H1 : (if x19_4 < (t193.length : Int) then (spec_l6Step.l4 k4 l0 l2 (x9_4.set (x19_4 : Int).toNat (rdOf false t193 x19_4)) t193 x17_2 true (wrap64 (x19_4 + 1)) ((rd_T93 l0 a1).f0) ((rd_T93 l0 a1).f1) ((rd_T93 l0 a1).f2) ((rd_T93 l0 a1).f3) ((rd_T93 l0 a1).f4) ((rd_T93 l0 a1).f5) ((rd_T93 l0 a1).f6)) else (none)) = some r := by rw [if_neg (show ¬ (false = true) by decide)] at H; exact H
                          clear H
                          have H := H1
                          clear H1
                          by_cases c120 : x19_4 < (t193.length : Int)
                          ·rw [if_pos c120] at H
                           have c120b0 := decide_eq_true c120
                           clear c120
                           obtain ⟨y199, hy199⟩ : ∃ y_ : List Bool, y_ = (x9_4.set (x19_4 : Int).toNat (rdOf false t193 x19_4)) := ⟨_, rfl⟩
                           replace H : (spec_l6Step.l4 k4 l0 l2 y199 t193 x17_2 true (wrap64 (x19_4 + 1)) ((rd_T93 l0 a1).f0) ((rd_T93 l0 a1).f1) ((rd_T93 l0 a1).f2) ((rd_T93 l0 a1).f3) ((rd_T93 l0 a1).f4) ((rd_T93 l0 a1).f5) ((rd_T93 l0 a1).f6)) = some r := by first | (rw [hy199]; with_reducible exact H) | (have H2_ := (Option.bind_some _ _).symm.trans H; rw [hy199]; with_reducible exact H2_) | (have H2_ := (Option.bind_some _ _).symm.trans H; with_reducible exact H2_) | with_reducible exact H | (rw [hy199]; exact H) | exact H
                           have Ny199 := Aside0.mk hy199
                           clear hy199
                           have H' := Aside0.mk H
                           clear H
                           obtain ⟨Ao122, co122, eo122⟩ := Kd.R_slice HO_9.out
                           subst eo122
                           have p196 : 0 ≤ (x19_4 : Int) := of_decide_eq_true dq21
                           have q196 : x19_4 < (x9_4.length : Int) := of_decide_eq_true dq21
                           obtain ⟨ad196, e196, hx196_0⟩ := Kd.at_bool (Kd.R_reads' HO_9.out).2.2 x19_4 p196 q196
                           (try rw [← Nbq114.out] at hx196_0)
                           cases e196
                           replace p196 := eq_true p196
                           replace q196 := eq_true q196
                           obtain ⟨Ao123, co123, eo123⟩ := Kd.R_slice HO_15.out
                           subst eo123
                           have p198 : 0 ≤ (x19_4 : Int) := of_decide_eq_true dq21
                           have q198 : x19_4 < (t193.length : Int) := of_decide_eq_true dq21
                           obtain ⟨ad198, e198, hx198_0⟩ := Kd.at_bool (Kd.R_reads' HO_15.out).2.2 x19_4 p198 q198
                           (try rw [← Nbq114.out] at hx198_0)
                           cases e198
                           replace p198 := eq_true p198
                           replace q198 := eq_true q198
                           have p121 : 0 ≤ (x19_4 : Int) := of_decide_eq_true dq21
                           have q121 : (x19_4 : Int) < ((x9_4.length : Int) : Int) := of_decide_eq_true dq21
                           obtain ⟨go121, co121, eo121, gb121, gl121, cl121, HG121⟩ := Kd.R_form HO_9.out dq24
                           (first | cases eo121 | (injection eo121 with ea_ en_ ec_; (first | subst ea_ | (injection ea_ with ea_; subst ea_)); subst ec_; clear en_))
                           have GB121 := Aside0.mk gb121
                           have GG121 := Aside0.mk HG121
                           clear gb121 gl121 HG121
                           (first | simp only [add_plain] at hx196_0 | skip)
                           obtain ⟨hx121_0, hf121_0⟩ := Kd.R_celln false HO_9.out (x19_4 : Int) p121 q121
                           replace p121 := eq_true p121
                           replace q121 := eq_true q121
                           have HP124 := Kd.R_putg HO_9.out (x19_4 : Int) (rdOf false t193 x19_4)
                           go_wp2_with (first | ((with_reducible refine gate_store (t := 4) (p := 175) rfl ?_); refine store_event (t := 4) (p := 175) (v := ?vo_w125) (w1 := (wr.setCell ⟨go121, (x19_4 : Int).toNat, none⟩ (.bool (rdOf false t193 x19_4)))) ?hg ?ho ?hn ?hr ?_; (case ho => rfl); (case hg => rfl); (case hn => rfl); (case hr => exact dq0); intro w125 hw; have hg : wr.grownBy w125 (some go121) := (by rw [hw]; exact HP124.2); have hp_ : Kd.R Kd.bool 4 w125 w.heap.size (fun k_ => some k_ ≠ (.slice (some ad198) t193.length co123 : Value).ownBlock) (.slice (some ⟨go121, 0, none⟩) x9_4.length co122) y199 := (by rw [hw, Ny199.out]; exact HP124.1); clear HP124; have n0_ := Aside0.mk (hp_); have n1_ := Aside0.mk (Kd.R_after (v := (.slice (some ⟨go121, 0, none⟩) x9_4.length co122)) (v1 := (.slice (some ⟨go121, 0, none⟩) x9_4.length co122)) (ok := (fun _ => True)) dq50 hg (.inl rfl)); have n2_ := Aside0.mk (blk_grown (g := gb151) (o := .cells #[.int .i64 ((rd_T93 l0 a1).f0), .bool ((rd_T93 l0 a1).f1), .slice A150_2 ((rd_T93 l0 a1).f2).length c150_2, .int .i64 ((rd_T93 l0 a1).f3), .int .i64 ((rd_T93 l0 a1).f4), .int .i64 ((rd_T93 l0 a1).f5), .int .i64 ((rd_T93 l0 a1).f6)] 93 (0, 0)) dq36 hg (Kd.R_ne HO_9.out BK151.out dq28)); have n3_ := Aside0.mk ((by rw [hw]; exact below_set (HB.out) GB121.out : Below w.heap.size w w125)); clear HO_9; clear HO_15; clear BK151; clear HB; have HO_9 := n0_; have HO_15 := n1_; have BK151 := n2_; have HB := n3_; clear n0_ n1_ n2_ n3_; clear hg hw hp_))
                           go_roundg k4
                           case measure => have := HK1.out; have := HK2.out; have := HJ101.out; have := HK4.out; omega
                           case rel => exact ⟨(y199), (true), (wrap64 (x19_4 + 1)), dq14, dq14, H', ⟨dq51⟩, ⟨dq42⟩, ⟨dq47⟩, ⟨dq36⟩, ⟨dq38⟩⟩
                          ·rw [if_neg c120] at H
                           exact absurd H dq23
                        ·rw [if_neg c113] at H
                         exact absurd H dq23
                       ·replace c112 := Bool.eq_false_iff.mpr c112
                        subst c112
                        have H1 : (if 0 ≤ x19_4 then (if x19_4 < (t193.length : Int) then (if rdOf false t193 x19_4 = true then (if rdOf false x9_4 x19_4 = true then (spec_l6Step.l4 k4 l0 l2 (x9_4.set (x19_4 : Int).toNat true) t193 x17_2 (!(rdOf false x9_4 x19_4)) (wrap64 (x19_4 + 1)) ((rd_T93 l0 a1).f0) ((rd_T93 l0 a1).f1) ((rd_T93 l0 a1).f2) ((rd_T93 l0 a1).f3) ((rd_T93 l0 a1).f4) ((rd_T93 l0 a1).f5) ((rd_T93 l0 a1).f6)) else (spec_l6Step.l4 k4 l0 l2 (x9_4.set (x19_4 : Int).toNat (rdOf false t193 x19_4)) t193 x17_2 (!(rdOf false x9_4 x19_4)) (wrap64 (x19_4 + 1)) ((rd_T93 l0 a1).f0) ((rd_T93 l0 a1).f1) ((rd_T93 l0 a1).f2) ((rd_T93 l0 a1).f3) ((rd_T93 l0 a1).f4) ((rd_T93 l0 a1).f5) ((rd_T93 l0 a1).f6))) else (if rdOf false x9_4 x19_4 = true then (spec_l6Step.l4 k4 l0 l2 (x9_4.set (x19_4 : Int).toNat true) t193 x17_2 false (wrap64 (x19_4 + 1)) ((rd_T93 l0 a1).f0) ((rd_T93 l0 a1).f1) ((rd_T93 l0 a1).f2) ((rd_T93 l0 a1).f3) ((rd_T93 l0 a1).f4) ((rd_T93 l0 a1).f5) ((rd_T93 l0 a1).f6)) else (spec_l6Step.l4 k4 l0 l2 (x9_4.set (x19_4 : Int).toNat (rdOf false t193 x19_4)) t193 x17_2 false (wrap64 (x19_4 + 1)) ((rd_T93 l0 a1).f0) ((rd_T93 l0 a1).f1) ((rd_T93 l0 a1).f2) ((rd_T93 l0 a1).f3) ((rd_T93 l0 a1).f4) ((rd_T93 l0 a1).f5) ((rd_T93 l0 a1).f6)))) else (none)) else (none)) = some r := by rw [if_neg (show ¬ (false = true) by decide)] at H; exact H
                        clear H
                        have H := H1
                        clear H1
                        by_cases c126 : 0 ≤ x19_4
                        ·rw [if_pos c126] at H
                         have c126b0 := decide_eq_true c126
                         clear c126
                         by_cases c127 : x19_4 < (t193.length : Int)
                         ·rw [if_pos c127] at H
                          have c127b0 := decide_eq_true c127
                          clear c127
                          obtain ⟨bq128, hbq128⟩ : ∃ b_ : Bool, b_ = (rdOf false t193 x19_4) := ⟨_, rfl⟩
                          replace H : (if bq128 = true then (if rdOf false x9_4 x19_4 = true then (spec_l6Step.l4 k4 l0 l2 (x9_4.set (x19_4 : Int).toNat true) t193 x17_2 (!(rdOf false x9_4 x19_4)) (wrap64 (x19_4 + 1)) ((rd_T93 l0 a1).f0) ((rd_T93 l0 a1).f1) ((rd_T93 l0 a1).f2) ((rd_T93 l0 a1).f3) ((rd_T93 l0 a1).f4) ((rd_T93 l0 a1).f5) ((rd_T93 l0 a1).f6)) else (spec_l6Step.l4 k4 l0 l2 (x9_4.set (x19_4 : Int).toNat (bq128)) t193 x17_2 (!(rdOf false x9_4 x19_4)) (wrap64 (x19_4 + 1)) ((rd_T93 l0 a1).f0) ((rd_T93 l0 a1).f1) ((rd_T93 l0 a1).f2) ((rd_T93 l0 a1).f3) ((rd_T93 l0 a1).f4) ((rd_T93 l0 a1).f5) ((rd_T93 l0 a1).f6))) else (if rdOf false x9_4 x19_4 = true then (spec_l6Step.l4 k4 l0 l2 (x9_4.set (x19_4 : Int).toNat true) t193 x17_2 false (wrap64 (x19_4 + 1)) ((rd_T93 l0 a1).f0) ((rd_T93 l0 a1).f1) ((rd_T93 l0 a1).f2) ((rd_T93 l0 a1).f3) ((rd_T93 l0 a1).f4) ((rd_T93 l0 a1).f5) ((rd_T93 l0 a1).f6)) else (spec_l6Step.l4 k4 l0 l2 (x9_4.set (x19_4 : Int).toNat (bq128)) t193 x17_2 false (wrap64 (x19_4 + 1)) ((rd_T93 l0 a1).f0) ((rd_T93 l0 a1).f1) ((rd_T93 l0 a1).f2) ((rd_T93 l0 a1).f3) ((rd_T93 l0 a1).f4) ((rd_T93 l0 a1).f5) ((rd_T93 l0 a1).f6)))) = some r := by rw [← hbq128] at H; exact H
                          have Nbq128 := Aside0.mk hbq128
                          clear hbq128
                          by_cases c129 : bq128 = true
                          ·subst c129
                           have H1 : (if rdOf false x9_4 x19_4 = true then (spec_l6Step.l4 k4 l0 l2 (x9_4.set (x19_4 : Int).toNat true) t193 x17_2 (!(rdOf false x9_4 x19_4)) (wrap64 (x19_4 + 1)) ((rd_T93 l0 a1).f0) ((rd_T93 l0 a1).f1) ((rd_T93 l0 a1).f2) ((rd_T93 l0 a1).f3) ((rd_T93 l0 a1).f4) ((rd_T93 l0 a1).f5) ((rd_T93 l0 a1).f6)) else (spec_l6Step.l4 k4 l0 l2 (x9_4.set (x19_4 : Int).toNat (true)) t193 x17_2 (!(rdOf false x9_4 x19_4)) (wrap64 (x19_4 + 1)) ((rd_T93 l0 a1).f0) ((rd_T93 l0 a1).f1) ((rd_T93 l0 a1).f2) ((rd_T93 l0 a1).f3) ((rd_T93 l0 a1).f4) ((rd_T93 l0 a1).f5) ((rd_T93 l0 a1).f6))) = some r := by rw [if_pos rfl] at H; exact H
                           clear H
                           have H := H1
                           clear H1
                           obtain ⟨bq130, hbq130⟩ : ∃ b_ : Bool, b_ = (rdOf false x9_4 x19_4) := ⟨_, rfl⟩
                           replace H : (if bq130 = true then (spec_l6Step.l4 k4 l0 l2 (x9_4.set (x19_4 : Int).toNat true) t193 x17_2 (!(bq130)) (wrap64 (x19_4 + 1)) ((rd_T93 l0 a1).f0) ((rd_T93 l0 a1).f1) ((rd_T93 l0 a1).f2) ((rd_T93 l0 a1).f3) ((rd_T93 l0 a1).f4) ((rd_T93 l0 a1).f5) ((rd_T93 l0 a1).f6)) else (spec_l6Step.l4 k4 l0 l2 (x9_4.set (x19_4 : Int).toNat (true)) t193 x17_2 (!(bq130)) (wrap64 (x19_4 + 1)) ((rd_T93 l0 a1).f0) ((rd_T93 l0 a1).f1) ((rd_T93 l0 a1).f2) ((rd_T93 l0 a1).f3) ((rd_T93 l0 a1).f4) ((rd_T93 l0 a1).f5) ((rd_T93 l0 a1).f6))) = some r := by rw [← hbq130] at H; exact H
                           have Nbq130 := Aside0.mk hbq130
                           clear hbq130
                           by_cases c131 : bq130 = true
                           ·subst c131
                            have H1 : (spec_l6Step.l4 k4 l0 l2 (x9_4.set (x19_4 : Int).toNat true) t193 x17_2 (!(true)) (wrap64 (x19_4 + 1)) ((rd_T93 l0 a1).f0) ((rd_T93 l0 a1).f1) ((rd_T93 l0 a1).f2) ((rd_T93 l0 a1).f3) ((rd_T93 l0 a1).f4) ((rd_T93 l0 a1).f5) ((rd_T93 l0 a1).f6)) = some r := by rw [if_pos rfl] at H; exact H
                            clear H
                            have H := H1
                            clear H1
                            obtain ⟨y203, hy203⟩ : ∃ y_ : List Bool, y_ = (x9_4.set (x19_4 : Int).toNat true) := ⟨_, rfl⟩
                            replace H : (spec_l6Step.l4 k4 l0 l2 y203 t193 x17_2 (!(true)) (wrap64 (x19_4 + 1)) ((rd_T93 l0 a1).f0) ((rd_T93 l0 a1).f1) ((rd_T93 l0 a1).f2) ((rd_T93 l0 a1).f3) ((rd_T93 l0 a1).f4) ((rd_T93 l0 a1).f5) ((rd_T93 l0 a1).f6)) = some r := by first | (rw [hy203]; with_reducible exact H) | (have H2_ := (Option.bind_some _ _).symm.trans H; rw [hy203]; with_reducible exact H2_) | (have H2_ := (Option.bind_some _ _).symm.trans H; with_reducible exact H2_) | with_reducible exact H | (rw [hy203]; exact H) | exact H
                            have Ny203 := Aside0.mk hy203
                            clear hy203
                            have H' := Aside0.mk H
                            clear H
                            obtain ⟨Ao133, co133, eo133⟩ := Kd.R_slice HO_9.out
                            subst eo133
                            obtain ⟨Ao134, co134, eo134⟩ := Kd.R_slice HO_15.out
                            subst eo134
                            have p200 : 0 ≤ (x19_4 : Int) := of_decide_eq_true dq21
                            have q200 : x19_4 < (t193.length : Int) := of_decide_eq_true dq21
                            obtain ⟨ad200, e200, hx200_0⟩ := Kd.at_bool (Kd.R_reads' HO_15.out).2.2 x19_4 p200 q200
                            (try rw [← Nbq128.out] at hx200_0)
                            (try rw [← Nbq130.out] at hx200_0)
                            cases e200
                            replace p200 := eq_true p200
                            replace q200 := eq_true q200
                            have p201 : 0 ≤ (x19_4 : Int) := of_decide_eq_true dq21
                            have q201 : x19_4 < (x9_4.length : Int) := of_decide_eq_true dq21
                            obtain ⟨ad201, e201, hx201_0⟩ := Kd.at_bool (Kd.R_reads' HO_9.out).2.2 x19_4 p201 q201
                            (try rw [← Nbq128.out] at hx201_0)
                            (try rw [← Nbq130.out] at hx201_0)
                            cases e201
                            replace p201 := eq_true p201
                            replace q201 := eq_true q201
                            have p202 : 0 ≤ (x19_4 : Int) := of_decide_eq_true dq21
                            have q202 : x19_4 < (x9_4.length : Int) := of_decide_eq_true dq21
                            obtain ⟨ad202, e202, hx202_0⟩ := Kd.at_bool (Kd.R_reads' HO_9.out).2.2 x19_4 p202 q202
                            (try rw [← Nbq128.out] at hx202_0)
                            (try rw [← Nbq130.out] at hx202_0)
                            obtain rfl : ad201 = ad202 := (by injection e202)
                            replace p202 := eq_true p202
                            replace q202 := eq_true q202
                            have p132 : 0 ≤ (x19_4 : Int) := of_decide_eq_true dq21
                            have q132 : (x19_4 : Int) < ((x9_4.length : Int) : Int) := of_decide_eq_true dq21
                            obtain ⟨go132, co132, eo132, gb132, gl132, cl132, HG132⟩ := Kd.R_form HO_9.out dq24
                            (first | cases eo132 | (injection eo132 with ea_ en_ ec_; (first | subst ea_ | (injection ea_ with ea_; subst ea_)); subst ec_; clear en_))
                            have GB132 := Aside0.mk gb132
                            have GG132 := Aside0.mk HG132
                            clear gb132 gl132 HG132
                            (first | simp only [add_plain] at hx201_0 | skip)
                            (first | simp only [add_plain] at hx202_0 | skip)
                            obtain ⟨hx132_0, hf132_0⟩ := Kd.R_celln false HO_9.out (x19_4 : Int) p132 q132
                            replace p132 := eq_true p132
                            replace q132 := eq_true q132
                            have HP135 := Kd.R_putg HO_9.out (x19_4 : Int) true
                            go_wp2_with (first | ((with_reducible refine gate_store (t := 4) (p := 175) rfl ?_); refine store_event (t := 4) (p := 175) (v := ?vo_w136) (w1 := (wr.setCell ⟨go132, (x19_4 : Int).toNat, none⟩ (.bool true))) ?hg ?ho ?hn ?hr ?_; (case ho => rfl); (case hg => rfl); (case hn => rfl); (case hr => exact dq0); intro w136 hw; have hg : wr.grownBy w136 (some go132) := (by rw [hw]; exact HP135.2); have hp_ : Kd.R Kd.bool 4 w136 w.heap.size (fun k_ => some k_ ≠ (.slice (some ad200) t193.length co134 : Value).ownBlock) (.slice (some ⟨go132, 0, none⟩) x9_4.length co133) y203 := (by rw [hw, Ny203.out]; exact HP135.1); clear HP135; have n0_ := Aside0.mk (hp_); have n1_ := Aside0.mk (Kd.R_after (v := (.slice (some ⟨go132, 0, none⟩) x9_4.length co133)) (v1 := (.slice (some ⟨go132, 0, none⟩) x9_4.length co133)) (ok := (fun _ => True)) dq50 hg (.inl rfl)); have n2_ := Aside0.mk (blk_grown (g := gb151) (o := .cells #[.int .i64 ((rd_T93 l0 a1).f0), .bool ((rd_T93 l0 a1).f1), .slice A150_2 ((rd_T93 l0 a1).f2).length c150_2, .int .i64 ((rd_T93 l0 a1).f3), .int .i64 ((rd_T93 l0 a1).f4), .int .i64 ((rd_T93 l0 a1).f5), .int .i64 ((rd_T93 l0 a1).f6)] 93 (0, 0)) dq36 hg (Kd.R_ne HO_9.out BK151.out dq28)); have n3_ := Aside0.mk ((by rw [hw]; exact below_set (HB.out) GB132.out : Below w.heap.size w w136)); clear HO_9; clear HO_15; clear BK151; clear HB; have HO_9 := n0_; have HO_15 := n1_; have BK151 := n2_; have HB := n3_; clear n0_ n1_ n2_ n3_; clear hg hw hp_))
                            go_roundg k4
                            case measure => have := HK1.out; have := HK2.out; have := HJ101.out; have := HK4.out; omega
                            case rel => exact ⟨(y203), (!(true)), (wrap64 (x19_4 + 1)), dq14, dq14, H', ⟨dq51⟩, ⟨dq42⟩, ⟨dq47⟩, ⟨dq36⟩, ⟨dq38⟩⟩
                           ·replace c131 := Bool.eq_false_iff.mpr c131
                            subst c131
                            have H1 : (spec_l6Step.l4 k4 l0 l2 (x9_4.set (x19_4 : Int).toNat (true)) t193 x17_2 (!(false)) (wrap64 (x19_4 + 1)) ((rd_T93 l0 a1).f0) ((rd_T93 l0 a1).f1) ((rd_T93 l0 a1).f2) ((rd_T93 l0 a1).f3) ((rd_T93 l0 a1).f4) ((rd_T93 l0 a1).f5) ((rd_T93 l0 a1).f6)) = some r := by rw [if_neg (show ¬ (false = true) by decide)] at H; exact H
                            clear H
                            have H := H1
                            clear H1
                            obtain ⟨y205, hy205⟩ : ∃ y_ : List Bool, y_ = (x9_4.set (x19_4 : Int).toNat (true)) := ⟨_, rfl⟩
                            replace H : (spec_l6Step.l4 k4 l0 l2 y205 t193 x17_2 (!(false)) (wrap64 (x19_4 + 1)) ((rd_T93 l0 a1).f0) ((rd_T93 l0 a1).f1) ((rd_T93 l0 a1).f2) ((rd_T93 l0 a1).f3) ((rd_T93 l0 a1).f4) ((rd_T93 l0 a1).f5) ((rd_T93 l0 a1).f6)) = some r := by first | (rw [hy205]; with_reducible exact H) | (have H2_ := (Option.bind_some _ _).symm.trans H; rw [hy205]; with_reducible exact H2_) | (have H2_ := (Option.bind_some _ _).symm.trans H; with_reducible exact H2_) | with_reducible exact H | (rw [hy205]; exact H) | exact H
                            have Ny205 := Aside0.mk hy205
                            clear hy205
                            have H' := Aside0.mk H
                            clear H
                            obtain ⟨Ao138, co138, eo138⟩ := Kd.R_slice HO_9.out
                            subst eo138
                            obtain ⟨Ao139, co139, eo139⟩ := Kd.R_slice HO_15.out
                            subst eo139
                            have p200 : 0 ≤ (x19_4 : Int) := of_decide_eq_true dq21
                            have q200 : x19_4 < (t193.length : Int) := of_decide_eq_true dq21
                            obtain ⟨ad200, e200, hx200_0⟩ := Kd.at_bool (Kd.R_reads' HO_15.out).2.2 x19_4 p200 q200
                            (try rw [← Nbq128.out] at hx200_0)
                            (try rw [← Nbq130.out] at hx200_0)
                            cases e200
                            replace p200 := eq_true p200
                            replace q200 := eq_true q200
                            have p201 : 0 ≤ (x19_4 : Int) := of_decide_eq_true dq21
                            have q201 : x19_4 < (x9_4.length : Int) := of_decide_eq_true dq21
                            obtain ⟨ad201, e201, hx201_0⟩ := Kd.at_bool (Kd.R_reads' HO_9.out).2.2 x19_4 p201 q201
                            (try rw [← Nbq128.out] at hx201_0)
                            (try rw [← Nbq130.out] at hx201_0)
                            cases e201
                            replace p201 := eq_true p201
                            replace q201 := eq_true q201
                            have p202 : 0 ≤ (x19_4 : Int) := of_decide_eq_true dq21
                            have q202 : x19_4 < (x9_4.length : Int) := of_decide_eq_true dq21
                            obtain ⟨ad202, e202, hx202_0⟩ := Kd.at_bool (Kd.R_reads' HO_9.out).2.2 x19_4 p202 q202
                            (try rw [← Nbq128.out] at hx202_0)
                            (try rw [← Nbq130.out] at hx202_0)
                            obtain rfl : ad201 = ad202 := (by injection e202)
                            replace p202 := eq_true p202
                            replace q202 := eq_true q202
                            have p204 : 0 ≤ (x19_4 : Int) := of_decide_eq_true dq21
                            have q204 : x19_4 < (t193.length : Int) := of_decide_eq_true dq21
                            obtain ⟨ad204, e204, hx204_0⟩ := Kd.at_bool (Kd.R_reads' HO_15.out).2.2 x19_4 p204 q204
                            (try rw [← Nbq128.out] at hx204_0)
                            (try rw [← Nbq130.out] at hx204_0)
                            obtain rfl : ad200 = ad204 := (by injection e204)
                            replace p204 := eq_true p204
                            replace q204 := eq_true q204
                            have p137 : 0 ≤ (x19_4 : Int) := of_decide_eq_true dq21
                            have q137 : (x19_4 : Int) < ((x9_4.length : Int) : Int) := of_decide_eq_true dq21
                            obtain ⟨go137, co137, eo137, gb137, gl137, cl137, HG137⟩ := Kd.R_form HO_9.out dq24
                            (first | cases eo137 | (injection eo137 with ea_ en_ ec_; (first | subst ea_ | (injection ea_ with ea_; subst ea_)); subst ec_; clear en_))
                            have GB137 := Aside0.mk gb137
                            have GG137 := Aside0.mk HG137
                            clear gb137 gl137 HG137
                            (first | simp only [add_plain] at hx201_0 | skip)
                            (first | simp only [add_plain] at hx202_0 | skip)
                            obtain ⟨hx137_0, hf137_0⟩ := Kd.R_celln false HO_9.out (x19_4 : Int) p137 q137
                            replace p137 := eq_true p137
                            replace q137 := eq_true q137
                            have HP140 := Kd.R_putg HO_9.out (x19_4 : Int) true
                            go_wp2_with (first | ((with_reducible refine gate_store (t := 4) (p := 175) rfl ?_); refine store_event (t := 4) (p := 175) (v := ?vo_w141) (w1 := (wr.setCell ⟨go137, (x19_4 : Int).toNat, none⟩ (.bool true))) ?hg ?ho ?hn ?hr ?_; (case ho => rfl); (case hg => rfl); (case hn => rfl); (case hr => exact dq0); intro w141 hw; have hg : wr.grownBy w141 (some go137) := (by rw [hw]; exact HP140.2); have hp_ : Kd.R Kd.bool 4 w141 w.heap.size (fun k_ => some k_ ≠ (.slice (some ad200) t193.length co139 : Value).ownBlock) (.slice (some ⟨go137, 0, none⟩) x9_4.length co138) y205 := (by rw [hw, Ny205.out]; exact HP140.1); clear HP140; have n0_ := Aside0.mk (hp_); have n1_ := Aside0.mk (Kd.R_after (v := (.slice (some ⟨go137, 0, none⟩) x9_4.length co138)) (v1 := (.slice (some ⟨go137, 0, none⟩) x9_4.length co138)) (ok := (fun _ => True)) dq50 hg (.inl rfl)); have n2_ := Aside0.mk (blk_grown (g := gb151) (o := .cells #[.int .i64 ((rd_T93 l0 a1).f0), .bool ((rd_T93 l0 a1).f1), .slice A150_2 ((rd_T93 l0 a1).f2).length c150_2, .int .i64 ((rd_T93 l0 a1).f3), .int .i64 ((rd_T93 l0 a1).f4), .int .i64 ((rd_T93 l0 a1).f5), .int .i64 ((rd_T93 l0 a1).f6)] 93 (0, 0)) dq36 hg (Kd.R_ne HO_9.out BK151.out dq28)); have n3_ := Aside0.mk ((by rw [hw]; exact below_set (HB.out) GB137.out : Below w.heap.size w w141)); clear HO_9; clear HO_15; clear BK151; clear HB; have HO_9 := n0_; have HO_15 := n1_; have BK151 := n2_; have HB := n3_; clear n0_ n1_ n2_ n3_; clear hg hw hp_))
                            go_roundg k4
                            case measure => have := HK1.out; have := HK2.out; have := HJ101.out; have := HK4.out; omega
                            case rel => exact ⟨(y205), (!(false)), (wrap64 (x19_4 + 1)), dq14, dq14, H', ⟨dq51⟩, ⟨dq42⟩, ⟨dq47⟩, ⟨dq36⟩, ⟨dq38⟩⟩
                          ·replace c129 := Bool.eq_false_iff.mpr c129
                           subst c129
                           have H1 : (if rdOf false x9_4 x19_4 = true then (spec_l6Step.l4 k4 l0 l2 (x9_4.set (x19_4 : Int).toNat true) t193 x17_2 false (wrap64 (x19_4 + 1)) ((rd_T93 l0 a1).f0) ((rd_T93 l0 a1).f1) ((rd_T93 l0 a1).f2) ((rd_T93 l0 a1).f3) ((rd_T93 l0 a1).f4) ((rd_T93 l0 a1).f5) ((rd_T93 l0 a1).f6)) else (spec_l6Step.l4 k4 l0 l2 (x9_4.set (x19_4 : Int).toNat (false)) t193 x17_2 false (wrap64 (x19_4 + 1)) ((rd_T93 l0 a1).f0) ((rd_T93 l0 a1).f1) ((rd_T93 l0 a1).f2) ((rd_T93 l0 a1).f3) ((rd_T93 l0 a1).f4) ((rd_T93 l0 a1).f5) ((rd_T93 l0 a1).f6))) = some r := by rw [if_neg (show ¬ (false = true) by decide)] at H; exact H
                           clear H
                           have H := H1
                           clear H1
                           obtain ⟨bq142, hbq142⟩ : ∃ b_ : Bool, b_ = (rdOf false x9_4 x19_4) := ⟨_, rfl⟩
                           replace H : (if bq142 = true then (spec_l6Step.l4 k4 l0 l2 (x9_4.set (x19_4 : Int).toNat true) t193 x17_2 false (wrap64 (x19_4 + 1)) ((rd_T93 l0 a1).f0) ((rd_T93 l0 a1).f1) ((rd_T93 l0 a1).f2) ((rd_T93 l0 a1).f3) ((rd_T93 l0 a1).f4) ((rd_T93 l0 a1).f5) ((rd_T93 l0 a1).f6)) else (spec_l6Step.l4 k4 l0 l2 (x9_4.set (x19_4 : Int).toNat (false)) t193 x17_2 false (wrap64 (x19_4 + 1)) ((rd_T93 l0 a1).f0) ((rd_T93 l0 a1).f1) ((rd_T93 l0 a1).f2) ((rd_T93 l0 a1).f3) ((rd_T93 l0 a1).f4) ((rd_T93 l0 a1).f5) ((rd_T93 l0 a1).f6))) = some r := by rw [← hbq142] at H; exact H
                           have Nbq142 := Aside0.mk hbq142
                           clear hbq142
                           by_cases c143 : bq142 = true
                           ·subst c143
                            have H1 : (spec_l6Step.l4 k4 l0 l2 (x9_4.set (x19_4 : Int).toNat true) t193 x17_2 false (wrap64 (x19_4 + 1)) ((rd_T93 l0 a1).f0) ((rd_T93 l0 a1).f1) ((rd_T93 l0 a1).f2) ((rd_T93 l0 a1).f3) ((rd_T93 l0 a1).f4) ((rd_T93 l0 a1).f5) ((rd_T93 l0 a1).f6)) = some r := by rw [if_pos rfl] at H; exact H
                            clear H
                            have H := H1
                            clear H1
                            obtain ⟨y207, hy207⟩ : ∃ y_ : List Bool, y_ = (x9_4.set (x19_4 : Int).toNat true) := ⟨_, rfl⟩
                            replace H : (spec_l6Step.l4 k4 l0 l2 y207 t193 x17_2 false (wrap64 (x19_4 + 1)) ((rd_T93 l0 a1).f0) ((rd_T93 l0 a1).f1) ((rd_T93 l0 a1).f2) ((rd_T93 l0 a1).f3) ((rd_T93 l0 a1).f4) ((rd_T93 l0 a1).f5) ((rd_T93 l0 a1).f6)) = some r := by first | (rw [hy207]; with_reducible exact H) | (have H2_ := (Option.bind_some _ _).symm.trans H; rw [hy207]; with_reducible exact H2_) | (have H2_ := (Option.bind_some _ _).symm.trans H; with_reducible exact H2_) | with_reducible exact H | (rw [hy207]; exact H) | exact H
                            have Ny207 := Aside0.mk hy207
                            clear hy207
                            have H' := Aside0.mk H
                            clear H
                            obtain ⟨Ao145, co145, eo145⟩ := Kd.R_slice HO_9.out
                            subst eo145
                            obtain ⟨Ao146, co146, eo146⟩ := Kd.R_slice HO_15.out
                            subst eo146
                            have p200 : 0 ≤ (x19_4 : Int) := of_decide_eq_true dq21
                            have q200 : x19_4 < (t193.length : Int) := of_decide_eq_true dq21
                            obtain ⟨ad200, e200, hx200_0⟩ := Kd.at_bool (Kd.R_reads' HO_15.out).2.2 x19_4 p200 q200
                            (try rw [← Nbq128.out] at hx200_0)
                            (try rw [← Nbq142.out] at hx200_0)
                            cases e200
                            replace p200 := eq_true p200
                            replace q200 := eq_true q200
                            have p206 : 0 ≤ (x19_4 : Int) := of_decide_eq_true dq21
                            have q206 : x19_4 < (x9_4.length : Int) := of_decide_eq_true dq21
                            obtain ⟨ad206, e206, hx206_0⟩ := Kd.at_bool (Kd.R_reads' HO_9.out).2.2 x19_4 p206 q206
                            (try rw [← Nbq128.out] at hx206_0)
                            (try rw [← Nbq142.out] at hx206_0)
                            cases e206
                            replace p206 := eq_true p206
                            replace q206 := eq_true q206
                            have p144 : 0 ≤ (x19_4 : Int) := of_decide_eq_true dq21
                            have q144 : (x19_4 : Int) < ((x9_4.length : Int) : Int) := of_decide_eq_true dq21
                            obtain ⟨go144, co144, eo144, gb144, gl144, cl144, HG144⟩ := Kd.R_form HO_9.out dq24
                            (first | cases eo144 | (injection eo144 with ea_ en_ ec_; (first | subst ea_ | (injection ea_ with ea_; subst ea_)); subst ec_; clear en_))
                            have GB144 := Aside0.mk gb144
                            have GG144 := Aside0.mk HG144
                            clear gb144 gl144 HG144
                            (first | simp only [add_plain] at hx206_0 | skip)
                            obtain ⟨hx144_0, hf144_0⟩ := Kd.R_celln false HO_9.out (x19_4 : Int) p144 q144
                            replace p144 := eq_true p144
                            replace q144 := eq_true q144
                            have HP147 := Kd.R_putg HO_9.out (x19_4 : Int) true
                            go_wp2_with (first | ((with_reducible refine gate_store (t := 4) (p := 175) rfl ?_); refine store_event (t := 4) (p := 175) (v := ?vo_w148) (w1 := (wr.setCell ⟨go144, (x19_4 : Int).toNat, none⟩ (.bool true))) ?hg ?ho ?hn ?hr ?_; (case ho => rfl); (case hg => rfl); (case hn => rfl); (case hr => exact dq0); intro w148 hw; have hg : wr.grownBy w148 (some go144) := (by rw [hw]; exact HP147.2); have hp_ : Kd.R Kd.bool 4 w148 w.heap.size (fun k_ => some k_ ≠ (.slice (some ad200) t193.length co146 : Value).ownBlock) (.slice (some ⟨go144, 0, none⟩) x9_4.length co145) y207 := (by rw [hw, Ny207.out]; exact HP147.1); clear HP147; have n0_ := Aside0.mk (hp_); have n1_ := Aside0.mk (Kd.R_after (v := (.slice (some ⟨go144, 0, none⟩) x9_4.length co145)) (v1 := (.slice (some ⟨go144, 0, none⟩) x9_4.length co145)) (ok := (fun _ => True)) dq50 hg (.inl rfl)); have n2_ := Aside0.mk (blk_grown (g := gb151) (o := .cells #[.int .i64 ((rd_T93 l0 a1).f0), .bool ((rd_T93 l0 a1).f1), .slice A150_2 ((rd_T93 l0 a1).f2).length c150_2, .int .i64 ((rd_T93 l0 a1).f3), .int .i64 ((rd_T93 l0 a1).f4), .int .i64 ((rd_T93 l0 a1).f5), .int .i64 ((rd_T93 l0 a1).f6)] 93 (0, 0)) dq36 hg (Kd.R_ne HO_9.out BK151.out dq28)); have n3_ := Aside0.mk ((by rw [hw]; exact below_set (HB.out) GB144.out : Below w.heap.size w w148)); clear HO_9; clear HO_15; clear BK151; clear HB; have HO_9 := n0_; have HO_15 := n1_; have BK151 := n2_; have HB := n3_; clear n0_ n1_ n2_ n3_; clear hg hw hp_))
                            go_roundg k4
                            case measure => have := HK1.out; have := HK2.out; have := HJ101.out; have := HK4.out; omega
                            case rel => exact ⟨(y207), (false), (wrap64 (x19_4 + 1)), dq14, dq14, H', ⟨dq51⟩, ⟨dq42⟩, ⟨dq47⟩, ⟨dq36⟩, ⟨dq38⟩⟩
                           ·replace c143 := Bool.eq_false_iff.mpr c143
                            subst c143
                            have H1 : (spec_l6Step.l4 k4 l0 l2 (x9_4.set (x19_4 : Int).toNat (false)) t193 x17_2 false (wrap64 (x19_4 + 1)) ((rd_T93 l0 a1).f0) ((rd_T93 l0 a1).f1) ((rd_T93 l0 a1).f2) ((rd_T93 l0 a1).f3) ((rd_T93 l0 a1).f4) ((rd_T93 l0 a1).f5) ((rd_T93 l0 a1).f6)) = some r := by rw [if_neg (show ¬ (false = true) by decide)] at H; exact H
                            clear H
                            have H := H1
                            clear H1
                            obtain ⟨y209, hy209⟩ : ∃ y_ : List Bool, y_ = (x9_4.set (x19_4 : Int).toNat (false)) := ⟨_, rfl⟩
                            replace H : (spec_l6Step.l4 k4 l0 l2 y209 t193 x17_2 false (wrap64 (x19_4 + 1)) ((rd_T93 l0 a1).f0) ((rd_T93 l0 a1).f1) ((rd_T93 l0 a1).f2) ((rd_T93 l0 a1).f3) ((rd_T93 l0 a1).f4) ((rd_T93 l0 a1).f5) ((rd_T93 l0 a1).f6)) = some r := by first | (rw [hy209]; with_reducible exact H) | (have H2_ := (Option.bind_some _ _).symm.trans H; rw [hy209]; with_reducible exact H2_) | (have H2_ := (Option.bind_some _ _).symm.trans H; with_reducible exact H2_) | with_reducible exact H | (rw [hy209]; exact H) | exact H
                            have Ny209 := Aside0.mk hy209
                            clear hy209
                            have H' := Aside0.mk H
                            clear H
                            obtain ⟨Ao150, co150, eo150⟩ := Kd.R_slice HO_9.out
                            subst eo150
                            obtain ⟨Ao151, co151, eo151⟩ := Kd.R_slice HO_15.out
                            subst eo151
                            have p200 : 0 ≤ (x19_4 : Int) := of_decide_eq_true dq21
                            have q200 : x19_4 < (t193.length : Int) := of_decide_eq_true dq21
                            obtain ⟨ad200, e200, hx200_0⟩ := Kd.at_bool (Kd.R_reads' HO_15.out).2.2 x19_4 p200 q200
                            (try rw [← Nbq128.out] at hx200_0)
                            (try rw [← Nbq142.out] at hx200_0)
                            cases e200
                            replace p200 := eq_true p200
                            replace q200 := eq_true q200
                            have p206 : 0 ≤ (x19_4 : Int) := of_decide_eq_true dq21
                            have q206 : x19_4 < (x9_4.length : Int) := of_decide_eq_true dq21
                            obtain ⟨ad206, e206, hx206_0⟩ := Kd.at_bool (Kd.R_reads' HO_9.out).2.2 x19_4 p206 q206
                            (try rw [← Nbq128.out] at hx206_0)
                            (try rw [← Nbq142.out] at hx206_0)
                            cases e206
                            replace p206 := eq_true p206
                            replace q206 := eq_true q206
                            have p208 : 0 ≤ (x19_4 : Int) := of_decide_eq_true dq21
                            have q208 : x19_4 < (t193.length : Int) := of_decide_eq_true dq21
                            obtain ⟨ad208, e208, hx208_0⟩ := Kd.at_bool (Kd.R_reads' HO_15.out).2.2 x19_4 p208 q208
                            (try rw [← Nbq128.out] at hx208_0)
                            (try rw [← Nbq142.out] at hx208_0)
                            obtain rfl : ad200 = ad208 := (by injection e208)
                            replace p208 := eq_true p208
                            replace q208 := eq_true q208
                            have p149 : 0 ≤ (x19_4 : Int) := of_decide_eq_true dq21
                            have q149 : (x19_4 : Int) < ((x9_4.length : Int) : Int) := of_decide_eq_true dq21
                            obtain ⟨go149, co149, eo149, gb149, gl149, cl149, HG149⟩ := Kd.R_form HO_9.out dq24
                            (first | cases eo149 | (injection eo149 with ea_ en_ ec_; (first | subst ea_ | (injection ea_ with ea_; subst ea_)); subst ec_; clear en_))
                            have GB149 := Aside0.mk gb149
                            have GG149 := Aside0.mk HG149
                            clear gb149 gl149 HG149
                            (first | simp only [add_plain] at hx206_0 | skip)
                            obtain ⟨hx149_0, hf149_0⟩ := Kd.R_celln false HO_9.out (x19_4 : Int) p149 q149
                            replace p149 := eq_true p149
                            replace q149 := eq_true q149
                            have HP152 := Kd.R_putg HO_9.out (x19_4 : Int) false
                            go_wp2_with (first | ((with_reducible refine gate_store (t := 4) (p := 175) rfl ?_); refine store_event (t := 4) (p := 175) (v := ?vo_w153) (w1 := (wr.setCell ⟨go149, (x19_4 : Int).toNat, none⟩ (.bool false))) ?hg ?ho ?hn ?hr ?_; (case ho => rfl); (case hg => rfl); (case hn => rfl); (case hr => exact dq0); intro w153 hw; have hg : wr.grownBy w153 (some go149) := (by rw [hw]; exact HP152.2); have hp_ : Kd.R Kd.bool 4 w153 w.heap.size (fun k_ => some k_ ≠ (.slice (some ad200) t193.length co151 : Value).ownBlock) (.slice (some ⟨go149, 0, none⟩) x9_4.length co150) y209 := (by rw [hw, Ny209.out]; exact HP152.1); clear HP152; have n0_ := Aside0.mk (hp_); have n1_ := Aside0.mk (Kd.R_after (v := (.slice (some ⟨go149, 0, none⟩) x9_4.length co150)) (v1 := (.slice (some ⟨go149, 0, none⟩) x9_4.length co150)) (ok := (fun _ => True)) dq50 hg (.inl rfl)); have n2_ := Aside0.mk (blk_grown (g := gb151) (o := .cells #[.int .i64 ((rd_T93 l0 a1).f0), .bool ((rd_T93 l0 a1).f1), .slice A150_2 ((rd_T93 l0 a1).f2).length c150_2, .int .i64 ((rd_T93 l0 a1).f3), .int .i64 ((rd_T93 l0 a1).f4), .int .i64 ((rd_T93 l0 a1).f5), .int .i64 ((rd_T93 l0 a1).f6)] 93 (0, 0)) dq36 hg (Kd.R_ne HO_9.out BK151.out dq28)); have n3_ := Aside0.mk ((by rw [hw]; exact below_set (HB.out) GB149.out : Below w.heap.size w w153)); clear HO_9; clear HO_15; clear BK151; clear HB; have HO_9 := n0_; have HO_15 := n1_; have BK151 := n2_; have HB := n3_; clear n0_ n1_ n2_ n3_; clear hg hw hp_))
                            go_roundg k4
                            case measure => have := HK1.out; have := HK2.out; have := HJ101.out; have := HK4.out; omega
                            case rel => exact ⟨(y209), (false), (wrap64 (x19_4 + 1)), dq14, dq14, H', ⟨dq51⟩, ⟨dq42⟩, ⟨dq47⟩, ⟨dq36⟩, ⟨dq38⟩⟩
                         ·rw [if_neg c127] at H
                          exact absurd H dq23
                        ·rw [if_neg c126] at H
                         exact absurd H dq23
                      ·rw [if_neg c111] at H
                       have c111b0 := decide_eq_false c111
                       clear c111
                       by_cases c154 : x18_4 = true
                       ·subst c154
                        have H1 : (if ((rd_T93 l0 a1).f6) = (-1) then ((some (([] : List Bool) : List Bool)).bind fun y210 => (if y210.length + x9_4.length < 140737488355328 then (spec_l6Step.l3 k4 l0 l2 x9_4 (y210 ++ x9_4) (wrap64 (x17_2 + 1)) ((rd_T93 l0 a1).f0) ((rd_T93 l0 a1).f1) ((rd_T93 l0 a1).f2) ((rd_T93 l0 a1).f3) ((rd_T93 l0 a1).f4) ((rd_T93 l0 a1).f5) ((rd_T93 l0 a1).f6)) else (none))) else (spec_l6Step.l3 k4 l0 l2 x9_4 t193 (wrap64 (x17_2 + 1)) ((rd_T93 l0 a1).f0) ((rd_T93 l0 a1).f1) ((rd_T93 l0 a1).f2) ((rd_T93 l0 a1).f3) ((rd_T93 l0 a1).f4) ((rd_T93 l0 a1).f5) ((rd_T93 l0 a1).f6))) = some r := by rw [if_pos rfl] at H; exact H
                        clear H
                        have H := H1
                        clear H1
                        by_cases c155 : ((rd_T93 l0 a1).f6) = (-1)
                        ·rw [if_pos c155] at H
                         have c155b0 := beq_iff_eq.mpr c155
                         have c155b1 := bne_eq_false_iff_eq.mpr c155
                         clear c155
                         obtain ⟨y210, hy210⟩ : ∃ y_ : List Bool, y_ = (([] : List Bool)) := ⟨_, rfl⟩
                         replace H : (if y210.length + x9_4.length < 140737488355328 then (spec_l6Step.l3 k4 l0 l2 x9_4 (y210 ++ x9_4) (wrap64 (x17_2 + 1)) ((rd_T93 l0 a1).f0) ((rd_T93 l0 a1).f1) ((rd_T93 l0 a1).f2) ((rd_T93 l0 a1).f3) ((rd_T93 l0 a1).f4) ((rd_T93 l0 a1).f5) ((rd_T93 l0 a1).f6)) else (none)) = some r := by first | (rw [hy210]; with_reducible exact H) | (have H2_ := (Option.bind_some _ _).symm.trans H; rw [hy210]; with_reducible exact H2_) | (have H2_ := (Option.bind_some _ _).symm.trans H; with_reducible exact H2_) | with_reducible exact H | (rw [hy210]; exact H) | exact H
                         have Ny210 := Aside0.mk hy210
                         clear hy210
                         by_cases c156 : y210.length + x9_4.length < 140737488355328
                         ·rw [if_pos c156] at H
                          have LMc156 := Aside0.mk c156
                          clear c156
                          obtain ⟨y213, hy213⟩ : ∃ y_ : List Bool, y_ = (y210 ++ x9_4) := ⟨_, rfl⟩
                          replace H : (spec_l6Step.l3 k4 l0 l2 x9_4 y213 (wrap64 (x17_2 + 1)) ((rd_T93 l0 a1).f0) ((rd_T93 l0 a1).f1) ((rd_T93 l0 a1).f2) ((rd_T93 l0 a1).f3) ((rd_T93 l0 a1).f4) ((rd_T93 l0 a1).f5) ((rd_T93 l0 a1).f6)) = some r := by first | (rw [hy213]; with_reducible exact H) | (have H2_ := (Option.bind_some _ _).symm.trans H; rw [hy213]; with_reducible exact H2_) | (have H2_ := (Option.bind_some _ _).symm.trans H; with_reducible exact H2_) | with_reducible exact H | (rw [hy213]; exact H) | exact H
                          have Ny213 := Aside0.mk hy213
                          clear hy213
                          have H' := Aside0.mk H
                          clear H
                          obtain ⟨Ao157, co157, eo157⟩ := Kd.R_slice HO_9.out
                          subst eo157
                          obtain ⟨⟨hcz158_0, hcz158_1, hcz158_2, hcz158_3, hcz158_4, hcz158_5, hcz158_6⟩, hfz158_0, hfz158_1, hfz158_2, hfz158_3, hfz158_4, hfz158_5, hfz158_6⟩ := blkC7 BK151.out
                          go_wp2_with (first | ((with_reducible refine gate_dst (N := 181) rfl ?_); refine Kd.R_lit Kd.bool _ 4 ?hg (N := 181) ?hd (xs := ([] : List Bool)) (inner := []) (ok := fun _ => True) (okp := fun _ => True) ?hr ?hp (fun _ hk => hk) trivial (Below.refl _ _) (Nat.le_refl _) dq23 ?_; (case hd => rfl); (case hg => rfl); (case hr => exact dq0); (case hp => exact (Reps.none _ _)); intro v211 w159 ho160 hb hg_ hnew_; clear hg_ hnew_; (first | rw [← Ny210.out] at ho160 | (simp only [Int.reduceToNat] at ho160; rw [← Ny210.out] at ho160)); have n0_ := Aside0.mk (Kd.R_elder' dq42 (Kd.R_base ho160) hb); have n1_ := Aside0.mk (Kd.R_elder' dq46 (Kd.R_base ho160) hb); have n2_ := Aside0.mk (Kd.R_lower (Kd.R_new' (Kd.R_new' ho160 (Kd.R_lt dq42)) (Kd.R_lt dq46)) (below_size dq38)); have n3_ := Aside0.mk (blk_below (g := gb151) (o := .cells #[.int .i64 ((rd_T93 l0 a1).f0), .bool ((rd_T93 l0 a1).f1), .slice A150_2 ((rd_T93 l0 a1).f2).length c150_2, .int .i64 ((rd_T93 l0 a1).f3), .int .i64 ((rd_T93 l0 a1).f4), .int .i64 ((rd_T93 l0 a1).f5), .int .i64 ((rd_T93 l0 a1).f6)] 93 (0, 0)) dq36 hb); have n4_ := Aside0.mk (below_step dq38 hb); clear HO_9; clear HO_15; clear BK151; clear HB; have HO_9 := n0_; have HO_15 := n1_; have HO212 := n2_; have BK151 := n3_; have HB := n4_; clear n0_ n1_ n2_ n3_ n4_; clear hb ho160) | ((with_reducible refine gate_builtin (b := .append) (xs := #[.tmp 181, .tmp 182]) rfl ?_); at_builtin; refine Kd.R_append_rows Kd.bool (w0 := w) w.heap.size rfl (.tmp 181) (.tmp 182) 89 4 (.bool false) 1 rfl Tryd.underlying89 info4 rfl dq28 dq24 v211 y210 x9_4 _ _ _ (fun k_ => some k_ ≠ (.slice Ao157 x9_4.length co157 : Value).ownBlock ∧ some k_ ≠ (v194 : Value).ownBlock) (fun _ => False) rfl rfl ?aO ?aR (fun _ _ h => h) (fun _ h => h.elim) ?aF ?aB ?aS ?aL ?_; (case aR => repeat (first | exact (Kd.R_reads' HO_9.out).2.2 | (with_reducible refine Kd.C_alloc ?_ _) | (with_reducible refine Kd.C_drewN ?_ _) | (with_reducible refine Kd.C_drew ?_))); (case aB => exact dq38); (case aF => exact (fun k_ hk => ⟨Kd.fresh' (Kd.R_lt dq42) k_ hk, Kd.fresh' (Kd.R_lt dq46) k_ hk⟩)); (case aO => exact (by (with_reducible repeat (first | apply Kd.R_alloc | apply Kd.R_drewN | apply Kd.R_drew)); exact Kd.R_mono HO212.out (fun _ hk => ⟨hk.1.2, hk.2⟩))); (case aS => exact (below_size dq38)); (case aL => have := LMc156.out; omega); intro v214 w161 ho hb hg hat; rw [← Ny213.out] at ho; have n0_ := Aside0.mk (Kd.R_after (ok := (fun k_ => some k_ ≠ (v194 : Value).ownBlock)) dq42 hg hat); have n1_ := Aside0.mk (Kd.R_after (ok := (fun k_ => some k_ ≠ (.slice Ao157 x9_4.length co157 : Value).ownBlock)) dq46 hg hat); have n2_ := Aside0.mk (blk_grown (g := gb151) (o := .cells #[.int .i64 ((rd_T93 l0 a1).f0), .bool ((rd_T93 l0 a1).f1), .slice A150_2 ((rd_T93 l0 a1).f2).length c150_2, .int .i64 ((rd_T93 l0 a1).f3), .int .i64 ((rd_T93 l0 a1).f4), .int .i64 ((rd_T93 l0 a1).f5), .int .i64 ((rd_T93 l0 a1).f6)] 93 (0, 0)) dq36 hg (Kd.R_ne HO212.out BK151.out dq28)); have n3_ := Aside0.mk (hb); have n4_ := Aside0.mk (ho); clear HO_9; clear HO_15; clear BK151; clear HB; clear HO212; have HO_9 := n0_; have HO_15 := n1_; have BK151 := n2_; have HB := n3_; have HO215 := n4_; clear n0_ n1_ n2_ n3_ n4_; clear ho hb hg hat))
                          go_roundg k4
                          case measure => have := HK1.out; have := HK2.out; have := HJ101.out; have := HK4.out; omega
                          case rel => exact ⟨(x9_4), (y213), (wrap64 (x17_2 + 1)), dq14, H', ⟨dq51⟩, ⟨dq49⟩, ⟨by (with_reducible repeat (first | apply Kd.R_alloc | apply Kd.R_drewN | apply Kd.R_drew)); exact Kd.R_mono HO215.out (fun _ hk => hk.1)⟩, ⟨dq36⟩, ⟨dq38⟩⟩
                         ·rw [if_neg c156] at H
                          exact absurd H dq23
                        ·rw [if_neg c155] at H
                         have c155b0 := beq_eq_false_iff_ne.mpr c155
                         have c155b1 := bne_iff_ne.mpr c155
                         have H' := Aside0.mk H
                         clear H
                         obtain ⟨Ao162, co162, eo162⟩ := Kd.R_slice HO_9.out
                         subst eo162
                         obtain ⟨⟨hcz163_0, hcz163_1, hcz163_2, hcz163_3, hcz163_4, hcz163_5, hcz163_6⟩, hfz163_0, hfz163_1, hfz163_2, hfz163_3, hfz163_4, hfz163_5, hfz163_6⟩ := blkC7 BK151.out
                         go_wp2
                         go_roundg k4
                         case measure => have := HK1.out; have := HK2.out; have := HJ101.out; have := HK4.out; omega
                         case rel => exact ⟨(x9_4), (t193), (wrap64 (x17_2 + 1)), dq14, H', ⟨dq51⟩, ⟨dq42⟩, ⟨dq46⟩, ⟨dq36⟩, ⟨dq38⟩⟩
                       ·replace c154 := Bool.eq_false_iff.mpr c154
                        subst c154
                        have H1 : (some x9_4) = some r := by rw [if_neg (show ¬ (false = true) by decide)] at H; exact H
                        clear H
                        have H := H1
                        clear H1
                        obtain rfl := Option.some.inj H
                        obtain ⟨Ao164, co164, eo164⟩ := Kd.R_slice HO_9.out
                        subst eo164
                        go_wp2
                        go_ret
                        exact ⟨_, dq20, dq45, dq38⟩
                   ·replace c106 := Bool.eq_false_iff.mpr c106
                    subst c106
                    have H1 : (some x9_2) = some r := by rw [if_neg (show ¬ (false = true) by decide)] at H; exact H
                    clear H
                    have H := H1
                    clear H1
                    obtain rfl := Option.some.inj H
                    go_wp2
                    go_ret
                    exact ⟨_, dq20, dq45, dq38⟩
              ·rw [if_neg c95] at H
               exact absurd H dq23
          ·rw [if_neg c82] at H
           exact absurd H dq23
         ·rw [if_neg c81] at H
          have c81b0 := beq_eq_false_iff_ne.mpr c81
          have c81b1 := bne_iff_ne.mpr c81
          obtain rfl := Option.some.inj H
          go_enter Tryd.func74, Tryd.ntmps74
          go_wp2_with (first | ((with_reducible refine gate_dst (N := 22) rfl ?_); refine Kd.R_make Kd.bool _ 4 rfl (N := 22) rfl 89 _ _ rfl (l3.length : Int) rfl rfl Tryd.underlying89 (.bool false) 1 info4 rfl dq28 dq24 false (ok := fun _ => True) (okp := fun _ => True) rfl (fun _ hk => hk) trivial (of_decide_eq_true dq21) (Nat.le_trans (Nat.mul_le_mul_right _ (of_decide_eq_true dq21 : (l3.length : Int).toNat ≤ 281474976710656)) dq24) (Below.refl _ _) (Nat.le_refl _) ?_; intro v148 w165 ho166 hb hg_ hnew_; clear hg_ hnew_; (first | rw [← Ny147.out] at ho166 | (simp only [Int.reduceToNat] at ho166; rw [← Ny147.out] at ho166)); have n0_ := Aside0.mk (Kd.R_lower ho166 (below_size dq18)); have n1_ := Aside0.mk (below_step dq18 hb); clear HB; have HO149 := n0_; have HB := n1_; clear n0_ n1_; clear hb ho166; have p150 : 0 ≤ (a1 : Int) := of_decide_eq_true dq21; have q150 : a1 < (l0.length : Int) := of_decide_eq_true dq21; obtain ⟨ad150, A150_2, c150_2, e150, hx150_0, hx150_1, hx150_2, hx150_3, hx150_4, hx150_5, hx150_6, hl150_2, hi150_2⟩ := at_T93 HR0.out a1 p150 q150; cases e150; replace hx150_0 := (HB.out.cell (World.block_lt_of_cell? w _ hx150_0)).trans hx150_0; replace hx150_1 := (HB.out.cell (World.block_lt_of_cell? w _ hx150_1)).trans hx150_1; replace hx150_2 := (HB.out.cell (World.block_lt_of_cell? w _ hx150_2)).trans hx150_2; replace hx150_3 := (HB.out.cell (World.block_lt_of_cell? w _ hx150_3)).trans hx150_3; replace hx150_4 := (HB.out.cell (World.block_lt_of_cell? w _ hx150_4)).trans hx150_4; replace hx150_5 := (HB.out.cell (World.block_lt_of_cell? w _ hx150_5)).trans hx150_5; replace hx150_6 := (HB.out.cell (World.block_lt_of_cell? w _ hx150_6)).trans hx150_6; have HR150_2 := Aside0.mk hi150_2; have HC150_2 := Aside0.mk hl150_2; clear hi150_2 hl150_2; replace p150 := eq_true p150; replace q150 := eq_true q150) | ((with_reducible refine gate_dst (N := 10) rfl ?_); refine box_event ?hg (N := 10) ?hd (cs := #[.int .i64 0, .bool false, .slice none 0 0, .int .i64 0, .int .i64 0, .int .i64 0, .int .i64 0]) (t := 93) ?hr ?_; (case hd => rfl); (case hg => rfl); (case hr => exact dq0); intro gb151 hg w167 hbox hb; have n0_ := Aside0.mk (Kd.R_below dq37 hb); have n1_ := Aside0.mk (below_step dq18 hb); have n2_ := Aside0.mk (hbox); have n3_ := Aside0.mk ((dq17 : w.heap.size ≤ gb151)); have n4_ := Aside0.mk ((dq17 : w.heap.size ≤ gb151)); clear HO149; clear HB; have HO149 := n0_; have HB := n1_; have BK151 := n2_; have GW151 := n3_; have GE151 := n4_; clear n0_ n1_ n2_ n3_ n4_; clear hb hbox hg; obtain ⟨⟨hcz168_0, hcz168_1, hcz168_2, hcz168_3, hcz168_4, hcz168_5, hcz168_6⟩, hfz168_0, hfz168_1, hfz168_2, hfz168_3, hfz168_4, hfz168_5, hfz168_6⟩ := blkC7 BK151.out))
          go_ret
          exact ⟨_, dq20, dq41, dq38⟩
    ·rw [if_neg c8] at H
     exact absurd H dq23
   ·rw [if_neg c7] at H
    exact absurd H dq23
  ·rw [if_neg c6] at H
   exact absurd H dq23
 ·rw [if_neg c5] at H
  exact absurd H dq23

/-! ### spec_Matches: function 33 -/
def spec_Matches.f (k : Nat) (l0 : List (S93)) (a1 : ByteArray) : Option (Bool) := (spec_Runes.f k a1).bind fun bt216 => (if bt216.2 = true then ((spec_RegexOk.f k l0).bind fun t220 => (if t220 = true then (if (bt216.1.length : Int) > 300 then (some false) else (if 0 ≤ (wrap64 ((bt216.1.length : Int) + 1)) then (if (wrap64 ((bt216.1.length : Int) + 1) : Int).toNat ≤ 281474976710656 then ((some (List.replicate (wrap64 ((bt216.1.length : Int) + 1) : Int).toNat false : List Bool)).bind fun y221 => (if 0 < (y221.length : Int) then ((spec_l6Step.f k l0 (wrap64 ((l0.length : Int) - 1)) bt216.1 (y221.set (0 : Int).toNat true)).bind fun t225 => (if 0 ≤ (bt216.1.length : Int) then (if (bt216.1.length : Int) < (t225.length : Int) then (some (rdOf false t225 (bt216.1.length : Int))) else (none)) else (none))) else (none))) else (none)) else (none))) else (some false))) else (some false))
set_option maxHeartbeats 8000000 in
set_option maxRecDepth 100000 in
theorem spec_Matches.calls (k : Nat) (A0 : Option Addr) (c0 : Nat) (l0 : List (S93)) (a1 : ByteArray) (r : Bool) (w : World) (hr0 : Kd.C k93 w A0 l0.length l0) (hc0 : l0.length ≤ c0) (h : spec_Matches.f k l0 a1 = some r) :
  Calls Tryd.prog 33 #[.slice A0 l0.length c0, .string a1] w fun e w' => e = .returned (.bool r) ∧ Below w.heap.size w w' := by
 have HR0 := Aside0.mk hr0
 have HC0 := Aside0.mk hc0
 clear hr0 hc0
 have HB := Aside0.mk (Below.refl w.heap.size w)
 have H : ((spec_Runes.f k a1).bind fun bt216 => (if bt216.2 = true then ((spec_RegexOk.f k l0).bind fun t220 => (if t220 = true then (if (bt216.1.length : Int) > 300 then (some false) else (if 0 ≤ (wrap64 ((bt216.1.length : Int) + 1)) then (if (wrap64 ((bt216.1.length : Int) + 1) : Int).toNat ≤ 281474976710656 then ((some (List.replicate (wrap64 ((bt216.1.length : Int) + 1) : Int).toNat false : List Bool)).bind fun y221 => (if 0 < (y221.length : Int) then ((spec_l6Step.f k l0 (wrap64 ((l0.length : Int) - 1)) bt216.1 (y221.set (0 : Int).toNat true)).bind fun t225 => (if 0 ≤ (bt216.1.length : Int) then (if (bt216.1.length : Int) < (t225.length : Int) then (some (rdOf false t225 (bt216.1.length : Int))) else (none)) else (none))) else (none))) else (none)) else (none))) else (some false))) else (some false))) = some r := h
 clear h
 replace H := Option.bind_eq_some_iff.mp H
 obtain ⟨⟨t216, t217⟩, A30, H⟩ := H
 replace H : (if t217 = true then ((spec_RegexOk.f k l0).bind fun t220 => (if t220 = true then (if (t216.length : Int) > 300 then (some false) else (if 0 ≤ (wrap64 ((t216.length : Int) + 1)) then (if (wrap64 ((t216.length : Int) + 1) : Int).toNat ≤ 281474976710656 then ((some (List.replicate (wrap64 ((t216.length : Int) + 1) : Int).toNat false : List Bool)).bind fun y221 => (if 0 < (y221.length : Int) then ((spec_l6Step.f k l0 (wrap64 ((l0.length : Int) - 1)) t216 (y221.set (0 : Int).toNat true)).bind fun t225 => (if 0 ≤ (t216.length : Int) then (if (t216.length : Int) < (t225.length : Int) then (some (rdOf false t225 (t216.length : Int))) else (none)) else (none))) else (none))) else (none)) else (none))) else (some false))) else (some false)) = some r := H
 have A3 := Aside0.mk A30
 clear A30
 by_cases c4 : t217 = true
 ·subst c4
  have H1 : ((spec_RegexOk.f k l0).bind fun t220 => (if t220 = true then (if (t216.length : Int) > 300 then (some false) else (if 0 ≤ (wrap64 ((t216.length : Int) + 1)) then (if (wrap64 ((t216.length : Int) + 1) : Int).toNat ≤ 281474976710656 then ((some (List.replicate (wrap64 ((t216.length : Int) + 1) : Int).toNat false : List Bool)).bind fun y221 => (if 0 < (y221.length : Int) then ((spec_l6Step.f k l0 (wrap64 ((l0.length : Int) - 1)) t216 (y221.set (0 : Int).toNat true)).bind fun t225 => (if 0 ≤ (t216.length : Int) then (if (t216.length : Int) < (t225.length : Int) then (some (rdOf false t225 (t216.length : Int))) else (none)) else (none))) else (none))) else (none)) else (none))) else (some false))) = some r := by rw [if_pos rfl] at H; exact H
  clear H
  have H := H1
  clear H1
  replace H := Option.bind_eq_some_iff.mp H
  obtain ⟨t220, A50, H⟩ := H
  replace H : (if t220 = true then (if (t216.length : Int) > 300 then (some false) else (if 0 ≤ (wrap64 ((t216.length : Int) + 1)) then (if (wrap64 ((t216.length : Int) + 1) : Int).toNat ≤ 281474976710656 then ((some (List.replicate (wrap64 ((t216.length : Int) + 1) : Int).toNat false : List Bool)).bind fun y221 => (if 0 < (y221.length : Int) then ((spec_l6Step.f k l0 (wrap64 ((l0.length : Int) - 1)) t216 (y221.set (0 : Int).toNat true)).bind fun t225 => (if 0 ≤ (t216.length : Int) then (if (t216.length : Int) < (t225.length : Int) then (some (rdOf false t225 (t216.length : Int))) else (none)) else (none))) else (none))) else (none)) else (none))) else (some false)) = some r := H
  have A5 := Aside0.mk A50
  clear A50
  by_cases c6 : t220 = true
  ·subst c6
   have H1 : (if (t216.length : Int) > 300 then (some false) else (if 0 ≤ (wrap64 ((t216.length : Int) + 1)) then (if (wrap64 ((t216.length : Int) + 1) : Int).toNat ≤ 281474976710656 then ((some (List.replicate (wrap64 ((t216.length : Int) + 1) : Int).toNat false : List Bool)).bind fun y221 => (if 0 < (y221.length : Int) then ((spec_l6Step.f k l0 (wrap64 ((l0.length : Int) - 1)) t216 (y221.set (0 : Int).toNat true)).bind fun t225 => (if 0 ≤ (t216.length : Int) then (if (t216.length : Int) < (t225.length : Int) then (some (rdOf false t225 (t216.length : Int))) else (none)) else (none))) else (none))) else (none)) else (none))) = some r := by rw [if_pos rfl] at H; exact H
   clear H
   have H := H1
   clear H1
   by_cases c7 : (t216.length : Int) > 300
   ·rw [if_pos c7] at H
    have c7b0 : decide (300 < (t216.length : Int)) = true := decide_eq_true c7
    have c7b1 : decide (300 < t216.length) = true := decide_eq_true dq24
    clear c7
    obtain rfl := Option.some.inj H
    go_enter Tryd.func33, Tryd.ntmps33
    go_wp2_with (first | ((with_reducible refine gate_callee (f := 46) rfl ?_); refine goesL_ (some 10) rfl rfl Tryd.func46 dq16 rfl #[.string a1] rfl dq15 ?_; (with_reducible refine (spec_Runes.calls k a1 t216 true _ A3.out).mono ?_); rintro e w8 ⟨v218, rfl, ho0, hb⟩; refine ⟨_, rfl, ?_⟩; have n0_ := Aside0.mk (Kd.R_lower ho0 (below_size dq18)); have n1_ := Aside0.mk (below_step dq18 hb); clear HB; have HO219 := n0_; have HB := n1_; clear n0_ n1_; (try clear hb); (try clear hb2); (try clear hk); (try clear hi); (try clear ho0)) | (go_at_call 73; (with_reducible refine (spec_RegexOk.calls k _ _ l0 true _ ?side1 ?side2 A5.out).mono ?_); (case side1 => exact dq4); (case side2 => exact dq3); rintro e w9 ⟨rfl, hb⟩; have n0_ := Aside0.mk (Kd.R_below dq52 hb); have n1_ := Aside0.mk (below_step dq18 hb); clear HO219; clear HB; have HO219 := n0_; have HB := n1_; clear n0_ n1_; (try clear hb); (try clear hb2); (try clear hk); (try clear hi); obtain ⟨Ao10, co10, eo10⟩ := Kd.R_slice HO219.out; subst eo10))
    go_ret
    exact ⟨dq20, dq18⟩
   ·rw [if_neg c7] at H
    have c7b0 : decide (300 < (t216.length : Int)) = false := decide_eq_false c7
    have c7b1 : decide (300 < t216.length) = false := decide_eq_false dq24
    clear c7
    obtain ⟨ji11, hji11⟩ : ∃ j_ : Int, (wrap64 ((t216.length : Int) + 1)) = j_ := ⟨_, rfl⟩
    replace H : (if 0 ≤ (ji11) then (if (ji11 : Int).toNat ≤ 281474976710656 then ((some (List.replicate (ji11 : Int).toNat false : List Bool)).bind fun y221 => (if 0 < (y221.length : Int) then ((spec_l6Step.f k l0 (wrap64 ((l0.length : Int) - 1)) t216 (y221.set (0 : Int).toNat true)).bind fun t225 => (if 0 ≤ (t216.length : Int) then (if (t216.length : Int) < (t225.length : Int) then (some (rdOf false t225 (t216.length : Int))) else (none)) else (none))) else (none))) else (none)) else (none)) = some r := by first | (rw [hji11] at H; exact H) | (simp only [hji11] at H ⊢; exact H)
    (try rw [hji11] at A3)
    (try rw [hji11] at A5)
    have hji11w : (IntKind.i64.wrap ((t216.length : Int) + 1)) = ji11 := (i64_w _).trans hji11
    by_cases c12 : 0 ≤ (ji11)
    ·rw [if_pos c12] at H
     have c12b0 := eq_true c12
     have c12b1 := decide_eq_true c12
     clear c12
     by_cases c13 : (ji11 : Int).toNat ≤ 281474976710656
     ·rw [if_pos c13] at H
      have c13b0 := eq_true c13
      have c13b1 := decide_eq_true c13
      clear c13
      obtain ⟨y221, hy221⟩ : ∃ y_ : List Bool, y_ = (List.replicate (ji11 : Int).toNat false) := ⟨_, rfl⟩
      replace H : (if 0 < (y221.length : Int) then ((spec_l6Step.f k l0 (wrap64 ((l0.length : Int) - 1)) t216 (y221.set (0 : Int).toNat true)).bind fun t225 => (if 0 ≤ (t216.length : Int) then (if (t216.length : Int) < (t225.length : Int) then (some (rdOf false t225 (t216.length : Int))) else (none)) else (none))) else (none)) = some r := by first | (rw [hy221]; with_reducible exact H) | (have H2_ := (Option.bind_some _ _).symm.trans H; rw [hy221]; with_reducible exact H2_) | (have H2_ := (Option.bind_some _ _).symm.trans H; with_reducible exact H2_) | with_reducible exact H | (rw [hy221]; exact H) | exact H
      have Ny221 := Aside0.mk hy221
      clear hy221
      by_cases c14 : 0 < (y221.length : Int)
      ·rw [if_pos c14] at H
       have c14b0 := decide_eq_true c14
       have c14b1 : decide (0 < y221.length) = true := decide_eq_true dq24
       clear c14
       obtain ⟨y224, hy224⟩ : ∃ y_ : List Bool, y_ = (y221.set (0 : Int).toNat true) := ⟨_, rfl⟩
       replace H : ((spec_l6Step.f k l0 (wrap64 ((l0.length : Int) - 1)) t216 y224).bind fun t225 => (if 0 ≤ (t216.length : Int) then (if (t216.length : Int) < (t225.length : Int) then (some (rdOf false t225 (t216.length : Int))) else (none)) else (none))) = some r := by first | (rw [hy224]; with_reducible exact H) | (have H2_ := (Option.bind_some _ _).symm.trans H; rw [hy224]; with_reducible exact H2_) | (have H2_ := (Option.bind_some _ _).symm.trans H; with_reducible exact H2_) | with_reducible exact H | (rw [hy224]; exact H) | exact H
       have Ny224 := Aside0.mk hy224
       clear hy224
       replace H := Option.bind_eq_some_iff.mp H
       obtain ⟨t225, A160, H⟩ := H
       replace H : (if 0 ≤ (t216.length : Int) then (if (t216.length : Int) < (t225.length : Int) then (some (rdOf false t225 (t216.length : Int))) else (none)) else (none)) = some r := H
       have A16 := Aside0.mk A160
       clear A160
       by_cases c17 : 0 ≤ (t216.length : Int)
       ·rw [if_pos c17] at H
        have c17b0 := decide_eq_true c17
        have c17b1 : decide (0 ≤ t216.length) = true := decide_eq_true dq24
        clear c17
        by_cases c18 : (t216.length : Int) < (t225.length : Int)
        ·rw [if_pos c18] at H
         have c18b0 := decide_eq_true c18
         have c18b1 : decide (t216.length < t225.length) = true := decide_eq_true (Int.ofNat_lt.mp c18)
         clear c18
         obtain rfl := Option.some.inj H
         go_enter Tryd.func33, Tryd.ntmps33
         go_wp2_with (first | ((with_reducible refine gate_callee (f := 46) rfl ?_); refine goesL_ (some 10) rfl rfl Tryd.func46 dq16 rfl #[.string a1] rfl dq15 ?_; (with_reducible refine (spec_Runes.calls k a1 t216 true _ A3.out).mono ?_); rintro e w19 ⟨v218, rfl, ho0, hb⟩; refine ⟨_, rfl, ?_⟩; have n0_ := Aside0.mk (Kd.R_lower ho0 (below_size dq18)); have n1_ := Aside0.mk (below_step dq18 hb); clear HB; have HO219 := n0_; have HB := n1_; clear n0_ n1_; (try clear hb); (try clear hb2); (try clear hk); (try clear hi); (try clear ho0)) | (go_at_call 73; (with_reducible refine (spec_RegexOk.calls k _ _ l0 true _ ?side1 ?side2 A5.out).mono ?_); (case side1 => exact dq4); (case side2 => exact dq3); rintro e w20 ⟨rfl, hb⟩; have n0_ := Aside0.mk (Kd.R_below dq52 hb); have n1_ := Aside0.mk (below_step dq18 hb); clear HO219; clear HB; have HO219 := n0_; have HB := n1_; clear n0_ n1_; (try clear hb); (try clear hb2); (try clear hk); (try clear hi); obtain ⟨Ao21, co21, eo21⟩ := Kd.R_slice HO219.out; subst eo21) | ((with_reducible refine gate_dst (N := 28) rfl ?_); (try (refine gate_guard dq29 ?_; dsimp only)); refine Kd.R_make Kd.bool _ 4 rfl (N := 28) rfl 89 _ _ rfl ji11 rfl rfl Tryd.underlying89 (.bool false) 1 info4 rfl dq28 dq24 false (ok := fun _ => True) (okp := fun _ => True) rfl (fun _ hk => hk) trivial (of_decide_eq_true dq21) (Nat.le_trans (Nat.mul_le_mul_right _ (of_decide_eq_true dq21 : ji11.toNat ≤ 281474976710656)) dq24) (Below.refl _ _) (Nat.le_refl _) ?_; intro v222 w22 ho23 hb hg_ hnew_; clear hg_ hnew_; (first | rw [← Ny221.out] at ho23 | (simp only [Int.reduceToNat] at ho23; rw [← Ny221.out] at ho23)); have n0_ := Aside0.mk (Kd.R_below dq52 hb); have n1_ := Aside0.mk (Kd.R_lower ho23 (below_size dq18)); have n2_ := Aside0.mk (below_step dq18 hb); clear HO219; clear HB; have HO219 := n0_; have HO223 := n1_; have HB := n2_; clear n0_ n1_ n2_; clear hb ho23; have p15 : 0 ≤ (0 : Int) := dq24; have q15 : (0 : Int) < ((y221.length : Int) : Int) := of_decide_eq_true dq21; have qi15 : (0 < y221.length) = True := eq_true dq24; obtain ⟨go15, co15, eo15, gb15, gl15, cl15, HG15⟩ := Kd.R_form HO223.out dq24; (first | cases eo15 | (injection eo15 with ea_ en_ ec_; (first | subst ea_ | (injection ea_ with ea_; subst ea_)); subst ec_; clear en_)); have GB15 := Aside0.mk gb15; have GG15 := Aside0.mk HG15; clear gb15 gl15 HG15; obtain ⟨hx15_0, hf15_0⟩ := Kd.R_celln false HO223.out (0 : Int) p15 q15; (try rw [show ((0 : Int)).toNat = 0 from rfl] at hx15_0); (try simp only [Nat.reduceMul, Nat.zero_mul, Nat.zero_add, Nat.reduceAdd] at hx15_0); (try rw [show ((0 : Int)).toNat = 0 from rfl] at hf15_0); (try simp only [Nat.reduceMul, Nat.zero_mul, Nat.zero_add, Nat.reduceAdd] at hf15_0); replace p15 := eq_true p15; replace q15 := eq_true q15; obtain ⟨hy24_, hz24_⟩ := Kd.R_celln false HO223.out (0 : Int) dq24 (of_decide_eq_true dq21); (try simp only [Int.reduceToNat, Int.toNat_zero, Int.toNat_ofNat, Nat.reduceMul, Nat.zero_mul, Nat.zero_add] at hy24_ hz24_); (try rw [show ((0 : Int)).toNat = 0 from rfl] at hy24_); (try rw [show ((0 : Int)).toNat = 0 from rfl] at hz24_); have HP24 := Kd.R_putg HO223.out (0 : Int) true) | ((with_reducible refine gate_store (t := 4) (p := 30) rfl ?_); refine store_event (t := 4) (p := 30) (v := ?vo_w25) (w1 := (w22.setCell ⟨go15, (0 : Int).toNat, none⟩ (.bool true))) ?hg ?ho ?hn ?hr ?_; (case ho => rfl); (case hg => rfl); (case hn => rfl); (case hr => exact dq0); intro w25 hw; have hg : w22.grownBy w25 (some go15) := (by rw [hw]; exact HP24.2); have hp_ : Kd.R Kd.bool 4 w25 w.heap.size (fun _ => True) (.slice (some ⟨go15, 0, none⟩) y221.length co15) y224 := (by rw [hw, Ny224.out]; exact HP24.1); clear HP24; have n0_ := Aside0.mk (Kd.R_over' (v := (.slice (some ⟨go15, 0, none⟩) y221.length co15)) dq52 (Kd.R_typed HO223.out) dq28 hg); have n1_ := Aside0.mk (hp_); have n2_ := Aside0.mk ((by rw [hw]; exact below_set (HB.out) GB15.out : Below w.heap.size w w25)); clear HO219; clear HO223; clear HB; have HO219 := n0_; have HO223 := n1_; have HB := n2_; clear n0_ n1_ n2_; clear hg hw hp_) | ((with_reducible refine gate_callee (f := 74) rfl ?_); refine goesL_ (some 37) rfl rfl Tryd.func74 dq16 rfl #[.slice A0 l0.length c0, .int .i64 (wrap64 ((l0.length : Int) - 1)), .slice Ao21 t216.length co21, .slice (some ⟨go15, 0, none⟩) y224.length co15] rfl (by (try simp only [List.map_toArray, List.map_cons, List.map_nil]); first | done | (rw [show y224.length = y221.length from (Kd.R_reads' HO223.out).1.symm] <;> rfl) | rfl | (simp only [List.length_drop, List.length_take]; rfl)) ?_; (with_reducible refine (spec_l6Step.calls k _ _ l0 (wrap64 ((l0.length : Int) - 1)) _ _ t216 _ _ y224 t225 _ ?side1 ?side2 ?side3 ?side4 ?side5 ?side6 A16.out).mono ?_); (case side1 => exact dq4); (case side2 => exact dq3); (case side3 => repeat (first | exact (Kd.R_reads' HO219.out).2.2 | (with_reducible refine Kd.C_alloc ?_ _) | (with_reducible refine Kd.C_drewN ?_ _) | (with_reducible refine Kd.C_drew ?_))); (case side4 => exact (Kd.R_reads' HO219.out).2.1); (case side5 => repeat (first | exact (Kd.R_reads' HO223.out).2.2 | (with_reducible refine Kd.C_alloc ?_ _) | (with_reducible refine Kd.C_drewN ?_ _) | (with_reducible refine Kd.C_drew ?_))); (case side6 => rw [show y224.length = y221.length from (Kd.R_reads' HO223.out).1.symm]; exact (Kd.R_reads' HO223.out).2.1); rintro e w26 ⟨v226, rfl, ho0, hb⟩; refine ⟨_, rfl, ?_⟩; have n0_ := Aside0.mk (Kd.R_below dq52 hb); have n1_ := Aside0.mk (Kd.R_elder' (by (with_reducible repeat (first | apply Kd.R_alloc | apply Kd.R_drewN | apply Kd.R_drew)); exact HO223.out) (Kd.R_base ho0) hb); have n2_ := Aside0.mk (Kd.R_lower (Kd.R_new' ho0 (Kd.R_lt (by (with_reducible repeat (first | apply Kd.R_alloc | apply Kd.R_drewN | apply Kd.R_drew)); exact HO223.out))) (below_size dq18)); have n3_ := Aside0.mk (below_step dq18 hb); clear HO219; clear HO223; clear HB; have HO219 := n0_; have HO223 := n1_; have HO227 := n2_; have HB := n3_; clear n0_ n1_ n2_ n3_; (try clear hb); (try clear hb2); (try clear hk); (try clear hi); (try clear ho0); obtain ⟨Ao27, co27, eo27⟩ := Kd.R_slice HO227.out; subst eo27; have p228 : 0 ≤ ((t216.length : Int) : Int) := of_decide_eq_true dq21; have q228 : (t216.length : Int) < (t225.length : Int) := of_decide_eq_true dq21; obtain ⟨ad228, e228, hx228_0⟩ := Kd.at_bool (Kd.R_reads' HO227.out).2.2 (t216.length : Int) p228 q228; cases e228; (try simp only [Go.IntWalk.toNatUp] at hx228_0); replace p228 := eq_true p228; replace q228 := eq_true q228))
         go_ret
         exact ⟨dq53, dq18⟩
        ·rw [if_neg c18] at H
         exact absurd H dq23
       ·rw [if_neg c17] at H
        exact absurd H dq23
      ·rw [if_neg c14] at H
       exact absurd H dq23
     ·rw [if_neg c13] at H
      exact absurd H dq23
    ·rw [if_neg c12] at H
     exact absurd H dq23
  ·replace c6 := Bool.eq_false_iff.mpr c6
   subst c6
   have H1 : (some false) = some r := by rw [if_neg (show ¬ (false = true) by decide)] at H; exact H
   clear H
   have H := H1
   clear H1
   obtain rfl := Option.some.inj H
   go_enter Tryd.func33, Tryd.ntmps33
   go_wp2_with (first | ((with_reducible refine gate_callee (f := 46) rfl ?_); refine goesL_ (some 10) rfl rfl Tryd.func46 dq16 rfl #[.string a1] rfl dq15 ?_; (with_reducible refine (spec_Runes.calls k a1 t216 true _ A3.out).mono ?_); rintro e w28 ⟨v218, rfl, ho0, hb⟩; refine ⟨_, rfl, ?_⟩; have n0_ := Aside0.mk (Kd.R_lower ho0 (below_size dq18)); have n1_ := Aside0.mk (below_step dq18 hb); clear HB; have HO219 := n0_; have HB := n1_; clear n0_ n1_; (try clear hb); (try clear hb2); (try clear hk); (try clear hi); (try clear ho0)) | (go_at_call 73; (with_reducible refine (spec_RegexOk.calls k _ _ l0 false _ ?side1 ?side2 A5.out).mono ?_); (case side1 => exact dq4); (case side2 => exact dq3); rintro e w29 ⟨rfl, hb⟩; have n0_ := Aside0.mk (Kd.R_below dq52 hb); have n1_ := Aside0.mk (below_step dq18 hb); clear HO219; clear HB; have HO219 := n0_; have HB := n1_; clear n0_ n1_; (try clear hb); (try clear hb2); (try clear hk); (try clear hi)))
   go_ret
   exact ⟨dq20, dq18⟩
 ·replace c4 := Bool.eq_false_iff.mpr c4
  subst c4
  have H1 : (some false) = some r := by rw [if_neg (show ¬ (false = true) by decide)] at H; exact H
  clear H
  have H := H1
  clear H1
  obtain rfl := Option.some.inj H
  go_enter Tryd.func33, Tryd.ntmps33
  go_wp2_with (first | ((with_reducible refine gate_callee (f := 46) rfl ?_); refine goesL_ (some 10) rfl rfl Tryd.func46 dq16 rfl #[.string a1] rfl dq15 ?_; (with_reducible refine (spec_Runes.calls k a1 t216 false _ A3.out).mono ?_); rintro e w30 ⟨v218, rfl, ho0, hb⟩; refine ⟨_, rfl, ?_⟩; have n0_ := Aside0.mk (Kd.R_lower ho0 (below_size dq18)); have n1_ := Aside0.mk (below_step dq18 hb); clear HB; have HO219 := n0_; have HB := n1_; clear n0_ n1_; (try clear hb); (try clear hb2); (try clear hk); (try clear hi); (try clear ho0)))
  go_ret
  exact ⟨dq20, dq18⟩

/-! ### laws_toRange: function 138 -/
def laws_toRange.f (a0_0 : Int) (a0_1 : Int) : Option (Int × Int) := some (a0_0, a0_1)
set_option maxHeartbeats 8000000 in
set_option maxRecDepth 100000 in
theorem laws_toRange.calls (a0_0 : Int) (a0_1 : Int) (r1 : Int) (r2 : Int) (w : World) (h : laws_toRange.f a0_0 a0_1 = some (r1, r2)) :
  Calls Tryd.prog 138 #[.agg #[.int .i64 a0_0, .int .i64 a0_1]] w fun e w' => e = .returned (.agg #[.int .i64 r1, .int .i64 r2]) ∧ Below w.heap.size w w' := by
 have hu154 := Tryd.underlying154
 have hu100 := Tryd.underlying100
 have HB := Aside0.mk (Below.refl w.heap.size w)
 have H : (some (a0_0, a0_1)) = some (r1, r2) := h
 clear h
 simp only [Option.some.injEq, Prod.mk.injEq] at H
 obtain ⟨rfl, rfl⟩ := H
 go_enter Tryd.func138, Tryd.ntmps138
 go_wp2_with (first | ((with_reducible refine gate_dst (N := 1) rfl ?_); refine box_event ?hg (N := 1) ?hd (cs := #[.int .i64 a0_0, .int .i64 a0_1]) (t := 154) ?hr ?_; (case hd => rfl); (case hg => rfl); (case hr => exact dq0); intro gb229 hg w2 hbox hb; have n0_ := Aside0.mk (below_step dq18 hb); have n1_ := Aside0.mk (hbox); have n2_ := Aside0.mk ((dq17 : w.heap.size ≤ gb229)); have n3_ := Aside0.mk ((dq17 : w.heap.size ≤ gb229)); clear HB; have HB := n0_; have BK229 := n1_; have GW229 := n2_; have GE229 := n3_; clear n0_ n1_ n2_ n3_; clear hb hbox hg) | ((with_reducible refine gate_dst (N := 2) rfl ?_); refine box_event ?hg (N := 2) ?hd (cs := #[.int .i64 0, .int .i64 0]) (t := 100) ?hr ?_; (case hd => rfl); (case hg => rfl); (case hr => exact dq0); intro gb230 hg w3 hbox hb; have n0_ := Aside0.mk (blk_below (g := gb229) (o := .cells #[.int .i64 a0_0, .int .i64 a0_1] 154 (0, 0)) dq58 hb); have n1_ := Aside0.mk (below_step dq60 hb); have n2_ := Aside0.mk (hbox); have n3_ := Aside0.mk ((dq59 : w.heap.size ≤ gb230)); have n4_ := Aside0.mk ((dq59 : w.heap.size ≤ gb230)); have n5_ := Aside0.mk ((dq55 : gb229 ≠ gb230)); have n6_ := Aside0.mk ((dq54 : gb230 ≠ gb229)); clear BK229; clear HB; have BK229 := n0_; have HB := n1_; have BK230 := n2_; have GW230 := n3_; have GE230 := n4_; have NB229_230 := n5_; have NB230_229 := n6_; clear n0_ n1_ n2_ n3_ n4_ n5_ n6_; clear hb hbox hg) | ((with_reducible refine gate_dst (N := 3) rfl ?_); refine box_event ?hg (N := 3) ?hd (cs := #[.int .i64 0, .int .i64 0]) (t := 100) ?hr ?_; (case hd => rfl); (case hg => rfl); (case hr => exact dq0); intro gb231 hg w4 hbox hb; have n0_ := Aside0.mk (blk_below (g := gb229) (o := .cells #[.int .i64 a0_0, .int .i64 a0_1] 154 (0, 0)) dq58 hb); have n1_ := Aside0.mk (blk_below (g := gb230) (o := .cells #[.int .i64 0, .int .i64 0] 100 (0, 0)) (by refine blk_up ?_; exact BK230.out) hb); have n2_ := Aside0.mk (below_step dq57 hb); have n3_ := Aside0.mk (hbox); have n4_ := Aside0.mk ((dq56 : w.heap.size ≤ gb231)); have n5_ := Aside0.mk ((dq56 : w.heap.size ≤ gb231)); have n6_ := Aside0.mk ((dq55 : gb229 ≠ gb231)); have n7_ := Aside0.mk ((dq54 : gb231 ≠ gb229)); have n8_ := Aside0.mk ((by rw [hg]; exact Nat.ne_of_lt (blk_lt (g := gb230) (o := .cells #[.int .i64 0, .int .i64 0] 100 (0, 0)) (by refine blk_up ?_; exact BK230.out)) : gb230 ≠ gb231)); have n9_ := Aside0.mk ((by rw [hg]; exact Nat.ne_of_gt (blk_lt (g := gb230) (o := .cells #[.int .i64 0, .int .i64 0] 100 (0, 0)) (by refine blk_up ?_; exact BK230.out)) : gb231 ≠ gb230)); clear BK229; clear BK230; clear HB; have BK229 := n0_; have BK230 := n1_; have HB := n2_; have BK231 := n3_; have GW231 := n4_; have GE231 := n5_; have NB229_231 := n6_; have NB231_229 := n7_; have NB230_231 := n8_; have NB231_230 := n9_; clear n0_ n1_ n2_ n3_ n4_ n5_ n6_ n7_ n8_ n9_; clear hb hbox hg; have hnb5 := NB229_230.out; have hnc5 := NB230_229.out; have hnb6 := NB229_231.out; have hnc6 := NB231_229.out; obtain ⟨⟨hcz7_0, hcz7_1⟩, hfz7_0, hfz7_1⟩ := blkC2 BK229.out; have hnb8 := NB231_230.out; have hnc8 := NB230_231.out; obtain ⟨⟨hcz9_0, hcz9_1⟩, hfz9_0, hfz9_1⟩ := blkC2 BK231.out; obtain ⟨⟨hcz10_0, hcz10_1⟩, hfz10_0, hfz10_1⟩ := blkC2 BK230.out))
 refine bodyPost_ret (results_cell_row rfl _ _ gb230 100 #[.int .i64 a0_0, .int .i64 a0_1] (0, 0) _ rfl (by refine blk_up ?_; refine blk_put (cs := #[.int .i64 a0_0, .int .i64 0]) ?_ 1 _ rfl; refine blk_up ?_; refine blk_put (cs := #[.int .i64 0, .int .i64 0]) ?_ 0 _ rfl; refine blk_up ?_; refine blk_far ?_ NB230_231.out _; refine blk_up ?_; refine blk_far ?_ NB230_231.out _; refine blk_up ?_; exact BK230.out) Tryd.underlying100 rfl dq16) rfl ?_
 exact ⟨dq20, by repeat (first | (with_reducible first | exact HB.out | apply below_alloc | apply pw_below_drewN | apply below_drew1 | refine below_set ?_ GE229.out | refine below_set ?_ GE230.out | refine below_set ?_ GE231.out) | exact HB.out)⟩

/-! ### laws_toRangeS: function 110 -/
def laws_toRangeS.l0 : Nat → List (S154) → List (S100) → Int → Option ((List (S100)))
 | 0, _, _, _ => none
 | k + 1, x0, x3, x4 => if x4 < (x0.length : Int) then (if 0 ≤ x4 then ((laws_toRange.f ((rd_T154 x0 x4).f0) ((rd_T154 x0 x4).f1)).bind fun bt236 => (if x4 < (x3.length : Int) then (laws_toRangeS.l0 k x0 (x3.set (x4 : Int).toNat (⟨bt236.1, bt236.2⟩ : S100)) (wrap64 (x4 + 1))) else (none))) else (none)) else (some x3)
def laws_toRangeS.f (k : Nat) (l0 : List (S154)) : Option ((List (S100))) := if 0 ≤ (l0.length : Int) then (if ((l0.length : Int) : Int).toNat ≤ 17592186044416 then (laws_toRangeS.l0 k l0 (List.replicate ((l0.length : Int) : Int).toNat z100) 0) else (none)) else (none)
set_option maxHeartbeats 8000000 in
set_option maxRecDepth 100000 in
theorem laws_toRangeS.calls (k : Nat) (A0 : Option Addr) (c0 : Nat) (l0 : List (S154)) (r : List (S100)) (w : World) (hr0 : Kd.C k154 w A0 l0.length l0) (hc0 : l0.length ≤ c0) (h : laws_toRangeS.f k l0 = some r) :
  Calls Tryd.prog 110 #[.slice A0 l0.length c0] w fun e w' => ∃ v0_ : Value, e = .returned (v0_) ∧ Kd.R k100 100 w' w.heap.size (fun _ => True) v0_ r ∧ Below w.heap.size w w' := by
 have hu154 := Tryd.underlying154
 have hu100 := Tryd.underlying100
 have HR0 := Aside0.mk hr0
 have HC0 := Aside0.mk hc0
 clear hr0 hc0
 have HB := Aside0.mk (Below.refl w.heap.size w)
 have H : (if 0 ≤ (l0.length : Int) then (if ((l0.length : Int) : Int).toNat ≤ 17592186044416 then (laws_toRangeS.l0 k l0 (List.replicate ((l0.length : Int) : Int).toNat z100) 0) else (none)) else (none)) = some r := h
 clear h
 by_cases c2 : 0 ≤ (l0.length : Int)
 ·rw [if_pos c2] at H
  have c2b0 := eq_true c2
  have c2b1 := decide_eq_true c2
  clear c2
  by_cases c3 : ((l0.length : Int) : Int).toNat ≤ 17592186044416
  ·rw [if_pos c3] at H
   have c3b0 := eq_true c3
   have c3b1 := decide_eq_true c3
   clear c3
   obtain ⟨y232, hy232⟩ : ∃ y_ : List (S100), y_ = (List.replicate ((l0.length : Int) : Int).toNat z100) := ⟨_, rfl⟩
   replace H : (laws_toRangeS.l0 k l0 y232 0) = some r := by first | (rw [hy232]; with_reducible exact H) | (have H2_ := (Option.bind_some _ _).symm.trans H; rw [hy232]; with_reducible exact H2_) | (have H2_ := (Option.bind_some _ _).symm.trans H; with_reducible exact H2_) | with_reducible exact H | (rw [hy232]; exact H) | exact H
   have Ny232 := Aside0.mk hy232
   clear hy232
   have H' := Aside0.mk H
   clear H
   go_enter Tryd.func110, Tryd.ntmps110
   go_wp2_with (first | ((with_reducible refine gate_dst (N := 7) rfl ?_); refine Kd.R_make k100 _ 100 rfl (N := 7) rfl 91 _ _ rfl (l0.length : Int) rfl rfl Tryd.underlying91 (.agg #[(.int .i64 0), (.int .i64 0)]) 16 info100 rfl dq28 dq24 z100 (ok := fun _ => True) (okp := fun _ => True) (k100_mkM _ _ _ z100 ) (fun _ hk => hk) trivial (of_decide_eq_true dq21) (Nat.le_trans (Nat.mul_le_mul_right _ (of_decide_eq_true dq21 : (l0.length : Int).toNat ≤ 17592186044416)) dq24) (Below.refl _ _) (Nat.le_refl _) ?_; intro v233 w4 ho5 hb hg_ hnew_; clear hg_ hnew_; (first | rw [← Ny232.out] at ho5 | (simp only [Int.reduceToNat] at ho5; rw [← Ny232.out] at ho5)); have n0_ := Aside0.mk (Kd.R_lower ho5 (below_size dq18)); have n1_ := Aside0.mk (below_step dq18 hb); clear HB; have HO234 := n0_; have HB := n1_; clear n0_ n1_; clear hb ho5))
   go_loopg [4] k (fun kq v4 w' => ∃ (x3_1 : List (S100)) (x4_1 : Int), v4 = .int .i64 x4_1 ∧ Aside0 (laws_toRangeS.l0 kq l0 x3_1 x4_1 = some r) ∧ Aside0 (kq ≤ k) ∧ Aside0 (Kd.R k100 100 w' w.heap.size (fun _ => True) v233 x3_1) ∧ Aside0 (Below w.heap.size w w'))
   case atStart => exact ⟨(y232), (0), dq14, H', ⟨Nat.le_refl _⟩, ⟨by (with_reducible repeat (first | apply Kd.R_alloc | apply Kd.R_drewN | apply Kd.R_drew)); exact HO234.out⟩, ⟨dq18⟩⟩
   case round =>
    clear H'
    try clear c1
    try clear c2
    try clear c2b0
    try clear c2b1
    try clear p2
    try clear c3
    try clear c3b0
    try clear c3b1
    obtain ⟨x3_1, x4_1, rfl, HA, HK1, HO_3, HB⟩ := hrel
    cases gk with
    | zero => exact absurd HA.out (by simp [laws_toRangeS.l0])
    | succ k1 =>
     have H := HA.out
     clear HA
     simp only [laws_toRangeS.l0] at H
     by_cases c6 : x4_1 < (l0.length : Int)
     ·rw [if_pos c6] at H
      have c6b0 := decide_eq_true c6
      clear c6
      by_cases c7 : 0 ≤ x4_1
      ·rw [if_pos c7] at H
       have c7b0 := decide_eq_true c7
       clear c7
       replace H := Option.bind_eq_some_iff.mp H
       obtain ⟨⟨t236, t237⟩, A80, H⟩ := H
       replace H : (if x4_1 < (x3_1.length : Int) then (laws_toRangeS.l0 k1 l0 (x3_1.set (x4_1 : Int).toNat (⟨t236, t237⟩ : S100)) (wrap64 (x4_1 + 1))) else (none)) = some r := H
       have A8 := Aside0.mk A80
       clear A80
       by_cases c9 : x4_1 < (x3_1.length : Int)
       ·rw [if_pos c9] at H
        have c9b0 := decide_eq_true c9
        clear c9
        obtain ⟨y238, hy238⟩ : ∃ y_ : List (S100), y_ = (x3_1.set (x4_1 : Int).toNat (⟨t236, t237⟩ : S100)) := ⟨_, rfl⟩
        replace H : (laws_toRangeS.l0 k1 l0 y238 (wrap64 (x4_1 + 1))) = some r := by first | (rw [hy238]; with_reducible exact H) | (have H2_ := (Option.bind_some _ _).symm.trans H; rw [hy238]; with_reducible exact H2_) | (have H2_ := (Option.bind_some _ _).symm.trans H; with_reducible exact H2_) | with_reducible exact H | (rw [hy238]; exact H) | exact H
        have Ny238 := Aside0.mk hy238
        clear hy238
        have H' := Aside0.mk H
        clear H
        have p235 : 0 ≤ (x4_1 : Int) := of_decide_eq_true dq21
        have q235 : x4_1 < (l0.length : Int) := of_decide_eq_true dq21
        obtain ⟨ad235, e235, hx235_0, hx235_1⟩ := at_T154 HR0.out x4_1 p235 q235
        cases e235
        replace hx235_0 := (HB.out.cell (World.block_lt_of_cell? w _ hx235_0)).trans hx235_0
        replace hx235_1 := (HB.out.cell (World.block_lt_of_cell? w _ hx235_1)).trans hx235_1
        replace p235 := eq_true p235
        replace q235 := eq_true q235
        go_wp2_with (first | ((with_reducible refine gate_callee (f := 138) rfl ?_); refine goesL_ (some 20) rfl rfl Tryd.func138 dq16 rfl #[.agg #[.int .i64 ((rd_T154 l0 x4_1).f0), .int .i64 ((rd_T154 l0 x4_1).f1)]] rfl dq15 ?_; (with_reducible refine (laws_toRange.calls ((rd_T154 l0 x4_1).f0) ((rd_T154 l0 x4_1).f1) t236 t237 _ A8.out).mono ?_); rintro e w11 ⟨rfl, hb⟩; refine ⟨_, rfl, ?_⟩; have n0_ := Aside0.mk (Kd.R_below dq61 hb); have n1_ := Aside0.mk (below_step dq18 hb); clear HO_3; clear HB; have HO_3 := n0_; have HB := n1_; clear n0_ n1_; (try clear hb); (try clear hb2); (try clear hk); (try clear hi); have p10 : 0 ≤ (x4_1 : Int) := of_decide_eq_true dq21; have q10 : (x4_1 : Int) < ((x3_1.length : Int) : Int) := of_decide_eq_true dq21; obtain ⟨go10, co10, eo10, gb10, gl10, cl10, HG10⟩ := Kd.R_form HO_3.out dq24; (first | cases eo10 | (injection eo10 with ea_ en_ ec_; (first | subst ea_ | (injection ea_ with ea_; subst ea_)); subst ec_; clear en_)); have GB10 := Aside0.mk gb10; have GG10 := Aside0.mk HG10; clear gb10 gl10 HG10; obtain ⟨ce10, hcl10, hM10, hcc10, hfr10⟩ := Kd.R_elem HO_3.out z100 (x4_1 : Int) p10 q10; obtain rfl := k100_openM hM10; have hx10_0 : w11.cell? ⟨go10, (x4_1 : Int).toNat * 2, none⟩ = some (.int .i64 ((rd_T100 x3_1 x4_1).f0)) := hcc10 0 _ rfl; have hx10_1 : w11.cell? ⟨go10, (x4_1 : Int).toNat * 2 + 1, none⟩ = some (.int .i64 ((rd_T100 x3_1 x4_1).f1)) := hcc10 1 _ rfl; have hf10_0 : w11.frozen? ⟨go10, (x4_1 : Int).toNat * 2, none⟩ = false := hfr10 0; have hf10_1 : w11.frozen? ⟨go10, (x4_1 : Int).toNat * 2 + 1, none⟩ = false := hfr10 1; clear hcl10 hcc10 hfr10 hM10; replace p10 := eq_true p10; replace q10 := eq_true q10; have HX12 := Aside0.mk (show Kd.R k100 100 w11 w.heap.size (fun _ => True) (.slice (some ⟨go10, 0, none⟩) x3_1.length co10) x3_1 from dq61); obtain ⟨ce12, hcl12, hM12, hcc12, hfr12⟩ := Kd.R_elem HX12.out z100 (x4_1 : Int) (of_decide_eq_true dq21) (by have h_ : (x4_1 : Int) < ((x3_1.length : Int) : Int) := of_decide_eq_true dq21; first | exact h_ | (have e_ := (Kd.R_reads' HO_3.out).1; omega) | simpa using h_); obtain rfl := k100_openM hM12; have HP12 := Kd.R_seg HX12.out (x4_1 : Int) (of_decide_eq_true dq21) (by have h_ : (x4_1 : Int) < ((x3_1.length : Int) : Int) := of_decide_eq_true dq21; first | exact h_ | (have e_ := (Kd.R_reads' HO_3.out).1; omega) | simpa using h_) (seg := [.int .i64 t236, .int .i64 t237]) (j := 0) hcl12 hcc12 (show 2 ≤ 2 from by decide) (x' := (⟨t236, t237⟩ : S100)) (k100_mkM _ _ _ (⟨t236, t237⟩ : S100) ) (fun _ hk => hk); have hx12_0 := hcc12 0 _ rfl; (try simp only [show (k100).sz = 2 from rfl, Nat.mul_one, Nat.add_zero] at hx12_0); have hf12_0 := hfr12 0; (try simp only [show (k100).sz = 2 from rfl, Nat.mul_one, Nat.add_zero] at hf12_0); have hx12_1 := hcc12 1 _ rfl; (try simp only [show (k100).sz = 2 from rfl, Nat.mul_one, Nat.add_zero] at hx12_1); have hf12_1 := hfr12 1; (try simp only [show (k100).sz = 2 from rfl, Nat.mul_one, Nat.add_zero] at hf12_1); clear hcl12 hcc12 hfr12 hM12) | ((with_reducible refine gate_store (t := 100) (p := 21) rfl ?_); refine store_event (t := 100) (p := 21) (v := ?vo_w13) (w1 := ((w11.setCell ⟨go10, (x4_1 : Int).toNat * 2, none⟩ (.int .i64 t236)).setCell ⟨go10, (x4_1 : Int).toNat * 2 + 1, none⟩ (.int .i64 t237))) ?hg ?ho ?hn ?hr ?_; (case ho => rfl); (case hg => rfl); (case hn => rfl); (case hr => exact dq0); intro w13 hw; have hg : w11.grownBy w13 (some go10) := (by rw [hw]; exact HP12.2); have hp_ : Kd.R k100 100 w13 w.heap.size (fun _ => True) (.slice (some ⟨go10, 0, none⟩) x3_1.length co10) y238 := (by rw [hw, Ny238.out]; exact HP12.1); clear HP12; have n0_ := Aside0.mk (hp_); have n1_ := Aside0.mk ((by rw [hw]; exact below_set (below_set (HB.out) GB10.out) GB10.out : Below w.heap.size w w13)); clear HO_3; clear HB; have HO_3 := n0_; have HB := n1_; clear n0_ n1_; clear hg hw hp_))
        go_roundg k1
        case measure => have := HK1.out; omega
        case rel => exact ⟨(y238), (wrap64 (x4_1 + 1)), dq14, H', ⟨dq22⟩, ⟨dq61⟩, ⟨dq18⟩⟩
       ·rw [if_neg c9] at H
        exact absurd H dq23
      ·rw [if_neg c7] at H
       exact absurd H dq23
     ·rw [if_neg c6] at H
      have c6b0 := decide_eq_false c6
      clear c6
      obtain rfl := Option.some.inj H
      go_wp2
      go_ret
      exact ⟨_, dq20, dq61, dq18⟩
  ·rw [if_neg c3] at H
   exact absurd H dq23
 ·rw [if_neg c2] at H
  exact absurd H dq23

/-! ### laws_toRNode: function 75 -/
def laws_toRNode.f (k : Nat) (a0_0 : Int) (a0_1 : Bool) (l0_2 : List (S154)) (a0_3 : Int) (a0_4 : Int) (a0_5 : Int) (a0_6 : Int) : Option (Int × Bool × (List (S100)) × Int × Int × Int × Int) := (laws_toRangeS.f k l0_2).bind fun t242 => (some (a0_0, a0_1, t242, a0_3, a0_4, a0_5, a0_6))
set_option maxHeartbeats 8000000 in
set_option maxRecDepth 100000 in
theorem laws_toRNode.calls (k : Nat) (a0_0 : Int) (a0_1 : Bool) (A0_2 : Option Addr) (c0_2 : Nat) (l0_2 : List (S154)) (a0_3 : Int) (a0_4 : Int) (a0_5 : Int) (a0_6 : Int) (r1 : Int) (r2 : Bool) (r3 : List (S100)) (r4 : Int) (r5 : Int) (r6 : Int) (r7 : Int) (w : World) (hr0_2 : Kd.C k154 w A0_2 l0_2.length l0_2) (hc0_2 : l0_2.length ≤ c0_2) (h : laws_toRNode.f k a0_0 a0_1 l0_2 a0_3 a0_4 a0_5 a0_6 = some (r1, r2, r3, r4, r5, r6, r7)) :
  Calls Tryd.prog 75 #[.agg #[.int .i64 a0_0, .bool a0_1, .slice A0_2 l0_2.length c0_2, .int .i64 a0_3, .int .i64 a0_4, .int .i64 a0_5, .int .i64 a0_6]] w fun e w' => ∃ v2_ : Value, e = .returned (.agg #[.int .i64 r1, .bool r2, v2_, .int .i64 r4, .int .i64 r5, .int .i64 r6, .int .i64 r7]) ∧ Kd.R k100 100 w' w.heap.size (fun _ => True) v2_ r3 ∧ Below w.heap.size w w' := by
 have hu88 := Tryd.underlying88
 have hu93 := Tryd.underlying93
 have HR0_2 := Aside0.mk hr0_2
 have HC0_2 := Aside0.mk hc0_2
 clear hr0_2 hc0_2
 have HB := Aside0.mk (Below.refl w.heap.size w)
 have H : ((laws_toRangeS.f k l0_2).bind fun t242 => (some (a0_0, a0_1, t242, a0_3, a0_4, a0_5, a0_6))) = some (r1, r2, r3, r4, r5, r6, r7) := h
 clear h
 replace H := Option.bind_eq_some_iff.mp H
 obtain ⟨t242, A20, H⟩ := H
 replace H : (some (a0_0, a0_1, t242, a0_3, a0_4, a0_5, a0_6)) = some (r1, r2, r3, r4, r5, r6, r7) := H
 have A2 := Aside0.mk A20
 clear A20
 simp only [Option.some.injEq, Prod.mk.injEq] at H
 obtain ⟨rfl, rfl, rfl, rfl, rfl, rfl, rfl⟩ := H
 go_enter Tryd.func75, Tryd.ntmps75
 go_wp2_with (first | ((with_reducible refine gate_dst (N := 1) rfl ?_); refine box_event ?hg (N := 1) ?hd (cs := #[.int .i64 a0_0, .bool a0_1, .slice A0_2 l0_2.length c0_2, .int .i64 a0_3, .int .i64 a0_4, .int .i64 a0_5, .int .i64 a0_6]) (t := 88) ?hr ?_; (case hd => rfl); (case hg => rfl); (case hr => exact dq0); intro gb239 hg w3 hbox hb; have n0_ := Aside0.mk (below_step dq18 hb); have n1_ := Aside0.mk (hbox); have n2_ := Aside0.mk ((dq17 : w.heap.size ≤ gb239)); have n3_ := Aside0.mk ((dq17 : w.heap.size ≤ gb239)); clear HB; have HB := n0_; have BK239 := n1_; have GW239 := n2_; have GE239 := n3_; clear n0_ n1_ n2_ n3_; clear hb hbox hg) | ((with_reducible refine gate_dst (N := 2) rfl ?_); refine box_event ?hg (N := 2) ?hd (cs := #[.int .i64 0, .bool false, .slice none 0 0, .int .i64 0, .int .i64 0, .int .i64 0, .int .i64 0]) (t := 93) ?hr ?_; (case hd => rfl); (case hg => rfl); (case hr => exact dq0); intro gb240 hg w4 hbox hb; have n0_ := Aside0.mk (blk_below (g := gb239) (o := .cells #[.int .i64 a0_0, .bool a0_1, .slice A0_2 l0_2.length c0_2, .int .i64 a0_3, .int .i64 a0_4, .int .i64 a0_5, .int .i64 a0_6] 88 (0, 0)) dq67 hb); have n1_ := Aside0.mk (below_step dq69 hb); have n2_ := Aside0.mk (hbox); have n3_ := Aside0.mk ((dq68 : w.heap.size ≤ gb240)); have n4_ := Aside0.mk ((dq68 : w.heap.size ≤ gb240)); have n5_ := Aside0.mk ((dq64 : gb239 ≠ gb240)); have n6_ := Aside0.mk ((dq63 : gb240 ≠ gb239)); clear BK239; clear HB; have BK239 := n0_; have HB := n1_; have BK240 := n2_; have GW240 := n3_; have GE240 := n4_; have NB239_240 := n5_; have NB240_239 := n6_; clear n0_ n1_ n2_ n3_ n4_ n5_ n6_; clear hb hbox hg) | ((with_reducible refine gate_dst (N := 3) rfl ?_); refine box_event ?hg (N := 3) ?hd (cs := #[.int .i64 0, .bool false, .slice none 0 0, .int .i64 0, .int .i64 0, .int .i64 0, .int .i64 0]) (t := 93) ?hr ?_; (case hd => rfl); (case hg => rfl); (case hr => exact dq0); intro gb241 hg w5 hbox hb; have n0_ := Aside0.mk (blk_below (g := gb239) (o := .cells #[.int .i64 a0_0, .bool a0_1, .slice A0_2 l0_2.length c0_2, .int .i64 a0_3, .int .i64 a0_4, .int .i64 a0_5, .int .i64 a0_6] 88 (0, 0)) dq67 hb); have n1_ := Aside0.mk (blk_below (g := gb240) (o := .cells #[.int .i64 0, .bool false, .slice none 0 0, .int .i64 0, .int .i64 0, .int .i64 0, .int .i64 0] 93 (0, 0)) (by refine blk_up ?_; exact BK240.out) hb); have n2_ := Aside0.mk (below_step dq66 hb); have n3_ := Aside0.mk (hbox); have n4_ := Aside0.mk ((dq65 : w.heap.size ≤ gb241)); have n5_ := Aside0.mk ((dq65 : w.heap.size ≤ gb241)); have n6_ := Aside0.mk ((dq64 : gb239 ≠ gb241)); have n7_ := Aside0.mk ((dq63 : gb241 ≠ gb239)); have n8_ := Aside0.mk ((by rw [hg]; exact Nat.ne_of_lt (blk_lt (g := gb240) (o := .cells #[.int .i64 0, .bool false, .slice none 0 0, .int .i64 0, .int .i64 0, .int .i64 0, .int .i64 0] 93 (0, 0)) (by refine blk_up ?_; exact BK240.out)) : gb240 ≠ gb241)); have n9_ := Aside0.mk ((by rw [hg]; exact Nat.ne_of_gt (blk_lt (g := gb240) (o := .cells #[.int .i64 0, .bool false, .slice none 0 0, .int .i64 0, .int .i64 0, .int .i64 0, .int .i64 0] 93 (0, 0)) (by refine blk_up ?_; exact BK240.out)) : gb241 ≠ gb240)); clear BK239; clear BK240; clear HB; have BK239 := n0_; have BK240 := n1_; have HB := n2_; have BK241 := n3_; have GW241 := n4_; have GE241 := n5_; have NB239_241 := n6_; have NB241_239 := n7_; have NB240_241 := n8_; have NB241_240 := n9_; clear n0_ n1_ n2_ n3_ n4_ n5_ n6_ n7_ n8_ n9_; clear hb hbox hg; have hnb6 := NB239_240.out; have hnc6 := NB240_239.out; have hnb7 := NB239_241.out; have hnc7 := NB241_239.out; obtain ⟨⟨hcz8_0, hcz8_1, hcz8_2, hcz8_3, hcz8_4, hcz8_5, hcz8_6⟩, hfz8_0, hfz8_1, hfz8_2, hfz8_3, hfz8_4, hfz8_5, hfz8_6⟩ := blkC7 BK239.out; have hnb9 := NB241_240.out; have hnc9 := NB240_241.out; obtain ⟨⟨hcz10_0, hcz10_1, hcz10_2, hcz10_3, hcz10_4, hcz10_5, hcz10_6⟩, hfz10_0, hfz10_1, hfz10_2, hfz10_3, hfz10_4, hfz10_5, hfz10_6⟩ := blkC7 BK241.out) | ((with_reducible refine gate_callee (f := 110) rfl ?_); refine goesL_ (some 12) rfl rfl Tryd.func110 dq16 rfl #[.slice A0_2 l0_2.length c0_2] rfl dq15 ?_; (with_reducible refine (laws_toRangeS.calls k _ _ l0_2 t242 _ ?side1 ?side2 A2.out).mono ?_); (case side1 => exact Kd.C_below HR0_2.out dq62); (case side2 => exact HC0_2.out); rintro e w11 ⟨v243, rfl, ho0, hb⟩; refine ⟨_, rfl, ?_⟩; have n0_ := Aside0.mk (Kd.R_lower ho0 (below_size dq62)); have n1_ := Aside0.mk (blk_below (g := gb239) (o := .cells #[.int .i64 a0_0, .bool a0_1, .slice A0_2 l0_2.length c0_2, .int .i64 a0_3, .int .i64 a0_4, .int .i64 a0_5, .int .i64 a0_6] 88 (0, 0)) (by refine blk_up ?_; refine blk_far ?_ NB239_241.out _; refine blk_up ?_; refine blk_far ?_ NB239_241.out _; refine blk_up ?_; exact BK239.out) hb); have n2_ := Aside0.mk (blk_below (g := gb240) (o := .cells #[.int .i64 0, .bool false, .slice none 0 0, .int .i64 0, .int .i64 0, .int .i64 0, .int .i64 0] 93 (0, 0)) (by refine blk_up ?_; refine blk_far ?_ NB240_241.out _; refine blk_up ?_; refine blk_far ?_ NB240_241.out _; refine blk_up ?_; exact BK240.out) hb); have n3_ := Aside0.mk (blk_below (g := gb241) (o := .cells #[.int .i64 a0_0, .bool a0_1, .slice none 0 0, .int .i64 0, .int .i64 0, .int .i64 0, .int .i64 0] 93 (0, 0)) (by refine blk_up ?_; refine blk_put (cs := #[.int .i64 a0_0, .bool false, .slice none 0 0, .int .i64 0, .int .i64 0, .int .i64 0, .int .i64 0]) ?_ 1 _ rfl; refine blk_up ?_; refine blk_put (cs := #[.int .i64 0, .bool false, .slice none 0 0, .int .i64 0, .int .i64 0, .int .i64 0, .int .i64 0]) ?_ 0 _ rfl; refine blk_up ?_; exact BK241.out) hb); have n4_ := Aside0.mk (below_step dq62 hb); clear BK239; clear BK240; clear BK241; clear HB; have HO244 := n0_; have BK239 := n1_; have BK240 := n2_; have BK241 := n3_; have HB := n4_; clear n0_ n1_ n2_ n3_ n4_; (try clear hb); (try clear hb2); (try clear hk); (try clear hi); (try clear ho0); obtain ⟨Ao12, co12, eo12⟩ := Kd.R_slice HO244.out; subst eo12; obtain ⟨⟨hcz13_0, hcz13_1, hcz13_2, hcz13_3, hcz13_4, hcz13_5, hcz13_6⟩, hfz13_0, hfz13_1, hfz13_2, hfz13_3, hfz13_4, hfz13_5, hfz13_6⟩ := blkC7 BK241.out; obtain ⟨⟨hcz14_0, hcz14_1, hcz14_2, hcz14_3, hcz14_4, hcz14_5, hcz14_6⟩, hfz14_0, hfz14_1, hfz14_2, hfz14_3, hfz14_4, hfz14_5, hfz14_6⟩ := blkC7 BK239.out; obtain ⟨⟨hcz15_0, hcz15_1, hcz15_2, hcz15_3, hcz15_4, hcz15_5, hcz15_6⟩, hfz15_0, hfz15_1, hfz15_2, hfz15_3, hfz15_4, hfz15_5, hfz15_6⟩ := blkC7 BK240.out))
 refine bodyPost_ret (results_cell_row rfl _ _ gb240 93 #[.int .i64 a0_0, .bool a0_1, .slice Ao12 t242.length co12, .int .i64 a0_3, .int .i64 a0_4, .int .i64 a0_5, .int .i64 a0_6] (0, 0) _ rfl (by refine blk_up ?_; refine blk_put (cs := #[.int .i64 a0_0, .bool a0_1, .slice Ao12 t242.length co12, .int .i64 a0_3, .int .i64 a0_4, .int .i64 a0_5, .int .i64 0]) ?_ 6 _ rfl; refine blk_up ?_; refine blk_put (cs := #[.int .i64 a0_0, .bool a0_1, .slice Ao12 t242.length co12, .int .i64 a0_3, .int .i64 a0_4, .int .i64 0, .int .i64 0]) ?_ 5 _ rfl; refine blk_up ?_; refine blk_put (cs := #[.int .i64 a0_0, .bool a0_1, .slice Ao12 t242.length co12, .int .i64 a0_3, .int .i64 0, .int .i64 0, .int .i64 0]) ?_ 4 _ rfl; refine blk_up ?_; refine blk_put (cs := #[.int .i64 a0_0, .bool a0_1, .slice Ao12 t242.length co12, .int .i64 0, .int .i64 0, .int .i64 0, .int .i64 0]) ?_ 3 _ rfl; refine blk_up ?_; refine blk_put (cs := #[.int .i64 a0_0, .bool a0_1, .slice none 0 0, .int .i64 0, .int .i64 0, .int .i64 0, .int .i64 0]) ?_ 2 _ rfl; refine blk_up ?_; refine blk_put (cs := #[.int .i64 a0_0, .bool false, .slice none 0 0, .int .i64 0, .int .i64 0, .int .i64 0, .int .i64 0]) ?_ 1 _ rfl; refine blk_up ?_; refine blk_put (cs := #[.int .i64 0, .bool false, .slice none 0 0, .int .i64 0, .int .i64 0, .int .i64 0, .int .i64 0]) ?_ 0 _ rfl; refine blk_up ?_; refine blk_far ?_ NB240_241.out _; refine blk_up ?_; refine blk_far ?_ NB240_241.out _; refine blk_up ?_; refine blk_far ?_ NB240_241.out _; refine blk_up ?_; refine blk_far ?_ NB240_241.out _; refine blk_up ?_; refine blk_far ?_ NB240_241.out _; refine blk_up ?_; exact BK240.out) Tryd.underlying93 rfl dq16) rfl ?_
 exact ⟨_, dq20, by (with_reducible repeat (first | apply Kd.R_alloc | apply Kd.R_drewN | apply Kd.R_drew)); exact Kd.R_mono (Kd.R_far (p := ⟨gb240, 6, none⟩) (Kd.R_far (p := ⟨gb240, 5, none⟩) (Kd.R_far (p := ⟨gb240, 4, none⟩) (Kd.R_far (p := ⟨gb240, 3, none⟩) (Kd.R_far (p := ⟨gb240, 2, none⟩) (Kd.R_far (p := ⟨gb240, 1, none⟩) (Kd.R_far (p := ⟨gb240, 0, none⟩) (Kd.R_far (p := ⟨gb241, 6, none⟩) (Kd.R_far (p := ⟨gb241, 5, none⟩) (Kd.R_far (p := ⟨gb241, 4, none⟩) (Kd.R_far (p := ⟨gb241, 3, none⟩) (Kd.R_far (p := ⟨gb241, 2, none⟩) (Kd.R_types (Kd.R_types HO244.out BK241.out dq28) BK240.out dq28) (fun _ hk => hk.1.2) (.slice Ao12 t242.length co12)) (fun _ hk => hk.1.2) (.int .i64 a0_3)) (fun _ hk => hk.1.2) (.int .i64 a0_4)) (fun _ hk => hk.1.2) (.int .i64 a0_5)) (fun _ hk => hk.1.2) (.int .i64 a0_6)) (fun _ hk => hk.2) (.int .i64 a0_0)) (fun _ hk => hk.2) (.bool a0_1)) (fun _ hk => hk.2) (.slice Ao12 t242.length co12)) (fun _ hk => hk.2) (.int .i64 a0_3)) (fun _ hk => hk.2) (.int .i64 a0_4)) (fun _ hk => hk.2) (.int .i64 a0_5)) (fun _ hk => hk.2) (.int .i64 a0_6)) (fun _ hk => trivial), dq62⟩

end Go.Proofs.YtilmhfkbpnejeaaDoor.L
