/- Words and contracts for the row RowFnExactSelect: what the Go functions answer that it calls; printed by programs of the kit and of this session, and merged. -/
import Derived.Test.YtpmjpbaeecnpiaaDoorQs1
namespace Go.Proofs.YtpmjpbaeecnpiaaDoor.L
open Go.RowKit Go.Proofs.YtpmjpbaeecnpiaaDoorW.PrintWords Go.Proofs.YtpmjpbaeecnpiaaDoorW.PrintLast Go.Proofs.YtpmjpbaeecnpiaaDoorW.PrintMore
attribute [local go_sem] max2_int min2_int max_two min_two max_three min_three max_four min_four
set_option linter.unusedVariables false
set_option linter.unusedSimpArgs false

/-! ### spec_DocOk: function 23 -/
mutual
def spec_DocOk.j0 : Nat → List (S39) → Bool → Option (Bool)
 | 0, _, _ => none
 | k + 1, x0, x15 => if x15 = true then (some false) else (spec_DocOk.l0 k x0 0 0)
def spec_DocOk.l0 : Nat → List (S39) → Int → Int → Option (Bool)
 | 0, _, _, _ => none
 | k + 1, x0, x3, x4 => if x4 < (x0.length : Int) then (if 0 ≤ x4 then (spec_DocOk.l1 k x0 (wrap64 ((wrap64 (x3 + (((rd_T39 x0 x4).f1).size : Int))) + (((rd_T39 x0 x4).f2).size : Int))) x4 0 ((rd_T39 x0 x4).f0) ((rd_T39 x0 x4).f1) ((rd_T39 x0 x4).f2) ((rd_T39 x0 x4).f3)) else (none)) else (some true)
def spec_DocOk.j3 : Nat → List (S39) → Int → Int → Int → ByteArray → ByteArray → List (S46) → Option (Bool)
 | 0, _, _, _, _, _, _, _ => none
 | k + 1, x0, x3, x4, x148000, x148001, x148002, x148003 => if x3 > 2500 then (some false) else (if x4 = 0 then (if x148000 = (-1) then (if x148001.toList = ([] : List UInt8) then (some false) else (spec_DocOk.j4 k x0 x3 x4 x148000 x148001 x148002 x148003)) else (some false)) else ((spec_l1In.f x148000 0 (wrap64 (x4 - 1))).bind fun t150 => (if t150 = true then (if 0 ≤ x148000 then (if x148000 < (x0.length : Int) then (if ((rd_T39 x0 x148000).f1).toList = ([] : List UInt8) then (some false) else (spec_DocOk.j4 k x0 x3 x4 x148000 x148001 x148002 x148003)) else (none)) else (none)) else (some false))))
def spec_DocOk.j4 : Nat → List (S39) → Int → Int → Int → ByteArray → ByteArray → List (S46) → Option (Bool)
 | 0, _, _, _, _, _, _, _ => none
 | k + 1, x0, x3, x4, x148000, x148001, x148002, x148003 => if x4 > 0 then (spec_DocOk.l2 k x0 x3 x4 (wrap64 (x4 - 1)) x148000 x148001 x148002 x148003) else (spec_DocOk.j6 k x0 x3 x4 x148000 x148001 x148002 x148003)
def spec_DocOk.j6 : Nat → List (S39) → Int → Int → Int → ByteArray → ByteArray → List (S46) → Option (Bool)
 | 0, _, _, _, _, _, _, _ => none
 | k + 1, x0, x3, x4, x148000, x148001, x148002, x148003 => (spec_l2Deep.f k x0 x4).bind fun t153 => (if t153 ≥ 20 then (some false) else (if x148001.toList = ([] : List UInt8) then (if x148002.toList = ([] : List UInt8) then (spec_DocOk.j7 k x0 x3 x4 true x148000 x148001 x148002 x148003) else (if (x148003.length : Int) > 0 then (spec_DocOk.j7 k x0 x3 x4 true x148000 x148001 x148002 x148003) else ((spec_l1Text.f k x148002).bind fun t154 => (spec_DocOk.j7 k x0 x3 x4 (!t154) x148000 x148001 x148002 x148003)))) else (if x148002.toList = ([] : List UInt8) then ((spec_l1Qual.f k x148001).bind fun t157 => (if t157 = true then ((spec_l2Attrs.f k x148003).bind fun t158 => (if t158 = true then (spec_DocOk.l0 k x0 x3 (wrap64 (x4 + 1))) else (some false))) else (some false))) else (some false))))
def spec_DocOk.j7 : Nat → List (S39) → Int → Int → Bool → Int → ByteArray → ByteArray → List (S46) → Option (Bool)
 | 0, _, _, _, _, _, _, _, _ => none
 | k + 1, x0, x3, x4, x130, x148000, x148001, x148002, x148003 => if x130 = true then (some false) else (if 0 ≤ (wrap64 (x4 - 1)) then (if (wrap64 (x4 - 1)) < (x0.length : Int) then (if ((rd_T39 x0 (wrap64 (x4 - 1))).f1).toList = ([] : List UInt8) then (if ((rd_T39 x0 (wrap64 (x4 - 1))).f0) = x148000 then (some false) else (spec_DocOk.l0 k x0 x3 (wrap64 (x4 + 1)))) else (spec_DocOk.l0 k x0 x3 (wrap64 (x4 + 1)))) else (none)) else (none))
def spec_DocOk.l2 : Nat → List (S39) → Int → Int → Int → Int → ByteArray → ByteArray → List (S46) → Option (Bool)
 | 0, _, _, _, _, _, _, _, _ => none
 | k + 1, x0, x3, x4, x7, x148000, x148001, x148002, x148003 => if x7 ≥ 0 then (if x7 = x148000 then (if x7 < 0 then (some false) else (spec_DocOk.j6 k x0 x3 x4 x148000 x148001 x148002 x148003)) else (if 0 ≤ x7 then (if x7 < (x0.length : Int) then (spec_DocOk.l2 k x0 x3 x4 ((rd_T39 x0 x7).f0) x148000 x148001 x148002 x148003) else (none)) else (none))) else (if x7 < 0 then (some false) else (spec_DocOk.j6 k x0 x3 x4 x148000 x148001 x148002 x148003))
def spec_DocOk.l1 : Nat → List (S39) → Int → Int → Int → Int → ByteArray → ByteArray → List (S46) → Option (Bool)
 | 0, _, _, _, _, _, _, _, _ => none
 | k + 1, x0, x3, x4, x6, x148000, x148001, x148002, x148003 => if x6 < (x148003.length : Int) then (if x6 < 20 then (if 0 ≤ x6 then (spec_DocOk.l1 k x0 (wrap64 ((wrap64 (x3 + (((rd_T46 x148003 x6).f0).size : Int))) + (((rd_T46 x148003 x6).f1).size : Int))) x4 (wrap64 (x6 + 1)) x148000 x148001 x148002 x148003) else (none)) else (spec_DocOk.j3 k x0 x3 x4 x148000 x148001 x148002 x148003)) else (spec_DocOk.j3 k x0 x3 x4 x148000 x148001 x148002 x148003)
end
def spec_DocOk.f (k : Nat) (l0 : List (S39)) : Option (Bool) := if (l0.length : Int) < 1 then (spec_DocOk.j0 k l0 true) else (spec_DocOk.j0 k l0 (decide ((l0.length : Int) > 200)))
set_option maxHeartbeats 8000000 in
set_option maxRecDepth 100000 in
theorem spec_DocOk.calls (k : Nat) (A0 : Option Addr) (c0 : Nat) (l0 : List (S39)) (r : Bool) (w : World) (hr0 : Kd.C k39 w A0 l0.length l0) (hc0 : l0.length ≤ c0) (h : spec_DocOk.f k l0 = some r) :
  Calls Tryd.prog 23 #[.slice A0 l0.length c0] w fun e w' => e = .returned (.bool r) ∧ Below w.heap.size w w' := by
 have hu39 := Tryd.underlying39
 have HR0 := Aside0.mk hr0
 have HC0 := Aside0.mk hc0
 clear hr0 hc0
 have HB := Aside0.mk (Below.refl w.heap.size w)
 have H : (if (l0.length : Int) < 1 then (spec_DocOk.j0 k l0 true) else (spec_DocOk.j0 k l0 (decide ((l0.length : Int) > 200)))) = some r := h
 clear h
 have HC2 := Aside0.mk H
 clear H
 go_enter Tryd.func23, Tryd.ntmps23
 go_upto_region 1 with (fail)
 repeat (go_quiet (fail); go_upto_region 1 with (fail))
 go_cut [15] (fun v15 wc => ∃ (kq : Nat) (x15_1 : Bool), v15 = .bool x15_1 ∧ Aside0 (spec_DocOk.j0 kq l0 x15_1 = some r) ∧ Aside0 (kq ≤ k) ∧ Aside0 (Below w.heap.size w wc))
 case first =>
  have H := HC2.out
  clear HC2
  by_cases c3 : (l0.length : Int) < 1
  ·rw [if_pos c3] at H
   have c3b0 := decide_eq_true c3
   have c3b1 : decide (l0.length < 1) = true := decide_eq_true dq34
   clear c3
   (first | rw [c3b0] | (simp only [i64_w, i32_w]; rw [c3b0]) | skip)
   have H' := Aside0.mk H
   clear H
   go_wp2
   repeat (go_quiet (fail); try go_wp2)
   go_meet
   case rel => exact ⟨_, (true), dq26, H', ⟨dq35⟩, ⟨dq23⟩⟩
  ·rw [if_neg c3] at H
   have c3b0 := decide_eq_false c3
   have c3b1 : decide (l0.length < 1) = false := decide_eq_false dq34
   clear c3
   (first | rw [c3b0] | (simp only [i64_w, i32_w]; rw [c3b0]) | skip)
   have H' := Aside0.mk H
   clear H
   go_wp2
   repeat (go_quiet (fail); try go_wp2)
   go_meet
   case rel => exact ⟨_, (decide ((l0.length : Int) > 200)), dq26, H', ⟨dq35⟩, ⟨dq23⟩⟩
 case rest =>
  clear HC2
  try clear c2
  try clear p2
  try clear c3
  try clear c3b0
  try clear c3b1
  obtain ⟨kq, x15_1, rfl, HA, HJ1, HB⟩ := hcut
  cases kq with
  | zero => exact absurd HA.out (by simp [spec_DocOk.j0])
  | succ kj1 =>
   have H := HA.out
   clear HA
   simp only [spec_DocOk.j0] at H
   by_cases c4 : x15_1 = true
   ·subst c4
    have H1 : (some false) = some r := by rw [if_pos rfl] at H; exact H
    clear H
    have H := H1
    clear H1
    obtain rfl := Option.some.inj H
    go_wp2
    repeat (go_quiet (fail); try go_wp2)
    go_ret
    exact ⟨dq25, dq23⟩
   ·replace c4 := Bool.eq_false_iff.mpr c4
    subst c4
    have H1 : (spec_DocOk.l0 kj1 l0 0 0) = some r := by rw [if_neg (show ¬ (false = true) by decide)] at H; exact H
    clear H
    have H := H1
    clear H1
    have H' := Aside0.mk H
    clear H
    go_wp2
    repeat (go_quiet (fail); try go_wp2)
    go_loopg [3, 4] kj1 (fun kq v3 v4 w' => ∃ (x3_2 : Int) (x4_2 : Int), v3 = .int .i64 x3_2 ∧ v4 = .int .i64 x4_2 ∧ Aside0 (spec_DocOk.l0 kq l0 x3_2 x4_2 = some r) ∧ Aside0 (kq ≤ kj1) ∧ Aside0 (Below w.heap.size w w'))
    case atStart => exact ⟨(0), (0), dq26, dq26, H', ⟨Nat.le_refl _⟩, ⟨dq23⟩⟩
    case round =>
     clear H'
     try clear c2
     try clear p2
     try clear c3
     try clear c3b0
     try clear c3b1
     try clear c4
     try clear p2
     obtain ⟨x3_2, x4_2, rfl, rfl, HA, HK2, HB⟩ := hrel
     cases gk with
     | zero => exact absurd HA.out (by simp [spec_DocOk.l0])
     | succ k2 =>
      have H := HA.out
      clear HA
      simp only [spec_DocOk.l0] at H
      by_cases c5 : x4_2 < (l0.length : Int)
      ·rw [if_pos c5] at H
       have c5b0 := decide_eq_true c5
       clear c5
       by_cases c6 : 0 ≤ x4_2
       ·rw [if_pos c6] at H
        have c6b0 := decide_eq_true c6
        clear c6
        have HC7 := Aside0.mk H
        clear H
        have p146 : 0 ≤ (x4_2 : Int) := of_decide_eq_true dq27
        have q146 : x4_2 < (l0.length : Int) := of_decide_eq_true dq27
        obtain ⟨ad146, A146_3, c146_3, e146, hx146_0, hx146_1, hx146_2, hx146_3, hl146_3, hi146_3⟩ := at_T39 HR0.out x4_2 p146 q146
        cases e146
        replace hx146_0 := (HB.out.cell (World.block_lt_of_cell? w _ hx146_0)).trans hx146_0
        replace hx146_1 := (HB.out.cell (World.block_lt_of_cell? w _ hx146_1)).trans hx146_1
        replace hx146_2 := (HB.out.cell (World.block_lt_of_cell? w _ hx146_2)).trans hx146_2
        replace hx146_3 := (HB.out.cell (World.block_lt_of_cell? w _ hx146_3)).trans hx146_3
        have HR146_3 := Aside0.mk hi146_3
        have HC146_3 := Aside0.mk hl146_3
        clear hi146_3 hl146_3
        replace p146 := eq_true p146
        replace q146 := eq_true q146
        go_upto_block 2 with (first | ((with_reducible refine gate_dst (N := 5) rfl ?_); (try (refine gate_guard (by rfl) ?_; dsimp only)); refine box_event ?hg (N := 5) ?hd (cs := #[.int .i64 0, .string (⟨#[]⟩ : ByteArray), .string (⟨#[]⟩ : ByteArray), .slice none 0 0]) (t := 39) ?hr ?_; (case hd => rfl); (case hg => rfl); (case hr => exact dq0); intro gb147 hg w8 hbox hb; have n0_ := Aside0.mk (below_step dq23 hb); have n1_ := Aside0.mk (hbox); have n2_ := Aside0.mk ((dq22 : w.heap.size ≤ gb147)); have n3_ := Aside0.mk ((dq22 : w.heap.size ≤ gb147)); clear HB; have HB := n0_; have BK147 := n1_; have GW147 := n2_; have GE147 := n3_; clear n0_ n1_ n2_ n3_; clear hb hbox hg; obtain ⟨⟨hcz9_0, hcz9_1, hcz9_2, hcz9_3⟩, hfz9_0, hfz9_1, hfz9_2, hfz9_3⟩ := blkC4 BK147.out))
        repeat (go_quiet (first | ((with_reducible refine gate_dst (N := 5) rfl ?_); (try (refine gate_guard (by rfl) ?_; dsimp only)); refine box_event ?hg (N := 5) ?hd (cs := #[.int .i64 0, .string (⟨#[]⟩ : ByteArray), .string (⟨#[]⟩ : ByteArray), .slice none 0 0]) (t := 39) ?hr ?_; (case hd => rfl); (case hg => rfl); (case hr => exact dq0); intro gb147 hg w8 hbox hb; have n0_ := Aside0.mk (below_step dq23 hb); have n1_ := Aside0.mk (hbox); have n2_ := Aside0.mk ((dq22 : w.heap.size ≤ gb147)); have n3_ := Aside0.mk ((dq22 : w.heap.size ≤ gb147)); clear HB; have HB := n0_; have BK147 := n1_; have GW147 := n2_; have GE147 := n3_; clear n0_ n1_ n2_ n3_; clear hb hbox hg; obtain ⟨⟨hcz9_0, hcz9_1, hcz9_2, hcz9_3⟩, hfz9_0, hfz9_1, hfz9_2, hfz9_3⟩ := blkC4 BK147.out)); go_upto_block 2 with (first | ((with_reducible refine gate_dst (N := 5) rfl ?_); (try (refine gate_guard (by rfl) ?_; dsimp only)); refine box_event ?hg (N := 5) ?hd (cs := #[.int .i64 0, .string (⟨#[]⟩ : ByteArray), .string (⟨#[]⟩ : ByteArray), .slice none 0 0]) (t := 39) ?hr ?_; (case hd => rfl); (case hg => rfl); (case hr => exact dq0); intro gb147 hg w8 hbox hb; have n0_ := Aside0.mk (below_step dq23 hb); have n1_ := Aside0.mk (hbox); have n2_ := Aside0.mk ((dq22 : w.heap.size ≤ gb147)); have n3_ := Aside0.mk ((dq22 : w.heap.size ≤ gb147)); clear HB; have HB := n0_; have BK147 := n1_; have GW147 := n2_; have GE147 := n3_; clear n0_ n1_ n2_ n3_; clear hb hbox hg; obtain ⟨⟨hcz9_0, hcz9_1, hcz9_2, hcz9_3⟩, hfz9_0, hfz9_1, hfz9_2, hfz9_3⟩ := blkC4 BK147.out)))
        (try simp only [Act.put, List.setIfInBounds_toArray, List.set_cons_zero, List.set_cons_succ])
        go_cut [3] (fun v3 wc => ∃ (kq : Nat) (x3_6 : Int), v3 = .int .i64 x3_6 ∧ Aside0 (spec_DocOk.j3 kq l0 x3_6 x4_2 ((rd_T39 l0 x4_2).f0) ((rd_T39 l0 x4_2).f1) ((rd_T39 l0 x4_2).f2) ((rd_T39 l0 x4_2).f3) = some r) ∧ Aside0 (kq ≤ k2) ∧ Aside0 (wc.heap[gb147]? = some (.cells #[.int .i64 ((rd_T39 l0 x4_2).f0), .string ((rd_T39 l0 x4_2).f1), .string ((rd_T39 l0 x4_2).f2), (.slice A146_3 ((rd_T39 l0 x4_2).f3).length c146_3)] 39 (0, 0))) ∧ Aside0 (Below w.heap.size w wc))
        case first =>
         have H := HC7.out
         clear HC7
         have H' := Aside0.mk H
         clear H
         go_wp2
         repeat (go_quiet (fail); try go_wp2)
         go_loopg [3, 6] k2 (fun kq v3 v6 w' => ∃ (x3_3 : Int) (x6_3 : Int), v3 = .int .i64 x3_3 ∧ v6 = .int .i64 x6_3 ∧ Aside0 (spec_DocOk.l1 kq l0 x3_3 x4_2 x6_3 ((rd_T39 l0 x4_2).f0) ((rd_T39 l0 x4_2).f1) ((rd_T39 l0 x4_2).f2) ((rd_T39 l0 x4_2).f3) = some r) ∧ Aside0 (kq ≤ k2) ∧ Aside0 (w'.heap[gb147]? = some (.cells #[.int .i64 ((rd_T39 l0 x4_2).f0), .string ((rd_T39 l0 x4_2).f1), .string ((rd_T39 l0 x4_2).f2), (.slice A146_3 ((rd_T39 l0 x4_2).f3).length c146_3)] 39 (0, 0))) ∧ Aside0 (Below w.heap.size w w'))
         case atStart => exact ⟨(wrap64 ((wrap64 (x3_2 + (((rd_T39 l0 x4_2).f1).size : Int))) + (((rd_T39 l0 x4_2).f2).size : Int))), (0), dq26, dq26, H', ⟨Nat.le_refl _⟩, ⟨by refine blk_up ?_; refine blk_put (cs := #[.int .i64 ((rd_T39 l0 x4_2).f0), .string ((rd_T39 l0 x4_2).f1), .string ((rd_T39 l0 x4_2).f2), .slice none 0 0]) ?_ 3 _ rfl; refine blk_up ?_; refine blk_put (cs := #[.int .i64 ((rd_T39 l0 x4_2).f0), .string ((rd_T39 l0 x4_2).f1), .string (⟨#[]⟩ : ByteArray), .slice none 0 0]) ?_ 2 _ rfl; refine blk_up ?_; refine blk_put (cs := #[.int .i64 ((rd_T39 l0 x4_2).f0), .string (⟨#[]⟩ : ByteArray), .string (⟨#[]⟩ : ByteArray), .slice none 0 0]) ?_ 1 _ rfl; refine blk_up ?_; refine blk_put (cs := #[.int .i64 0, .string (⟨#[]⟩ : ByteArray), .string (⟨#[]⟩ : ByteArray), .slice none 0 0]) ?_ 0 _ rfl; refine blk_up ?_; exact BK147.out⟩, ⟨dq41⟩⟩
         case round =>
          clear H'
          try clear c1
          try clear p1
          try clear q1
          try clear hx1
          try clear c2
          try clear p2
          try clear c3
          try clear c3b0
          try clear c3b1
          try clear c4
          try clear c5
          try clear c5b0
          try clear c6
          try clear c6b0
          try clear p6
          try clear hcz9_0
          try clear hcz9_1
          try clear hcz9_2
          try clear hcz9_3
          try clear hfz9_0
          try clear hfz9_1
          try clear hfz9_2
          try clear hfz9_3
          try clear hx146_0
          try clear hx146_1
          try clear hx146_2
          try clear hx146_3
          try clear p146
          try clear p2
          try clear q146
          obtain ⟨x3_3, x6_3, rfl, rfl, HA, HK3, BK147, HB⟩ := hrel
          cases gk with
          | zero => exact absurd HA.out (by simp [spec_DocOk.l1])
          | succ k3 =>
           have H := HA.out
           clear HA
           simp only [spec_DocOk.l1] at H
           by_cases c10 : x6_3 < (((rd_T39 l0 x4_2).f3).length : Int)
           ·rw [if_pos c10] at H
            have c10b0 := decide_eq_true c10
            clear c10
            (first | rw [c10b0] | (simp only [i64_w, i32_w]; rw [c10b0]) | skip)
            by_cases c11 : x6_3 < 20
            ·rw [if_pos c11] at H
             have c11b0 := decide_eq_true c11
             clear c11
             by_cases c12 : 0 ≤ x6_3
             ·rw [if_pos c12] at H
              have c12b0 := decide_eq_true c12
              clear c12
              have H' := Aside0.mk H
              clear H
              obtain ⟨⟨hcz13_0, hcz13_1, hcz13_2, hcz13_3⟩, hfz13_0, hfz13_1, hfz13_2, hfz13_3⟩ := blkC4 BK147.out
              have p148 : 0 ≤ (x6_3 : Int) := of_decide_eq_true dq27
              have q148 : x6_3 < (((rd_T39 l0 x4_2).f3).length : Int) := of_decide_eq_true dq27
              obtain ⟨ad148, e148, hx148_0, hx148_1⟩ := at_T46 HR146_3.out x6_3 p148 q148
              cases e148
              replace hx148_0 := (HB.out.cell (World.block_lt_of_cell? w _ hx148_0)).trans hx148_0
              replace hx148_1 := (HB.out.cell (World.block_lt_of_cell? w _ hx148_1)).trans hx148_1
              replace p148 := eq_true p148
              replace q148 := eq_true q148
              have p149 : 0 ≤ (x6_3 : Int) := of_decide_eq_true dq27
              have q149 : x6_3 < (((rd_T39 l0 x4_2).f3).length : Int) := of_decide_eq_true dq27
              obtain ⟨ad149, e149, hx149_0, hx149_1⟩ := at_T46 HR146_3.out x6_3 p149 q149
              obtain rfl : ad148 = ad149 := (by injection e149)
              replace hx149_0 := (HB.out.cell (World.block_lt_of_cell? w _ hx149_0)).trans hx149_0
              replace hx149_1 := (HB.out.cell (World.block_lt_of_cell? w _ hx149_1)).trans hx149_1
              replace p149 := eq_true p149
              replace q149 := eq_true q149
              go_wp2
              repeat (go_quiet (fail); try go_wp2)
              go_roundg k3
              case measure => have := HJ1.out; have := HK2.out; have := HK3.out; omega
              case rel => exact ⟨(wrap64 ((wrap64 (x3_3 + (((rd_T46 ((rd_T39 l0 x4_2).f3) x6_3).f0).size : Int))) + (((rd_T46 ((rd_T39 l0 x4_2).f3) x6_3).f1).size : Int))), (wrap64 (x6_3 + 1)), dq26, dq26, H', ⟨by have := HJ1.out; have := HK2.out; have := HK3.out; omega⟩, ⟨dq42⟩, ⟨dq41⟩⟩
             ·rw [if_neg c12] at H
              exact absurd H dq31
            ·rw [if_neg c11] at H
             have c11b0 := decide_eq_false c11
             clear c11
             have H' := Aside0.mk H
             clear H
             obtain ⟨⟨hcz14_0, hcz14_1, hcz14_2, hcz14_3⟩, hfz14_0, hfz14_1, hfz14_2, hfz14_3⟩ := blkC4 BK147.out
             go_wp2
             repeat (go_quiet (fail); try go_wp2)
             go_meet
             case rel => exact ⟨_, (x3_3), dq26, H', ⟨dq43⟩, ⟨dq42⟩, ⟨dq41⟩⟩
           ·rw [if_neg c10] at H
            have c10b0 := decide_eq_false c10
            clear c10
            (first | rw [c10b0] | (simp only [i64_w, i32_w]; rw [c10b0]) | skip)
            have H' := Aside0.mk H
            clear H
            obtain ⟨⟨hcz15_0, hcz15_1, hcz15_2, hcz15_3⟩, hfz15_0, hfz15_1, hfz15_2, hfz15_3⟩ := blkC4 BK147.out
            go_wp2
            repeat (go_quiet (fail); try go_wp2)
            go_meet
            case rel => exact ⟨_, (x3_3), dq26, H', ⟨dq43⟩, ⟨dq42⟩, ⟨dq41⟩⟩
        case rest =>
         clear HC7
         try clear c1
         try clear p1
         try clear q1
         try clear hx1
         try clear c2
         try clear p2
         try clear c3
         try clear c3b0
         try clear c3b1
         try clear c4
         try clear c5
         try clear c5b0
         try clear c6
         try clear c6b0
         try clear p6
         try clear c10
         try clear c10b0
         try clear c11
         try clear c11b0
         try clear c12
         try clear c12b0
         try clear c14
         try clear p14
         try clear q14
         try clear hx14
         try clear hcz13_0
         try clear hcz13_1
         try clear hcz13_2
         try clear hcz13_3
         try clear hcz14_0
         try clear hcz14_1
         try clear hcz14_2
         try clear hcz14_3
         try clear hcz15_0
         try clear hcz15_1
         try clear hcz15_2
         try clear hcz15_3
         try clear hcz9_0
         try clear hcz9_1
         try clear hcz9_2
         try clear hcz9_3
         try clear hfz13_0
         try clear hfz13_1
         try clear hfz13_2
         try clear hfz13_3
         try clear hfz14_0
         try clear hfz14_1
         try clear hfz14_2
         try clear hfz14_3
         try clear hfz15_0
         try clear hfz15_1
         try clear hfz15_2
         try clear hfz15_3
         try clear hfz9_0
         try clear hfz9_1
         try clear hfz9_2
         try clear hfz9_3
         try clear hx146_0
         try clear hx146_1
         try clear hx146_2
         try clear hx146_3
         try clear hx148_0
         try clear hx148_1
         try clear hx149_0
         try clear hx149_1
         try clear p1
         try clear p146
         try clear p148
         try clear p149
         try clear p2
         try clear p6
         try clear q1
         try clear q146
         try clear q148
         try clear q149
         obtain ⟨kq, x3_6, rfl, HA, HJ6, BK147, HB⟩ := hcut
         cases kq with
         | zero => exact absurd HA.out (by simp [spec_DocOk.j3])
         | succ kj6 =>
          have H := HA.out
          clear HA
          simp only [spec_DocOk.j3] at H
          by_cases c16 : x3_6 > 2500
          ·rw [if_pos c16] at H
           have c16b0 : decide (2500 < x3_6) = true := decide_eq_true c16
           clear c16
           obtain rfl := Option.some.inj H
           go_wp2
           repeat (go_quiet (fail); try go_wp2)
           go_ret
           exact ⟨dq25, dq41⟩
          ·rw [if_neg c16] at H
           have c16b0 : decide (2500 < x3_6) = false := decide_eq_false c16
           clear c16
           have HC17 := Aside0.mk H
           clear H
           go_upto_if 66 with (fail)
           repeat (go_quiet (fail); go_upto_if 66 with (fail))
           go_cut [] (fun wc => ∃ (kq : Nat), Aside0 (spec_DocOk.j4 kq l0 x3_6 x4_2 ((rd_T39 l0 x4_2).f0) ((rd_T39 l0 x4_2).f1) ((rd_T39 l0 x4_2).f2) ((rd_T39 l0 x4_2).f3) = some r) ∧ Aside0 (kq ≤ kj6) ∧ Aside0 (wc.heap[gb147]? = some (.cells #[.int .i64 ((rd_T39 l0 x4_2).f0), .string ((rd_T39 l0 x4_2).f1), .string ((rd_T39 l0 x4_2).f2), (.slice A146_3 ((rd_T39 l0 x4_2).f3).length c146_3)] 39 (0, 0))) ∧ Aside0 (Below w.heap.size w wc))
           case first =>
            have H := HC17.out
            clear HC17
            by_cases c18 : x4_2 = 0
            ·rw [if_pos c18] at H
             have c18b0 := beq_iff_eq.mpr c18
             have c18b1 := bne_eq_false_iff_eq.mpr c18
             clear c18
             (first | rw [c18b0] | (simp only [i64_w, i32_w]; rw [c18b0]) | skip)
             by_cases c19 : ((rd_T39 l0 x4_2).f0) = (-1)
             ·rw [if_pos c19] at H
              have c19b0 := beq_iff_eq.mpr c19
              have c19b1 := bne_eq_false_iff_eq.mpr c19
              clear c19
              by_cases c20 : ((rd_T39 l0 x4_2).f1).toList = ([] : List UInt8)
              ·rw [if_pos c20] at H
               have c20b0 := beq_iff_eq.mpr c20
               have c20b1 := bne_eq_false_iff_eq.mpr c20
               clear c20
               obtain rfl := Option.some.inj H
               obtain ⟨⟨hcz21_0, hcz21_1, hcz21_2, hcz21_3⟩, hfz21_0, hfz21_1, hfz21_2, hfz21_3⟩ := blkC4 BK147.out
               go_wp2
               repeat (go_quiet (fail); try go_wp2)
               go_ret
               exact ⟨dq25, dq41⟩
              ·rw [if_neg c20] at H
               have c20b0 := beq_eq_false_iff_ne.mpr c20
               have c20b1 := bne_iff_ne.mpr c20
               have H' := Aside0.mk H
               clear H
               obtain ⟨⟨hcz22_0, hcz22_1, hcz22_2, hcz22_3⟩, hfz22_0, hfz22_1, hfz22_2, hfz22_3⟩ := blkC4 BK147.out
               go_wp2
               repeat (go_quiet (fail); try go_wp2)
               go_meet
               case rel => exact ⟨_, H', ⟨by have := HJ1.out; have := HK2.out; have := HJ6.out; first | omega | exact Nat.le_refl _⟩, ⟨dq42⟩, ⟨dq41⟩⟩
             ·rw [if_neg c19] at H
              have c19b0 := beq_eq_false_iff_ne.mpr c19
              have c19b1 := bne_iff_ne.mpr c19
              obtain rfl := Option.some.inj H
              obtain ⟨⟨hcz23_0, hcz23_1, hcz23_2, hcz23_3⟩, hfz23_0, hfz23_1, hfz23_2, hfz23_3⟩ := blkC4 BK147.out
              go_wp2
              repeat (go_quiet (fail); try go_wp2)
              go_ret
              exact ⟨dq25, dq41⟩
            ·rw [if_neg c18] at H
             have c18b0 := beq_eq_false_iff_ne.mpr c18
             have c18b1 := bne_iff_ne.mpr c18
             (first | rw [c18b0] | (simp only [i64_w, i32_w]; rw [c18b0]) | skip)
             replace H := Option.bind_eq_some_iff.mp H
             obtain ⟨t150, A240, H⟩ := H
             replace H : (if t150 = true then (if 0 ≤ ((rd_T39 l0 x4_2).f0) then (if ((rd_T39 l0 x4_2).f0) < (l0.length : Int) then (if ((rd_T39 l0 ((rd_T39 l0 x4_2).f0)).f1).toList = ([] : List UInt8) then (some false) else (spec_DocOk.j4 kj6 l0 x3_6 x4_2 ((rd_T39 l0 x4_2).f0) ((rd_T39 l0 x4_2).f1) ((rd_T39 l0 x4_2).f2) ((rd_T39 l0 x4_2).f3))) else (none)) else (none)) else (some false)) = some r := H
             have A24 := Aside0.mk A240
             clear A240
             by_cases c25 : t150 = true
             ·subst c25
              have H1 : (if 0 ≤ ((rd_T39 l0 x4_2).f0) then (if ((rd_T39 l0 x4_2).f0) < (l0.length : Int) then (if ((rd_T39 l0 ((rd_T39 l0 x4_2).f0)).f1).toList = ([] : List UInt8) then (some false) else (spec_DocOk.j4 kj6 l0 x3_6 x4_2 ((rd_T39 l0 x4_2).f0) ((rd_T39 l0 x4_2).f1) ((rd_T39 l0 x4_2).f2) ((rd_T39 l0 x4_2).f3))) else (none)) else (none)) = some r := by rw [if_pos rfl] at H; exact H
              clear H
              have H := H1
              clear H1
              by_cases c26 : 0 ≤ ((rd_T39 l0 x4_2).f0)
              ·rw [if_pos c26] at H
               have c26b0 := decide_eq_true c26
               clear c26
               by_cases c27 : ((rd_T39 l0 x4_2).f0) < (l0.length : Int)
               ·rw [if_pos c27] at H
                have c27b0 := decide_eq_true c27
                clear c27
                by_cases c28 : ((rd_T39 l0 ((rd_T39 l0 x4_2).f0)).f1).toList = ([] : List UInt8)
                ·rw [if_pos c28] at H
                 have c28b0 := beq_iff_eq.mpr c28
                 have c28b1 := bne_eq_false_iff_eq.mpr c28
                 clear c28
                 obtain rfl := Option.some.inj H
                 obtain ⟨⟨hcz29_0, hcz29_1, hcz29_2, hcz29_3⟩, hfz29_0, hfz29_1, hfz29_2, hfz29_3⟩ := blkC4 BK147.out
                 go_wp2_with (first | (go_at_call 41; (with_reducible refine (spec_l1In.calls ((rd_T39 l0 x4_2).f0) 0 (wrap64 (x4_2 - 1)) true _ A24.out).mono ?_); rintro e w' ⟨rfl, ⟨nd, rfl⟩⟩; (try first | exact ⟨rfl, _, World.drewN_drewN _ _ _⟩ | exact ⟨rfl, _, Eq.trans (World.drewN_drewN _ _ _) (congrArg (World.drewN _) (Nat.add_assoc _ _ _))⟩); have p151 : 0 ≤ (((rd_T39 l0 x4_2).f0) : Int) := of_decide_eq_true dq27; have q151 : ((rd_T39 l0 x4_2).f0) < (l0.length : Int) := of_decide_eq_true dq27; obtain ⟨ad151, A151_3, c151_3, e151, hx151_0, hx151_1, hx151_2, hx151_3, hl151_3, hi151_3⟩ := at_T39 HR0.out ((rd_T39 l0 x4_2).f0) p151 q151; obtain rfl : ad146 = ad151 := (by injection e151); replace hx151_0 := (HB.out.cell (World.block_lt_of_cell? w _ hx151_0)).trans hx151_0; replace hx151_1 := (HB.out.cell (World.block_lt_of_cell? w _ hx151_1)).trans hx151_1; replace hx151_2 := (HB.out.cell (World.block_lt_of_cell? w _ hx151_2)).trans hx151_2; replace hx151_3 := (HB.out.cell (World.block_lt_of_cell? w _ hx151_3)).trans hx151_3; have HR151_3 := Aside0.mk hi151_3; have HC151_3 := Aside0.mk hl151_3; clear hi151_3 hl151_3; replace p151 := eq_true p151; replace q151 := eq_true q151))
                 repeat (go_quiet (first | (go_at_call 41; (with_reducible refine (spec_l1In.calls ((rd_T39 l0 x4_2).f0) 0 (wrap64 (x4_2 - 1)) true _ A24.out).mono ?_); rintro e w' ⟨rfl, ⟨nd, rfl⟩⟩; (try first | exact ⟨rfl, _, World.drewN_drewN _ _ _⟩ | exact ⟨rfl, _, Eq.trans (World.drewN_drewN _ _ _) (congrArg (World.drewN _) (Nat.add_assoc _ _ _))⟩); have p151 : 0 ≤ (((rd_T39 l0 x4_2).f0) : Int) := of_decide_eq_true dq27; have q151 : ((rd_T39 l0 x4_2).f0) < (l0.length : Int) := of_decide_eq_true dq27; obtain ⟨ad151, A151_3, c151_3, e151, hx151_0, hx151_1, hx151_2, hx151_3, hl151_3, hi151_3⟩ := at_T39 HR0.out ((rd_T39 l0 x4_2).f0) p151 q151; obtain rfl : ad146 = ad151 := (by injection e151); replace hx151_0 := (HB.out.cell (World.block_lt_of_cell? w _ hx151_0)).trans hx151_0; replace hx151_1 := (HB.out.cell (World.block_lt_of_cell? w _ hx151_1)).trans hx151_1; replace hx151_2 := (HB.out.cell (World.block_lt_of_cell? w _ hx151_2)).trans hx151_2; replace hx151_3 := (HB.out.cell (World.block_lt_of_cell? w _ hx151_3)).trans hx151_3; have HR151_3 := Aside0.mk hi151_3; have HC151_3 := Aside0.mk hl151_3; clear hi151_3 hl151_3; replace p151 := eq_true p151; replace q151 := eq_true q151)); try go_wp2_with (first | (go_at_call 41; (with_reducible refine (spec_l1In.calls ((rd_T39 l0 x4_2).f0) 0 (wrap64 (x4_2 - 1)) true _ A24.out).mono ?_); rintro e w' ⟨rfl, ⟨nd, rfl⟩⟩; (try first | exact ⟨rfl, _, World.drewN_drewN _ _ _⟩ | exact ⟨rfl, _, Eq.trans (World.drewN_drewN _ _ _) (congrArg (World.drewN _) (Nat.add_assoc _ _ _))⟩); have p151 : 0 ≤ (((rd_T39 l0 x4_2).f0) : Int) := of_decide_eq_true dq27; have q151 : ((rd_T39 l0 x4_2).f0) < (l0.length : Int) := of_decide_eq_true dq27; obtain ⟨ad151, A151_3, c151_3, e151, hx151_0, hx151_1, hx151_2, hx151_3, hl151_3, hi151_3⟩ := at_T39 HR0.out ((rd_T39 l0 x4_2).f0) p151 q151; obtain rfl : ad146 = ad151 := (by injection e151); replace hx151_0 := (HB.out.cell (World.block_lt_of_cell? w _ hx151_0)).trans hx151_0; replace hx151_1 := (HB.out.cell (World.block_lt_of_cell? w _ hx151_1)).trans hx151_1; replace hx151_2 := (HB.out.cell (World.block_lt_of_cell? w _ hx151_2)).trans hx151_2; replace hx151_3 := (HB.out.cell (World.block_lt_of_cell? w _ hx151_3)).trans hx151_3; have HR151_3 := Aside0.mk hi151_3; have HC151_3 := Aside0.mk hl151_3; clear hi151_3 hl151_3; replace p151 := eq_true p151; replace q151 := eq_true q151)))
                 go_ret
                 exact ⟨dq25, dq41⟩
                ·rw [if_neg c28] at H
                 have c28b0 := beq_eq_false_iff_ne.mpr c28
                 have c28b1 := bne_iff_ne.mpr c28
                 have H' := Aside0.mk H
                 clear H
                 obtain ⟨⟨hcz30_0, hcz30_1, hcz30_2, hcz30_3⟩, hfz30_0, hfz30_1, hfz30_2, hfz30_3⟩ := blkC4 BK147.out
                 go_wp2_with (first | (go_at_call 41; (with_reducible refine (spec_l1In.calls ((rd_T39 l0 x4_2).f0) 0 (wrap64 (x4_2 - 1)) true _ A24.out).mono ?_); rintro e w' ⟨rfl, ⟨nd, rfl⟩⟩; (try first | exact ⟨rfl, _, World.drewN_drewN _ _ _⟩ | exact ⟨rfl, _, Eq.trans (World.drewN_drewN _ _ _) (congrArg (World.drewN _) (Nat.add_assoc _ _ _))⟩); have p151 : 0 ≤ (((rd_T39 l0 x4_2).f0) : Int) := of_decide_eq_true dq27; have q151 : ((rd_T39 l0 x4_2).f0) < (l0.length : Int) := of_decide_eq_true dq27; obtain ⟨ad151, A151_3, c151_3, e151, hx151_0, hx151_1, hx151_2, hx151_3, hl151_3, hi151_3⟩ := at_T39 HR0.out ((rd_T39 l0 x4_2).f0) p151 q151; obtain rfl : ad146 = ad151 := (by injection e151); replace hx151_0 := (HB.out.cell (World.block_lt_of_cell? w _ hx151_0)).trans hx151_0; replace hx151_1 := (HB.out.cell (World.block_lt_of_cell? w _ hx151_1)).trans hx151_1; replace hx151_2 := (HB.out.cell (World.block_lt_of_cell? w _ hx151_2)).trans hx151_2; replace hx151_3 := (HB.out.cell (World.block_lt_of_cell? w _ hx151_3)).trans hx151_3; have HR151_3 := Aside0.mk hi151_3; have HC151_3 := Aside0.mk hl151_3; clear hi151_3 hl151_3; replace p151 := eq_true p151; replace q151 := eq_true q151))
                 repeat (go_quiet (first | (go_at_call 41; (with_reducible refine (spec_l1In.calls ((rd_T39 l0 x4_2).f0) 0 (wrap64 (x4_2 - 1)) true _ A24.out).mono ?_); rintro e w' ⟨rfl, ⟨nd, rfl⟩⟩; (try first | exact ⟨rfl, _, World.drewN_drewN _ _ _⟩ | exact ⟨rfl, _, Eq.trans (World.drewN_drewN _ _ _) (congrArg (World.drewN _) (Nat.add_assoc _ _ _))⟩); have p151 : 0 ≤ (((rd_T39 l0 x4_2).f0) : Int) := of_decide_eq_true dq27; have q151 : ((rd_T39 l0 x4_2).f0) < (l0.length : Int) := of_decide_eq_true dq27; obtain ⟨ad151, A151_3, c151_3, e151, hx151_0, hx151_1, hx151_2, hx151_3, hl151_3, hi151_3⟩ := at_T39 HR0.out ((rd_T39 l0 x4_2).f0) p151 q151; obtain rfl : ad146 = ad151 := (by injection e151); replace hx151_0 := (HB.out.cell (World.block_lt_of_cell? w _ hx151_0)).trans hx151_0; replace hx151_1 := (HB.out.cell (World.block_lt_of_cell? w _ hx151_1)).trans hx151_1; replace hx151_2 := (HB.out.cell (World.block_lt_of_cell? w _ hx151_2)).trans hx151_2; replace hx151_3 := (HB.out.cell (World.block_lt_of_cell? w _ hx151_3)).trans hx151_3; have HR151_3 := Aside0.mk hi151_3; have HC151_3 := Aside0.mk hl151_3; clear hi151_3 hl151_3; replace p151 := eq_true p151; replace q151 := eq_true q151)); try go_wp2_with (first | (go_at_call 41; (with_reducible refine (spec_l1In.calls ((rd_T39 l0 x4_2).f0) 0 (wrap64 (x4_2 - 1)) true _ A24.out).mono ?_); rintro e w' ⟨rfl, ⟨nd, rfl⟩⟩; (try first | exact ⟨rfl, _, World.drewN_drewN _ _ _⟩ | exact ⟨rfl, _, Eq.trans (World.drewN_drewN _ _ _) (congrArg (World.drewN _) (Nat.add_assoc _ _ _))⟩); have p151 : 0 ≤ (((rd_T39 l0 x4_2).f0) : Int) := of_decide_eq_true dq27; have q151 : ((rd_T39 l0 x4_2).f0) < (l0.length : Int) := of_decide_eq_true dq27; obtain ⟨ad151, A151_3, c151_3, e151, hx151_0, hx151_1, hx151_2, hx151_3, hl151_3, hi151_3⟩ := at_T39 HR0.out ((rd_T39 l0 x4_2).f0) p151 q151; obtain rfl : ad146 = ad151 := (by injection e151); replace hx151_0 := (HB.out.cell (World.block_lt_of_cell? w _ hx151_0)).trans hx151_0; replace hx151_1 := (HB.out.cell (World.block_lt_of_cell? w _ hx151_1)).trans hx151_1; replace hx151_2 := (HB.out.cell (World.block_lt_of_cell? w _ hx151_2)).trans hx151_2; replace hx151_3 := (HB.out.cell (World.block_lt_of_cell? w _ hx151_3)).trans hx151_3; have HR151_3 := Aside0.mk hi151_3; have HC151_3 := Aside0.mk hl151_3; clear hi151_3 hl151_3; replace p151 := eq_true p151; replace q151 := eq_true q151)))
                 go_meet
                 case rel => exact ⟨_, H', ⟨by have := HJ1.out; have := HK2.out; have := HJ6.out; first | omega | exact Nat.le_refl _⟩, ⟨dq42⟩, ⟨dq41⟩⟩
               ·rw [if_neg c27] at H
                exact absurd H dq31
              ·rw [if_neg c26] at H
               exact absurd H dq31
             ·replace c25 := Bool.eq_false_iff.mpr c25
              subst c25
              have H1 : (some false) = some r := by rw [if_neg (show ¬ (false = true) by decide)] at H; exact H
              clear H
              have H := H1
              clear H1
              obtain rfl := Option.some.inj H
              obtain ⟨⟨hcz31_0, hcz31_1, hcz31_2, hcz31_3⟩, hfz31_0, hfz31_1, hfz31_2, hfz31_3⟩ := blkC4 BK147.out
              go_wp2_with (first | (go_at_call 41; (with_reducible refine (spec_l1In.calls ((rd_T39 l0 x4_2).f0) 0 (wrap64 (x4_2 - 1)) false _ A24.out).mono ?_); rintro e w' ⟨rfl, ⟨nd, rfl⟩⟩; (try first | exact ⟨rfl, _, World.drewN_drewN _ _ _⟩ | exact ⟨rfl, _, Eq.trans (World.drewN_drewN _ _ _) (congrArg (World.drewN _) (Nat.add_assoc _ _ _))⟩)))
              repeat (go_quiet (first | (go_at_call 41; (with_reducible refine (spec_l1In.calls ((rd_T39 l0 x4_2).f0) 0 (wrap64 (x4_2 - 1)) false _ A24.out).mono ?_); rintro e w' ⟨rfl, ⟨nd, rfl⟩⟩; (try first | exact ⟨rfl, _, World.drewN_drewN _ _ _⟩ | exact ⟨rfl, _, Eq.trans (World.drewN_drewN _ _ _) (congrArg (World.drewN _) (Nat.add_assoc _ _ _))⟩))); try go_wp2_with (first | (go_at_call 41; (with_reducible refine (spec_l1In.calls ((rd_T39 l0 x4_2).f0) 0 (wrap64 (x4_2 - 1)) false _ A24.out).mono ?_); rintro e w' ⟨rfl, ⟨nd, rfl⟩⟩; (try first | exact ⟨rfl, _, World.drewN_drewN _ _ _⟩ | exact ⟨rfl, _, Eq.trans (World.drewN_drewN _ _ _) (congrArg (World.drewN _) (Nat.add_assoc _ _ _))⟩))))
              go_ret
              exact ⟨dq25, dq41⟩
           case rest =>
            clear HC17
            try clear c1
            try clear p1
            try clear q1
            try clear hx1
            try clear c2
            try clear p2
            try clear c3
            try clear c3b0
            try clear c3b1
            try clear c4
            try clear c5
            try clear c5b0
            try clear c6
            try clear c6b0
            try clear p6
            try clear c10
            try clear c10b0
            try clear c11
            try clear c11b0
            try clear c12
            try clear c12b0
            try clear c14
            try clear p14
            try clear q14
            try clear hx14
            try clear c15
            try clear p15
            try clear q15
            try clear hx15
            try clear c16
            try clear c16b0
            try clear c18
            try clear c18b0
            try clear c18b1
            try clear c19
            try clear c19b0
            try clear c19b1
            try clear c20
            try clear c20b0
            try clear c20b1
            try clear c23
            try clear c25
            try clear c26
            try clear c26b0
            try clear c27
            try clear c27b0
            try clear c28
            try clear c28b0
            try clear c28b1
            try clear hcz13_0
            try clear hcz13_1
            try clear hcz13_2
            try clear hcz13_3
            try clear hcz14_0
            try clear hcz14_1
            try clear hcz14_2
            try clear hcz14_3
            try clear hcz15_0
            try clear hcz15_1
            try clear hcz15_2
            try clear hcz15_3
            try clear hcz21_0
            try clear hcz21_1
            try clear hcz21_2
            try clear hcz21_3
            try clear hcz22_0
            try clear hcz22_1
            try clear hcz22_2
            try clear hcz22_3
            try clear hcz23_0
            try clear hcz23_1
            try clear hcz23_2
            try clear hcz23_3
            try clear hcz29_0
            try clear hcz29_1
            try clear hcz29_2
            try clear hcz29_3
            try clear hcz30_0
            try clear hcz30_1
            try clear hcz30_2
            try clear hcz30_3
            try clear hcz31_0
            try clear hcz31_1
            try clear hcz31_2
            try clear hcz31_3
            try clear hcz9_0
            try clear hcz9_1
            try clear hcz9_2
            try clear hcz9_3
            try clear hfz13_0
            try clear hfz13_1
            try clear hfz13_2
            try clear hfz13_3
            try clear hfz14_0
            try clear hfz14_1
            try clear hfz14_2
            try clear hfz14_3
            try clear hfz15_0
            try clear hfz15_1
            try clear hfz15_2
            try clear hfz15_3
            try clear hfz21_0
            try clear hfz21_1
            try clear hfz21_2
            try clear hfz21_3
            try clear hfz22_0
            try clear hfz22_1
            try clear hfz22_2
            try clear hfz22_3
            try clear hfz23_0
            try clear hfz23_1
            try clear hfz23_2
            try clear hfz23_3
            try clear hfz29_0
            try clear hfz29_1
            try clear hfz29_2
            try clear hfz29_3
            try clear hfz30_0
            try clear hfz30_1
            try clear hfz30_2
            try clear hfz30_3
            try clear hfz31_0
            try clear hfz31_1
            try clear hfz31_2
            try clear hfz31_3
            try clear hfz9_0
            try clear hfz9_1
            try clear hfz9_2
            try clear hfz9_3
            try clear hx146_0
            try clear hx146_1
            try clear hx146_2
            try clear hx146_3
            try clear hx148_0
            try clear hx148_1
            try clear hx149_0
            try clear hx149_1
            try clear hx151_0
            try clear hx151_1
            try clear hx151_2
            try clear hx151_3
            try clear p1
            try clear p14
            try clear p146
            try clear p148
            try clear p149
            try clear p151
            try clear p2
            try clear p6
            try clear q1
            try clear q14
            try clear q146
            try clear q148
            try clear q149
            try clear q151
            obtain ⟨kq, HA, HJ16, BK147, HB⟩ := hcut
            cases kq with
            | zero => exact absurd HA.out (by simp [spec_DocOk.j4])
            | succ kj16 =>
             have H := HA.out
             clear HA
             simp only [spec_DocOk.j4] at H
             have HC32 := Aside0.mk H
             clear H
             go_upto_if 91 with (fail)
             repeat (go_quiet (fail); go_upto_if 91 with (fail))
             go_cut [] (fun wc => ∃ (kq : Nat), Aside0 (spec_DocOk.j6 kq l0 x3_6 x4_2 ((rd_T39 l0 x4_2).f0) ((rd_T39 l0 x4_2).f1) ((rd_T39 l0 x4_2).f2) ((rd_T39 l0 x4_2).f3) = some r) ∧ Aside0 (kq ≤ kj16) ∧ Aside0 (wc.heap[gb147]? = some (.cells #[.int .i64 ((rd_T39 l0 x4_2).f0), .string ((rd_T39 l0 x4_2).f1), .string ((rd_T39 l0 x4_2).f2), (.slice A146_3 ((rd_T39 l0 x4_2).f3).length c146_3)] 39 (0, 0))) ∧ Aside0 (Below w.heap.size w wc))
             case first =>
              have H := HC32.out
              clear HC32
              by_cases c33 : x4_2 > 0
              ·rw [if_pos c33] at H
               have c33b0 : decide (0 < x4_2) = true := decide_eq_true c33
               clear c33
               (first | rw [c33b0] | (simp only [i64_w, i32_w]; rw [c33b0]) | skip)
               have H' := Aside0.mk H
               clear H
               go_wp2
               repeat (go_quiet (fail); try go_wp2)
               go_loopg [7] kj16 (fun kq v7 w' => ∃ (x7_5 : Int), v7 = .int .i64 x7_5 ∧ Aside0 (spec_DocOk.l2 kq l0 x3_6 x4_2 x7_5 ((rd_T39 l0 x4_2).f0) ((rd_T39 l0 x4_2).f1) ((rd_T39 l0 x4_2).f2) ((rd_T39 l0 x4_2).f3) = some r) ∧ Aside0 (kq ≤ kj16) ∧ Aside0 (w'.heap[gb147]? = some (.cells #[.int .i64 ((rd_T39 l0 x4_2).f0), .string ((rd_T39 l0 x4_2).f1), .string ((rd_T39 l0 x4_2).f2), (.slice A146_3 ((rd_T39 l0 x4_2).f3).length c146_3)] 39 (0, 0))) ∧ Aside0 (Below w.heap.size w w'))
               case atStart => exact ⟨(wrap64 (x4_2 - 1)), dq26, H', ⟨Nat.le_refl _⟩, ⟨dq42⟩, ⟨dq41⟩⟩
               case round =>
                clear H'
                try clear c1
                try clear p1
                try clear q1
                try clear hx1
                try clear c2
                try clear p2
                try clear c3
                try clear c3b0
                try clear c3b1
                try clear c4
                try clear c5
                try clear c5b0
                try clear c6
                try clear c6b0
                try clear p6
                try clear c10
                try clear c10b0
                try clear c11
                try clear c11b0
                try clear c12
                try clear c12b0
                try clear c14
                try clear p14
                try clear q14
                try clear hx14
                try clear c15
                try clear p15
                try clear q15
                try clear hx15
                try clear c16
                try clear c16b0
                try clear c18
                try clear c18b0
                try clear c18b1
                try clear c19
                try clear c19b0
                try clear c19b1
                try clear c20
                try clear c20b0
                try clear c20b1
                try clear c23
                try clear c25
                try clear c26
                try clear c26b0
                try clear c27
                try clear c27b0
                try clear c28
                try clear c28b0
                try clear c28b1
                try clear c33
                try clear c33b0
                try clear hcz13_0
                try clear hcz13_1
                try clear hcz13_2
                try clear hcz13_3
                try clear hcz14_0
                try clear hcz14_1
                try clear hcz14_2
                try clear hcz14_3
                try clear hcz15_0
                try clear hcz15_1
                try clear hcz15_2
                try clear hcz15_3
                try clear hcz21_0
                try clear hcz21_1
                try clear hcz21_2
                try clear hcz21_3
                try clear hcz22_0
                try clear hcz22_1
                try clear hcz22_2
                try clear hcz22_3
                try clear hcz23_0
                try clear hcz23_1
                try clear hcz23_2
                try clear hcz23_3
                try clear hcz29_0
                try clear hcz29_1
                try clear hcz29_2
                try clear hcz29_3
                try clear hcz30_0
                try clear hcz30_1
                try clear hcz30_2
                try clear hcz30_3
                try clear hcz31_0
                try clear hcz31_1
                try clear hcz31_2
                try clear hcz31_3
                try clear hcz9_0
                try clear hcz9_1
                try clear hcz9_2
                try clear hcz9_3
                try clear hfz13_0
                try clear hfz13_1
                try clear hfz13_2
                try clear hfz13_3
                try clear hfz14_0
                try clear hfz14_1
                try clear hfz14_2
                try clear hfz14_3
                try clear hfz15_0
                try clear hfz15_1
                try clear hfz15_2
                try clear hfz15_3
                try clear hfz21_0
                try clear hfz21_1
                try clear hfz21_2
                try clear hfz21_3
                try clear hfz22_0
                try clear hfz22_1
                try clear hfz22_2
                try clear hfz22_3
                try clear hfz23_0
                try clear hfz23_1
                try clear hfz23_2
                try clear hfz23_3
                try clear hfz29_0
                try clear hfz29_1
                try clear hfz29_2
                try clear hfz29_3
                try clear hfz30_0
                try clear hfz30_1
                try clear hfz30_2
                try clear hfz30_3
                try clear hfz31_0
                try clear hfz31_1
                try clear hfz31_2
                try clear hfz31_3
                try clear hfz9_0
                try clear hfz9_1
                try clear hfz9_2
                try clear hfz9_3
                try clear hx146_0
                try clear hx146_1
                try clear hx146_2
                try clear hx146_3
                try clear hx148_0
                try clear hx148_1
                try clear hx149_0
                try clear hx149_1
                try clear hx151_0
                try clear hx151_1
                try clear hx151_2
                try clear hx151_3
                try clear p1
                try clear p14
                try clear p146
                try clear p148
                try clear p149
                try clear p15
                try clear p151
                try clear p2
                try clear p6
                try clear q1
                try clear q14
                try clear q146
                try clear q148
                try clear q149
                try clear q15
                try clear q151
                obtain ⟨x7_5, rfl, HA, HK5, BK147, HB⟩ := hrel
                cases gk with
                | zero => exact absurd HA.out (by simp [spec_DocOk.l2])
                | succ k5 =>
                 have H := HA.out
                 clear HA
                 simp only [spec_DocOk.l2] at H
                 by_cases c34 : x7_5 ≥ 0
                 ·rw [if_pos c34] at H
                  have c34b0 : decide (0 ≤ x7_5) = true := decide_eq_true c34
                  clear c34
                  by_cases c35 : x7_5 = ((rd_T39 l0 x4_2).f0)
                  ·rw [if_pos c35] at H
                   have c35b0 := beq_iff_eq.mpr c35
                   have c35b1 := bne_eq_false_iff_eq.mpr c35
                   clear c35
                   by_cases c36 : x7_5 < 0
                   ·rw [if_pos c36] at H
                    have c36b0 := decide_eq_true c36
                    clear c36
                    obtain rfl := Option.some.inj H
                    obtain ⟨⟨hcz37_0, hcz37_1, hcz37_2, hcz37_3⟩, hfz37_0, hfz37_1, hfz37_2, hfz37_3⟩ := blkC4 BK147.out
                    go_wp2
                    repeat (go_quiet (fail); try go_wp2)
                    go_ret
                    exact ⟨dq25, dq41⟩
                   ·rw [if_neg c36] at H
                    have c36b0 := decide_eq_false c36
                    clear c36
                    have H' := Aside0.mk H
                    clear H
                    obtain ⟨⟨hcz38_0, hcz38_1, hcz38_2, hcz38_3⟩, hfz38_0, hfz38_1, hfz38_2, hfz38_3⟩ := blkC4 BK147.out
                    go_wp2
                    repeat (go_quiet (fail); try go_wp2)
                    go_meet
                    case rel => exact ⟨_, H', ⟨by have := HJ1.out; have := HK2.out; have := HJ6.out; have := HJ16.out; have := HK5.out; first | omega | exact Nat.le_refl _⟩, ⟨dq42⟩, ⟨dq41⟩⟩
                  ·rw [if_neg c35] at H
                   have c35b0 := beq_eq_false_iff_ne.mpr c35
                   have c35b1 := bne_iff_ne.mpr c35
                   by_cases c39 : 0 ≤ x7_5
                   ·rw [if_pos c39] at H
                    have c39b0 := decide_eq_true c39
                    clear c39
                    by_cases c40 : x7_5 < (l0.length : Int)
                    ·rw [if_pos c40] at H
                     have c40b0 := decide_eq_true c40
                     clear c40
                     have H' := Aside0.mk H
                     clear H
                     obtain ⟨⟨hcz41_0, hcz41_1, hcz41_2, hcz41_3⟩, hfz41_0, hfz41_1, hfz41_2, hfz41_3⟩ := blkC4 BK147.out
                     have p152 : 0 ≤ (x7_5 : Int) := of_decide_eq_true dq27
                     have q152 : x7_5 < (l0.length : Int) := of_decide_eq_true dq27
                     obtain ⟨ad152, A152_3, c152_3, e152, hx152_0, hx152_1, hx152_2, hx152_3, hl152_3, hi152_3⟩ := at_T39 HR0.out x7_5 p152 q152
                     obtain rfl : ad146 = ad152 := (by injection e152)
                     replace hx152_0 := (HB.out.cell (World.block_lt_of_cell? w _ hx152_0)).trans hx152_0
                     replace hx152_1 := (HB.out.cell (World.block_lt_of_cell? w _ hx152_1)).trans hx152_1
                     replace hx152_2 := (HB.out.cell (World.block_lt_of_cell? w _ hx152_2)).trans hx152_2
                     replace hx152_3 := (HB.out.cell (World.block_lt_of_cell? w _ hx152_3)).trans hx152_3
                     have HR152_3 := Aside0.mk hi152_3
                     have HC152_3 := Aside0.mk hl152_3
                     clear hi152_3 hl152_3
                     replace p152 := eq_true p152
                     replace q152 := eq_true q152
                     go_wp2
                     repeat (go_quiet (fail); try go_wp2)
                     go_roundg k5
                     case measure => have := HJ1.out; have := HK2.out; have := HJ6.out; have := HJ16.out; have := HK5.out; omega
                     case rel => exact ⟨((rd_T39 l0 x7_5).f0), dq26, H', ⟨by have := HJ1.out; have := HK2.out; have := HJ6.out; have := HJ16.out; have := HK5.out; omega⟩, ⟨dq42⟩, ⟨dq41⟩⟩
                    ·rw [if_neg c40] at H
                     exact absurd H dq31
                   ·rw [if_neg c39] at H
                    exact absurd H dq31
                 ·rw [if_neg c34] at H
                  have c34b0 : decide (0 ≤ x7_5) = false := decide_eq_false c34
                  clear c34
                  by_cases c42 : x7_5 < 0
                  ·rw [if_pos c42] at H
                   have c42b0 := decide_eq_true c42
                   clear c42
                   obtain rfl := Option.some.inj H
                   go_wp2
                   repeat (go_quiet (fail); try go_wp2)
                   go_ret
                   exact ⟨dq25, dq41⟩
                  ·rw [if_neg c42] at H
                   have c42b0 := decide_eq_false c42
                   clear c42
                   have H' := Aside0.mk H
                   clear H
                   go_wp2
                   repeat (go_quiet (fail); try go_wp2)
                   go_meet
                   case rel => exact ⟨_, H', ⟨by have := HJ1.out; have := HK2.out; have := HJ6.out; have := HJ16.out; have := HK5.out; first | omega | exact Nat.le_refl _⟩, ⟨dq42⟩, ⟨dq41⟩⟩
              ·rw [if_neg c33] at H
               have c33b0 : decide (0 < x4_2) = false := decide_eq_false c33
               clear c33
               (first | rw [c33b0] | (simp only [i64_w, i32_w]; rw [c33b0]) | skip)
               have H' := Aside0.mk H
               clear H
               go_wp2
               repeat (go_quiet (fail); try go_wp2)
               go_meet
               case rel => exact ⟨_, H', ⟨by have := HJ1.out; have := HK2.out; have := HJ6.out; have := HJ16.out; first | omega | exact Nat.le_refl _⟩, ⟨dq42⟩, ⟨dq41⟩⟩
             case rest =>
              clear HC32
              try clear c1
              try clear p1
              try clear q1
              try clear hx1
              try clear c2
              try clear p2
              try clear c3
              try clear c3b0
              try clear c3b1
              try clear c4
              try clear c5
              try clear c5b0
              try clear c6
              try clear c6b0
              try clear p6
              try clear c10
              try clear c10b0
              try clear c11
              try clear c11b0
              try clear c12
              try clear c12b0
              try clear c14
              try clear p14
              try clear q14
              try clear hx14
              try clear c15
              try clear p15
              try clear q15
              try clear hx15
              try clear c16
              try clear c16b0
              try clear c18
              try clear c18b0
              try clear c18b1
              try clear c19
              try clear c19b0
              try clear c19b1
              try clear c20
              try clear c20b0
              try clear c20b1
              try clear c23
              try clear c25
              try clear c26
              try clear c26b0
              try clear c27
              try clear c27b0
              try clear c28
              try clear c28b0
              try clear c28b1
              try clear c33
              try clear c33b0
              try clear c34
              try clear c34b0
              try clear c35
              try clear c35b0
              try clear c35b1
              try clear c36
              try clear c36b0
              try clear c39
              try clear c39b0
              try clear c40
              try clear c40b0
              try clear c42
              try clear c42b0
              try clear hcz13_0
              try clear hcz13_1
              try clear hcz13_2
              try clear hcz13_3
              try clear hcz14_0
              try clear hcz14_1
              try clear hcz14_2
              try clear hcz14_3
              try clear hcz15_0
              try clear hcz15_1
              try clear hcz15_2
              try clear hcz15_3
              try clear hcz21_0
              try clear hcz21_1
              try clear hcz21_2
              try clear hcz21_3
              try clear hcz22_0
              try clear hcz22_1
              try clear hcz22_2
              try clear hcz22_3
              try clear hcz23_0
              try clear hcz23_1
              try clear hcz23_2
              try clear hcz23_3
              try clear hcz29_0
              try clear hcz29_1
              try clear hcz29_2
              try clear hcz29_3
              try clear hcz30_0
              try clear hcz30_1
              try clear hcz30_2
              try clear hcz30_3
              try clear hcz31_0
              try clear hcz31_1
              try clear hcz31_2
              try clear hcz31_3
              try clear hcz37_0
              try clear hcz37_1
              try clear hcz37_2
              try clear hcz37_3
              try clear hcz38_0
              try clear hcz38_1
              try clear hcz38_2
              try clear hcz38_3
              try clear hcz41_0
              try clear hcz41_1
              try clear hcz41_2
              try clear hcz41_3
              try clear hcz9_0
              try clear hcz9_1
              try clear hcz9_2
              try clear hcz9_3
              try clear hfz13_0
              try clear hfz13_1
              try clear hfz13_2
              try clear hfz13_3
              try clear hfz14_0
              try clear hfz14_1
              try clear hfz14_2
              try clear hfz14_3
              try clear hfz15_0
              try clear hfz15_1
              try clear hfz15_2
              try clear hfz15_3
              try clear hfz21_0
              try clear hfz21_1
              try clear hfz21_2
              try clear hfz21_3
              try clear hfz22_0
              try clear hfz22_1
              try clear hfz22_2
              try clear hfz22_3
              try clear hfz23_0
              try clear hfz23_1
              try clear hfz23_2
              try clear hfz23_3
              try clear hfz29_0
              try clear hfz29_1
              try clear hfz29_2
              try clear hfz29_3
              try clear hfz30_0
              try clear hfz30_1
              try clear hfz30_2
              try clear hfz30_3
              try clear hfz31_0
              try clear hfz31_1
              try clear hfz31_2
              try clear hfz31_3
              try clear hfz37_0
              try clear hfz37_1
              try clear hfz37_2
              try clear hfz37_3
              try clear hfz38_0
              try clear hfz38_1
              try clear hfz38_2
              try clear hfz38_3
              try clear hfz41_0
              try clear hfz41_1
              try clear hfz41_2
              try clear hfz41_3
              try clear hfz9_0
              try clear hfz9_1
              try clear hfz9_2
              try clear hfz9_3
              try clear hx146_0
              try clear hx146_1
              try clear hx146_2
              try clear hx146_3
              try clear hx148_0
              try clear hx148_1
              try clear hx149_0
              try clear hx149_1
              try clear hx151_0
              try clear hx151_1
              try clear hx151_2
              try clear hx151_3
              try clear hx152_0
              try clear hx152_1
              try clear hx152_2
              try clear hx152_3
              try clear p1
              try clear p14
              try clear p146
              try clear p148
              try clear p149
              try clear p15
              try clear p151
              try clear p152
              try clear p2
              try clear p6
              try clear q1
              try clear q14
              try clear q146
              try clear q148
              try clear q149
              try clear q15
              try clear q151
              try clear q152
              obtain ⟨kq, HA, HJ31, BK147, HB⟩ := hcut
              cases kq with
              | zero => exact absurd HA.out (by simp [spec_DocOk.j6])
              | succ kj31 =>
               have H := HA.out
               clear HA
               simp only [spec_DocOk.j6] at H
               replace H := Option.bind_eq_some_iff.mp H
               obtain ⟨t153, A430, H⟩ := H
               replace H : (if t153 ≥ 20 then (some false) else (if ((rd_T39 l0 x4_2).f1).toList = ([] : List UInt8) then (if ((rd_T39 l0 x4_2).f2).toList = ([] : List UInt8) then (spec_DocOk.j7 kj31 l0 x3_6 x4_2 true ((rd_T39 l0 x4_2).f0) ((rd_T39 l0 x4_2).f1) ((rd_T39 l0 x4_2).f2) ((rd_T39 l0 x4_2).f3)) else (if (((rd_T39 l0 x4_2).f3).length : Int) > 0 then (spec_DocOk.j7 kj31 l0 x3_6 x4_2 true ((rd_T39 l0 x4_2).f0) ((rd_T39 l0 x4_2).f1) ((rd_T39 l0 x4_2).f2) ((rd_T39 l0 x4_2).f3)) else ((spec_l1Text.f kj31 ((rd_T39 l0 x4_2).f2)).bind fun t154 => (spec_DocOk.j7 kj31 l0 x3_6 x4_2 (!t154) ((rd_T39 l0 x4_2).f0) ((rd_T39 l0 x4_2).f1) ((rd_T39 l0 x4_2).f2) ((rd_T39 l0 x4_2).f3))))) else (if ((rd_T39 l0 x4_2).f2).toList = ([] : List UInt8) then ((spec_l1Qual.f kj31 ((rd_T39 l0 x4_2).f1)).bind fun t157 => (if t157 = true then ((spec_l2Attrs.f kj31 ((rd_T39 l0 x4_2).f3)).bind fun t158 => (if t158 = true then (spec_DocOk.l0 kj31 l0 x3_6 (wrap64 (x4_2 + 1))) else (some false))) else (some false))) else (some false)))) = some r := H
               have A43 := Aside0.mk A430
               clear A430
               by_cases c44 : t153 ≥ 20
               ·rw [if_pos c44] at H
                have c44b0 : decide (20 ≤ t153) = true := decide_eq_true c44
                clear c44
                obtain rfl := Option.some.inj H
                go_wp2_with (first | (go_at_call 57; (with_reducible refine (spec_l2Deep.calls kj31 _ _ l0 x4_2 t153 _ ?side1 ?side2 A43.out).mono ?_); (case side1 => exact dq3); (case side2 => exact dq4); rintro e w' ⟨rfl, ⟨nd, rfl⟩⟩; (try first | exact ⟨rfl, _, World.drewN_drewN _ _ _⟩ | exact ⟨rfl, _, Eq.trans (World.drewN_drewN _ _ _) (congrArg (World.drewN _) (Nat.add_assoc _ _ _))⟩)))
                repeat (go_quiet (first | (go_at_call 57; (with_reducible refine (spec_l2Deep.calls kj31 _ _ l0 x4_2 t153 _ ?side1 ?side2 A43.out).mono ?_); (case side1 => exact dq3); (case side2 => exact dq4); rintro e w' ⟨rfl, ⟨nd, rfl⟩⟩; (try first | exact ⟨rfl, _, World.drewN_drewN _ _ _⟩ | exact ⟨rfl, _, Eq.trans (World.drewN_drewN _ _ _) (congrArg (World.drewN _) (Nat.add_assoc _ _ _))⟩))); try go_wp2_with (first | (go_at_call 57; (with_reducible refine (spec_l2Deep.calls kj31 _ _ l0 x4_2 t153 _ ?side1 ?side2 A43.out).mono ?_); (case side1 => exact dq3); (case side2 => exact dq4); rintro e w' ⟨rfl, ⟨nd, rfl⟩⟩; (try first | exact ⟨rfl, _, World.drewN_drewN _ _ _⟩ | exact ⟨rfl, _, Eq.trans (World.drewN_drewN _ _ _) (congrArg (World.drewN _) (Nat.add_assoc _ _ _))⟩))))
                go_ret
                exact ⟨dq25, dq41⟩
               ·rw [if_neg c44] at H
                have c44b0 : decide (20 ≤ t153) = false := decide_eq_false c44
                clear c44
                by_cases c45 : ((rd_T39 l0 x4_2).f1).toList = ([] : List UInt8)
                ·rw [if_pos c45] at H
                 have c45b0 := beq_iff_eq.mpr c45
                 have c45b1 := bne_eq_false_iff_eq.mpr c45
                 clear c45
                 have HC46 := Aside0.mk H
                 clear H
                 go_upto_region 29 with (first | (go_at_call 57; (with_reducible refine (spec_l2Deep.calls kj31 _ _ l0 x4_2 t153 _ ?side1 ?side2 A43.out).mono ?_); (case side1 => exact dq3); (case side2 => exact dq4); rintro e w' ⟨rfl, ⟨nd, rfl⟩⟩; (try first | exact ⟨rfl, _, World.drewN_drewN _ _ _⟩ | exact ⟨rfl, _, Eq.trans (World.drewN_drewN _ _ _) (congrArg (World.drewN _) (Nat.add_assoc _ _ _))⟩); obtain ⟨⟨hcz47_0, hcz47_1, hcz47_2, hcz47_3⟩, hfz47_0, hfz47_1, hfz47_2, hfz47_3⟩ := blkC4 BK147.out))
                 repeat (go_quiet (first | (go_at_call 57; (with_reducible refine (spec_l2Deep.calls kj31 _ _ l0 x4_2 t153 _ ?side1 ?side2 A43.out).mono ?_); (case side1 => exact dq3); (case side2 => exact dq4); rintro e w' ⟨rfl, ⟨nd, rfl⟩⟩; (try first | exact ⟨rfl, _, World.drewN_drewN _ _ _⟩ | exact ⟨rfl, _, Eq.trans (World.drewN_drewN _ _ _) (congrArg (World.drewN _) (Nat.add_assoc _ _ _))⟩); obtain ⟨⟨hcz47_0, hcz47_1, hcz47_2, hcz47_3⟩, hfz47_0, hfz47_1, hfz47_2, hfz47_3⟩ := blkC4 BK147.out)); go_upto_region 29 with (first | (go_at_call 57; (with_reducible refine (spec_l2Deep.calls kj31 _ _ l0 x4_2 t153 _ ?side1 ?side2 A43.out).mono ?_); (case side1 => exact dq3); (case side2 => exact dq4); rintro e w' ⟨rfl, ⟨nd, rfl⟩⟩; (try first | exact ⟨rfl, _, World.drewN_drewN _ _ _⟩ | exact ⟨rfl, _, Eq.trans (World.drewN_drewN _ _ _) (congrArg (World.drewN _) (Nat.add_assoc _ _ _))⟩); obtain ⟨⟨hcz47_0, hcz47_1, hcz47_2, hcz47_3⟩, hfz47_0, hfz47_1, hfz47_2, hfz47_3⟩ := blkC4 BK147.out)))
                 (try simp only [Act.put, List.setIfInBounds_toArray, List.set_cons_zero, List.set_cons_succ])
                 go_cut [130] (fun v130 wc => ∃ (kq : Nat) (x130_45 : Bool), v130 = .bool x130_45 ∧ Aside0 (spec_DocOk.j7 kq l0 x3_6 x4_2 x130_45 ((rd_T39 l0 x4_2).f0) ((rd_T39 l0 x4_2).f1) ((rd_T39 l0 x4_2).f2) ((rd_T39 l0 x4_2).f3) = some r) ∧ Aside0 (kq ≤ kj31) ∧ Aside0 (wc.heap[gb147]? = some (.cells #[.int .i64 ((rd_T39 l0 x4_2).f0), .string ((rd_T39 l0 x4_2).f1), .string ((rd_T39 l0 x4_2).f2), (.slice A146_3 ((rd_T39 l0 x4_2).f3).length c146_3)] 39 (0, 0))) ∧ Aside0 (Below w.heap.size w wc))
                 case first =>
                  have H := HC46.out
                  clear HC46
                  by_cases c48 : ((rd_T39 l0 x4_2).f2).toList = ([] : List UInt8)
                  ·rw [if_pos c48] at H
                   have c48b0 := beq_iff_eq.mpr c48
                   have c48b1 := bne_eq_false_iff_eq.mpr c48
                   clear c48
                   (first | rw [c48b0] | (simp only [i64_w, i32_w]; rw [c48b0]) | skip)
                   have H' := Aside0.mk H
                   clear H
                   obtain ⟨⟨hcz49_0, hcz49_1, hcz49_2, hcz49_3⟩, hfz49_0, hfz49_1, hfz49_2, hfz49_3⟩ := blkC4 BK147.out
                   go_wp2
                   repeat (go_quiet (fail); try go_wp2)
                   go_meet
                   case rel => exact ⟨_, (true), dq26, H', ⟨dq44⟩, ⟨dq42⟩, ⟨dq41⟩⟩
                  ·rw [if_neg c48] at H
                   have c48b0 := beq_eq_false_iff_ne.mpr c48
                   have c48b1 := bne_iff_ne.mpr c48
                   (first | rw [c48b0] | (simp only [i64_w, i32_w]; rw [c48b0]) | skip)
                   by_cases c50 : (((rd_T39 l0 x4_2).f3).length : Int) > 0
                   ·rw [if_pos c50] at H
                    have c50b0 : decide (0 < (((rd_T39 l0 x4_2).f3).length : Int)) = true := decide_eq_true c50
                    have c50b1 : decide (0 < ((rd_T39 l0 x4_2).f3).length) = true := decide_eq_true dq34
                    clear c50
                    have H' := Aside0.mk H
                    clear H
                    obtain ⟨⟨hcz51_0, hcz51_1, hcz51_2, hcz51_3⟩, hfz51_0, hfz51_1, hfz51_2, hfz51_3⟩ := blkC4 BK147.out
                    go_wp2
                    repeat (go_quiet (fail); try go_wp2)
                    go_meet
                    case rel => exact ⟨_, (true), dq26, H', ⟨dq44⟩, ⟨dq42⟩, ⟨dq41⟩⟩
                   ·rw [if_neg c50] at H
                    have c50b0 : decide (0 < (((rd_T39 l0 x4_2).f3).length : Int)) = false := decide_eq_false c50
                    have c50b1 : decide (0 < ((rd_T39 l0 x4_2).f3).length) = false := decide_eq_false dq34
                    clear c50
                    replace H := Option.bind_eq_some_iff.mp H
                    obtain ⟨t154, A520, H⟩ := H
                    replace H : (spec_DocOk.j7 kj31 l0 x3_6 x4_2 (!t154) ((rd_T39 l0 x4_2).f0) ((rd_T39 l0 x4_2).f1) ((rd_T39 l0 x4_2).f2) ((rd_T39 l0 x4_2).f3)) = some r := H
                    have A52 := Aside0.mk A520
                    clear A520
                    have H' := Aside0.mk H
                    clear H
                    obtain ⟨⟨hcz53_0, hcz53_1, hcz53_2, hcz53_3⟩, hfz53_0, hfz53_1, hfz53_2, hfz53_3⟩ := blkC4 BK147.out
                    go_wp2_with (first | (go_at_call 58; (with_reducible refine (spec_l1Text.calls kj31 ((rd_T39 l0 x4_2).f2) t154 _ A52.out).mono ?_); rintro e w54 ⟨rfl, hb⟩; have n0_ := Aside0.mk (blk_below (g := gb147) (o := .cells #[.int .i64 ((rd_T39 l0 x4_2).f0), .string ((rd_T39 l0 x4_2).f1), .string ((rd_T39 l0 x4_2).f2), .slice A146_3 ((rd_T39 l0 x4_2).f3).length c146_3] 39 (0, 0)) dq42 hb); have n1_ := Aside0.mk (below_step dq41 hb); clear BK147; clear HB; have BK147 := n0_; have HB := n1_; clear n0_ n1_; (try clear hb); (try clear hb2); (try clear hk); (try clear hi)))
                    repeat (go_quiet (first | (go_at_call 58; (with_reducible refine (spec_l1Text.calls kj31 ((rd_T39 l0 x4_2).f2) t154 _ A52.out).mono ?_); rintro e w54 ⟨rfl, hb⟩; have n0_ := Aside0.mk (blk_below (g := gb147) (o := .cells #[.int .i64 ((rd_T39 l0 x4_2).f0), .string ((rd_T39 l0 x4_2).f1), .string ((rd_T39 l0 x4_2).f2), .slice A146_3 ((rd_T39 l0 x4_2).f3).length c146_3] 39 (0, 0)) dq42 hb); have n1_ := Aside0.mk (below_step dq41 hb); clear BK147; clear HB; have BK147 := n0_; have HB := n1_; clear n0_ n1_; (try clear hb); (try clear hb2); (try clear hk); (try clear hi))); try go_wp2_with (first | (go_at_call 58; (with_reducible refine (spec_l1Text.calls kj31 ((rd_T39 l0 x4_2).f2) t154 _ A52.out).mono ?_); rintro e w54 ⟨rfl, hb⟩; have n0_ := Aside0.mk (blk_below (g := gb147) (o := .cells #[.int .i64 ((rd_T39 l0 x4_2).f0), .string ((rd_T39 l0 x4_2).f1), .string ((rd_T39 l0 x4_2).f2), .slice A146_3 ((rd_T39 l0 x4_2).f3).length c146_3] 39 (0, 0)) dq42 hb); have n1_ := Aside0.mk (below_step dq41 hb); clear BK147; clear HB; have BK147 := n0_; have HB := n1_; clear n0_ n1_; (try clear hb); (try clear hb2); (try clear hk); (try clear hi))))
                    go_meet
                    case rel => exact ⟨_, (!t154), dq26, H', ⟨dq44⟩, ⟨dq42⟩, ⟨dq41⟩⟩
                 case rest =>
                  clear HC46
                  try clear c1
                  try clear p1
                  try clear q1
                  try clear hx1
                  try clear c2
                  try clear p2
                  try clear c3
                  try clear c3b0
                  try clear c3b1
                  try clear c4
                  try clear c5
                  try clear c5b0
                  try clear c6
                  try clear c6b0
                  try clear p6
                  try clear c10
                  try clear c10b0
                  try clear c11
                  try clear c11b0
                  try clear c12
                  try clear c12b0
                  try clear c14
                  try clear p14
                  try clear q14
                  try clear hx14
                  try clear c15
                  try clear p15
                  try clear q15
                  try clear hx15
                  try clear c16
                  try clear c16b0
                  try clear c18
                  try clear c18b0
                  try clear c18b1
                  try clear c19
                  try clear c19b0
                  try clear c19b1
                  try clear c20
                  try clear c20b0
                  try clear c20b1
                  try clear c23
                  try clear c25
                  try clear c26
                  try clear c26b0
                  try clear c27
                  try clear c27b0
                  try clear c28
                  try clear c28b0
                  try clear c28b1
                  try clear c33
                  try clear c33b0
                  try clear c34
                  try clear c34b0
                  try clear c35
                  try clear c35b0
                  try clear c35b1
                  try clear c36
                  try clear c36b0
                  try clear c39
                  try clear c39b0
                  try clear c40
                  try clear c40b0
                  try clear c42
                  try clear c42b0
                  try clear c44
                  try clear c44b0
                  try clear c45
                  try clear c45b0
                  try clear c45b1
                  try clear c48
                  try clear c48b0
                  try clear c48b1
                  try clear c50
                  try clear c50b0
                  try clear c50b1
                  try clear hcz13_0
                  try clear hcz13_1
                  try clear hcz13_2
                  try clear hcz13_3
                  try clear hcz14_0
                  try clear hcz14_1
                  try clear hcz14_2
                  try clear hcz14_3
                  try clear hcz15_0
                  try clear hcz15_1
                  try clear hcz15_2
                  try clear hcz15_3
                  try clear hcz21_0
                  try clear hcz21_1
                  try clear hcz21_2
                  try clear hcz21_3
                  try clear hcz22_0
                  try clear hcz22_1
                  try clear hcz22_2
                  try clear hcz22_3
                  try clear hcz23_0
                  try clear hcz23_1
                  try clear hcz23_2
                  try clear hcz23_3
                  try clear hcz29_0
                  try clear hcz29_1
                  try clear hcz29_2
                  try clear hcz29_3
                  try clear hcz30_0
                  try clear hcz30_1
                  try clear hcz30_2
                  try clear hcz30_3
                  try clear hcz31_0
                  try clear hcz31_1
                  try clear hcz31_2
                  try clear hcz31_3
                  try clear hcz37_0
                  try clear hcz37_1
                  try clear hcz37_2
                  try clear hcz37_3
                  try clear hcz38_0
                  try clear hcz38_1
                  try clear hcz38_2
                  try clear hcz38_3
                  try clear hcz41_0
                  try clear hcz41_1
                  try clear hcz41_2
                  try clear hcz41_3
                  try clear hcz47_0
                  try clear hcz47_1
                  try clear hcz47_2
                  try clear hcz47_3
                  try clear hcz49_0
                  try clear hcz49_1
                  try clear hcz49_2
                  try clear hcz49_3
                  try clear hcz51_0
                  try clear hcz51_1
                  try clear hcz51_2
                  try clear hcz51_3
                  try clear hcz53_0
                  try clear hcz53_1
                  try clear hcz53_2
                  try clear hcz53_3
                  try clear hcz9_0
                  try clear hcz9_1
                  try clear hcz9_2
                  try clear hcz9_3
                  try clear hfz13_0
                  try clear hfz13_1
                  try clear hfz13_2
                  try clear hfz13_3
                  try clear hfz14_0
                  try clear hfz14_1
                  try clear hfz14_2
                  try clear hfz14_3
                  try clear hfz15_0
                  try clear hfz15_1
                  try clear hfz15_2
                  try clear hfz15_3
                  try clear hfz21_0
                  try clear hfz21_1
                  try clear hfz21_2
                  try clear hfz21_3
                  try clear hfz22_0
                  try clear hfz22_1
                  try clear hfz22_2
                  try clear hfz22_3
                  try clear hfz23_0
                  try clear hfz23_1
                  try clear hfz23_2
                  try clear hfz23_3
                  try clear hfz29_0
                  try clear hfz29_1
                  try clear hfz29_2
                  try clear hfz29_3
                  try clear hfz30_0
                  try clear hfz30_1
                  try clear hfz30_2
                  try clear hfz30_3
                  try clear hfz31_0
                  try clear hfz31_1
                  try clear hfz31_2
                  try clear hfz31_3
                  try clear hfz37_0
                  try clear hfz37_1
                  try clear hfz37_2
                  try clear hfz37_3
                  try clear hfz38_0
                  try clear hfz38_1
                  try clear hfz38_2
                  try clear hfz38_3
                  try clear hfz41_0
                  try clear hfz41_1
                  try clear hfz41_2
                  try clear hfz41_3
                  try clear hfz47_0
                  try clear hfz47_1
                  try clear hfz47_2
                  try clear hfz47_3
                  try clear hfz49_0
                  try clear hfz49_1
                  try clear hfz49_2
                  try clear hfz49_3
                  try clear hfz51_0
                  try clear hfz51_1
                  try clear hfz51_2
                  try clear hfz51_3
                  try clear hfz53_0
                  try clear hfz53_1
                  try clear hfz53_2
                  try clear hfz53_3
                  try clear hfz9_0
                  try clear hfz9_1
                  try clear hfz9_2
                  try clear hfz9_3
                  try clear hx146_0
                  try clear hx146_1
                  try clear hx146_2
                  try clear hx146_3
                  try clear hx148_0
                  try clear hx148_1
                  try clear hx149_0
                  try clear hx149_1
                  try clear hx151_0
                  try clear hx151_1
                  try clear hx151_2
                  try clear hx151_3
                  try clear hx152_0
                  try clear hx152_1
                  try clear hx152_2
                  try clear hx152_3
                  try clear p1
                  try clear p14
                  try clear p146
                  try clear p148
                  try clear p149
                  try clear p15
                  try clear p151
                  try clear p152
                  try clear p2
                  try clear p6
                  try clear q1
                  try clear q14
                  try clear q146
                  try clear q148
                  try clear q149
                  try clear q15
                  try clear q151
                  try clear q152
                  obtain ⟨kq, x130_45, rfl, HA, HJ45, BK147, HB⟩ := hcut
                  cases kq with
                  | zero => exact absurd HA.out (by simp [spec_DocOk.j7])
                  | succ kj45 =>
                   have H := HA.out
                   clear HA
                   simp only [spec_DocOk.j7] at H
                   by_cases c55 : x130_45 = true
                   ·subst c55
                    have H1 : (some false) = some r := by rw [if_pos rfl] at H; exact H
                    clear H
                    have H := H1
                    clear H1
                    obtain rfl := Option.some.inj H
                    go_wp2
                    repeat (go_quiet (fail); try go_wp2)
                    go_ret
                    exact ⟨dq25, dq41⟩
                   ·replace c55 := Bool.eq_false_iff.mpr c55
                    subst c55
                    have H1 : (if 0 ≤ (wrap64 (x4_2 - 1)) then (if (wrap64 (x4_2 - 1)) < (l0.length : Int) then (if ((rd_T39 l0 (wrap64 (x4_2 - 1))).f1).toList = ([] : List UInt8) then (if ((rd_T39 l0 (wrap64 (x4_2 - 1))).f0) = ((rd_T39 l0 x4_2).f0) then (some false) else (spec_DocOk.l0 kj45 l0 x3_6 (wrap64 (x4_2 + 1)))) else (spec_DocOk.l0 kj45 l0 x3_6 (wrap64 (x4_2 + 1)))) else (none)) else (none)) = some r := by rw [if_neg (show ¬ (false = true) by decide)] at H; exact H
                    clear H
                    have H := H1
                    clear H1
                    obtain ⟨ji56, hji56⟩ : ∃ j_ : Int, (wrap64 (x4_2 - 1)) = j_ := ⟨_, rfl⟩
                    replace H : (if 0 ≤ (ji56) then (if (ji56) < (l0.length : Int) then (if ((rd_T39 l0 (ji56)).f1).toList = ([] : List UInt8) then (if ((rd_T39 l0 (ji56)).f0) = ((rd_T39 l0 x4_2).f0) then (some false) else (spec_DocOk.l0 kj45 l0 x3_6 (wrap64 (x4_2 + 1)))) else (spec_DocOk.l0 kj45 l0 x3_6 (wrap64 (x4_2 + 1)))) else (none)) else (none)) = some r := by first | (rw [hji56] at H; exact H) | (simp only [hji56] at H ⊢; exact H)
                    have hji56w : (IntKind.i64.wrap (x4_2 - 1)) = ji56 := (i64_w _).trans hji56
                    by_cases c57 : 0 ≤ (ji56)
                    ·rw [if_pos c57] at H
                     have c57b0 := decide_eq_true c57
                     clear c57
                     by_cases c58 : (ji56) < (l0.length : Int)
                     ·rw [if_pos c58] at H
                      have c58b0 := decide_eq_true c58
                      clear c58
                      by_cases c59 : ((rd_T39 l0 (ji56)).f1).toList = ([] : List UInt8)
                      ·rw [if_pos c59] at H
                       have c59b0 := beq_iff_eq.mpr c59
                       have c59b1 := bne_eq_false_iff_eq.mpr c59
                       clear c59
                       by_cases c60 : ((rd_T39 l0 (ji56)).f0) = ((rd_T39 l0 x4_2).f0)
                       ·rw [if_pos c60] at H
                        have c60b0 := beq_iff_eq.mpr c60
                        have c60b1 := bne_eq_false_iff_eq.mpr c60
                        clear c60
                        obtain rfl := Option.some.inj H
                        have p155 : 0 ≤ ((ji56) : Int) := of_decide_eq_true dq27
                        have q155 : (ji56) < (l0.length : Int) := of_decide_eq_true dq27
                        obtain ⟨ad155, A155_3, c155_3, e155, hx155_0, hx155_1, hx155_2, hx155_3, hl155_3, hi155_3⟩ := at_T39 HR0.out (ji56) p155 q155
                        obtain rfl : ad146 = ad155 := (by injection e155)
                        replace hx155_0 := (HB.out.cell (World.block_lt_of_cell? w _ hx155_0)).trans hx155_0
                        replace hx155_1 := (HB.out.cell (World.block_lt_of_cell? w _ hx155_1)).trans hx155_1
                        replace hx155_2 := (HB.out.cell (World.block_lt_of_cell? w _ hx155_2)).trans hx155_2
                        replace hx155_3 := (HB.out.cell (World.block_lt_of_cell? w _ hx155_3)).trans hx155_3
                        have HR155_3 := Aside0.mk hi155_3
                        have HC155_3 := Aside0.mk hl155_3
                        clear hi155_3 hl155_3
                        replace p155 := eq_true p155
                        replace q155 := eq_true q155
                        have p156 : 0 ≤ ((ji56) : Int) := of_decide_eq_true dq27
                        have q156 : (ji56) < (l0.length : Int) := of_decide_eq_true dq27
                        obtain ⟨ad156, A156_3, c156_3, e156, hx156_0, hx156_1, hx156_2, hx156_3, hl156_3, hi156_3⟩ := at_T39 HR0.out (ji56) p156 q156
                        obtain rfl : ad146 = ad156 := (by injection e156)
                        replace hx156_0 := (HB.out.cell (World.block_lt_of_cell? w _ hx156_0)).trans hx156_0
                        replace hx156_1 := (HB.out.cell (World.block_lt_of_cell? w _ hx156_1)).trans hx156_1
                        replace hx156_2 := (HB.out.cell (World.block_lt_of_cell? w _ hx156_2)).trans hx156_2
                        replace hx156_3 := (HB.out.cell (World.block_lt_of_cell? w _ hx156_3)).trans hx156_3
                        have HR156_3 := Aside0.mk hi156_3
                        have HC156_3 := Aside0.mk hl156_3
                        clear hi156_3 hl156_3
                        replace p156 := eq_true p156
                        replace q156 := eq_true q156
                        have ea_ := Option.some.inj (hx155_3.symm.trans hx156_3)
                        injection ea_ with ea_ en_ ec_
                        subst ea_
                        subst ec_
                        clear en_
                        obtain ⟨⟨hcz61_0, hcz61_1, hcz61_2, hcz61_3⟩, hfz61_0, hfz61_1, hfz61_2, hfz61_3⟩ := blkC4 BK147.out
                        go_wp2
                        repeat (go_quiet (fail); try go_wp2)
                        go_ret
                        exact ⟨by first | rfl | (simp [errW_none, errW_some] <;> rfl) | (simp only [← hji56]; first | rfl | (simp [errW_none, errW_some] <;> rfl)) | (simp [*, errW_none, errW_some] <;> rfl), dq41⟩
                       ·rw [if_neg c60] at H
                        have c60b0 := beq_eq_false_iff_ne.mpr c60
                        have c60b1 := bne_iff_ne.mpr c60
                        have H' := Aside0.mk H
                        clear H
                        have p155 : 0 ≤ ((ji56) : Int) := of_decide_eq_true dq27
                        have q155 : (ji56) < (l0.length : Int) := of_decide_eq_true dq27
                        obtain ⟨ad155, A155_3, c155_3, e155, hx155_0, hx155_1, hx155_2, hx155_3, hl155_3, hi155_3⟩ := at_T39 HR0.out (ji56) p155 q155
                        obtain rfl : ad146 = ad155 := (by injection e155)
                        replace hx155_0 := (HB.out.cell (World.block_lt_of_cell? w _ hx155_0)).trans hx155_0
                        replace hx155_1 := (HB.out.cell (World.block_lt_of_cell? w _ hx155_1)).trans hx155_1
                        replace hx155_2 := (HB.out.cell (World.block_lt_of_cell? w _ hx155_2)).trans hx155_2
                        replace hx155_3 := (HB.out.cell (World.block_lt_of_cell? w _ hx155_3)).trans hx155_3
                        have HR155_3 := Aside0.mk hi155_3
                        have HC155_3 := Aside0.mk hl155_3
                        clear hi155_3 hl155_3
                        replace p155 := eq_true p155
                        replace q155 := eq_true q155
                        have p156 : 0 ≤ ((ji56) : Int) := of_decide_eq_true dq27
                        have q156 : (ji56) < (l0.length : Int) := of_decide_eq_true dq27
                        obtain ⟨ad156, A156_3, c156_3, e156, hx156_0, hx156_1, hx156_2, hx156_3, hl156_3, hi156_3⟩ := at_T39 HR0.out (ji56) p156 q156
                        obtain rfl : ad146 = ad156 := (by injection e156)
                        replace hx156_0 := (HB.out.cell (World.block_lt_of_cell? w _ hx156_0)).trans hx156_0
                        replace hx156_1 := (HB.out.cell (World.block_lt_of_cell? w _ hx156_1)).trans hx156_1
                        replace hx156_2 := (HB.out.cell (World.block_lt_of_cell? w _ hx156_2)).trans hx156_2
                        replace hx156_3 := (HB.out.cell (World.block_lt_of_cell? w _ hx156_3)).trans hx156_3
                        have HR156_3 := Aside0.mk hi156_3
                        have HC156_3 := Aside0.mk hl156_3
                        clear hi156_3 hl156_3
                        replace p156 := eq_true p156
                        replace q156 := eq_true q156
                        have ea_ := Option.some.inj (hx155_3.symm.trans hx156_3)
                        injection ea_ with ea_ en_ ec_
                        subst ea_
                        subst ec_
                        clear en_
                        obtain ⟨⟨hcz62_0, hcz62_1, hcz62_2, hcz62_3⟩, hfz62_0, hfz62_1, hfz62_2, hfz62_3⟩ := blkC4 BK147.out
                        go_wp2
                        repeat (go_quiet (fail); try go_wp2)
                        go_roundg kj45
                        case measure => have := HJ1.out; have := HK2.out; have := HJ6.out; have := HJ16.out; have := HJ31.out; have := HJ45.out; omega
                        case rel => exact ⟨(x3_6), (wrap64 (x4_2 + 1)), dq26, dq26, H', ⟨by have := HJ1.out; have := HK2.out; have := HJ6.out; have := HJ16.out; have := HJ31.out; have := HJ45.out; omega⟩, ⟨dq41⟩⟩
                      ·rw [if_neg c59] at H
                       have c59b0 := beq_eq_false_iff_ne.mpr c59
                       have c59b1 := bne_iff_ne.mpr c59
                       have H' := Aside0.mk H
                       clear H
                       have p155 : 0 ≤ ((ji56) : Int) := of_decide_eq_true dq27
                       have q155 : (ji56) < (l0.length : Int) := of_decide_eq_true dq27
                       obtain ⟨ad155, A155_3, c155_3, e155, hx155_0, hx155_1, hx155_2, hx155_3, hl155_3, hi155_3⟩ := at_T39 HR0.out (ji56) p155 q155
                       obtain rfl : ad146 = ad155 := (by injection e155)
                       replace hx155_0 := (HB.out.cell (World.block_lt_of_cell? w _ hx155_0)).trans hx155_0
                       replace hx155_1 := (HB.out.cell (World.block_lt_of_cell? w _ hx155_1)).trans hx155_1
                       replace hx155_2 := (HB.out.cell (World.block_lt_of_cell? w _ hx155_2)).trans hx155_2
                       replace hx155_3 := (HB.out.cell (World.block_lt_of_cell? w _ hx155_3)).trans hx155_3
                       have HR155_3 := Aside0.mk hi155_3
                       have HC155_3 := Aside0.mk hl155_3
                       clear hi155_3 hl155_3
                       replace p155 := eq_true p155
                       replace q155 := eq_true q155
                       go_wp2
                       repeat (go_quiet (fail); try go_wp2)
                       go_roundg kj45
                       case measure => have := HJ1.out; have := HK2.out; have := HJ6.out; have := HJ16.out; have := HJ31.out; have := HJ45.out; omega
                       case rel => exact ⟨(x3_6), (wrap64 (x4_2 + 1)), dq26, dq26, H', ⟨by have := HJ1.out; have := HK2.out; have := HJ6.out; have := HJ16.out; have := HJ31.out; have := HJ45.out; omega⟩, ⟨dq41⟩⟩
                     ·rw [if_neg c58] at H
                      exact absurd H dq31
                    ·rw [if_neg c57] at H
                     exact absurd H dq31
                ·rw [if_neg c45] at H
                 have c45b0 := beq_eq_false_iff_ne.mpr c45
                 have c45b1 := bne_iff_ne.mpr c45
                 by_cases c63 : ((rd_T39 l0 x4_2).f2).toList = ([] : List UInt8)
                 ·rw [if_pos c63] at H
                  have c63b0 := beq_iff_eq.mpr c63
                  have c63b1 := bne_eq_false_iff_eq.mpr c63
                  clear c63
                  replace H := Option.bind_eq_some_iff.mp H
                  obtain ⟨t157, A640, H⟩ := H
                  replace H : (if t157 = true then ((spec_l2Attrs.f kj31 ((rd_T39 l0 x4_2).f3)).bind fun t158 => (if t158 = true then (spec_DocOk.l0 kj31 l0 x3_6 (wrap64 (x4_2 + 1))) else (some false))) else (some false)) = some r := H
                  have A64 := Aside0.mk A640
                  clear A640
                  by_cases c65 : t157 = true
                  ·subst c65
                   have H1 : ((spec_l2Attrs.f kj31 ((rd_T39 l0 x4_2).f3)).bind fun t158 => (if t158 = true then (spec_DocOk.l0 kj31 l0 x3_6 (wrap64 (x4_2 + 1))) else (some false))) = some r := by rw [if_pos rfl] at H; exact H
                   clear H
                   have H := H1
                   clear H1
                   replace H := Option.bind_eq_some_iff.mp H
                   obtain ⟨t158, A660, H⟩ := H
                   replace H : (if t158 = true then (spec_DocOk.l0 kj31 l0 x3_6 (wrap64 (x4_2 + 1))) else (some false)) = some r := H
                   have A66 := Aside0.mk A660
                   clear A660
                   by_cases c67 : t158 = true
                   ·subst c67
                    have H1 : (spec_DocOk.l0 kj31 l0 x3_6 (wrap64 (x4_2 + 1))) = some r := by rw [if_pos rfl] at H; exact H
                    clear H
                    have H := H1
                    clear H1
                    have H' := Aside0.mk H
                    clear H
                    go_wp2_with (first | (go_at_call 57; (with_reducible refine (spec_l2Deep.calls kj31 _ _ l0 x4_2 t153 _ ?side1 ?side2 A43.out).mono ?_); (case side1 => exact dq3); (case side2 => exact dq4); rintro e w' ⟨rfl, ⟨nd, rfl⟩⟩; (try first | exact ⟨rfl, _, World.drewN_drewN _ _ _⟩ | exact ⟨rfl, _, Eq.trans (World.drewN_drewN _ _ _) (congrArg (World.drewN _) (Nat.add_assoc _ _ _))⟩); obtain ⟨⟨hcz68_0, hcz68_1, hcz68_2, hcz68_3⟩, hfz68_0, hfz68_1, hfz68_2, hfz68_3⟩ := blkC4 BK147.out) | (go_at_call 59; (with_reducible refine (spec_l1Qual.calls kj31 ((rd_T39 l0 x4_2).f1) true _ A64.out).mono ?_); rintro e w' ⟨rfl, ⟨nd, rfl⟩⟩; (try first | exact ⟨rfl, _, World.drewN_drewN _ _ _⟩ | exact ⟨rfl, _, Eq.trans (World.drewN_drewN _ _ _) (congrArg (World.drewN _) (Nat.add_assoc _ _ _))⟩)) | (go_at_call 60; (with_reducible refine (spec_l2Attrs.calls kj31 _ _ ((rd_T39 l0 x4_2).f3) true _ ?side1 ?side2 A66.out).mono ?_); (case side1 => repeat (first | exact (Kd.C_below HR146_3.out dq41) | (with_reducible refine Kd.C_alloc ?_ _) | (with_reducible refine Kd.C_drewN ?_ _) | (with_reducible refine Kd.C_drew ?_))); (case side2 => exact HC146_3.out); rintro e w69 ⟨rfl, hb⟩; have n0_ := Aside0.mk (blk_below (g := gb147) (o := .cells #[.int .i64 ((rd_T39 l0 x4_2).f0), .string ((rd_T39 l0 x4_2).f1), .string ((rd_T39 l0 x4_2).f2), .slice A146_3 ((rd_T39 l0 x4_2).f3).length c146_3] 39 (0, 0)) dq42 hb); have n1_ := Aside0.mk (below_step dq41 hb); clear BK147; clear HB; have BK147 := n0_; have HB := n1_; clear n0_ n1_; (try clear hb); (try clear hb2); (try clear hk); (try clear hi)))
                    repeat (go_quiet (first | (go_at_call 57; (with_reducible refine (spec_l2Deep.calls kj31 _ _ l0 x4_2 t153 _ ?side1 ?side2 A43.out).mono ?_); (case side1 => exact dq3); (case side2 => exact dq4); rintro e w' ⟨rfl, ⟨nd, rfl⟩⟩; (try first | exact ⟨rfl, _, World.drewN_drewN _ _ _⟩ | exact ⟨rfl, _, Eq.trans (World.drewN_drewN _ _ _) (congrArg (World.drewN _) (Nat.add_assoc _ _ _))⟩); obtain ⟨⟨hcz68_0, hcz68_1, hcz68_2, hcz68_3⟩, hfz68_0, hfz68_1, hfz68_2, hfz68_3⟩ := blkC4 BK147.out) | (go_at_call 59; (with_reducible refine (spec_l1Qual.calls kj31 ((rd_T39 l0 x4_2).f1) true _ A64.out).mono ?_); rintro e w' ⟨rfl, ⟨nd, rfl⟩⟩; (try first | exact ⟨rfl, _, World.drewN_drewN _ _ _⟩ | exact ⟨rfl, _, Eq.trans (World.drewN_drewN _ _ _) (congrArg (World.drewN _) (Nat.add_assoc _ _ _))⟩)) | (go_at_call 60; (with_reducible refine (spec_l2Attrs.calls kj31 _ _ ((rd_T39 l0 x4_2).f3) true _ ?side1 ?side2 A66.out).mono ?_); (case side1 => repeat (first | exact (Kd.C_below HR146_3.out dq41) | (with_reducible refine Kd.C_alloc ?_ _) | (with_reducible refine Kd.C_drewN ?_ _) | (with_reducible refine Kd.C_drew ?_))); (case side2 => exact HC146_3.out); rintro e w69 ⟨rfl, hb⟩; have n0_ := Aside0.mk (blk_below (g := gb147) (o := .cells #[.int .i64 ((rd_T39 l0 x4_2).f0), .string ((rd_T39 l0 x4_2).f1), .string ((rd_T39 l0 x4_2).f2), .slice A146_3 ((rd_T39 l0 x4_2).f3).length c146_3] 39 (0, 0)) dq42 hb); have n1_ := Aside0.mk (below_step dq41 hb); clear BK147; clear HB; have BK147 := n0_; have HB := n1_; clear n0_ n1_; (try clear hb); (try clear hb2); (try clear hk); (try clear hi))); try go_wp2_with (first | (go_at_call 57; (with_reducible refine (spec_l2Deep.calls kj31 _ _ l0 x4_2 t153 _ ?side1 ?side2 A43.out).mono ?_); (case side1 => exact dq3); (case side2 => exact dq4); rintro e w' ⟨rfl, ⟨nd, rfl⟩⟩; (try first | exact ⟨rfl, _, World.drewN_drewN _ _ _⟩ | exact ⟨rfl, _, Eq.trans (World.drewN_drewN _ _ _) (congrArg (World.drewN _) (Nat.add_assoc _ _ _))⟩); obtain ⟨⟨hcz68_0, hcz68_1, hcz68_2, hcz68_3⟩, hfz68_0, hfz68_1, hfz68_2, hfz68_3⟩ := blkC4 BK147.out) | (go_at_call 59; (with_reducible refine (spec_l1Qual.calls kj31 ((rd_T39 l0 x4_2).f1) true _ A64.out).mono ?_); rintro e w' ⟨rfl, ⟨nd, rfl⟩⟩; (try first | exact ⟨rfl, _, World.drewN_drewN _ _ _⟩ | exact ⟨rfl, _, Eq.trans (World.drewN_drewN _ _ _) (congrArg (World.drewN _) (Nat.add_assoc _ _ _))⟩)) | (go_at_call 60; (with_reducible refine (spec_l2Attrs.calls kj31 _ _ ((rd_T39 l0 x4_2).f3) true _ ?side1 ?side2 A66.out).mono ?_); (case side1 => repeat (first | exact (Kd.C_below HR146_3.out dq41) | (with_reducible refine Kd.C_alloc ?_ _) | (with_reducible refine Kd.C_drewN ?_ _) | (with_reducible refine Kd.C_drew ?_))); (case side2 => exact HC146_3.out); rintro e w69 ⟨rfl, hb⟩; have n0_ := Aside0.mk (blk_below (g := gb147) (o := .cells #[.int .i64 ((rd_T39 l0 x4_2).f0), .string ((rd_T39 l0 x4_2).f1), .string ((rd_T39 l0 x4_2).f2), .slice A146_3 ((rd_T39 l0 x4_2).f3).length c146_3] 39 (0, 0)) dq42 hb); have n1_ := Aside0.mk (below_step dq41 hb); clear BK147; clear HB; have BK147 := n0_; have HB := n1_; clear n0_ n1_; (try clear hb); (try clear hb2); (try clear hk); (try clear hi))))
                    go_roundg kj31
                    case measure => have := HJ1.out; have := HK2.out; have := HJ6.out; have := HJ16.out; have := HJ31.out; omega
                    case rel => exact ⟨(x3_6), (wrap64 (x4_2 + 1)), dq26, dq26, H', ⟨by have := HJ1.out; have := HK2.out; have := HJ6.out; have := HJ16.out; have := HJ31.out; omega⟩, ⟨dq41⟩⟩
                   ·replace c67 := Bool.eq_false_iff.mpr c67
                    subst c67
                    have H1 : (some false) = some r := by rw [if_neg (show ¬ (false = true) by decide)] at H; exact H
                    clear H
                    have H := H1
                    clear H1
                    obtain rfl := Option.some.inj H
                    go_wp2_with (first | (go_at_call 57; (with_reducible refine (spec_l2Deep.calls kj31 _ _ l0 x4_2 t153 _ ?side1 ?side2 A43.out).mono ?_); (case side1 => exact dq3); (case side2 => exact dq4); rintro e w' ⟨rfl, ⟨nd, rfl⟩⟩; (try first | exact ⟨rfl, _, World.drewN_drewN _ _ _⟩ | exact ⟨rfl, _, Eq.trans (World.drewN_drewN _ _ _) (congrArg (World.drewN _) (Nat.add_assoc _ _ _))⟩); obtain ⟨⟨hcz70_0, hcz70_1, hcz70_2, hcz70_3⟩, hfz70_0, hfz70_1, hfz70_2, hfz70_3⟩ := blkC4 BK147.out) | (go_at_call 59; (with_reducible refine (spec_l1Qual.calls kj31 ((rd_T39 l0 x4_2).f1) true _ A64.out).mono ?_); rintro e w' ⟨rfl, ⟨nd, rfl⟩⟩; (try first | exact ⟨rfl, _, World.drewN_drewN _ _ _⟩ | exact ⟨rfl, _, Eq.trans (World.drewN_drewN _ _ _) (congrArg (World.drewN _) (Nat.add_assoc _ _ _))⟩)) | (go_at_call 60; (with_reducible refine (spec_l2Attrs.calls kj31 _ _ ((rd_T39 l0 x4_2).f3) false _ ?side1 ?side2 A66.out).mono ?_); (case side1 => repeat (first | exact (Kd.C_below HR146_3.out dq41) | (with_reducible refine Kd.C_alloc ?_ _) | (with_reducible refine Kd.C_drewN ?_ _) | (with_reducible refine Kd.C_drew ?_))); (case side2 => exact HC146_3.out); rintro e w71 ⟨rfl, hb⟩; have n0_ := Aside0.mk (blk_below (g := gb147) (o := .cells #[.int .i64 ((rd_T39 l0 x4_2).f0), .string ((rd_T39 l0 x4_2).f1), .string ((rd_T39 l0 x4_2).f2), .slice A146_3 ((rd_T39 l0 x4_2).f3).length c146_3] 39 (0, 0)) dq42 hb); have n1_ := Aside0.mk (below_step dq41 hb); clear BK147; clear HB; have BK147 := n0_; have HB := n1_; clear n0_ n1_; (try clear hb); (try clear hb2); (try clear hk); (try clear hi)))
                    repeat (go_quiet (first | (go_at_call 57; (with_reducible refine (spec_l2Deep.calls kj31 _ _ l0 x4_2 t153 _ ?side1 ?side2 A43.out).mono ?_); (case side1 => exact dq3); (case side2 => exact dq4); rintro e w' ⟨rfl, ⟨nd, rfl⟩⟩; (try first | exact ⟨rfl, _, World.drewN_drewN _ _ _⟩ | exact ⟨rfl, _, Eq.trans (World.drewN_drewN _ _ _) (congrArg (World.drewN _) (Nat.add_assoc _ _ _))⟩); obtain ⟨⟨hcz70_0, hcz70_1, hcz70_2, hcz70_3⟩, hfz70_0, hfz70_1, hfz70_2, hfz70_3⟩ := blkC4 BK147.out) | (go_at_call 59; (with_reducible refine (spec_l1Qual.calls kj31 ((rd_T39 l0 x4_2).f1) true _ A64.out).mono ?_); rintro e w' ⟨rfl, ⟨nd, rfl⟩⟩; (try first | exact ⟨rfl, _, World.drewN_drewN _ _ _⟩ | exact ⟨rfl, _, Eq.trans (World.drewN_drewN _ _ _) (congrArg (World.drewN _) (Nat.add_assoc _ _ _))⟩)) | (go_at_call 60; (with_reducible refine (spec_l2Attrs.calls kj31 _ _ ((rd_T39 l0 x4_2).f3) false _ ?side1 ?side2 A66.out).mono ?_); (case side1 => repeat (first | exact (Kd.C_below HR146_3.out dq41) | (with_reducible refine Kd.C_alloc ?_ _) | (with_reducible refine Kd.C_drewN ?_ _) | (with_reducible refine Kd.C_drew ?_))); (case side2 => exact HC146_3.out); rintro e w71 ⟨rfl, hb⟩; have n0_ := Aside0.mk (blk_below (g := gb147) (o := .cells #[.int .i64 ((rd_T39 l0 x4_2).f0), .string ((rd_T39 l0 x4_2).f1), .string ((rd_T39 l0 x4_2).f2), .slice A146_3 ((rd_T39 l0 x4_2).f3).length c146_3] 39 (0, 0)) dq42 hb); have n1_ := Aside0.mk (below_step dq41 hb); clear BK147; clear HB; have BK147 := n0_; have HB := n1_; clear n0_ n1_; (try clear hb); (try clear hb2); (try clear hk); (try clear hi))); try go_wp2_with (first | (go_at_call 57; (with_reducible refine (spec_l2Deep.calls kj31 _ _ l0 x4_2 t153 _ ?side1 ?side2 A43.out).mono ?_); (case side1 => exact dq3); (case side2 => exact dq4); rintro e w' ⟨rfl, ⟨nd, rfl⟩⟩; (try first | exact ⟨rfl, _, World.drewN_drewN _ _ _⟩ | exact ⟨rfl, _, Eq.trans (World.drewN_drewN _ _ _) (congrArg (World.drewN _) (Nat.add_assoc _ _ _))⟩); obtain ⟨⟨hcz70_0, hcz70_1, hcz70_2, hcz70_3⟩, hfz70_0, hfz70_1, hfz70_2, hfz70_3⟩ := blkC4 BK147.out) | (go_at_call 59; (with_reducible refine (spec_l1Qual.calls kj31 ((rd_T39 l0 x4_2).f1) true _ A64.out).mono ?_); rintro e w' ⟨rfl, ⟨nd, rfl⟩⟩; (try first | exact ⟨rfl, _, World.drewN_drewN _ _ _⟩ | exact ⟨rfl, _, Eq.trans (World.drewN_drewN _ _ _) (congrArg (World.drewN _) (Nat.add_assoc _ _ _))⟩)) | (go_at_call 60; (with_reducible refine (spec_l2Attrs.calls kj31 _ _ ((rd_T39 l0 x4_2).f3) false _ ?side1 ?side2 A66.out).mono ?_); (case side1 => repeat (first | exact (Kd.C_below HR146_3.out dq41) | (with_reducible refine Kd.C_alloc ?_ _) | (with_reducible refine Kd.C_drewN ?_ _) | (with_reducible refine Kd.C_drew ?_))); (case side2 => exact HC146_3.out); rintro e w71 ⟨rfl, hb⟩; have n0_ := Aside0.mk (blk_below (g := gb147) (o := .cells #[.int .i64 ((rd_T39 l0 x4_2).f0), .string ((rd_T39 l0 x4_2).f1), .string ((rd_T39 l0 x4_2).f2), .slice A146_3 ((rd_T39 l0 x4_2).f3).length c146_3] 39 (0, 0)) dq42 hb); have n1_ := Aside0.mk (below_step dq41 hb); clear BK147; clear HB; have BK147 := n0_; have HB := n1_; clear n0_ n1_; (try clear hb); (try clear hb2); (try clear hk); (try clear hi))))
                    go_ret
                    exact ⟨dq25, dq41⟩
                  ·replace c65 := Bool.eq_false_iff.mpr c65
                   subst c65
                   have H1 : (some false) = some r := by rw [if_neg (show ¬ (false = true) by decide)] at H; exact H
                   clear H
                   have H := H1
                   clear H1
                   obtain rfl := Option.some.inj H
                   go_wp2_with (first | (go_at_call 57; (with_reducible refine (spec_l2Deep.calls kj31 _ _ l0 x4_2 t153 _ ?side1 ?side2 A43.out).mono ?_); (case side1 => exact dq3); (case side2 => exact dq4); rintro e w' ⟨rfl, ⟨nd, rfl⟩⟩; (try first | exact ⟨rfl, _, World.drewN_drewN _ _ _⟩ | exact ⟨rfl, _, Eq.trans (World.drewN_drewN _ _ _) (congrArg (World.drewN _) (Nat.add_assoc _ _ _))⟩); obtain ⟨⟨hcz72_0, hcz72_1, hcz72_2, hcz72_3⟩, hfz72_0, hfz72_1, hfz72_2, hfz72_3⟩ := blkC4 BK147.out) | (go_at_call 59; (with_reducible refine (spec_l1Qual.calls kj31 ((rd_T39 l0 x4_2).f1) false _ A64.out).mono ?_); rintro e w' ⟨rfl, ⟨nd, rfl⟩⟩; (try first | exact ⟨rfl, _, World.drewN_drewN _ _ _⟩ | exact ⟨rfl, _, Eq.trans (World.drewN_drewN _ _ _) (congrArg (World.drewN _) (Nat.add_assoc _ _ _))⟩)))
                   repeat (go_quiet (first | (go_at_call 57; (with_reducible refine (spec_l2Deep.calls kj31 _ _ l0 x4_2 t153 _ ?side1 ?side2 A43.out).mono ?_); (case side1 => exact dq3); (case side2 => exact dq4); rintro e w' ⟨rfl, ⟨nd, rfl⟩⟩; (try first | exact ⟨rfl, _, World.drewN_drewN _ _ _⟩ | exact ⟨rfl, _, Eq.trans (World.drewN_drewN _ _ _) (congrArg (World.drewN _) (Nat.add_assoc _ _ _))⟩); obtain ⟨⟨hcz72_0, hcz72_1, hcz72_2, hcz72_3⟩, hfz72_0, hfz72_1, hfz72_2, hfz72_3⟩ := blkC4 BK147.out) | (go_at_call 59; (with_reducible refine (spec_l1Qual.calls kj31 ((rd_T39 l0 x4_2).f1) false _ A64.out).mono ?_); rintro e w' ⟨rfl, ⟨nd, rfl⟩⟩; (try first | exact ⟨rfl, _, World.drewN_drewN _ _ _⟩ | exact ⟨rfl, _, Eq.trans (World.drewN_drewN _ _ _) (congrArg (World.drewN _) (Nat.add_assoc _ _ _))⟩))); try go_wp2_with (first | (go_at_call 57; (with_reducible refine (spec_l2Deep.calls kj31 _ _ l0 x4_2 t153 _ ?side1 ?side2 A43.out).mono ?_); (case side1 => exact dq3); (case side2 => exact dq4); rintro e w' ⟨rfl, ⟨nd, rfl⟩⟩; (try first | exact ⟨rfl, _, World.drewN_drewN _ _ _⟩ | exact ⟨rfl, _, Eq.trans (World.drewN_drewN _ _ _) (congrArg (World.drewN _) (Nat.add_assoc _ _ _))⟩); obtain ⟨⟨hcz72_0, hcz72_1, hcz72_2, hcz72_3⟩, hfz72_0, hfz72_1, hfz72_2, hfz72_3⟩ := blkC4 BK147.out) | (go_at_call 59; (with_reducible refine (spec_l1Qual.calls kj31 ((rd_T39 l0 x4_2).f1) false _ A64.out).mono ?_); rintro e w' ⟨rfl, ⟨nd, rfl⟩⟩; (try first | exact ⟨rfl, _, World.drewN_drewN _ _ _⟩ | exact ⟨rfl, _, Eq.trans (World.drewN_drewN _ _ _) (congrArg (World.drewN _) (Nat.add_assoc _ _ _))⟩))))
                   go_ret
                   exact ⟨dq25, dq41⟩
                 ·rw [if_neg c63] at H
                  have c63b0 := beq_eq_false_iff_ne.mpr c63
                  have c63b1 := bne_iff_ne.mpr c63
                  obtain rfl := Option.some.inj H
                  go_wp2_with (first | (go_at_call 57; (with_reducible refine (spec_l2Deep.calls kj31 _ _ l0 x4_2 t153 _ ?side1 ?side2 A43.out).mono ?_); (case side1 => exact dq3); (case side2 => exact dq4); rintro e w' ⟨rfl, ⟨nd, rfl⟩⟩; (try first | exact ⟨rfl, _, World.drewN_drewN _ _ _⟩ | exact ⟨rfl, _, Eq.trans (World.drewN_drewN _ _ _) (congrArg (World.drewN _) (Nat.add_assoc _ _ _))⟩); obtain ⟨⟨hcz73_0, hcz73_1, hcz73_2, hcz73_3⟩, hfz73_0, hfz73_1, hfz73_2, hfz73_3⟩ := blkC4 BK147.out))
                  repeat (go_quiet (first | (go_at_call 57; (with_reducible refine (spec_l2Deep.calls kj31 _ _ l0 x4_2 t153 _ ?side1 ?side2 A43.out).mono ?_); (case side1 => exact dq3); (case side2 => exact dq4); rintro e w' ⟨rfl, ⟨nd, rfl⟩⟩; (try first | exact ⟨rfl, _, World.drewN_drewN _ _ _⟩ | exact ⟨rfl, _, Eq.trans (World.drewN_drewN _ _ _) (congrArg (World.drewN _) (Nat.add_assoc _ _ _))⟩); obtain ⟨⟨hcz73_0, hcz73_1, hcz73_2, hcz73_3⟩, hfz73_0, hfz73_1, hfz73_2, hfz73_3⟩ := blkC4 BK147.out)); try go_wp2_with (first | (go_at_call 57; (with_reducible refine (spec_l2Deep.calls kj31 _ _ l0 x4_2 t153 _ ?side1 ?side2 A43.out).mono ?_); (case side1 => exact dq3); (case side2 => exact dq4); rintro e w' ⟨rfl, ⟨nd, rfl⟩⟩; (try first | exact ⟨rfl, _, World.drewN_drewN _ _ _⟩ | exact ⟨rfl, _, Eq.trans (World.drewN_drewN _ _ _) (congrArg (World.drewN _) (Nat.add_assoc _ _ _))⟩); obtain ⟨⟨hcz73_0, hcz73_1, hcz73_2, hcz73_3⟩, hfz73_0, hfz73_1, hfz73_2, hfz73_3⟩ := blkC4 BK147.out)))
                  go_ret
                  exact ⟨dq25, dq41⟩
       ·rw [if_neg c6] at H
        exact absurd H dq31
      ·rw [if_neg c5] at H
       have c5b0 := decide_eq_false c5
       clear c5
       obtain rfl := Option.some.inj H
       go_wp2
       repeat (go_quiet (fail); try go_wp2)
       go_ret
       exact ⟨dq25, dq23⟩

/-! ### spec_l11Steps: function 61 -/
mutual
def spec_l11Steps.j0 : Nat → ByteArray → Bool → Option (List ByteArray × Bool × Bool)
 | 0, _, _ => none
 | k + 1, x0, x5 => if x5 = true then (if 2 ≤ (x0.size : Int) then (spec_l11Steps.j1 k (x0.extract 2 x0.size) x5) else (none)) else (spec_l11Steps.j1 k x0 x5)
def spec_l11Steps.j1 : Nat → ByteArray → Bool → Option (List ByteArray × Bool × Bool)
 | 0, _, _ => none
 | k + 1, x0, x5 => spec_l11Steps.l0 k x0 x5 (([] : List ByteArray)) (⟨#[]⟩ : ByteArray) 0
def spec_l11Steps.l0 : Nat → ByteArray → Bool → List ByteArray → ByteArray → Int → Option (List ByteArray × Bool × Bool)
 | 0, _, _, _, _, _ => none
 | k + 1, x0, x5, x6, x7, x8 => if x8 ≤ (x0.size : Int) then (if x8 < (x0.size : Int) then (if 0 ≤ x8 then (spec_l11Steps.j3 k x0 x5 x6 x7 x8 ((bt x0 x8) != 47)) else (none)) else (spec_l11Steps.j3 k x0 x5 x6 x7 x8 false)) else (some (x6, x5, decide ((x6.length : Int) ≤ 6)))
def spec_l11Steps.j3 : Nat → ByteArray → Bool → List ByteArray → ByteArray → Int → Bool → Option (List ByteArray × Bool × Bool)
 | 0, _, _, _, _, _, _ => none
 | k + 1, x0, x5, x6, x7, x8, x36 => if x36 = true then (if 0 ≤ x8 then (if x8 ≤ (wrap64 (x8 + 1)) then (if (wrap64 (x8 + 1)) ≤ (x0.size : Int) then (if x7.size + (x0.extract (x8 : Int).toNat ((wrap64 (x8 + 1)) : Int).toNat).size ≤ 9223372036854775807 then (spec_l11Steps.l0 k x0 x5 x6 (x7 ++ (x0.extract (x8 : Int).toNat ((wrap64 (x8 + 1)) : Int).toNat)) (wrap64 (x8 + 1))) else (none)) else (none)) else (none)) else (none)) else ((spec_NameOk.f k x7).bind fun t162 => (if t162 = true then (if x6.length < 8796093022208 then (spec_l11Steps.l0 k x0 x5 (x6 ++ [x7]) (⟨#[]⟩ : ByteArray) (wrap64 (x8 + 1))) else (none)) else (some (([] : List ByteArray), false, false))))
end
def spec_l11Steps.f (k : Nat) (a0 : ByteArray) : Option (List ByteArray × Bool × Bool) := if (a0.size : Int) > 2 then (if 0 ≤ 2 then (if 2 ≤ (a0.size : Int) then (spec_l11Steps.j0 k a0 ((a0.extract 0 2).toList == ([47, 47] : List UInt8))) else (none)) else (none)) else (spec_l11Steps.j0 k a0 false)
set_option maxHeartbeats 8000000 in
set_option maxRecDepth 100000 in
theorem spec_l11Steps.calls (k : Nat) (a0 : ByteArray) (r1 : List ByteArray) (r2 : Bool) (r3 : Bool) (w : World) (h : spec_l11Steps.f k a0 = some (r1, r2, r3)) :
  Calls Tryd.prog 61 #[.string a0] w fun e w' => ∃ v0_ : Value, e = .returned (.tuple #[v0_, .bool r2, .bool r3]) ∧ Kd.R Kd.string 9 w' w.heap.size (fun _ => True) v0_ r1 ∧ Below w.heap.size w w' := by
 have HB := Aside0.mk (Below.refl w.heap.size w)
 have H : (if (a0.size : Int) > 2 then (if 0 ≤ 2 then (if 2 ≤ (a0.size : Int) then (spec_l11Steps.j0 k a0 ((a0.extract 0 2).toList == ([47, 47] : List UInt8))) else (none)) else (none)) else (spec_l11Steps.j0 k a0 false)) = some (r1, r2, r3) := h
 clear h
 have HC2 := Aside0.mk H
 clear H
 go_enter Tryd.func61, Tryd.ntmps61
 go_upto_region 1 with (fail)
 go_cut [5] (fun v5 wc => ∃ (kq : Nat) (x5_1 : Bool), v5 = .bool x5_1 ∧ Aside0 (spec_l11Steps.j0 kq a0 x5_1 = some (r1, r2, r3)) ∧ Aside0 (kq ≤ k) ∧ Aside0 (Below w.heap.size w wc))
 case first =>
  have H := HC2.out
  clear HC2
  by_cases c3 : (a0.size : Int) > 2
  ·rw [if_pos c3] at H
   have c3b0 : decide (2 < (a0.size : Int)) = true := decide_eq_true c3
   have c3b1 : decide (2 < a0.size) = true := decide_eq_true dq34
   clear c3
   (first | rw [c3b0] | (simp only [i64_w, i32_w]; rw [c3b0]) | skip)
   by_cases c4 : 0 ≤ 2
   ·rw [if_pos c4] at H
    have c4b0 := eq_true c4
    have c4b1 := decide_eq_true c4
    clear c4
    by_cases c5 : 2 ≤ (a0.size : Int)
    ·rw [if_pos c5] at H
     have c5b0 := eq_true c5
     have c5b1 := decide_eq_true c5
     clear c5
     have H' := Aside0.mk H
     clear H
     go_wp2
     go_meet
     case rel => exact ⟨_, (((a0.extract 0 2).toList == ([47, 47] : List UInt8))), dq26, H', ⟨dq35⟩, ⟨dq23⟩⟩
    ·rw [if_neg c5] at H
     exact absurd H dq31
   ·rw [if_neg c4] at H
    exact absurd H dq31
  ·rw [if_neg c3] at H
   have c3b0 : decide (2 < (a0.size : Int)) = false := decide_eq_false c3
   have c3b1 : decide (2 < a0.size) = false := decide_eq_false dq34
   clear c3
   (first | rw [c3b0] | (simp only [i64_w, i32_w]; rw [c3b0]) | skip)
   have H' := Aside0.mk H
   clear H
   go_wp2
   go_meet
   case rel => exact ⟨_, (false), dq26, H', ⟨dq35⟩, ⟨dq23⟩⟩
 case rest =>
  clear HC2
  try clear p2
  try clear c3
  try clear c3b0
  try clear c3b1
  try clear c4
  try clear c4b0
  try clear c4b1
  try clear c5
  try clear c5b0
  try clear c5b1
  obtain ⟨kq, x5_1, rfl, HA, HJ1, HB⟩ := hcut
  cases kq with
  | zero => exact absurd HA.out (by simp [spec_l11Steps.j0])
  | succ kj1 =>
   have H := HA.out
   clear HA
   simp only [spec_l11Steps.j0] at H
   have HC6 := Aside0.mk H
   clear H
   go_upto_if 17 with (fail)
   go_cut [0] (fun v0 wc => ∃ (kq : Nat) (x0_5 : ByteArray), v0 = .string x0_5 ∧ Aside0 (spec_l11Steps.j1 kq x0_5 x5_1 = some (r1, r2, r3)) ∧ Aside0 (kq ≤ kj1) ∧ Aside0 (Below w.heap.size w wc))
   case first =>
    have H := HC6.out
    clear HC6
    by_cases c7 : x5_1 = true
    ·subst c7
     have H1 : (if 2 ≤ (a0.size : Int) then (spec_l11Steps.j1 kj1 (a0.extract 2 a0.size) true) else (none)) = some (r1, r2, r3) := by rw [if_pos rfl] at H; exact H
     clear H
     have H := H1
     clear H1
     by_cases c8 : 2 ≤ (a0.size : Int)
     ·rw [if_pos c8] at H
      have c8b0 := eq_true c8
      have c8b1 := decide_eq_true c8
      clear c8
      have H' := Aside0.mk H
      clear H
      go_wp2
      go_meet
      case rel => exact ⟨_, (a0.extract 2 a0.size), dq26, H', ⟨by have := HJ1.out; first | omega | exact Nat.le_refl _⟩, ⟨dq23⟩⟩
     ·rw [if_neg c8] at H
      exact absurd H dq31
    ·replace c7 := Bool.eq_false_iff.mpr c7
     subst c7
     have H1 : (spec_l11Steps.j1 kj1 a0 false) = some (r1, r2, r3) := by rw [if_neg (show ¬ (false = true) by decide)] at H; exact H
     clear H
     have H := H1
     clear H1
     have H' := Aside0.mk H
     clear H
     go_wp2
     go_meet
     case rel => exact ⟨_, (a0), dq26, H', ⟨by have := HJ1.out; first | omega | exact Nat.le_refl _⟩, ⟨dq23⟩⟩
   case rest =>
    clear HC6
    try clear p2
    try clear c3
    try clear c3b0
    try clear c3b1
    try clear c4
    try clear c4b0
    try clear c4b1
    try clear c5
    try clear c5b0
    try clear c5b1
    try clear c6
    try clear c7
    try clear c8
    try clear c8b0
    try clear c8b1
    try clear p2
    obtain ⟨kq, x0_5, rfl, HA, HJ5, HB⟩ := hcut
    cases kq with
    | zero => exact absurd HA.out (by simp [spec_l11Steps.j1])
    | succ kj5 =>
     have H := HA.out
     clear HA
     simp only [spec_l11Steps.j1] at H
     obtain ⟨y159, hy159⟩ : ∃ y_ : List ByteArray, y_ = (([] : List ByteArray)) := ⟨_, rfl⟩
     replace H : (spec_l11Steps.l0 kj5 x0_5 x5_1 y159 (⟨#[]⟩ : ByteArray) 0) = some (r1, r2, r3) := by first | (rw [hy159]; with_reducible exact H) | (have H2_ := (Option.bind_some _ _).symm.trans H; rw [hy159]; with_reducible exact H2_) | (have H2_ := (Option.bind_some _ _).symm.trans H; with_reducible exact H2_) | with_reducible exact H | (rw [hy159]; exact H) | exact H
     have Ny159 := Aside0.mk hy159
     clear hy159
     have H' := Aside0.mk H
     clear H
     go_wp2_with (first | ((with_reducible refine gate_dst (N := 20) rfl ?_); refine Kd.R_lit Kd.string _ 9 ?hg (N := 20) ?hd (xs := ([] : List ByteArray)) (inner := []) (ok := fun _ => True) (okp := fun _ => True) ?hr ?hp (fun _ hk => hk) trivial (Below.refl _ _) (Nat.le_refl _) dq31 ?_; (case hd => rfl); (case hg => rfl); (case hr => exact dq0); (case hp => exact dq2); intro v160 w9 ho10 hb hg_ hnew_; clear hg_ hnew_; (first | rw [← Ny159.out] at ho10 | (simp only [Int.reduceToNat] at ho10; rw [← Ny159.out] at ho10)); have n0_ := Aside0.mk (Kd.R_lower ho10 (below_size dq23)); have n1_ := Aside0.mk (below_step dq23 hb); clear HB; have HO161 := n0_; have HB := n1_; clear n0_ n1_; clear hb ho10))
     go_loopg [6, 7, 8] kj5 (fun kq v6 v7 v8 w' => ∃ (x6_3 : List ByteArray) (x7_3 : ByteArray) (x8_3 : Int), v7 = .string x7_3 ∧ v8 = .int .i64 x8_3 ∧ Aside0 (spec_l11Steps.l0 kq x0_5 x5_1 x6_3 x7_3 x8_3 = some (r1, r2, r3)) ∧ Aside0 (kq ≤ kj5) ∧ Aside0 (Kd.R Kd.string 9 w' w.heap.size (fun _ => True) v6 x6_3) ∧ Aside0 (Below w.heap.size w w'))
     case atStart => exact ⟨(y159), ((⟨#[]⟩ : ByteArray)), (0), dq26, dq26, H', ⟨Nat.le_refl _⟩, ⟨by (with_reducible repeat (first | apply Kd.R_alloc | apply Kd.R_drewN | apply Kd.R_drew)); exact HO161.out⟩, ⟨dq23⟩⟩
     case round =>
      clear H'
      try clear p2
      try clear c3
      try clear c3b0
      try clear c3b1
      try clear c4
      try clear c4b0
      try clear c4b1
      try clear c5
      try clear c5b0
      try clear c5b1
      try clear c6
      try clear c7
      try clear c8
      try clear c8b0
      try clear c8b1
      try clear p2
      obtain ⟨x6_3, x7_3, x8_3, rfl, rfl, HA, HK3, HO_6, HB⟩ := hrel
      cases gk with
      | zero => exact absurd HA.out (by simp [spec_l11Steps.l0])
      | succ k3 =>
       have H := HA.out
       clear HA
       simp only [spec_l11Steps.l0] at H
       by_cases c11 : x8_3 ≤ (x0_5.size : Int)
       ·rw [if_pos c11] at H
        have c11b0 := decide_eq_true c11
        clear c11
        have HC12 := Aside0.mk H
        clear H
        go_upto_region 9 with (fail)
        go_cut [36] (fun v36 wc => ∃ (kq : Nat) (x36_11 : Bool), v36 = .bool x36_11 ∧ Aside0 (spec_l11Steps.j3 kq x0_5 x5_1 x6_3 x7_3 x8_3 x36_11 = some (r1, r2, r3)) ∧ Aside0 (kq ≤ k3) ∧ Aside0 (Kd.R Kd.string 9 wc w.heap.size (fun _ => True) u6 x6_3) ∧ Aside0 (Below w.heap.size w wc))
        case first =>
         have H := HC12.out
         clear HC12
         by_cases c13 : x8_3 < (x0_5.size : Int)
         ·rw [if_pos c13] at H
          have c13b0 := decide_eq_true c13
          clear c13
          (first | rw [c13b0] | (simp only [i64_w, i32_w]; rw [c13b0]) | skip)
          by_cases c14 : 0 ≤ x8_3
          ·rw [if_pos c14] at H
           have c14b0 := decide_eq_true c14
           clear c14
           have H' := Aside0.mk H
           clear H
           have p15 : 0 ≤ (x8_3 : Int) := of_decide_eq_true dq27
           have q15 : x8_3 < (x0_5.size : Int) := of_decide_eq_true dq27
           have hx15 := bt_at x0_5 x8_3
           replace p15 := eq_true p15
           replace q15 := eq_true q15
           go_wp2
           go_meet
           case rel => exact ⟨_, (((bt x0_5 x8_3) != 47)), dq26, H', ⟨by have := HJ1.out; have := HJ5.out; have := HK3.out; first | omega | exact Nat.le_refl _⟩, ⟨dq45⟩, ⟨dq23⟩⟩
          ·rw [if_neg c14] at H
           exact absurd H dq31
         ·rw [if_neg c13] at H
          have c13b0 := decide_eq_false c13
          clear c13
          (first | rw [c13b0] | (simp only [i64_w, i32_w]; rw [c13b0]) | skip)
          have H' := Aside0.mk H
          clear H
          go_wp2
          go_meet
          case rel => exact ⟨_, (false), dq26, H', ⟨by have := HJ1.out; have := HJ5.out; have := HK3.out; first | omega | exact Nat.le_refl _⟩, ⟨dq45⟩, ⟨dq23⟩⟩
        case rest =>
         clear HC12
         try clear c1
         try clear p1
         try clear q1
         try clear hx1
         try clear p2
         try clear c3
         try clear c3b0
         try clear c3b1
         try clear c4
         try clear c4b0
         try clear c4b1
         try clear c5
         try clear c5b0
         try clear c5b1
         try clear c6
         try clear c7
         try clear c8
         try clear c8b0
         try clear c8b1
         try clear c11
         try clear c11b0
         try clear c13
         try clear c13b0
         try clear c14
         try clear c14b0
         try clear p15
         try clear q15
         try clear hx15
         try clear p15
         try clear p2
         try clear q15
         obtain ⟨kq, x36_11, rfl, HA, HJ11, HO_6, HB⟩ := hcut
         cases kq with
         | zero => exact absurd HA.out (by simp [spec_l11Steps.j3])
         | succ kj11 =>
          have H := HA.out
          clear HA
          simp only [spec_l11Steps.j3] at H
          by_cases c16 : x36_11 = true
          ·subst c16
           have H1 : (if 0 ≤ x8_3 then (if x8_3 ≤ (wrap64 (x8_3 + 1)) then (if (wrap64 (x8_3 + 1)) ≤ (x0_5.size : Int) then (if x7_3.size + (x0_5.extract (x8_3 : Int).toNat ((wrap64 (x8_3 + 1)) : Int).toNat).size ≤ 9223372036854775807 then (spec_l11Steps.l0 kj11 x0_5 x5_1 x6_3 (x7_3 ++ (x0_5.extract (x8_3 : Int).toNat ((wrap64 (x8_3 + 1)) : Int).toNat)) (wrap64 (x8_3 + 1))) else (none)) else (none)) else (none)) else (none)) = some (r1, r2, r3) := by rw [if_pos rfl] at H; exact H
           clear H
           have H := H1
           clear H1
           by_cases c17 : 0 ≤ x8_3
           ·rw [if_pos c17] at H
            have c17b0 := eq_true c17
            have c17b1 := decide_eq_true c17
            clear c17
            by_cases c18 : x8_3 ≤ (wrap64 (x8_3 + 1))
            ·rw [if_pos c18] at H
             have c18b0 := eq_true c18
             have c18b1 := decide_eq_true c18
             by_cases c19 : (wrap64 (x8_3 + 1)) ≤ (x0_5.size : Int)
             ·rw [if_pos c19] at H
              have c19b0 := eq_true c19
              have c19b1 := decide_eq_true c19
              by_cases c20 : x7_3.size + (x0_5.extract (x8_3 : Int).toNat ((wrap64 (x8_3 + 1)) : Int).toNat).size ≤ 9223372036854775807
              ·rw [if_pos c20] at H
               have c20b0 := eq_true c20
               have c20b1 := decide_eq_true c20
               try have c20b2 : (9223372036854775807 < x7_3.size + (x0_5.extract (x8_3 : Int).toNat ((wrap64 (x8_3 + 1)) : Int).toNat).size) = False := eq_false (Nat.not_lt.2 c20)
               have H' := Aside0.mk H
               clear H
               go_wp2
               go_roundg kj11
               case measure => have := HJ1.out; have := HJ5.out; have := HK3.out; have := HJ11.out; omega
               case rel => exact ⟨(x6_3), (x7_3 ++ (x0_5.extract (x8_3 : Int).toNat ((wrap64 (x8_3 + 1)) : Int).toNat)), (wrap64 (x8_3 + 1)), dq26, dq26, H', ⟨by have := HJ1.out; have := HJ5.out; have := HK3.out; have := HJ11.out; omega⟩, ⟨dq45⟩, ⟨dq23⟩⟩
              ·rw [if_neg c20] at H
               exact absurd H dq31
             ·rw [if_neg c19] at H
              exact absurd H dq31
            ·rw [if_neg c18] at H
             exact absurd H dq31
           ·rw [if_neg c17] at H
            exact absurd H dq31
          ·replace c16 := Bool.eq_false_iff.mpr c16
           subst c16
           have H1 : ((spec_NameOk.f kj11 x7_3).bind fun t162 => (if t162 = true then (if x6_3.length < 8796093022208 then (spec_l11Steps.l0 kj11 x0_5 x5_1 (x6_3 ++ [x7_3]) (⟨#[]⟩ : ByteArray) (wrap64 (x8_3 + 1))) else (none)) else (some (([] : List ByteArray), false, false)))) = some (r1, r2, r3) := by rw [if_neg (show ¬ (false = true) by decide)] at H; exact H
           clear H
           have H := H1
           clear H1
           replace H := Option.bind_eq_some_iff.mp H
           obtain ⟨t162, A210, H⟩ := H
           replace H : (if t162 = true then (if x6_3.length < 8796093022208 then (spec_l11Steps.l0 kj11 x0_5 x5_1 (x6_3 ++ [x7_3]) (⟨#[]⟩ : ByteArray) (wrap64 (x8_3 + 1))) else (none)) else (some (([] : List ByteArray), false, false))) = some (r1, r2, r3) := H
           have A21 := Aside0.mk A210
           clear A210
           by_cases c22 : t162 = true
           ·subst c22
            have H1 : (if x6_3.length < 8796093022208 then (spec_l11Steps.l0 kj11 x0_5 x5_1 (x6_3 ++ [x7_3]) (⟨#[]⟩ : ByteArray) (wrap64 (x8_3 + 1))) else (none)) = some (r1, r2, r3) := by rw [if_pos rfl] at H; exact H
            clear H
            have H := H1
            clear H1
            by_cases c23 : x6_3.length < 8796093022208
            ·rw [if_pos c23] at H
             have LMc23 := Aside0.mk c23
             clear c23
             obtain ⟨y163, hy163⟩ : ∃ y_ : List ByteArray, y_ = (x6_3 ++ [x7_3]) := ⟨_, rfl⟩
             replace H : (spec_l11Steps.l0 kj11 x0_5 x5_1 y163 (⟨#[]⟩ : ByteArray) (wrap64 (x8_3 + 1))) = some (r1, r2, r3) := by first | (rw [hy163]; with_reducible exact H) | (have H2_ := (Option.bind_some _ _).symm.trans H; rw [hy163]; with_reducible exact H2_) | (have H2_ := (Option.bind_some _ _).symm.trans H; with_reducible exact H2_) | with_reducible exact H | (rw [hy163]; exact H) | exact H
             have Ny163 := Aside0.mk hy163
             clear hy163
             have H' := Aside0.mk H
             clear H
             go_wp2_with (first | ((with_reducible refine gate_callee (f := 92) rfl ?_); refine goesL_ (some 45) rfl rfl Tryd.func92 dq29 rfl #[.string x7_3] rfl dq28 ?_; (with_reducible refine (spec_NameOk.calls kj11 x7_3 true _ A21.out).mono ?_); rintro e w' ⟨rfl, ⟨nd, rfl⟩⟩; refine ⟨_, rfl, ?_⟩) | ((with_reducible refine gate_builtin (b := .append) (xs := #[.tmp 47, .tmp 49]) rfl ?_); at_builtin; refine Kd.R_append Kd.string (w0 := w) w.heap.size rfl (.tmp 47) (.tmp 49) 66 9 (.string ⟨#[]⟩) 16 rfl Tryd.underlying66 info9 rfl dq38 dq34 u6 x6_3 x7_3 [.string x7_3] (fun _ => True) (fun _ => False) rfl rfl ?aP (fun _ hk => hk.elim) ?aF ?aO ?aB ?aS ?aL ?_; (case aP => exact rfl); (case aB => exact dq23); (case aF => exact (fun _ _ => trivial)); (case aO => exact dq45); (case aS => exact (below_size dq23)); (case aL => have := LMc23.out; omega); intro v164 w24 ho hb hg hat; rw [← Ny163.out] at ho; have n0_ := Aside0.mk (hb); have n1_ := Aside0.mk (ho); clear HB; clear HO_6; have HB := n0_; have HO165 := n1_; clear n0_ n1_; clear ho hb hg hat))
             go_roundg kj11
             case measure => have := HJ1.out; have := HJ5.out; have := HK3.out; have := HJ11.out; omega
             case rel => exact ⟨(y163), ((⟨#[]⟩ : ByteArray)), (wrap64 (x8_3 + 1)), dq26, dq26, H', ⟨by have := HJ1.out; have := HJ5.out; have := HK3.out; have := HJ11.out; omega⟩, ⟨by (with_reducible repeat (first | apply Kd.R_alloc | apply Kd.R_drewN | apply Kd.R_drew)); exact HO165.out⟩, ⟨dq23⟩⟩
            ·rw [if_neg c23] at H
             exact absurd H dq31
           ·replace c22 := Bool.eq_false_iff.mpr c22
            subst c22
            have H1 : (some (([] : List ByteArray), false, false)) = some (r1, r2, r3) := by rw [if_neg (show ¬ (false = true) by decide)] at H; exact H
            clear H
            have H := H1
            clear H1
            simp only [Option.some.injEq, Prod.mk.injEq] at H
            obtain ⟨rfl, rfl, rfl⟩ := H
            go_wp2_with (first | ((with_reducible refine gate_callee (f := 92) rfl ?_); refine goesL_ (some 45) rfl rfl Tryd.func92 dq29 rfl #[.string x7_3] rfl dq28 ?_; (with_reducible refine (spec_NameOk.calls kj11 x7_3 false _ A21.out).mono ?_); rintro e w' ⟨rfl, ⟨nd, rfl⟩⟩; refine ⟨_, rfl, ?_⟩))
            go_ret3
            exact ⟨_, dq25, dq36, dq23⟩
       ·rw [if_neg c11] at H
        have c11b0 := decide_eq_false c11
        clear c11
        simp only [Option.some.injEq, Prod.mk.injEq] at H
        obtain ⟨rfl, rfl, rfl⟩ := H
        obtain ⟨Ao25, co25, eo25⟩ := Kd.R_slice HO_6.out
        subst eo25
        go_wp2
        go_ret3
        exact ⟨_, dq25, dq45, dq23⟩

/-! ### spec_PathOk: function 24 -/
def spec_PathOk.f (k : Nat) (a0 : ByteArray) : Option (Bool) := (spec_l11Steps.f k a0).bind fun bt166 => (if bt166.2.2 = true then (some (decide ((a0.size : Int) ≤ 20000))) else (some false))
set_option maxHeartbeats 8000000 in
set_option maxRecDepth 100000 in
theorem spec_PathOk.calls (k : Nat) (a0 : ByteArray) (r : Bool) (w : World) (h : spec_PathOk.f k a0 = some r) :
  Calls Tryd.prog 24 #[.string a0] w fun e w' => e = .returned (.bool r) ∧ Below w.heap.size w w' := by
 have HB := Aside0.mk (Below.refl w.heap.size w)
 have H : ((spec_l11Steps.f k a0).bind fun bt166 => (if bt166.2.2 = true then (some (decide ((a0.size : Int) ≤ 20000))) else (some false))) = some r := h
 clear h
 replace H := Option.bind_eq_some_iff.mp H
 obtain ⟨⟨t166, t167, t168⟩, A20, H⟩ := H
 replace H : (if t168 = true then (some (decide ((a0.size : Int) ≤ 20000))) else (some false)) = some r := H
 have A2 := Aside0.mk A20
 clear A20
 by_cases c3 : t168 = true
 ·subst c3
  have H1 : (some (decide ((a0.size : Int) ≤ 20000))) = some r := by rw [if_pos rfl] at H; exact H
  clear H
  have H := H1
  clear H1
  obtain rfl := Option.some.inj H
  go_enter Tryd.func24, Tryd.ntmps24
  go_wp2_with (first | ((with_reducible refine gate_callee (f := 61) rfl ?_); refine goesL_ (some 8) rfl rfl Tryd.func61 dq29 rfl #[.string a0] rfl dq28 ?_; (with_reducible refine (spec_l11Steps.calls k a0 t166 t167 true _ A2.out).mono ?_); rintro e w4 ⟨v169, rfl, ho0, hb⟩; refine ⟨_, rfl, ?_⟩; have n0_ := Aside0.mk (Kd.R_lower ho0 (below_size dq23)); have n1_ := Aside0.mk (below_step dq23 hb); clear HB; have HO170 := n0_; have HB := n1_; clear n0_ n1_; (try clear hb); (try clear hb2); (try clear hk); (try clear hi); (try clear ho0)))
  go_ret
  exact ⟨dq25, dq23⟩
 ·replace c3 := Bool.eq_false_iff.mpr c3
  subst c3
  have H1 : (some false) = some r := by rw [if_neg (show ¬ (false = true) by decide)] at H; exact H
  clear H
  have H := H1
  clear H1
  obtain rfl := Option.some.inj H
  go_enter Tryd.func24, Tryd.ntmps24
  go_wp2_with (first | ((with_reducible refine gate_callee (f := 61) rfl ?_); refine goesL_ (some 8) rfl rfl Tryd.func61 dq29 rfl #[.string a0] rfl dq28 ?_; (with_reducible refine (spec_l11Steps.calls k a0 t166 t167 false _ A2.out).mono ?_); rintro e w5 ⟨v169, rfl, ho0, hb⟩; refine ⟨_, rfl, ?_⟩; have n0_ := Aside0.mk (Kd.R_lower ho0 (below_size dq23)); have n1_ := Aside0.mk (below_step dq23 hb); clear HB; have HO170 := n0_; have HB := n1_; clear n0_ n1_; (try clear hb); (try clear hb2); (try clear hk); (try clear hi); (try clear ho0)))
  go_ret
  exact ⟨dq25, dq23⟩

/-! ### spec_l2Kids: function 70 -/
def spec_l2Kids.l0 : Nat → List (S39) → Int → List Int → Int → Option (List Int)
 | 0, _, _, _, _ => none
 | k + 1, x0, x1, x5, x6 => if x6 < (x0.length : Int) then (if 0 ≤ x6 then (if ((rd_T39 x0 x6).f0) = x1 then (if x5.length < 17592186044416 then (spec_l2Kids.l0 k x0 x1 (x5 ++ [x6]) (wrap64 (x6 + 1))) else (none)) else (spec_l2Kids.l0 k x0 x1 x5 (wrap64 (x6 + 1)))) else (none)) else (some x5)
def spec_l2Kids.f (k : Nat) (l0 : List (S39)) (a1 : Int) : Option (List Int) := spec_l2Kids.l0 k l0 a1 (([] : List Int)) (wrap64 (a1 + 1))
set_option maxHeartbeats 8000000 in
set_option maxRecDepth 100000 in
theorem spec_l2Kids.calls (k : Nat) (A0 : Option Addr) (c0 : Nat) (l0 : List (S39)) (a1 : Int) (r : List Int) (w : World) (hr0 : Kd.C k39 w A0 l0.length l0) (hc0 : l0.length ≤ c0) (h : spec_l2Kids.f k l0 a1 = some r) :
  Calls Tryd.prog 70 #[.slice A0 l0.length c0, .int .i64 a1] w fun e w' => ∃ v0_ : Value, e = .returned (v0_) ∧ Kd.R (Kd.int .i64) 2 w' w.heap.size (fun _ => True) v0_ r ∧ Below w.heap.size w w' := by
 have HR0 := Aside0.mk hr0
 have HC0 := Aside0.mk hc0
 clear hr0 hc0
 have HB := Aside0.mk (Below.refl w.heap.size w)
 have H : (spec_l2Kids.l0 k l0 a1 (([] : List Int)) (wrap64 (a1 + 1))) = some r := h
 clear h
 obtain ⟨y171, hy171⟩ : ∃ y_ : List Int, y_ = (([] : List Int)) := ⟨_, rfl⟩
 replace H : (spec_l2Kids.l0 k l0 a1 y171 (wrap64 (a1 + 1))) = some r := by first | (rw [hy171]; with_reducible exact H) | (have H2_ := (Option.bind_some _ _).symm.trans H; rw [hy171]; with_reducible exact H2_) | (have H2_ := (Option.bind_some _ _).symm.trans H; with_reducible exact H2_) | with_reducible exact H | (rw [hy171]; exact H) | exact H
 have Ny171 := Aside0.mk hy171
 clear hy171
 have H' := Aside0.mk H
 clear H
 go_enter Tryd.func70, Tryd.ntmps70
 go_wp2_with (first | ((with_reducible refine gate_dst (N := 7) rfl ?_); refine Kd.R_lit (Kd.int .i64) _ 2 ?hg (N := 7) ?hd (xs := ([] : List Int)) (inner := []) (ok := fun _ => True) (okp := fun _ => True) ?hr ?hp (fun _ hk => hk) trivial (Below.refl _ _) (Nat.le_refl _) dq31 ?_; (case hd => rfl); (case hg => rfl); (case hr => exact dq0); (case hp => exact dq2); intro v172 w3 ho4 hb hg_ hnew_; clear hg_ hnew_; (first | rw [← Ny171.out] at ho4 | (simp only [Int.reduceToNat] at ho4; rw [← Ny171.out] at ho4)); have n0_ := Aside0.mk (Kd.R_lower ho4 (below_size dq23)); have n1_ := Aside0.mk (below_step dq23 hb); clear HB; have HO173 := n0_; have HB := n1_; clear n0_ n1_; clear hb ho4))
 go_loopg [5, 6] k (fun kq v5 v6 w' => ∃ (x5_1 : List Int) (x6_1 : Int), v6 = .int .i64 x6_1 ∧ Aside0 (spec_l2Kids.l0 kq l0 a1 x5_1 x6_1 = some r) ∧ Aside0 (kq ≤ k) ∧ Aside0 (Kd.R (Kd.int .i64) 2 w' w.heap.size (fun _ => True) v5 x5_1) ∧ Aside0 (Below w.heap.size w w'))
 case atStart => exact ⟨(y171), (wrap64 (a1 + 1)), dq26, H', ⟨Nat.le_refl _⟩, ⟨by (with_reducible repeat (first | apply Kd.R_alloc | apply Kd.R_drewN | apply Kd.R_drew)); exact HO173.out⟩, ⟨dq23⟩⟩
 case round =>
  clear H'
  try clear p2
  obtain ⟨x5_1, x6_1, rfl, HA, HK1, HO_5, HB⟩ := hrel
  cases gk with
  | zero => exact absurd HA.out (by simp [spec_l2Kids.l0])
  | succ k1 =>
   have H := HA.out
   clear HA
   simp only [spec_l2Kids.l0] at H
   by_cases c5 : x6_1 < (l0.length : Int)
   ·rw [if_pos c5] at H
    have c5b0 := decide_eq_true c5
    clear c5
    by_cases c6 : 0 ≤ x6_1
    ·rw [if_pos c6] at H
     have c6b0 := decide_eq_true c6
     clear c6
     by_cases c7 : ((rd_T39 l0 x6_1).f0) = a1
     ·rw [if_pos c7] at H
      have c7b0 := beq_iff_eq.mpr c7
      have c7b1 := bne_eq_false_iff_eq.mpr c7
      clear c7
      by_cases c8 : x5_1.length < 17592186044416
      ·rw [if_pos c8] at H
       have LMc8 := Aside0.mk c8
       clear c8
       obtain ⟨y175, hy175⟩ : ∃ y_ : List Int, y_ = (x5_1 ++ [x6_1]) := ⟨_, rfl⟩
       replace H : (spec_l2Kids.l0 k1 l0 a1 y175 (wrap64 (x6_1 + 1))) = some r := by first | (rw [hy175]; with_reducible exact H) | (have H2_ := (Option.bind_some _ _).symm.trans H; rw [hy175]; with_reducible exact H2_) | (have H2_ := (Option.bind_some _ _).symm.trans H; with_reducible exact H2_) | with_reducible exact H | (rw [hy175]; exact H) | exact H
       have Ny175 := Aside0.mk hy175
       clear hy175
       have H' := Aside0.mk H
       clear H
       have p174 : 0 ≤ (x6_1 : Int) := of_decide_eq_true dq27
       have q174 : x6_1 < (l0.length : Int) := of_decide_eq_true dq27
       obtain ⟨ad174, A174_3, c174_3, e174, hx174_0, hx174_1, hx174_2, hx174_3, hl174_3, hi174_3⟩ := at_T39 HR0.out x6_1 p174 q174
       cases e174
       replace hx174_0 := (HB.out.cell (World.block_lt_of_cell? w _ hx174_0)).trans hx174_0
       replace hx174_1 := (HB.out.cell (World.block_lt_of_cell? w _ hx174_1)).trans hx174_1
       replace hx174_2 := (HB.out.cell (World.block_lt_of_cell? w _ hx174_2)).trans hx174_2
       replace hx174_3 := (HB.out.cell (World.block_lt_of_cell? w _ hx174_3)).trans hx174_3
       have HR174_3 := Aside0.mk hi174_3
       have HC174_3 := Aside0.mk hl174_3
       clear hi174_3 hl174_3
       replace p174 := eq_true p174
       replace q174 := eq_true q174
       go_wp2_with (first | ((with_reducible refine gate_builtin (b := .append) (xs := #[.tmp 23, .tmp 25]) rfl ?_); at_builtin; refine Kd.R_append (Kd.int .i64) (w0 := w) w.heap.size rfl (.tmp 23) (.tmp 25) 24 2 (.int .i64 0) 8 rfl Tryd.underlying24 info2 rfl dq38 dq34 u5 x5_1 x6_1 [.int .i64 x6_1] (fun _ => True) (fun _ => False) rfl rfl ?aP (fun _ hk => hk.elim) ?aF ?aO ?aB ?aS ?aL ?_; (case aP => exact rfl); (case aB => exact dq23); (case aF => exact (fun _ _ => trivial)); (case aO => exact dq46); (case aS => exact (below_size dq23)); (case aL => have := LMc8.out; omega); intro v176 w9 ho hb hg hat; rw [← Ny175.out] at ho; have n0_ := Aside0.mk (hb); have n1_ := Aside0.mk (ho); clear HB; clear HO_5; have HB := n0_; have HO177 := n1_; clear n0_ n1_; clear ho hb hg hat))
       go_roundg k1
       case measure => have := HK1.out; omega
       case rel => exact ⟨(y175), (wrap64 (x6_1 + 1)), dq26, H', ⟨dq30⟩, ⟨by (with_reducible repeat (first | apply Kd.R_alloc | apply Kd.R_drewN | apply Kd.R_drew)); exact HO177.out⟩, ⟨dq23⟩⟩
      ·rw [if_neg c8] at H
       exact absurd H dq31
     ·rw [if_neg c7] at H
      have c7b0 := beq_eq_false_iff_ne.mpr c7
      have c7b1 := bne_iff_ne.mpr c7
      have H' := Aside0.mk H
      clear H
      have p174 : 0 ≤ (x6_1 : Int) := of_decide_eq_true dq27
      have q174 : x6_1 < (l0.length : Int) := of_decide_eq_true dq27
      obtain ⟨ad174, A174_3, c174_3, e174, hx174_0, hx174_1, hx174_2, hx174_3, hl174_3, hi174_3⟩ := at_T39 HR0.out x6_1 p174 q174
      cases e174
      replace hx174_0 := (HB.out.cell (World.block_lt_of_cell? w _ hx174_0)).trans hx174_0
      replace hx174_1 := (HB.out.cell (World.block_lt_of_cell? w _ hx174_1)).trans hx174_1
      replace hx174_2 := (HB.out.cell (World.block_lt_of_cell? w _ hx174_2)).trans hx174_2
      replace hx174_3 := (HB.out.cell (World.block_lt_of_cell? w _ hx174_3)).trans hx174_3
      have HR174_3 := Aside0.mk hi174_3
      have HC174_3 := Aside0.mk hl174_3
      clear hi174_3 hl174_3
      replace p174 := eq_true p174
      replace q174 := eq_true q174
      go_wp2
      go_roundg k1
      case measure => have := HK1.out; omega
      case rel => exact ⟨(x5_1), (wrap64 (x6_1 + 1)), dq26, H', ⟨dq30⟩, ⟨dq46⟩, ⟨dq23⟩⟩
    ·rw [if_neg c6] at H
     exact absurd H dq31
   ·rw [if_neg c5] at H
    have c5b0 := decide_eq_false c5
    clear c5
    obtain rfl := Option.some.inj H
    go_wp2
    go_ret
    exact ⟨_, dq25, dq46, dq23⟩

/-! ### spec_l8Sorted: function 78 -/
mutual
def spec_l8Sorted.l0 : Nat → List Int → List Int → Int → Option (List Int)
 | 0, _, _, _ => none
 | k + 1, x0, x3, x4 => if x4 < (x0.length : Int) then (spec_l8Sorted.l1 k x0 x3 x4 0) else (some x3)
def spec_l8Sorted.l1 : Nat → List Int → List Int → Int → Int → Option (List Int)
 | 0, _, _, _, _ => none
 | k + 1, x0, x3, x4, x5 => if x5 < (x3.length : Int) then (if 0 ≤ x5 then (if 0 ≤ x4 then (if x4 < (x0.length : Int) then (if (rd x3 x5) < (rd x0 x4) then (spec_l8Sorted.l1 k x0 x3 x4 (wrap64 (x5 + 1))) else (if (rd x3 x5) = (rd x0 x4) then (spec_l8Sorted.l0 k x0 x3 (wrap64 (x4 + 1))) else ((some (([] : List Int) : List Int)).bind fun y185 => (if x5 ≤ (x3.length : Int) then ((some (x3.take (x5 : Int).toNat : List Int)).bind fun y188 => (if y185.length + y188.length < 17592186044416 then ((some (y185 ++ y188 : List Int)).bind fun y192 => (if y192.length < 17592186044416 then ((some (y192 ++ [rd x0 x4] : List Int)).bind fun y196 => ((some (x3.drop (x5 : Int).toNat : List Int)).bind fun y199 => (if y196.length + y199.length < 17592186044416 then (spec_l8Sorted.l0 k x0 (y196 ++ y199) (wrap64 (x4 + 1))) else (none)))) else (none))) else (none))) else (none))))) else (none)) else (none)) else (none)) else ((some (([] : List Int) : List Int)).bind fun y206 => (if 0 ≤ x5 then (if x5 ≤ (x3.length : Int) then ((some (x3.take (x5 : Int).toNat : List Int)).bind fun y209 => (if y206.length + y209.length < 17592186044416 then ((some (y206 ++ y209 : List Int)).bind fun y213 => (if 0 ≤ x4 then (if x4 < (x0.length : Int) then (if y213.length < 17592186044416 then ((some (y213 ++ [rd x0 x4] : List Int)).bind fun y217 => ((some (x3.drop (x5 : Int).toNat : List Int)).bind fun y220 => (if y217.length + y220.length < 17592186044416 then (spec_l8Sorted.l0 k x0 (y217 ++ y220) (wrap64 (x4 + 1))) else (none)))) else (none)) else (none)) else (none))) else (none))) else (none)) else (none)))
end
def spec_l8Sorted.f (k : Nat) (l0 : List Int) : Option (List Int) := spec_l8Sorted.l0 k l0 (([] : List Int)) 0
set_option maxHeartbeats 8000000 in
set_option maxRecDepth 100000 in
theorem spec_l8Sorted.calls (k : Nat) (A0 : Option Addr) (c0 : Nat) (l0 : List Int) (r : List Int) (w : World) (hr0 : Kd.C (Kd.int .i64) w A0 l0.length l0) (hc0 : l0.length ≤ c0) (h : spec_l8Sorted.f k l0 = some r) :
  Calls Tryd.prog 78 #[.slice A0 l0.length c0] w fun e w' => ∃ v0_ : Value, e = .returned (v0_) ∧ Kd.R (Kd.int .i64) 2 w' w.heap.size (fun _ => True) v0_ r ∧ Below w.heap.size w w' := by
 have HR0 := Aside0.mk hr0
 have HC0 := Aside0.mk hc0
 clear hr0 hc0
 have HB := Aside0.mk (Below.refl w.heap.size w)
 have H : (spec_l8Sorted.l0 k l0 (([] : List Int)) 0) = some r := h
 clear h
 obtain ⟨y178, hy178⟩ : ∃ y_ : List Int, y_ = (([] : List Int)) := ⟨_, rfl⟩
 replace H : (spec_l8Sorted.l0 k l0 y178 0) = some r := by first | (rw [hy178]; with_reducible exact H) | (have H2_ := (Option.bind_some _ _).symm.trans H; rw [hy178]; with_reducible exact H2_) | (have H2_ := (Option.bind_some _ _).symm.trans H; with_reducible exact H2_) | with_reducible exact H | (rw [hy178]; exact H) | exact H
 have Ny178 := Aside0.mk hy178
 clear hy178
 have H' := Aside0.mk H
 clear H
 go_enter Tryd.func78, Tryd.ntmps78
 go_wp2_with (first | ((with_reducible refine gate_dst (N := 7) rfl ?_); refine Kd.R_lit (Kd.int .i64) _ 2 ?hg (N := 7) ?hd (xs := ([] : List Int)) (inner := []) (ok := fun _ => True) (okp := fun _ => True) ?hr ?hp (fun _ hk => hk) trivial (Below.refl _ _) (Nat.le_refl _) dq31 ?_; (case hd => rfl); (case hg => rfl); (case hr => exact dq0); (case hp => exact dq2); intro v179 w2 ho3 hb hg_ hnew_; clear hg_ hnew_; (first | rw [← Ny178.out] at ho3 | (simp only [Int.reduceToNat] at ho3; rw [← Ny178.out] at ho3)); have n0_ := Aside0.mk (Kd.R_lower ho3 (below_size dq23)); have n1_ := Aside0.mk (below_step dq23 hb); clear HB; have HO180 := n0_; have HB := n1_; clear n0_ n1_; clear hb ho3))
 repeat (go_quiet (first | ((with_reducible refine gate_dst (N := 7) rfl ?_); refine Kd.R_lit (Kd.int .i64) _ 2 ?hg (N := 7) ?hd (xs := ([] : List Int)) (inner := []) (ok := fun _ => True) (okp := fun _ => True) ?hr ?hp (fun _ hk => hk) trivial (Below.refl _ _) (Nat.le_refl _) dq31 ?_; (case hd => rfl); (case hg => rfl); (case hr => exact dq0); (case hp => exact dq2); intro v179 w2 ho3 hb hg_ hnew_; clear hg_ hnew_; (first | rw [← Ny178.out] at ho3 | (simp only [Int.reduceToNat] at ho3; rw [← Ny178.out] at ho3)); have n0_ := Aside0.mk (Kd.R_lower ho3 (below_size dq23)); have n1_ := Aside0.mk (below_step dq23 hb); clear HB; have HO180 := n0_; have HB := n1_; clear n0_ n1_; clear hb ho3)); try go_wp2_with (first | ((with_reducible refine gate_dst (N := 7) rfl ?_); refine Kd.R_lit (Kd.int .i64) _ 2 ?hg (N := 7) ?hd (xs := ([] : List Int)) (inner := []) (ok := fun _ => True) (okp := fun _ => True) ?hr ?hp (fun _ hk => hk) trivial (Below.refl _ _) (Nat.le_refl _) dq31 ?_; (case hd => rfl); (case hg => rfl); (case hr => exact dq0); (case hp => exact dq2); intro v179 w2 ho3 hb hg_ hnew_; clear hg_ hnew_; (first | rw [← Ny178.out] at ho3 | (simp only [Int.reduceToNat] at ho3; rw [← Ny178.out] at ho3)); have n0_ := Aside0.mk (Kd.R_lower ho3 (below_size dq23)); have n1_ := Aside0.mk (below_step dq23 hb); clear HB; have HO180 := n0_; have HB := n1_; clear n0_ n1_; clear hb ho3)))
 go_loopg [3, 4] k (fun kq v3 v4 w' => ∃ (x3_1 : List Int) (x4_1 : Int), v4 = .int .i64 x4_1 ∧ Aside0 (spec_l8Sorted.l0 kq l0 x3_1 x4_1 = some r) ∧ Aside0 (kq ≤ k) ∧ Aside0 (Kd.R (Kd.int .i64) 2 w' w.heap.size (fun _ => True) v3 x3_1) ∧ Aside0 (Below w.heap.size w w'))
 case atStart => exact ⟨(y178), (0), dq26, H', ⟨Nat.le_refl _⟩, ⟨by (with_reducible repeat (first | apply Kd.R_alloc | apply Kd.R_drewN | apply Kd.R_drew)); exact HO180.out⟩, ⟨dq23⟩⟩
 case round =>
  clear H'
  try clear p2
  obtain ⟨x3_1, x4_1, rfl, HA, HK1, HO_3, HB⟩ := hrel
  cases gk with
  | zero => exact absurd HA.out (by simp [spec_l8Sorted.l0])
  | succ k1 =>
   have H := HA.out
   clear HA
   simp only [spec_l8Sorted.l0] at H
   by_cases c4 : x4_1 < (l0.length : Int)
   ·rw [if_pos c4] at H
    have c4b0 := decide_eq_true c4
    clear c4
    have H' := Aside0.mk H
    clear H
    go_wp2
    repeat (go_quiet (fail); try go_wp2)
    go_loopg [5] k1 (fun kq v5 w' => ∃ (x5_2 : Int), v5 = .int .i64 x5_2 ∧ Aside0 (spec_l8Sorted.l1 kq l0 x3_1 x4_1 x5_2 = some r) ∧ Aside0 (kq ≤ k1) ∧ Aside0 (Kd.R (Kd.int .i64) 2 w' w.heap.size (fun _ => True) u3 x3_1) ∧ Aside0 (Below w.heap.size w w'))
    case atStart => exact ⟨(0), dq26, H', ⟨Nat.le_refl _⟩, ⟨dq39⟩, ⟨dq23⟩⟩
    case round =>
     clear H'
     try clear p2
     try clear c4
     try clear c4b0
     try clear p2
     obtain ⟨x5_2, rfl, HA, HK2, HO_3, HB⟩ := hrel
     cases gk with
     | zero => exact absurd HA.out (by simp [spec_l8Sorted.l1])
     | succ k2 =>
      have H := HA.out
      clear HA
      simp only [spec_l8Sorted.l1] at H
      by_cases c5 : x5_2 < (x3_1.length : Int)
      ·rw [if_pos c5] at H
       have c5b0 := decide_eq_true c5
       clear c5
       by_cases c6 : 0 ≤ x5_2
       ·rw [if_pos c6] at H
        have c6b0 := decide_eq_true c6
        clear c6
        by_cases c7 : 0 ≤ x4_1
        ·rw [if_pos c7] at H
         have c7b0 := decide_eq_true c7
         clear c7
         by_cases c8 : x4_1 < (l0.length : Int)
         ·rw [if_pos c8] at H
          have c8b0 := decide_eq_true c8
          clear c8
          by_cases c9 : (rd x3_1 x5_2) < (rd l0 x4_1)
          ·rw [if_pos c9] at H
           have c9b0 := decide_eq_true c9
           clear c9
           have H' := Aside0.mk H
           clear H
           obtain ⟨Ao10, co10, eo10⟩ := Kd.R_slice HO_3.out
           subst eo10
           have p181 : 0 ≤ (x5_2 : Int) := of_decide_eq_true dq27
           have q181 : x5_2 < (x3_1.length : Int) := of_decide_eq_true dq27
           obtain ⟨ad181, e181, hx181_0⟩ := Kd.at_int (Kd.R_reads' HO_3.out).2.2 x5_2 p181 q181
           cases e181
           replace p181 := eq_true p181
           replace q181 := eq_true q181
           have p182 : 0 ≤ (x4_1 : Int) := of_decide_eq_true dq27
           have q182 : x4_1 < (l0.length : Int) := of_decide_eq_true dq27
           obtain ⟨ad182, e182, hx182_0⟩ := Kd.at_int HR0.out x4_1 p182 q182
           cases e182
           replace hx182_0 := (HB.out.cell (World.block_lt_of_cell? w _ hx182_0)).trans hx182_0
           replace p182 := eq_true p182
           replace q182 := eq_true q182
           go_wp2
           repeat (go_quiet (fail); try go_wp2)
           go_roundg k2
           case measure => have := HK1.out; have := HK2.out; omega
           case rel => exact ⟨(wrap64 (x5_2 + 1)), dq26, H', ⟨dq47⟩, ⟨dq39⟩, ⟨dq23⟩⟩
          ·rw [if_neg c9] at H
           have c9b0 := decide_eq_false c9
           clear c9
           by_cases c11 : (rd x3_1 x5_2) = (rd l0 x4_1)
           ·rw [if_pos c11] at H
            have c11b0 := beq_iff_eq.mpr c11
            have c11b1 := bne_eq_false_iff_eq.mpr c11
            clear c11
            have H' := Aside0.mk H
            clear H
            obtain ⟨Ao12, co12, eo12⟩ := Kd.R_slice HO_3.out
            subst eo12
            have p181 : 0 ≤ (x5_2 : Int) := of_decide_eq_true dq27
            have q181 : x5_2 < (x3_1.length : Int) := of_decide_eq_true dq27
            obtain ⟨ad181, e181, hx181_0⟩ := Kd.at_int (Kd.R_reads' HO_3.out).2.2 x5_2 p181 q181
            cases e181
            replace p181 := eq_true p181
            replace q181 := eq_true q181
            have p182 : 0 ≤ (x4_1 : Int) := of_decide_eq_true dq27
            have q182 : x4_1 < (l0.length : Int) := of_decide_eq_true dq27
            obtain ⟨ad182, e182, hx182_0⟩ := Kd.at_int HR0.out x4_1 p182 q182
            cases e182
            replace hx182_0 := (HB.out.cell (World.block_lt_of_cell? w _ hx182_0)).trans hx182_0
            replace p182 := eq_true p182
            replace q182 := eq_true q182
            have p183 : 0 ≤ (x5_2 : Int) := of_decide_eq_true dq27
            have q183 : x5_2 < (x3_1.length : Int) := of_decide_eq_true dq27
            obtain ⟨ad183, e183, hx183_0⟩ := Kd.at_int (Kd.R_reads' HO_3.out).2.2 x5_2 p183 q183
            obtain rfl : ad181 = ad183 := (by injection e183)
            replace p183 := eq_true p183
            replace q183 := eq_true q183
            have p184 : 0 ≤ (x4_1 : Int) := of_decide_eq_true dq27
            have q184 : x4_1 < (l0.length : Int) := of_decide_eq_true dq27
            obtain ⟨ad184, e184, hx184_0⟩ := Kd.at_int HR0.out x4_1 p184 q184
            obtain rfl : ad182 = ad184 := (by injection e184)
            replace hx184_0 := (HB.out.cell (World.block_lt_of_cell? w _ hx184_0)).trans hx184_0
            replace p184 := eq_true p184
            replace q184 := eq_true q184
            go_wp2
            repeat (go_quiet (fail); try go_wp2)
            go_roundg k2
            case measure => have := HK1.out; have := HK2.out; omega
            case rel => exact ⟨(x3_1), (wrap64 (x4_1 + 1)), dq26, H', ⟨dq47⟩, ⟨dq39⟩, ⟨dq23⟩⟩
           ·rw [if_neg c11] at H
            have c11b0 := beq_eq_false_iff_ne.mpr c11
            have c11b1 := bne_iff_ne.mpr c11
            obtain ⟨y185, hy185⟩ : ∃ y_ : List Int, y_ = (([] : List Int)) := ⟨_, rfl⟩
            replace H : (if x5_2 ≤ (x3_1.length : Int) then ((some (x3_1.take (x5_2 : Int).toNat : List Int)).bind fun y188 => (if y185.length + y188.length < 17592186044416 then ((some (y185 ++ y188 : List Int)).bind fun y192 => (if y192.length < 17592186044416 then ((some (y192 ++ [rd l0 x4_1] : List Int)).bind fun y196 => ((some (x3_1.drop (x5_2 : Int).toNat : List Int)).bind fun y199 => (if y196.length + y199.length < 17592186044416 then (spec_l8Sorted.l0 k2 l0 (y196 ++ y199) (wrap64 (x4_1 + 1))) else (none)))) else (none))) else (none))) else (none)) = some r := by first | (rw [hy185]; with_reducible exact H) | (have H2_ := (Option.bind_some _ _).symm.trans H; rw [hy185]; with_reducible exact H2_) | (have H2_ := (Option.bind_some _ _).symm.trans H; with_reducible exact H2_) | with_reducible exact H | (rw [hy185]; exact H) | exact H
            have Ny185 := Aside0.mk hy185
            clear hy185
            have c13b0 := eq_true (of_decide_eq_true dq27 : 0 ≤ x5_2)
            by_cases c14 : x5_2 ≤ (x3_1.length : Int)
            ·rw [if_pos c14] at H
             have c14b0 := eq_true c14
             have c14b1 := decide_eq_true c14
             clear c14
             obtain ⟨y188, hy188⟩ : ∃ y_ : List Int, y_ = (x3_1.take (x5_2 : Int).toNat) := ⟨_, rfl⟩
             replace H : (if y185.length + y188.length < 17592186044416 then ((some (y185 ++ y188 : List Int)).bind fun y192 => (if y192.length < 17592186044416 then ((some (y192 ++ [rd l0 x4_1] : List Int)).bind fun y196 => ((some (x3_1.drop (x5_2 : Int).toNat : List Int)).bind fun y199 => (if y196.length + y199.length < 17592186044416 then (spec_l8Sorted.l0 k2 l0 (y196 ++ y199) (wrap64 (x4_1 + 1))) else (none)))) else (none))) else (none)) = some r := by first | (rw [hy188]; with_reducible exact H) | (have H2_ := (Option.bind_some _ _).symm.trans H; rw [hy188]; with_reducible exact H2_) | (have H2_ := (Option.bind_some _ _).symm.trans H; with_reducible exact H2_) | with_reducible exact H | (rw [hy188]; exact H) | exact H
             have Ny188 := Aside0.mk hy188
             clear hy188
             by_cases c15 : y185.length + y188.length < 17592186044416
             ·rw [if_pos c15] at H
              have LMc15 := Aside0.mk c15
              clear c15
              obtain ⟨y192, hy192⟩ : ∃ y_ : List Int, y_ = (y185 ++ y188) := ⟨_, rfl⟩
              replace H : (if y192.length < 17592186044416 then ((some (y192 ++ [rd l0 x4_1] : List Int)).bind fun y196 => ((some (x3_1.drop (x5_2 : Int).toNat : List Int)).bind fun y199 => (if y196.length + y199.length < 17592186044416 then (spec_l8Sorted.l0 k2 l0 (y196 ++ y199) (wrap64 (x4_1 + 1))) else (none)))) else (none)) = some r := by first | (rw [hy192]; with_reducible exact H) | (have H2_ := (Option.bind_some _ _).symm.trans H; rw [hy192]; with_reducible exact H2_) | (have H2_ := (Option.bind_some _ _).symm.trans H; with_reducible exact H2_) | with_reducible exact H | (rw [hy192]; exact H) | exact H
              have Ny192 := Aside0.mk hy192
              clear hy192
              by_cases c16 : y192.length < 17592186044416
              ·rw [if_pos c16] at H
               have LMc16 := Aside0.mk c16
               clear c16
               obtain ⟨y196, hy196⟩ : ∃ y_ : List Int, y_ = (y192 ++ [rd l0 x4_1]) := ⟨_, rfl⟩
               replace H : ((some (x3_1.drop (x5_2 : Int).toNat : List Int)).bind fun y199 => (if y196.length + y199.length < 17592186044416 then (spec_l8Sorted.l0 k2 l0 (y196 ++ y199) (wrap64 (x4_1 + 1))) else (none))) = some r := by first | (rw [hy196]; with_reducible exact H) | (have H2_ := (Option.bind_some _ _).symm.trans H; rw [hy196]; with_reducible exact H2_) | (have H2_ := (Option.bind_some _ _).symm.trans H; with_reducible exact H2_) | with_reducible exact H | (rw [hy196]; exact H) | exact H
               have Ny196 := Aside0.mk hy196
               clear hy196
               have c17b0 := eq_true (of_decide_eq_true dq27 : 0 ≤ x5_2)
               have c18b0 := eq_true (of_decide_eq_true dq27 : x5_2 ≤ (x3_1.length : Int))
               obtain ⟨y199, hy199⟩ : ∃ y_ : List Int, y_ = (x3_1.drop (x5_2 : Int).toNat) := ⟨_, rfl⟩
               replace H : (if y196.length + y199.length < 17592186044416 then (spec_l8Sorted.l0 k2 l0 (y196 ++ y199) (wrap64 (x4_1 + 1))) else (none)) = some r := by first | (rw [hy199]; with_reducible exact H) | (have H2_ := (Option.bind_some _ _).symm.trans H; rw [hy199]; with_reducible exact H2_) | (have H2_ := (Option.bind_some _ _).symm.trans H; with_reducible exact H2_) | with_reducible exact H | (rw [hy199]; exact H) | exact H
               have Ny199 := Aside0.mk hy199
               clear hy199
               by_cases c19 : y196.length + y199.length < 17592186044416
               ·rw [if_pos c19] at H
                have LMc19 := Aside0.mk c19
                clear c19
                obtain ⟨y203, hy203⟩ : ∃ y_ : List Int, y_ = (y196 ++ y199) := ⟨_, rfl⟩
                replace H : (spec_l8Sorted.l0 k2 l0 y203 (wrap64 (x4_1 + 1))) = some r := by first | (rw [hy203]; with_reducible exact H) | (have H2_ := (Option.bind_some _ _).symm.trans H; rw [hy203]; with_reducible exact H2_) | (have H2_ := (Option.bind_some _ _).symm.trans H; with_reducible exact H2_) | with_reducible exact H | (rw [hy203]; exact H) | exact H
                have Ny203 := Aside0.mk hy203
                clear hy203
                have H' := Aside0.mk H
                clear H
                obtain ⟨Ao20, co20, eo20⟩ := Kd.R_slice HO_3.out
                subst eo20
                have p181 : 0 ≤ (x5_2 : Int) := of_decide_eq_true dq27
                have q181 : x5_2 < (x3_1.length : Int) := of_decide_eq_true dq27
                obtain ⟨ad181, e181, hx181_0⟩ := Kd.at_int (Kd.R_reads' HO_3.out).2.2 x5_2 p181 q181
                cases e181
                replace p181 := eq_true p181
                replace q181 := eq_true q181
                have p182 : 0 ≤ (x4_1 : Int) := of_decide_eq_true dq27
                have q182 : x4_1 < (l0.length : Int) := of_decide_eq_true dq27
                obtain ⟨ad182, e182, hx182_0⟩ := Kd.at_int HR0.out x4_1 p182 q182
                cases e182
                replace hx182_0 := (HB.out.cell (World.block_lt_of_cell? w _ hx182_0)).trans hx182_0
                replace p182 := eq_true p182
                replace q182 := eq_true q182
                have p183 : 0 ≤ (x5_2 : Int) := of_decide_eq_true dq27
                have q183 : x5_2 < (x3_1.length : Int) := of_decide_eq_true dq27
                obtain ⟨ad183, e183, hx183_0⟩ := Kd.at_int (Kd.R_reads' HO_3.out).2.2 x5_2 p183 q183
                obtain rfl : ad181 = ad183 := (by injection e183)
                replace p183 := eq_true p183
                replace q183 := eq_true q183
                have p184 : 0 ≤ (x4_1 : Int) := of_decide_eq_true dq27
                have q184 : x4_1 < (l0.length : Int) := of_decide_eq_true dq27
                obtain ⟨ad184, e184, hx184_0⟩ := Kd.at_int HR0.out x4_1 p184 q184
                obtain rfl : ad182 = ad184 := (by injection e184)
                replace hx184_0 := (HB.out.cell (World.block_lt_of_cell? w _ hx184_0)).trans hx184_0
                replace p184 := eq_true p184
                replace q184 := eq_true q184
                go_wp2_with (first | ((with_reducible refine gate_dst (N := 46) rfl ?_); refine Kd.R_lit (Kd.int .i64) _ 2 ?hg (N := 46) ?hd (xs := ([] : List Int)) (inner := []) (ok := fun _ => True) (okp := fun _ => True) ?hr ?hp (fun _ hk => hk) trivial (Below.refl _ _) (Nat.le_refl _) dq31 ?_; (case hd => rfl); (case hg => rfl); (case hr => exact dq0); (case hp => exact dq2); intro v186 w21 ho22 hb hg_ hnew_; clear hg_ hnew_; (first | rw [← Ny185.out] at ho22 | (simp only [Int.reduceToNat] at ho22; rw [← Ny185.out] at ho22)); have n0_ := Aside0.mk (Kd.R_elder' dq39 (Kd.R_base ho22) hb); have n1_ := Aside0.mk (Kd.R_lower (Kd.R_new' ho22 (Kd.R_lt dq39)) (below_size dq23)); have n2_ := Aside0.mk (below_step dq23 hb); clear HO_3; clear HB; have HO_3 := n0_; have HO187 := n1_; have HB := n2_; clear n0_ n1_ n2_; clear hb ho22; have q23 : (x5_2 : Int) ≤ ((x3_1.length : Int) : Int) := of_decide_eq_true dq27; obtain ⟨i023, hi023, _, hsz23, _⟩ := info_parts info2; have hroom23 : x3_1.length ≤ co20 := (Kd.R_reads' HO_3.out).2.1; have hC23 : Kd.C (Kd.int .i64) _ (some ad181) x3_1.length x3_1 := (Kd.R_reads' HO_3.out).2.2; have hcut23 := cut_to (P := Tryd.prog) 24 2 .i64 Tryd.underlying24 hi023 (some ad181) x3_1.length co20 x5_2 (of_decide_eq_true dq27) q23 hroom23; have hr23 := Kd.C_take (m := (x5_2 : Int).toNat) hC23 dq34; have hy23 : y188.length = (x5_2 : Int).toNat := (by rw [Ny188.out, List.length_take]; omega); rw [← Ny188.out] at hr23; rw [← hy23] at hcut23; have HR191 := Aside0.mk hr23; have HC191 := Aside0.mk (show y188.length ≤ co20 from by omega); clear hr23 hC23 hroom23 hi023 hsz23; have KY23 := Aside0.mk hy23; clear hy23; have KL23 := Aside0.mk (show (x5_2 : Int).toNat ≤ x3_1.length from by omega); replace q23 := eq_true q23) | ((with_reducible refine gate_builtin (b := .append) (xs := #[.tmp 46, .tmp 49]) rfl ?_); at_builtin; refine Kd.R_append_rows (Kd.int .i64) (w0 := w) w.heap.size rfl (.tmp 46) (.tmp 49) 24 2 (.int .i64 0) 8 rfl Tryd.underlying24 info2 rfl dq38 dq34 v186 y185 y188 _ _ _ (fun k_ => some k_ ≠ (.slice (some ad181) x3_1.length co20 : Value).ownBlock) (fun _ => False) rfl rfl ?aO ?aR (fun _ _ h => h) (fun _ h => h.elim) ?aF ?aB ?aS ?aL ?_; (case aR => repeat (first | exact dq52 | (with_reducible refine Kd.C_alloc ?_ _) | (with_reducible refine Kd.C_drewN ?_ _) | (with_reducible refine Kd.C_drew ?_))); (case aB => exact dq23); (case aF => exact (fun k_ hk => Kd.fresh' (Kd.R_lt dq39) k_ hk)); (case aO => exact dq51); (case aS => exact (below_size dq23)); (case aL => have := LMc15.out; omega); intro v193 w24 ho hb hg hat; rw [← Ny192.out] at ho; have n0_ := Aside0.mk (Kd.R_after (ok := (fun _ => True)) dq39 hg hat); have n1_ := Aside0.mk (hb); have n2_ := Aside0.mk ((show Kd.C (Kd.int .i64) w24 (some ad181) y188.length y188 from by rw [Ny188.out]; exact Kd.C_take (m := (x5_2 : Int).toNat) ((Kd.R_reads' (Kd.R_after (ok := (fun _ => True)) dq39 hg hat)).2.2) KL23.out)); have n3_ := Aside0.mk (ho); clear HO_3; clear HB; clear HR191; clear HO187; have HO_3 := n0_; have HB := n1_; have HR191 := n2_; have HO194 := n3_; clear n0_ n1_ n2_ n3_; clear ho hb hg hat; have p195 : 0 ≤ (x4_1 : Int) := of_decide_eq_true dq27; have q195 : x4_1 < (l0.length : Int) := of_decide_eq_true dq27; obtain ⟨ad195, e195, hx195_0⟩ := Kd.at_int HR0.out x4_1 p195 q195; obtain rfl : ad182 = ad195 := (by injection e195); replace hx195_0 := (HB.out.cell (World.block_lt_of_cell? w _ hx195_0)).trans hx195_0; replace p195 := eq_true p195; replace q195 := eq_true q195) | ((with_reducible refine gate_builtin (b := .append) (xs := #[.tmp 51, .tmp 56]) rfl ?_); at_builtin; refine Kd.R_append (Kd.int .i64) (w0 := w) w.heap.size rfl (.tmp 51) (.tmp 56) 24 2 (.int .i64 0) 8 rfl Tryd.underlying24 info2 rfl dq38 dq34 v193 y192 (rd l0 x4_1) [.int .i64 (rd l0 x4_1)] (fun k_ => some k_ ≠ (.slice (some ad181) x3_1.length co20 : Value).ownBlock) (fun _ => False) rfl rfl ?aP (fun _ hk => hk.elim) ?aF ?aO ?aB ?aS ?aL ?_; (case aP => exact rfl); (case aB => exact dq23); (case aF => exact (fun k_ hk => Kd.fresh' (Kd.R_lt dq39) k_ hk)); (case aO => exact dq50); (case aS => exact (below_size dq23)); (case aL => have := LMc16.out; omega); intro v197 w25 ho hb hg hat; rw [← Ny196.out] at ho; have n0_ := Aside0.mk (Kd.R_after (ok := (fun _ => True)) dq39 hg hat); have n1_ := Aside0.mk (hb); have n2_ := Aside0.mk ((show Kd.C (Kd.int .i64) w25 (some ad181) y188.length y188 from by rw [Ny188.out]; exact Kd.C_take (m := (x5_2 : Int).toNat) ((Kd.R_reads' (Kd.R_after (ok := (fun _ => True)) dq39 hg hat)).2.2) KL23.out)); have n3_ := Aside0.mk (ho); clear HO_3; clear HB; clear HR191; clear HO194; have HO_3 := n0_; have HB := n1_; have HR191 := n2_; have HO198 := n3_; clear n0_ n1_ n2_ n3_; clear ho hb hg hat; have q26 : (x5_2 : Int) ≤ ((x3_1.length : Int) : Int) := of_decide_eq_true dq27; obtain ⟨i026, hi026, _, hsz26, _⟩ := info_parts info2; have hroom26 : x3_1.length ≤ co20 := (Kd.R_reads' HO_3.out).2.1; have hC26 : Kd.C (Kd.int .i64) _ (some ad181) x3_1.length x3_1 := (Kd.R_reads' HO_3.out).2.2; have q026 : (0 : Int) ≤ (x5_2 : Int) := of_decide_eq_true dq27; have hcut26 := cut_from (P := Tryd.prog) 24 2 .i64 Tryd.underlying24 hi026 1 hsz26 (some ad181) x3_1.length co20 x5_2 q026 q26; have hr26 := Kd.C_drop (m := (x5_2 : Int).toNat) (c := co20) hC26 dq34 hroom26; obtain ⟨A26, hA26⟩ : ∃ A1, A1 = (if co20 = (x5_2 : Int).toNat then (some ad181) else ((some ad181) : Option Addr).map (·.add ((x5_2 : Int).toNat * 1))) := ⟨_, rfl⟩; obtain ⟨c26, hc26⟩ : ∃ c1, c1 = co20 - (x5_2 : Int).toNat := ⟨_, rfl⟩; have hy26 : y199.length = x3_1.length - (x5_2 : Int).toNat := (by rw [Ny199.out, List.length_drop] <;> omega); rw [show (x3_1).drop (x5_2 : Int).toNat = y199 from Ny199.out.symm] at hr26; replace hr26 : Kd.C (Kd.int .i64) _ A26 y199.length y199 := (by rw [hA26]; exact hr26); rw [← hy26, ← hA26, ← hc26] at hcut26; have HR202 := Aside0.mk hr26; have HC202 := Aside0.mk (show y199.length ≤ c26 from by rw [hy26, hc26]; exact Nat.sub_le_sub_right hroom26 _); clear hr26 hC26 hroom26 hi026 hsz26 hc26; have KY26 := Aside0.mk hy26; have KA26 := Aside0.mk hA26; clear hy26 hA26; have KL26 := Aside0.mk (show (x5_2 : Int).toNat ≤ x3_1.length from by omega); replace q26 := eq_true q26) | ((with_reducible refine gate_builtin (b := .append) (xs := #[.tmp 58, .tmp 61]) rfl ?_); at_builtin; refine Kd.R_append_rows (Kd.int .i64) (w0 := w) w.heap.size rfl (.tmp 58) (.tmp 61) 24 2 (.int .i64 0) 8 rfl Tryd.underlying24 info2 rfl dq38 dq34 v197 y196 y199 _ _ _ (fun k_ => some k_ ≠ (.slice (some ad181) x3_1.length co20 : Value).ownBlock) (fun _ => False) rfl rfl ?aO ?aR (fun _ _ h => h) (fun _ h => h.elim) ?aF ?aB ?aS ?aL ?_; (case aR => repeat (first | exact dq49 | (with_reducible refine Kd.C_alloc ?_ _) | (with_reducible refine Kd.C_drewN ?_ _) | (with_reducible refine Kd.C_drew ?_))); (case aB => exact dq23); (case aF => exact (fun k_ hk => Kd.fresh' (Kd.R_lt dq39) k_ hk)); (case aO => exact dq48); (case aS => exact (below_size dq23)); (case aL => have := LMc19.out; omega); intro v204 w27 ho hb hg hat; rw [← Ny203.out] at ho; have n0_ := Aside0.mk (Kd.R_after (ok := (fun _ => True)) dq39 hg hat); have n1_ := Aside0.mk (hb); have n2_ := Aside0.mk ((show Kd.C (Kd.int .i64) w27 (some ad181) y188.length y188 from by rw [Ny188.out]; exact Kd.C_take (m := (x5_2 : Int).toNat) ((Kd.R_reads' (Kd.R_after (ok := (fun _ => True)) dq39 hg hat)).2.2) KL23.out)); have n3_ := Aside0.mk ((show Kd.C (Kd.int .i64) w27 A26 y199.length y199 from by rw [Ny199.out, KA26.out]; exact Kd.C_drop (m := (x5_2 : Int).toNat) (c := co20) ((Kd.R_reads' (Kd.R_after (ok := (fun _ => True)) dq39 hg hat)).2.2) KL26.out ((Kd.R_reads' (Kd.R_after (ok := (fun _ => True)) dq39 hg hat)).2.1))); have n4_ := Aside0.mk (ho); clear HO_3; clear HB; clear HR191; clear HR202; clear HO198; have HO_3 := n0_; have HB := n1_; have HR191 := n2_; have HR202 := n3_; have HO205 := n4_; clear n0_ n1_ n2_ n3_ n4_; clear ho hb hg hat))
                repeat (go_quiet (first | ((with_reducible refine gate_dst (N := 46) rfl ?_); refine Kd.R_lit (Kd.int .i64) _ 2 ?hg (N := 46) ?hd (xs := ([] : List Int)) (inner := []) (ok := fun _ => True) (okp := fun _ => True) ?hr ?hp (fun _ hk => hk) trivial (Below.refl _ _) (Nat.le_refl _) dq31 ?_; (case hd => rfl); (case hg => rfl); (case hr => exact dq0); (case hp => exact dq2); intro v186 w21 ho22 hb hg_ hnew_; clear hg_ hnew_; (first | rw [← Ny185.out] at ho22 | (simp only [Int.reduceToNat] at ho22; rw [← Ny185.out] at ho22)); have n0_ := Aside0.mk (Kd.R_elder' dq39 (Kd.R_base ho22) hb); have n1_ := Aside0.mk (Kd.R_lower (Kd.R_new' ho22 (Kd.R_lt dq39)) (below_size dq23)); have n2_ := Aside0.mk (below_step dq23 hb); clear HO_3; clear HB; have HO_3 := n0_; have HO187 := n1_; have HB := n2_; clear n0_ n1_ n2_; clear hb ho22; have q23 : (x5_2 : Int) ≤ ((x3_1.length : Int) : Int) := of_decide_eq_true dq27; obtain ⟨i023, hi023, _, hsz23, _⟩ := info_parts info2; have hroom23 : x3_1.length ≤ co20 := (Kd.R_reads' HO_3.out).2.1; have hC23 : Kd.C (Kd.int .i64) _ (some ad181) x3_1.length x3_1 := (Kd.R_reads' HO_3.out).2.2; have hcut23 := cut_to (P := Tryd.prog) 24 2 .i64 Tryd.underlying24 hi023 (some ad181) x3_1.length co20 x5_2 (of_decide_eq_true dq27) q23 hroom23; have hr23 := Kd.C_take (m := (x5_2 : Int).toNat) hC23 dq34; have hy23 : y188.length = (x5_2 : Int).toNat := (by rw [Ny188.out, List.length_take]; omega); rw [← Ny188.out] at hr23; rw [← hy23] at hcut23; have HR191 := Aside0.mk hr23; have HC191 := Aside0.mk (show y188.length ≤ co20 from by omega); clear hr23 hC23 hroom23 hi023 hsz23; have KY23 := Aside0.mk hy23; clear hy23; have KL23 := Aside0.mk (show (x5_2 : Int).toNat ≤ x3_1.length from by omega); replace q23 := eq_true q23) | ((with_reducible refine gate_builtin (b := .append) (xs := #[.tmp 46, .tmp 49]) rfl ?_); at_builtin; refine Kd.R_append_rows (Kd.int .i64) (w0 := w) w.heap.size rfl (.tmp 46) (.tmp 49) 24 2 (.int .i64 0) 8 rfl Tryd.underlying24 info2 rfl dq38 dq34 v186 y185 y188 _ _ _ (fun k_ => some k_ ≠ (.slice (some ad181) x3_1.length co20 : Value).ownBlock) (fun _ => False) rfl rfl ?aO ?aR (fun _ _ h => h) (fun _ h => h.elim) ?aF ?aB ?aS ?aL ?_; (case aR => repeat (first | exact dq52 | (with_reducible refine Kd.C_alloc ?_ _) | (with_reducible refine Kd.C_drewN ?_ _) | (with_reducible refine Kd.C_drew ?_))); (case aB => exact dq23); (case aF => exact (fun k_ hk => Kd.fresh' (Kd.R_lt dq39) k_ hk)); (case aO => exact dq51); (case aS => exact (below_size dq23)); (case aL => have := LMc15.out; omega); intro v193 w24 ho hb hg hat; rw [← Ny192.out] at ho; have n0_ := Aside0.mk (Kd.R_after (ok := (fun _ => True)) dq39 hg hat); have n1_ := Aside0.mk (hb); have n2_ := Aside0.mk ((show Kd.C (Kd.int .i64) w24 (some ad181) y188.length y188 from by rw [Ny188.out]; exact Kd.C_take (m := (x5_2 : Int).toNat) ((Kd.R_reads' (Kd.R_after (ok := (fun _ => True)) dq39 hg hat)).2.2) KL23.out)); have n3_ := Aside0.mk (ho); clear HO_3; clear HB; clear HR191; clear HO187; have HO_3 := n0_; have HB := n1_; have HR191 := n2_; have HO194 := n3_; clear n0_ n1_ n2_ n3_; clear ho hb hg hat; have p195 : 0 ≤ (x4_1 : Int) := of_decide_eq_true dq27; have q195 : x4_1 < (l0.length : Int) := of_decide_eq_true dq27; obtain ⟨ad195, e195, hx195_0⟩ := Kd.at_int HR0.out x4_1 p195 q195; obtain rfl : ad182 = ad195 := (by injection e195); replace hx195_0 := (HB.out.cell (World.block_lt_of_cell? w _ hx195_0)).trans hx195_0; replace p195 := eq_true p195; replace q195 := eq_true q195) | ((with_reducible refine gate_builtin (b := .append) (xs := #[.tmp 51, .tmp 56]) rfl ?_); at_builtin; refine Kd.R_append (Kd.int .i64) (w0 := w) w.heap.size rfl (.tmp 51) (.tmp 56) 24 2 (.int .i64 0) 8 rfl Tryd.underlying24 info2 rfl dq38 dq34 v193 y192 (rd l0 x4_1) [.int .i64 (rd l0 x4_1)] (fun k_ => some k_ ≠ (.slice (some ad181) x3_1.length co20 : Value).ownBlock) (fun _ => False) rfl rfl ?aP (fun _ hk => hk.elim) ?aF ?aO ?aB ?aS ?aL ?_; (case aP => exact rfl); (case aB => exact dq23); (case aF => exact (fun k_ hk => Kd.fresh' (Kd.R_lt dq39) k_ hk)); (case aO => exact dq50); (case aS => exact (below_size dq23)); (case aL => have := LMc16.out; omega); intro v197 w25 ho hb hg hat; rw [← Ny196.out] at ho; have n0_ := Aside0.mk (Kd.R_after (ok := (fun _ => True)) dq39 hg hat); have n1_ := Aside0.mk (hb); have n2_ := Aside0.mk ((show Kd.C (Kd.int .i64) w25 (some ad181) y188.length y188 from by rw [Ny188.out]; exact Kd.C_take (m := (x5_2 : Int).toNat) ((Kd.R_reads' (Kd.R_after (ok := (fun _ => True)) dq39 hg hat)).2.2) KL23.out)); have n3_ := Aside0.mk (ho); clear HO_3; clear HB; clear HR191; clear HO194; have HO_3 := n0_; have HB := n1_; have HR191 := n2_; have HO198 := n3_; clear n0_ n1_ n2_ n3_; clear ho hb hg hat; have q26 : (x5_2 : Int) ≤ ((x3_1.length : Int) : Int) := of_decide_eq_true dq27; obtain ⟨i026, hi026, _, hsz26, _⟩ := info_parts info2; have hroom26 : x3_1.length ≤ co20 := (Kd.R_reads' HO_3.out).2.1; have hC26 : Kd.C (Kd.int .i64) _ (some ad181) x3_1.length x3_1 := (Kd.R_reads' HO_3.out).2.2; have q026 : (0 : Int) ≤ (x5_2 : Int) := of_decide_eq_true dq27; have hcut26 := cut_from (P := Tryd.prog) 24 2 .i64 Tryd.underlying24 hi026 1 hsz26 (some ad181) x3_1.length co20 x5_2 q026 q26; have hr26 := Kd.C_drop (m := (x5_2 : Int).toNat) (c := co20) hC26 dq34 hroom26; obtain ⟨A26, hA26⟩ : ∃ A1, A1 = (if co20 = (x5_2 : Int).toNat then (some ad181) else ((some ad181) : Option Addr).map (·.add ((x5_2 : Int).toNat * 1))) := ⟨_, rfl⟩; obtain ⟨c26, hc26⟩ : ∃ c1, c1 = co20 - (x5_2 : Int).toNat := ⟨_, rfl⟩; have hy26 : y199.length = x3_1.length - (x5_2 : Int).toNat := (by rw [Ny199.out, List.length_drop] <;> omega); rw [show (x3_1).drop (x5_2 : Int).toNat = y199 from Ny199.out.symm] at hr26; replace hr26 : Kd.C (Kd.int .i64) _ A26 y199.length y199 := (by rw [hA26]; exact hr26); rw [← hy26, ← hA26, ← hc26] at hcut26; have HR202 := Aside0.mk hr26; have HC202 := Aside0.mk (show y199.length ≤ c26 from by rw [hy26, hc26]; exact Nat.sub_le_sub_right hroom26 _); clear hr26 hC26 hroom26 hi026 hsz26 hc26; have KY26 := Aside0.mk hy26; have KA26 := Aside0.mk hA26; clear hy26 hA26; have KL26 := Aside0.mk (show (x5_2 : Int).toNat ≤ x3_1.length from by omega); replace q26 := eq_true q26) | ((with_reducible refine gate_builtin (b := .append) (xs := #[.tmp 58, .tmp 61]) rfl ?_); at_builtin; refine Kd.R_append_rows (Kd.int .i64) (w0 := w) w.heap.size rfl (.tmp 58) (.tmp 61) 24 2 (.int .i64 0) 8 rfl Tryd.underlying24 info2 rfl dq38 dq34 v197 y196 y199 _ _ _ (fun k_ => some k_ ≠ (.slice (some ad181) x3_1.length co20 : Value).ownBlock) (fun _ => False) rfl rfl ?aO ?aR (fun _ _ h => h) (fun _ h => h.elim) ?aF ?aB ?aS ?aL ?_; (case aR => repeat (first | exact dq49 | (with_reducible refine Kd.C_alloc ?_ _) | (with_reducible refine Kd.C_drewN ?_ _) | (with_reducible refine Kd.C_drew ?_))); (case aB => exact dq23); (case aF => exact (fun k_ hk => Kd.fresh' (Kd.R_lt dq39) k_ hk)); (case aO => exact dq48); (case aS => exact (below_size dq23)); (case aL => have := LMc19.out; omega); intro v204 w27 ho hb hg hat; rw [← Ny203.out] at ho; have n0_ := Aside0.mk (Kd.R_after (ok := (fun _ => True)) dq39 hg hat); have n1_ := Aside0.mk (hb); have n2_ := Aside0.mk ((show Kd.C (Kd.int .i64) w27 (some ad181) y188.length y188 from by rw [Ny188.out]; exact Kd.C_take (m := (x5_2 : Int).toNat) ((Kd.R_reads' (Kd.R_after (ok := (fun _ => True)) dq39 hg hat)).2.2) KL23.out)); have n3_ := Aside0.mk ((show Kd.C (Kd.int .i64) w27 A26 y199.length y199 from by rw [Ny199.out, KA26.out]; exact Kd.C_drop (m := (x5_2 : Int).toNat) (c := co20) ((Kd.R_reads' (Kd.R_after (ok := (fun _ => True)) dq39 hg hat)).2.2) KL26.out ((Kd.R_reads' (Kd.R_after (ok := (fun _ => True)) dq39 hg hat)).2.1))); have n4_ := Aside0.mk (ho); clear HO_3; clear HB; clear HR191; clear HR202; clear HO198; have HO_3 := n0_; have HB := n1_; have HR191 := n2_; have HR202 := n3_; have HO205 := n4_; clear n0_ n1_ n2_ n3_ n4_; clear ho hb hg hat)); try go_wp2_with (first | ((with_reducible refine gate_dst (N := 46) rfl ?_); refine Kd.R_lit (Kd.int .i64) _ 2 ?hg (N := 46) ?hd (xs := ([] : List Int)) (inner := []) (ok := fun _ => True) (okp := fun _ => True) ?hr ?hp (fun _ hk => hk) trivial (Below.refl _ _) (Nat.le_refl _) dq31 ?_; (case hd => rfl); (case hg => rfl); (case hr => exact dq0); (case hp => exact dq2); intro v186 w21 ho22 hb hg_ hnew_; clear hg_ hnew_; (first | rw [← Ny185.out] at ho22 | (simp only [Int.reduceToNat] at ho22; rw [← Ny185.out] at ho22)); have n0_ := Aside0.mk (Kd.R_elder' dq39 (Kd.R_base ho22) hb); have n1_ := Aside0.mk (Kd.R_lower (Kd.R_new' ho22 (Kd.R_lt dq39)) (below_size dq23)); have n2_ := Aside0.mk (below_step dq23 hb); clear HO_3; clear HB; have HO_3 := n0_; have HO187 := n1_; have HB := n2_; clear n0_ n1_ n2_; clear hb ho22; have q23 : (x5_2 : Int) ≤ ((x3_1.length : Int) : Int) := of_decide_eq_true dq27; obtain ⟨i023, hi023, _, hsz23, _⟩ := info_parts info2; have hroom23 : x3_1.length ≤ co20 := (Kd.R_reads' HO_3.out).2.1; have hC23 : Kd.C (Kd.int .i64) _ (some ad181) x3_1.length x3_1 := (Kd.R_reads' HO_3.out).2.2; have hcut23 := cut_to (P := Tryd.prog) 24 2 .i64 Tryd.underlying24 hi023 (some ad181) x3_1.length co20 x5_2 (of_decide_eq_true dq27) q23 hroom23; have hr23 := Kd.C_take (m := (x5_2 : Int).toNat) hC23 dq34; have hy23 : y188.length = (x5_2 : Int).toNat := (by rw [Ny188.out, List.length_take]; omega); rw [← Ny188.out] at hr23; rw [← hy23] at hcut23; have HR191 := Aside0.mk hr23; have HC191 := Aside0.mk (show y188.length ≤ co20 from by omega); clear hr23 hC23 hroom23 hi023 hsz23; have KY23 := Aside0.mk hy23; clear hy23; have KL23 := Aside0.mk (show (x5_2 : Int).toNat ≤ x3_1.length from by omega); replace q23 := eq_true q23) | ((with_reducible refine gate_builtin (b := .append) (xs := #[.tmp 46, .tmp 49]) rfl ?_); at_builtin; refine Kd.R_append_rows (Kd.int .i64) (w0 := w) w.heap.size rfl (.tmp 46) (.tmp 49) 24 2 (.int .i64 0) 8 rfl Tryd.underlying24 info2 rfl dq38 dq34 v186 y185 y188 _ _ _ (fun k_ => some k_ ≠ (.slice (some ad181) x3_1.length co20 : Value).ownBlock) (fun _ => False) rfl rfl ?aO ?aR (fun _ _ h => h) (fun _ h => h.elim) ?aF ?aB ?aS ?aL ?_; (case aR => repeat (first | exact dq52 | (with_reducible refine Kd.C_alloc ?_ _) | (with_reducible refine Kd.C_drewN ?_ _) | (with_reducible refine Kd.C_drew ?_))); (case aB => exact dq23); (case aF => exact (fun k_ hk => Kd.fresh' (Kd.R_lt dq39) k_ hk)); (case aO => exact dq51); (case aS => exact (below_size dq23)); (case aL => have := LMc15.out; omega); intro v193 w24 ho hb hg hat; rw [← Ny192.out] at ho; have n0_ := Aside0.mk (Kd.R_after (ok := (fun _ => True)) dq39 hg hat); have n1_ := Aside0.mk (hb); have n2_ := Aside0.mk ((show Kd.C (Kd.int .i64) w24 (some ad181) y188.length y188 from by rw [Ny188.out]; exact Kd.C_take (m := (x5_2 : Int).toNat) ((Kd.R_reads' (Kd.R_after (ok := (fun _ => True)) dq39 hg hat)).2.2) KL23.out)); have n3_ := Aside0.mk (ho); clear HO_3; clear HB; clear HR191; clear HO187; have HO_3 := n0_; have HB := n1_; have HR191 := n2_; have HO194 := n3_; clear n0_ n1_ n2_ n3_; clear ho hb hg hat; have p195 : 0 ≤ (x4_1 : Int) := of_decide_eq_true dq27; have q195 : x4_1 < (l0.length : Int) := of_decide_eq_true dq27; obtain ⟨ad195, e195, hx195_0⟩ := Kd.at_int HR0.out x4_1 p195 q195; obtain rfl : ad182 = ad195 := (by injection e195); replace hx195_0 := (HB.out.cell (World.block_lt_of_cell? w _ hx195_0)).trans hx195_0; replace p195 := eq_true p195; replace q195 := eq_true q195) | ((with_reducible refine gate_builtin (b := .append) (xs := #[.tmp 51, .tmp 56]) rfl ?_); at_builtin; refine Kd.R_append (Kd.int .i64) (w0 := w) w.heap.size rfl (.tmp 51) (.tmp 56) 24 2 (.int .i64 0) 8 rfl Tryd.underlying24 info2 rfl dq38 dq34 v193 y192 (rd l0 x4_1) [.int .i64 (rd l0 x4_1)] (fun k_ => some k_ ≠ (.slice (some ad181) x3_1.length co20 : Value).ownBlock) (fun _ => False) rfl rfl ?aP (fun _ hk => hk.elim) ?aF ?aO ?aB ?aS ?aL ?_; (case aP => exact rfl); (case aB => exact dq23); (case aF => exact (fun k_ hk => Kd.fresh' (Kd.R_lt dq39) k_ hk)); (case aO => exact dq50); (case aS => exact (below_size dq23)); (case aL => have := LMc16.out; omega); intro v197 w25 ho hb hg hat; rw [← Ny196.out] at ho; have n0_ := Aside0.mk (Kd.R_after (ok := (fun _ => True)) dq39 hg hat); have n1_ := Aside0.mk (hb); have n2_ := Aside0.mk ((show Kd.C (Kd.int .i64) w25 (some ad181) y188.length y188 from by rw [Ny188.out]; exact Kd.C_take (m := (x5_2 : Int).toNat) ((Kd.R_reads' (Kd.R_after (ok := (fun _ => True)) dq39 hg hat)).2.2) KL23.out)); have n3_ := Aside0.mk (ho); clear HO_3; clear HB; clear HR191; clear HO194; have HO_3 := n0_; have HB := n1_; have HR191 := n2_; have HO198 := n3_; clear n0_ n1_ n2_ n3_; clear ho hb hg hat; have q26 : (x5_2 : Int) ≤ ((x3_1.length : Int) : Int) := of_decide_eq_true dq27; obtain ⟨i026, hi026, _, hsz26, _⟩ := info_parts info2; have hroom26 : x3_1.length ≤ co20 := (Kd.R_reads' HO_3.out).2.1; have hC26 : Kd.C (Kd.int .i64) _ (some ad181) x3_1.length x3_1 := (Kd.R_reads' HO_3.out).2.2; have q026 : (0 : Int) ≤ (x5_2 : Int) := of_decide_eq_true dq27; have hcut26 := cut_from (P := Tryd.prog) 24 2 .i64 Tryd.underlying24 hi026 1 hsz26 (some ad181) x3_1.length co20 x5_2 q026 q26; have hr26 := Kd.C_drop (m := (x5_2 : Int).toNat) (c := co20) hC26 dq34 hroom26; obtain ⟨A26, hA26⟩ : ∃ A1, A1 = (if co20 = (x5_2 : Int).toNat then (some ad181) else ((some ad181) : Option Addr).map (·.add ((x5_2 : Int).toNat * 1))) := ⟨_, rfl⟩; obtain ⟨c26, hc26⟩ : ∃ c1, c1 = co20 - (x5_2 : Int).toNat := ⟨_, rfl⟩; have hy26 : y199.length = x3_1.length - (x5_2 : Int).toNat := (by rw [Ny199.out, List.length_drop] <;> omega); rw [show (x3_1).drop (x5_2 : Int).toNat = y199 from Ny199.out.symm] at hr26; replace hr26 : Kd.C (Kd.int .i64) _ A26 y199.length y199 := (by rw [hA26]; exact hr26); rw [← hy26, ← hA26, ← hc26] at hcut26; have HR202 := Aside0.mk hr26; have HC202 := Aside0.mk (show y199.length ≤ c26 from by rw [hy26, hc26]; exact Nat.sub_le_sub_right hroom26 _); clear hr26 hC26 hroom26 hi026 hsz26 hc26; have KY26 := Aside0.mk hy26; have KA26 := Aside0.mk hA26; clear hy26 hA26; have KL26 := Aside0.mk (show (x5_2 : Int).toNat ≤ x3_1.length from by omega); replace q26 := eq_true q26) | ((with_reducible refine gate_builtin (b := .append) (xs := #[.tmp 58, .tmp 61]) rfl ?_); at_builtin; refine Kd.R_append_rows (Kd.int .i64) (w0 := w) w.heap.size rfl (.tmp 58) (.tmp 61) 24 2 (.int .i64 0) 8 rfl Tryd.underlying24 info2 rfl dq38 dq34 v197 y196 y199 _ _ _ (fun k_ => some k_ ≠ (.slice (some ad181) x3_1.length co20 : Value).ownBlock) (fun _ => False) rfl rfl ?aO ?aR (fun _ _ h => h) (fun _ h => h.elim) ?aF ?aB ?aS ?aL ?_; (case aR => repeat (first | exact dq49 | (with_reducible refine Kd.C_alloc ?_ _) | (with_reducible refine Kd.C_drewN ?_ _) | (with_reducible refine Kd.C_drew ?_))); (case aB => exact dq23); (case aF => exact (fun k_ hk => Kd.fresh' (Kd.R_lt dq39) k_ hk)); (case aO => exact dq48); (case aS => exact (below_size dq23)); (case aL => have := LMc19.out; omega); intro v204 w27 ho hb hg hat; rw [← Ny203.out] at ho; have n0_ := Aside0.mk (Kd.R_after (ok := (fun _ => True)) dq39 hg hat); have n1_ := Aside0.mk (hb); have n2_ := Aside0.mk ((show Kd.C (Kd.int .i64) w27 (some ad181) y188.length y188 from by rw [Ny188.out]; exact Kd.C_take (m := (x5_2 : Int).toNat) ((Kd.R_reads' (Kd.R_after (ok := (fun _ => True)) dq39 hg hat)).2.2) KL23.out)); have n3_ := Aside0.mk ((show Kd.C (Kd.int .i64) w27 A26 y199.length y199 from by rw [Ny199.out, KA26.out]; exact Kd.C_drop (m := (x5_2 : Int).toNat) (c := co20) ((Kd.R_reads' (Kd.R_after (ok := (fun _ => True)) dq39 hg hat)).2.2) KL26.out ((Kd.R_reads' (Kd.R_after (ok := (fun _ => True)) dq39 hg hat)).2.1))); have n4_ := Aside0.mk (ho); clear HO_3; clear HB; clear HR191; clear HR202; clear HO198; have HO_3 := n0_; have HB := n1_; have HR191 := n2_; have HR202 := n3_; have HO205 := n4_; clear n0_ n1_ n2_ n3_ n4_; clear ho hb hg hat)))
                go_roundg k2
                case measure => have := HK1.out; have := HK2.out; omega
                case rel => exact ⟨(y203), (wrap64 (x4_1 + 1)), dq26, H', ⟨dq47⟩, ⟨by (with_reducible repeat (first | apply Kd.R_alloc | apply Kd.R_drewN | apply Kd.R_drew)); exact Kd.R_mono HO205.out (fun _ hk => trivial)⟩, ⟨dq23⟩⟩
               ·rw [if_neg c19] at H
                exact absurd H dq31
              ·rw [if_neg c16] at H
               exact absurd H dq31
             ·rw [if_neg c15] at H
              exact absurd H dq31
            ·rw [if_neg c14] at H
             exact absurd H dq31
         ·rw [if_neg c8] at H
          exact absurd H dq31
        ·rw [if_neg c7] at H
         exact absurd H dq31
       ·rw [if_neg c6] at H
        exact absurd H dq31
      ·rw [if_neg c5] at H
       have c5b0 := decide_eq_false c5
       clear c5
       obtain ⟨y206, hy206⟩ : ∃ y_ : List Int, y_ = (([] : List Int)) := ⟨_, rfl⟩
       replace H : (if 0 ≤ x5_2 then (if x5_2 ≤ (x3_1.length : Int) then ((some (x3_1.take (x5_2 : Int).toNat : List Int)).bind fun y209 => (if y206.length + y209.length < 17592186044416 then ((some (y206 ++ y209 : List Int)).bind fun y213 => (if 0 ≤ x4_1 then (if x4_1 < (l0.length : Int) then (if y213.length < 17592186044416 then ((some (y213 ++ [rd l0 x4_1] : List Int)).bind fun y217 => ((some (x3_1.drop (x5_2 : Int).toNat : List Int)).bind fun y220 => (if y217.length + y220.length < 17592186044416 then (spec_l8Sorted.l0 k2 l0 (y217 ++ y220) (wrap64 (x4_1 + 1))) else (none)))) else (none)) else (none)) else (none))) else (none))) else (none)) else (none)) = some r := by first | (rw [hy206]; with_reducible exact H) | (have H2_ := (Option.bind_some _ _).symm.trans H; rw [hy206]; with_reducible exact H2_) | (have H2_ := (Option.bind_some _ _).symm.trans H; with_reducible exact H2_) | with_reducible exact H | (rw [hy206]; exact H) | exact H
       have Ny206 := Aside0.mk hy206
       clear hy206
       by_cases c28 : 0 ≤ x5_2
       ·rw [if_pos c28] at H
        have c28b0 := eq_true c28
        have c28b1 := decide_eq_true c28
        clear c28
        by_cases c29 : x5_2 ≤ (x3_1.length : Int)
        ·rw [if_pos c29] at H
         have c29b0 := eq_true c29
         have c29b1 := decide_eq_true c29
         clear c29
         obtain ⟨y209, hy209⟩ : ∃ y_ : List Int, y_ = (x3_1.take (x5_2 : Int).toNat) := ⟨_, rfl⟩
         replace H : (if y206.length + y209.length < 17592186044416 then ((some (y206 ++ y209 : List Int)).bind fun y213 => (if 0 ≤ x4_1 then (if x4_1 < (l0.length : Int) then (if y213.length < 17592186044416 then ((some (y213 ++ [rd l0 x4_1] : List Int)).bind fun y217 => ((some (x3_1.drop (x5_2 : Int).toNat : List Int)).bind fun y220 => (if y217.length + y220.length < 17592186044416 then (spec_l8Sorted.l0 k2 l0 (y217 ++ y220) (wrap64 (x4_1 + 1))) else (none)))) else (none)) else (none)) else (none))) else (none)) = some r := by first | (rw [hy209]; with_reducible exact H) | (have H2_ := (Option.bind_some _ _).symm.trans H; rw [hy209]; with_reducible exact H2_) | (have H2_ := (Option.bind_some _ _).symm.trans H; with_reducible exact H2_) | with_reducible exact H | (rw [hy209]; exact H) | exact H
         have Ny209 := Aside0.mk hy209
         clear hy209
         by_cases c30 : y206.length + y209.length < 17592186044416
         ·rw [if_pos c30] at H
          have LMc30 := Aside0.mk c30
          clear c30
          obtain ⟨y213, hy213⟩ : ∃ y_ : List Int, y_ = (y206 ++ y209) := ⟨_, rfl⟩
          replace H : (if 0 ≤ x4_1 then (if x4_1 < (l0.length : Int) then (if y213.length < 17592186044416 then ((some (y213 ++ [rd l0 x4_1] : List Int)).bind fun y217 => ((some (x3_1.drop (x5_2 : Int).toNat : List Int)).bind fun y220 => (if y217.length + y220.length < 17592186044416 then (spec_l8Sorted.l0 k2 l0 (y217 ++ y220) (wrap64 (x4_1 + 1))) else (none)))) else (none)) else (none)) else (none)) = some r := by first | (rw [hy213]; with_reducible exact H) | (have H2_ := (Option.bind_some _ _).symm.trans H; rw [hy213]; with_reducible exact H2_) | (have H2_ := (Option.bind_some _ _).symm.trans H; with_reducible exact H2_) | with_reducible exact H | (rw [hy213]; exact H) | exact H
          have Ny213 := Aside0.mk hy213
          clear hy213
          by_cases c31 : 0 ≤ x4_1
          ·rw [if_pos c31] at H
           have c31b0 := decide_eq_true c31
           clear c31
           by_cases c32 : x4_1 < (l0.length : Int)
           ·rw [if_pos c32] at H
            have c32b0 := decide_eq_true c32
            clear c32
            by_cases c33 : y213.length < 17592186044416
            ·rw [if_pos c33] at H
             have LMc33 := Aside0.mk c33
             clear c33
             obtain ⟨y217, hy217⟩ : ∃ y_ : List Int, y_ = (y213 ++ [rd l0 x4_1]) := ⟨_, rfl⟩
             replace H : ((some (x3_1.drop (x5_2 : Int).toNat : List Int)).bind fun y220 => (if y217.length + y220.length < 17592186044416 then (spec_l8Sorted.l0 k2 l0 (y217 ++ y220) (wrap64 (x4_1 + 1))) else (none))) = some r := by first | (rw [hy217]; with_reducible exact H) | (have H2_ := (Option.bind_some _ _).symm.trans H; rw [hy217]; with_reducible exact H2_) | (have H2_ := (Option.bind_some _ _).symm.trans H; with_reducible exact H2_) | with_reducible exact H | (rw [hy217]; exact H) | exact H
             have Ny217 := Aside0.mk hy217
             clear hy217
             have c34b0 := eq_true (of_decide_eq_true dq27 : 0 ≤ x5_2)
             have c35b0 := eq_true (of_decide_eq_true dq27 : x5_2 ≤ (x3_1.length : Int))
             obtain ⟨y220, hy220⟩ : ∃ y_ : List Int, y_ = (x3_1.drop (x5_2 : Int).toNat) := ⟨_, rfl⟩
             replace H : (if y217.length + y220.length < 17592186044416 then (spec_l8Sorted.l0 k2 l0 (y217 ++ y220) (wrap64 (x4_1 + 1))) else (none)) = some r := by first | (rw [hy220]; with_reducible exact H) | (have H2_ := (Option.bind_some _ _).symm.trans H; rw [hy220]; with_reducible exact H2_) | (have H2_ := (Option.bind_some _ _).symm.trans H; with_reducible exact H2_) | with_reducible exact H | (rw [hy220]; exact H) | exact H
             have Ny220 := Aside0.mk hy220
             clear hy220
             by_cases c36 : y217.length + y220.length < 17592186044416
             ·rw [if_pos c36] at H
              have LMc36 := Aside0.mk c36
              clear c36
              obtain ⟨y224, hy224⟩ : ∃ y_ : List Int, y_ = (y217 ++ y220) := ⟨_, rfl⟩
              replace H : (spec_l8Sorted.l0 k2 l0 y224 (wrap64 (x4_1 + 1))) = some r := by first | (rw [hy224]; with_reducible exact H) | (have H2_ := (Option.bind_some _ _).symm.trans H; rw [hy224]; with_reducible exact H2_) | (have H2_ := (Option.bind_some _ _).symm.trans H; with_reducible exact H2_) | with_reducible exact H | (rw [hy224]; exact H) | exact H
              have Ny224 := Aside0.mk hy224
              clear hy224
              have H' := Aside0.mk H
              clear H
              obtain ⟨Ao37, co37, eo37⟩ := Kd.R_slice HO_3.out
              subst eo37
              go_wp2_with (first | ((with_reducible refine gate_dst (N := 46) rfl ?_); refine Kd.R_lit (Kd.int .i64) _ 2 ?hg (N := 46) ?hd (xs := ([] : List Int)) (inner := []) (ok := fun _ => True) (okp := fun _ => True) ?hr ?hp (fun _ hk => hk) trivial (Below.refl _ _) (Nat.le_refl _) dq31 ?_; (case hd => rfl); (case hg => rfl); (case hr => exact dq0); (case hp => exact dq2); intro v207 w38 ho39 hb hg_ hnew_; clear hg_ hnew_; (first | rw [← Ny206.out] at ho39 | (simp only [Int.reduceToNat] at ho39; rw [← Ny206.out] at ho39)); have n0_ := Aside0.mk (Kd.R_elder' dq39 (Kd.R_base ho39) hb); have n1_ := Aside0.mk (Kd.R_lower (Kd.R_new' ho39 (Kd.R_lt dq39)) (below_size dq23)); have n2_ := Aside0.mk (below_step dq23 hb); clear HO_3; clear HB; have HO_3 := n0_; have HO208 := n1_; have HB := n2_; clear n0_ n1_ n2_; clear hb ho39; have q40 : (x5_2 : Int) ≤ ((x3_1.length : Int) : Int) := of_decide_eq_true dq27; obtain ⟨i040, hi040, _, hsz40, _⟩ := info_parts info2; have hroom40 : x3_1.length ≤ co37 := (Kd.R_reads' HO_3.out).2.1; have hC40 : Kd.C (Kd.int .i64) _ Ao37 x3_1.length x3_1 := (Kd.R_reads' HO_3.out).2.2; have hcut40 := cut_to (P := Tryd.prog) 24 2 .i64 Tryd.underlying24 hi040 Ao37 x3_1.length co37 x5_2 (of_decide_eq_true dq27) q40 hroom40; have hr40 := Kd.C_take (m := (x5_2 : Int).toNat) hC40 dq34; have hy40 : y209.length = (x5_2 : Int).toNat := (by rw [Ny209.out, List.length_take]; omega); rw [← Ny209.out] at hr40; rw [← hy40] at hcut40; have HR212 := Aside0.mk hr40; have HC212 := Aside0.mk (show y209.length ≤ co37 from by omega); clear hr40 hC40 hroom40 hi040 hsz40; have KY40 := Aside0.mk hy40; clear hy40; have KL40 := Aside0.mk (show (x5_2 : Int).toNat ≤ x3_1.length from by omega); replace q40 := eq_true q40) | ((with_reducible refine gate_builtin (b := .append) (xs := #[.tmp 46, .tmp 49]) rfl ?_); at_builtin; refine Kd.R_append_rows (Kd.int .i64) (w0 := w) w.heap.size rfl (.tmp 46) (.tmp 49) 24 2 (.int .i64 0) 8 rfl Tryd.underlying24 info2 rfl dq38 dq34 v207 y206 y209 _ _ _ (fun k_ => some k_ ≠ (.slice Ao37 x3_1.length co37 : Value).ownBlock) (fun _ => False) rfl rfl ?aO ?aR (fun _ _ h => h) (fun _ h => h.elim) ?aF ?aB ?aS ?aL ?_; (case aR => repeat (first | exact dq57 | (with_reducible refine Kd.C_alloc ?_ _) | (with_reducible refine Kd.C_drewN ?_ _) | (with_reducible refine Kd.C_drew ?_))); (case aB => exact dq23); (case aF => exact (fun k_ hk => Kd.fresh' (Kd.R_lt dq39) k_ hk)); (case aO => exact dq56); (case aS => exact (below_size dq23)); (case aL => have := LMc30.out; omega); intro v214 w41 ho hb hg hat; rw [← Ny213.out] at ho; have n0_ := Aside0.mk (Kd.R_after (ok := (fun _ => True)) dq39 hg hat); have n1_ := Aside0.mk (hb); have n2_ := Aside0.mk ((show Kd.C (Kd.int .i64) w41 Ao37 y209.length y209 from by rw [Ny209.out]; exact Kd.C_take (m := (x5_2 : Int).toNat) ((Kd.R_reads' (Kd.R_after (ok := (fun _ => True)) dq39 hg hat)).2.2) KL40.out)); have n3_ := Aside0.mk (ho); clear HO_3; clear HB; clear HR212; clear HO208; have HO_3 := n0_; have HB := n1_; have HR212 := n2_; have HO215 := n3_; clear n0_ n1_ n2_ n3_; clear ho hb hg hat; have p216 : 0 ≤ (x4_1 : Int) := of_decide_eq_true dq27; have q216 : x4_1 < (l0.length : Int) := of_decide_eq_true dq27; obtain ⟨ad216, e216, hx216_0⟩ := Kd.at_int HR0.out x4_1 p216 q216; cases e216; replace hx216_0 := (HB.out.cell (World.block_lt_of_cell? w _ hx216_0)).trans hx216_0; replace p216 := eq_true p216; replace q216 := eq_true q216) | ((with_reducible refine gate_builtin (b := .append) (xs := #[.tmp 51, .tmp 56]) rfl ?_); at_builtin; refine Kd.R_append (Kd.int .i64) (w0 := w) w.heap.size rfl (.tmp 51) (.tmp 56) 24 2 (.int .i64 0) 8 rfl Tryd.underlying24 info2 rfl dq38 dq34 v214 y213 (rd l0 x4_1) [.int .i64 (rd l0 x4_1)] (fun k_ => some k_ ≠ (.slice Ao37 x3_1.length co37 : Value).ownBlock) (fun _ => False) rfl rfl ?aP (fun _ hk => hk.elim) ?aF ?aO ?aB ?aS ?aL ?_; (case aP => exact rfl); (case aB => exact dq23); (case aF => exact (fun k_ hk => Kd.fresh' (Kd.R_lt dq39) k_ hk)); (case aO => exact dq55); (case aS => exact (below_size dq23)); (case aL => have := LMc33.out; omega); intro v218 w42 ho hb hg hat; rw [← Ny217.out] at ho; have n0_ := Aside0.mk (Kd.R_after (ok := (fun _ => True)) dq39 hg hat); have n1_ := Aside0.mk (hb); have n2_ := Aside0.mk ((show Kd.C (Kd.int .i64) w42 Ao37 y209.length y209 from by rw [Ny209.out]; exact Kd.C_take (m := (x5_2 : Int).toNat) ((Kd.R_reads' (Kd.R_after (ok := (fun _ => True)) dq39 hg hat)).2.2) KL40.out)); have n3_ := Aside0.mk (ho); clear HO_3; clear HB; clear HR212; clear HO215; have HO_3 := n0_; have HB := n1_; have HR212 := n2_; have HO219 := n3_; clear n0_ n1_ n2_ n3_; clear ho hb hg hat; have q43 : (x5_2 : Int) ≤ ((x3_1.length : Int) : Int) := of_decide_eq_true dq27; obtain ⟨i043, hi043, _, hsz43, _⟩ := info_parts info2; have hroom43 : x3_1.length ≤ co37 := (Kd.R_reads' HO_3.out).2.1; have hC43 : Kd.C (Kd.int .i64) _ Ao37 x3_1.length x3_1 := (Kd.R_reads' HO_3.out).2.2; have q043 : (0 : Int) ≤ (x5_2 : Int) := of_decide_eq_true dq27; have hcut43 := cut_from (P := Tryd.prog) 24 2 .i64 Tryd.underlying24 hi043 1 hsz43 Ao37 x3_1.length co37 x5_2 q043 q43; have hr43 := Kd.C_drop (m := (x5_2 : Int).toNat) (c := co37) hC43 dq34 hroom43; obtain ⟨A43, hA43⟩ : ∃ A1, A1 = (if co37 = (x5_2 : Int).toNat then Ao37 else (Ao37 : Option Addr).map (·.add ((x5_2 : Int).toNat * 1))) := ⟨_, rfl⟩; obtain ⟨c43, hc43⟩ : ∃ c1, c1 = co37 - (x5_2 : Int).toNat := ⟨_, rfl⟩; have hy43 : y220.length = x3_1.length - (x5_2 : Int).toNat := (by rw [Ny220.out, List.length_drop] <;> omega); rw [show (x3_1).drop (x5_2 : Int).toNat = y220 from Ny220.out.symm] at hr43; replace hr43 : Kd.C (Kd.int .i64) _ A43 y220.length y220 := (by rw [hA43]; exact hr43); rw [← hy43, ← hA43, ← hc43] at hcut43; have HR223 := Aside0.mk hr43; have HC223 := Aside0.mk (show y220.length ≤ c43 from by rw [hy43, hc43]; exact Nat.sub_le_sub_right hroom43 _); clear hr43 hC43 hroom43 hi043 hsz43 hc43; have KY43 := Aside0.mk hy43; have KA43 := Aside0.mk hA43; clear hy43 hA43; have KL43 := Aside0.mk (show (x5_2 : Int).toNat ≤ x3_1.length from by omega); replace q43 := eq_true q43) | ((with_reducible refine gate_builtin (b := .append) (xs := #[.tmp 58, .tmp 61]) rfl ?_); at_builtin; refine Kd.R_append_rows (Kd.int .i64) (w0 := w) w.heap.size rfl (.tmp 58) (.tmp 61) 24 2 (.int .i64 0) 8 rfl Tryd.underlying24 info2 rfl dq38 dq34 v218 y217 y220 _ _ _ (fun k_ => some k_ ≠ (.slice Ao37 x3_1.length co37 : Value).ownBlock) (fun _ => False) rfl rfl ?aO ?aR (fun _ _ h => h) (fun _ h => h.elim) ?aF ?aB ?aS ?aL ?_; (case aR => repeat (first | exact dq54 | (with_reducible refine Kd.C_alloc ?_ _) | (with_reducible refine Kd.C_drewN ?_ _) | (with_reducible refine Kd.C_drew ?_))); (case aB => exact dq23); (case aF => exact (fun k_ hk => Kd.fresh' (Kd.R_lt dq39) k_ hk)); (case aO => exact dq53); (case aS => exact (below_size dq23)); (case aL => have := LMc36.out; omega); intro v225 w44 ho hb hg hat; rw [← Ny224.out] at ho; have n0_ := Aside0.mk (Kd.R_after (ok := (fun _ => True)) dq39 hg hat); have n1_ := Aside0.mk (hb); have n2_ := Aside0.mk ((show Kd.C (Kd.int .i64) w44 Ao37 y209.length y209 from by rw [Ny209.out]; exact Kd.C_take (m := (x5_2 : Int).toNat) ((Kd.R_reads' (Kd.R_after (ok := (fun _ => True)) dq39 hg hat)).2.2) KL40.out)); have n3_ := Aside0.mk ((show Kd.C (Kd.int .i64) w44 A43 y220.length y220 from by rw [Ny220.out, KA43.out]; exact Kd.C_drop (m := (x5_2 : Int).toNat) (c := co37) ((Kd.R_reads' (Kd.R_after (ok := (fun _ => True)) dq39 hg hat)).2.2) KL43.out ((Kd.R_reads' (Kd.R_after (ok := (fun _ => True)) dq39 hg hat)).2.1))); have n4_ := Aside0.mk (ho); clear HO_3; clear HB; clear HR212; clear HR223; clear HO219; have HO_3 := n0_; have HB := n1_; have HR212 := n2_; have HR223 := n3_; have HO226 := n4_; clear n0_ n1_ n2_ n3_ n4_; clear ho hb hg hat))
              repeat (go_quiet (first | ((with_reducible refine gate_dst (N := 46) rfl ?_); refine Kd.R_lit (Kd.int .i64) _ 2 ?hg (N := 46) ?hd (xs := ([] : List Int)) (inner := []) (ok := fun _ => True) (okp := fun _ => True) ?hr ?hp (fun _ hk => hk) trivial (Below.refl _ _) (Nat.le_refl _) dq31 ?_; (case hd => rfl); (case hg => rfl); (case hr => exact dq0); (case hp => exact dq2); intro v207 w38 ho39 hb hg_ hnew_; clear hg_ hnew_; (first | rw [← Ny206.out] at ho39 | (simp only [Int.reduceToNat] at ho39; rw [← Ny206.out] at ho39)); have n0_ := Aside0.mk (Kd.R_elder' dq39 (Kd.R_base ho39) hb); have n1_ := Aside0.mk (Kd.R_lower (Kd.R_new' ho39 (Kd.R_lt dq39)) (below_size dq23)); have n2_ := Aside0.mk (below_step dq23 hb); clear HO_3; clear HB; have HO_3 := n0_; have HO208 := n1_; have HB := n2_; clear n0_ n1_ n2_; clear hb ho39; have q40 : (x5_2 : Int) ≤ ((x3_1.length : Int) : Int) := of_decide_eq_true dq27; obtain ⟨i040, hi040, _, hsz40, _⟩ := info_parts info2; have hroom40 : x3_1.length ≤ co37 := (Kd.R_reads' HO_3.out).2.1; have hC40 : Kd.C (Kd.int .i64) _ Ao37 x3_1.length x3_1 := (Kd.R_reads' HO_3.out).2.2; have hcut40 := cut_to (P := Tryd.prog) 24 2 .i64 Tryd.underlying24 hi040 Ao37 x3_1.length co37 x5_2 (of_decide_eq_true dq27) q40 hroom40; have hr40 := Kd.C_take (m := (x5_2 : Int).toNat) hC40 dq34; have hy40 : y209.length = (x5_2 : Int).toNat := (by rw [Ny209.out, List.length_take]; omega); rw [← Ny209.out] at hr40; rw [← hy40] at hcut40; have HR212 := Aside0.mk hr40; have HC212 := Aside0.mk (show y209.length ≤ co37 from by omega); clear hr40 hC40 hroom40 hi040 hsz40; have KY40 := Aside0.mk hy40; clear hy40; have KL40 := Aside0.mk (show (x5_2 : Int).toNat ≤ x3_1.length from by omega); replace q40 := eq_true q40) | ((with_reducible refine gate_builtin (b := .append) (xs := #[.tmp 46, .tmp 49]) rfl ?_); at_builtin; refine Kd.R_append_rows (Kd.int .i64) (w0 := w) w.heap.size rfl (.tmp 46) (.tmp 49) 24 2 (.int .i64 0) 8 rfl Tryd.underlying24 info2 rfl dq38 dq34 v207 y206 y209 _ _ _ (fun k_ => some k_ ≠ (.slice Ao37 x3_1.length co37 : Value).ownBlock) (fun _ => False) rfl rfl ?aO ?aR (fun _ _ h => h) (fun _ h => h.elim) ?aF ?aB ?aS ?aL ?_; (case aR => repeat (first | exact dq57 | (with_reducible refine Kd.C_alloc ?_ _) | (with_reducible refine Kd.C_drewN ?_ _) | (with_reducible refine Kd.C_drew ?_))); (case aB => exact dq23); (case aF => exact (fun k_ hk => Kd.fresh' (Kd.R_lt dq39) k_ hk)); (case aO => exact dq56); (case aS => exact (below_size dq23)); (case aL => have := LMc30.out; omega); intro v214 w41 ho hb hg hat; rw [← Ny213.out] at ho; have n0_ := Aside0.mk (Kd.R_after (ok := (fun _ => True)) dq39 hg hat); have n1_ := Aside0.mk (hb); have n2_ := Aside0.mk ((show Kd.C (Kd.int .i64) w41 Ao37 y209.length y209 from by rw [Ny209.out]; exact Kd.C_take (m := (x5_2 : Int).toNat) ((Kd.R_reads' (Kd.R_after (ok := (fun _ => True)) dq39 hg hat)).2.2) KL40.out)); have n3_ := Aside0.mk (ho); clear HO_3; clear HB; clear HR212; clear HO208; have HO_3 := n0_; have HB := n1_; have HR212 := n2_; have HO215 := n3_; clear n0_ n1_ n2_ n3_; clear ho hb hg hat; have p216 : 0 ≤ (x4_1 : Int) := of_decide_eq_true dq27; have q216 : x4_1 < (l0.length : Int) := of_decide_eq_true dq27; obtain ⟨ad216, e216, hx216_0⟩ := Kd.at_int HR0.out x4_1 p216 q216; cases e216; replace hx216_0 := (HB.out.cell (World.block_lt_of_cell? w _ hx216_0)).trans hx216_0; replace p216 := eq_true p216; replace q216 := eq_true q216) | ((with_reducible refine gate_builtin (b := .append) (xs := #[.tmp 51, .tmp 56]) rfl ?_); at_builtin; refine Kd.R_append (Kd.int .i64) (w0 := w) w.heap.size rfl (.tmp 51) (.tmp 56) 24 2 (.int .i64 0) 8 rfl Tryd.underlying24 info2 rfl dq38 dq34 v214 y213 (rd l0 x4_1) [.int .i64 (rd l0 x4_1)] (fun k_ => some k_ ≠ (.slice Ao37 x3_1.length co37 : Value).ownBlock) (fun _ => False) rfl rfl ?aP (fun _ hk => hk.elim) ?aF ?aO ?aB ?aS ?aL ?_; (case aP => exact rfl); (case aB => exact dq23); (case aF => exact (fun k_ hk => Kd.fresh' (Kd.R_lt dq39) k_ hk)); (case aO => exact dq55); (case aS => exact (below_size dq23)); (case aL => have := LMc33.out; omega); intro v218 w42 ho hb hg hat; rw [← Ny217.out] at ho; have n0_ := Aside0.mk (Kd.R_after (ok := (fun _ => True)) dq39 hg hat); have n1_ := Aside0.mk (hb); have n2_ := Aside0.mk ((show Kd.C (Kd.int .i64) w42 Ao37 y209.length y209 from by rw [Ny209.out]; exact Kd.C_take (m := (x5_2 : Int).toNat) ((Kd.R_reads' (Kd.R_after (ok := (fun _ => True)) dq39 hg hat)).2.2) KL40.out)); have n3_ := Aside0.mk (ho); clear HO_3; clear HB; clear HR212; clear HO215; have HO_3 := n0_; have HB := n1_; have HR212 := n2_; have HO219 := n3_; clear n0_ n1_ n2_ n3_; clear ho hb hg hat; have q43 : (x5_2 : Int) ≤ ((x3_1.length : Int) : Int) := of_decide_eq_true dq27; obtain ⟨i043, hi043, _, hsz43, _⟩ := info_parts info2; have hroom43 : x3_1.length ≤ co37 := (Kd.R_reads' HO_3.out).2.1; have hC43 : Kd.C (Kd.int .i64) _ Ao37 x3_1.length x3_1 := (Kd.R_reads' HO_3.out).2.2; have q043 : (0 : Int) ≤ (x5_2 : Int) := of_decide_eq_true dq27; have hcut43 := cut_from (P := Tryd.prog) 24 2 .i64 Tryd.underlying24 hi043 1 hsz43 Ao37 x3_1.length co37 x5_2 q043 q43; have hr43 := Kd.C_drop (m := (x5_2 : Int).toNat) (c := co37) hC43 dq34 hroom43; obtain ⟨A43, hA43⟩ : ∃ A1, A1 = (if co37 = (x5_2 : Int).toNat then Ao37 else (Ao37 : Option Addr).map (·.add ((x5_2 : Int).toNat * 1))) := ⟨_, rfl⟩; obtain ⟨c43, hc43⟩ : ∃ c1, c1 = co37 - (x5_2 : Int).toNat := ⟨_, rfl⟩; have hy43 : y220.length = x3_1.length - (x5_2 : Int).toNat := (by rw [Ny220.out, List.length_drop] <;> omega); rw [show (x3_1).drop (x5_2 : Int).toNat = y220 from Ny220.out.symm] at hr43; replace hr43 : Kd.C (Kd.int .i64) _ A43 y220.length y220 := (by rw [hA43]; exact hr43); rw [← hy43, ← hA43, ← hc43] at hcut43; have HR223 := Aside0.mk hr43; have HC223 := Aside0.mk (show y220.length ≤ c43 from by rw [hy43, hc43]; exact Nat.sub_le_sub_right hroom43 _); clear hr43 hC43 hroom43 hi043 hsz43 hc43; have KY43 := Aside0.mk hy43; have KA43 := Aside0.mk hA43; clear hy43 hA43; have KL43 := Aside0.mk (show (x5_2 : Int).toNat ≤ x3_1.length from by omega); replace q43 := eq_true q43) | ((with_reducible refine gate_builtin (b := .append) (xs := #[.tmp 58, .tmp 61]) rfl ?_); at_builtin; refine Kd.R_append_rows (Kd.int .i64) (w0 := w) w.heap.size rfl (.tmp 58) (.tmp 61) 24 2 (.int .i64 0) 8 rfl Tryd.underlying24 info2 rfl dq38 dq34 v218 y217 y220 _ _ _ (fun k_ => some k_ ≠ (.slice Ao37 x3_1.length co37 : Value).ownBlock) (fun _ => False) rfl rfl ?aO ?aR (fun _ _ h => h) (fun _ h => h.elim) ?aF ?aB ?aS ?aL ?_; (case aR => repeat (first | exact dq54 | (with_reducible refine Kd.C_alloc ?_ _) | (with_reducible refine Kd.C_drewN ?_ _) | (with_reducible refine Kd.C_drew ?_))); (case aB => exact dq23); (case aF => exact (fun k_ hk => Kd.fresh' (Kd.R_lt dq39) k_ hk)); (case aO => exact dq53); (case aS => exact (below_size dq23)); (case aL => have := LMc36.out; omega); intro v225 w44 ho hb hg hat; rw [← Ny224.out] at ho; have n0_ := Aside0.mk (Kd.R_after (ok := (fun _ => True)) dq39 hg hat); have n1_ := Aside0.mk (hb); have n2_ := Aside0.mk ((show Kd.C (Kd.int .i64) w44 Ao37 y209.length y209 from by rw [Ny209.out]; exact Kd.C_take (m := (x5_2 : Int).toNat) ((Kd.R_reads' (Kd.R_after (ok := (fun _ => True)) dq39 hg hat)).2.2) KL40.out)); have n3_ := Aside0.mk ((show Kd.C (Kd.int .i64) w44 A43 y220.length y220 from by rw [Ny220.out, KA43.out]; exact Kd.C_drop (m := (x5_2 : Int).toNat) (c := co37) ((Kd.R_reads' (Kd.R_after (ok := (fun _ => True)) dq39 hg hat)).2.2) KL43.out ((Kd.R_reads' (Kd.R_after (ok := (fun _ => True)) dq39 hg hat)).2.1))); have n4_ := Aside0.mk (ho); clear HO_3; clear HB; clear HR212; clear HR223; clear HO219; have HO_3 := n0_; have HB := n1_; have HR212 := n2_; have HR223 := n3_; have HO226 := n4_; clear n0_ n1_ n2_ n3_ n4_; clear ho hb hg hat)); try go_wp2_with (first | ((with_reducible refine gate_dst (N := 46) rfl ?_); refine Kd.R_lit (Kd.int .i64) _ 2 ?hg (N := 46) ?hd (xs := ([] : List Int)) (inner := []) (ok := fun _ => True) (okp := fun _ => True) ?hr ?hp (fun _ hk => hk) trivial (Below.refl _ _) (Nat.le_refl _) dq31 ?_; (case hd => rfl); (case hg => rfl); (case hr => exact dq0); (case hp => exact dq2); intro v207 w38 ho39 hb hg_ hnew_; clear hg_ hnew_; (first | rw [← Ny206.out] at ho39 | (simp only [Int.reduceToNat] at ho39; rw [← Ny206.out] at ho39)); have n0_ := Aside0.mk (Kd.R_elder' dq39 (Kd.R_base ho39) hb); have n1_ := Aside0.mk (Kd.R_lower (Kd.R_new' ho39 (Kd.R_lt dq39)) (below_size dq23)); have n2_ := Aside0.mk (below_step dq23 hb); clear HO_3; clear HB; have HO_3 := n0_; have HO208 := n1_; have HB := n2_; clear n0_ n1_ n2_; clear hb ho39; have q40 : (x5_2 : Int) ≤ ((x3_1.length : Int) : Int) := of_decide_eq_true dq27; obtain ⟨i040, hi040, _, hsz40, _⟩ := info_parts info2; have hroom40 : x3_1.length ≤ co37 := (Kd.R_reads' HO_3.out).2.1; have hC40 : Kd.C (Kd.int .i64) _ Ao37 x3_1.length x3_1 := (Kd.R_reads' HO_3.out).2.2; have hcut40 := cut_to (P := Tryd.prog) 24 2 .i64 Tryd.underlying24 hi040 Ao37 x3_1.length co37 x5_2 (of_decide_eq_true dq27) q40 hroom40; have hr40 := Kd.C_take (m := (x5_2 : Int).toNat) hC40 dq34; have hy40 : y209.length = (x5_2 : Int).toNat := (by rw [Ny209.out, List.length_take]; omega); rw [← Ny209.out] at hr40; rw [← hy40] at hcut40; have HR212 := Aside0.mk hr40; have HC212 := Aside0.mk (show y209.length ≤ co37 from by omega); clear hr40 hC40 hroom40 hi040 hsz40; have KY40 := Aside0.mk hy40; clear hy40; have KL40 := Aside0.mk (show (x5_2 : Int).toNat ≤ x3_1.length from by omega); replace q40 := eq_true q40) | ((with_reducible refine gate_builtin (b := .append) (xs := #[.tmp 46, .tmp 49]) rfl ?_); at_builtin; refine Kd.R_append_rows (Kd.int .i64) (w0 := w) w.heap.size rfl (.tmp 46) (.tmp 49) 24 2 (.int .i64 0) 8 rfl Tryd.underlying24 info2 rfl dq38 dq34 v207 y206 y209 _ _ _ (fun k_ => some k_ ≠ (.slice Ao37 x3_1.length co37 : Value).ownBlock) (fun _ => False) rfl rfl ?aO ?aR (fun _ _ h => h) (fun _ h => h.elim) ?aF ?aB ?aS ?aL ?_; (case aR => repeat (first | exact dq57 | (with_reducible refine Kd.C_alloc ?_ _) | (with_reducible refine Kd.C_drewN ?_ _) | (with_reducible refine Kd.C_drew ?_))); (case aB => exact dq23); (case aF => exact (fun k_ hk => Kd.fresh' (Kd.R_lt dq39) k_ hk)); (case aO => exact dq56); (case aS => exact (below_size dq23)); (case aL => have := LMc30.out; omega); intro v214 w41 ho hb hg hat; rw [← Ny213.out] at ho; have n0_ := Aside0.mk (Kd.R_after (ok := (fun _ => True)) dq39 hg hat); have n1_ := Aside0.mk (hb); have n2_ := Aside0.mk ((show Kd.C (Kd.int .i64) w41 Ao37 y209.length y209 from by rw [Ny209.out]; exact Kd.C_take (m := (x5_2 : Int).toNat) ((Kd.R_reads' (Kd.R_after (ok := (fun _ => True)) dq39 hg hat)).2.2) KL40.out)); have n3_ := Aside0.mk (ho); clear HO_3; clear HB; clear HR212; clear HO208; have HO_3 := n0_; have HB := n1_; have HR212 := n2_; have HO215 := n3_; clear n0_ n1_ n2_ n3_; clear ho hb hg hat; have p216 : 0 ≤ (x4_1 : Int) := of_decide_eq_true dq27; have q216 : x4_1 < (l0.length : Int) := of_decide_eq_true dq27; obtain ⟨ad216, e216, hx216_0⟩ := Kd.at_int HR0.out x4_1 p216 q216; cases e216; replace hx216_0 := (HB.out.cell (World.block_lt_of_cell? w _ hx216_0)).trans hx216_0; replace p216 := eq_true p216; replace q216 := eq_true q216) | ((with_reducible refine gate_builtin (b := .append) (xs := #[.tmp 51, .tmp 56]) rfl ?_); at_builtin; refine Kd.R_append (Kd.int .i64) (w0 := w) w.heap.size rfl (.tmp 51) (.tmp 56) 24 2 (.int .i64 0) 8 rfl Tryd.underlying24 info2 rfl dq38 dq34 v214 y213 (rd l0 x4_1) [.int .i64 (rd l0 x4_1)] (fun k_ => some k_ ≠ (.slice Ao37 x3_1.length co37 : Value).ownBlock) (fun _ => False) rfl rfl ?aP (fun _ hk => hk.elim) ?aF ?aO ?aB ?aS ?aL ?_; (case aP => exact rfl); (case aB => exact dq23); (case aF => exact (fun k_ hk => Kd.fresh' (Kd.R_lt dq39) k_ hk)); (case aO => exact dq55); (case aS => exact (below_size dq23)); (case aL => have := LMc33.out; omega); intro v218 w42 ho hb hg hat; rw [← Ny217.out] at ho; have n0_ := Aside0.mk (Kd.R_after (ok := (fun _ => True)) dq39 hg hat); have n1_ := Aside0.mk (hb); have n2_ := Aside0.mk ((show Kd.C (Kd.int .i64) w42 Ao37 y209.length y209 from by rw [Ny209.out]; exact Kd.C_take (m := (x5_2 : Int).toNat) ((Kd.R_reads' (Kd.R_after (ok := (fun _ => True)) dq39 hg hat)).2.2) KL40.out)); have n3_ := Aside0.mk (ho); clear HO_3; clear HB; clear HR212; clear HO215; have HO_3 := n0_; have HB := n1_; have HR212 := n2_; have HO219 := n3_; clear n0_ n1_ n2_ n3_; clear ho hb hg hat; have q43 : (x5_2 : Int) ≤ ((x3_1.length : Int) : Int) := of_decide_eq_true dq27; obtain ⟨i043, hi043, _, hsz43, _⟩ := info_parts info2; have hroom43 : x3_1.length ≤ co37 := (Kd.R_reads' HO_3.out).2.1; have hC43 : Kd.C (Kd.int .i64) _ Ao37 x3_1.length x3_1 := (Kd.R_reads' HO_3.out).2.2; have q043 : (0 : Int) ≤ (x5_2 : Int) := of_decide_eq_true dq27; have hcut43 := cut_from (P := Tryd.prog) 24 2 .i64 Tryd.underlying24 hi043 1 hsz43 Ao37 x3_1.length co37 x5_2 q043 q43; have hr43 := Kd.C_drop (m := (x5_2 : Int).toNat) (c := co37) hC43 dq34 hroom43; obtain ⟨A43, hA43⟩ : ∃ A1, A1 = (if co37 = (x5_2 : Int).toNat then Ao37 else (Ao37 : Option Addr).map (·.add ((x5_2 : Int).toNat * 1))) := ⟨_, rfl⟩; obtain ⟨c43, hc43⟩ : ∃ c1, c1 = co37 - (x5_2 : Int).toNat := ⟨_, rfl⟩; have hy43 : y220.length = x3_1.length - (x5_2 : Int).toNat := (by rw [Ny220.out, List.length_drop] <;> omega); rw [show (x3_1).drop (x5_2 : Int).toNat = y220 from Ny220.out.symm] at hr43; replace hr43 : Kd.C (Kd.int .i64) _ A43 y220.length y220 := (by rw [hA43]; exact hr43); rw [← hy43, ← hA43, ← hc43] at hcut43; have HR223 := Aside0.mk hr43; have HC223 := Aside0.mk (show y220.length ≤ c43 from by rw [hy43, hc43]; exact Nat.sub_le_sub_right hroom43 _); clear hr43 hC43 hroom43 hi043 hsz43 hc43; have KY43 := Aside0.mk hy43; have KA43 := Aside0.mk hA43; clear hy43 hA43; have KL43 := Aside0.mk (show (x5_2 : Int).toNat ≤ x3_1.length from by omega); replace q43 := eq_true q43) | ((with_reducible refine gate_builtin (b := .append) (xs := #[.tmp 58, .tmp 61]) rfl ?_); at_builtin; refine Kd.R_append_rows (Kd.int .i64) (w0 := w) w.heap.size rfl (.tmp 58) (.tmp 61) 24 2 (.int .i64 0) 8 rfl Tryd.underlying24 info2 rfl dq38 dq34 v218 y217 y220 _ _ _ (fun k_ => some k_ ≠ (.slice Ao37 x3_1.length co37 : Value).ownBlock) (fun _ => False) rfl rfl ?aO ?aR (fun _ _ h => h) (fun _ h => h.elim) ?aF ?aB ?aS ?aL ?_; (case aR => repeat (first | exact dq54 | (with_reducible refine Kd.C_alloc ?_ _) | (with_reducible refine Kd.C_drewN ?_ _) | (with_reducible refine Kd.C_drew ?_))); (case aB => exact dq23); (case aF => exact (fun k_ hk => Kd.fresh' (Kd.R_lt dq39) k_ hk)); (case aO => exact dq53); (case aS => exact (below_size dq23)); (case aL => have := LMc36.out; omega); intro v225 w44 ho hb hg hat; rw [← Ny224.out] at ho; have n0_ := Aside0.mk (Kd.R_after (ok := (fun _ => True)) dq39 hg hat); have n1_ := Aside0.mk (hb); have n2_ := Aside0.mk ((show Kd.C (Kd.int .i64) w44 Ao37 y209.length y209 from by rw [Ny209.out]; exact Kd.C_take (m := (x5_2 : Int).toNat) ((Kd.R_reads' (Kd.R_after (ok := (fun _ => True)) dq39 hg hat)).2.2) KL40.out)); have n3_ := Aside0.mk ((show Kd.C (Kd.int .i64) w44 A43 y220.length y220 from by rw [Ny220.out, KA43.out]; exact Kd.C_drop (m := (x5_2 : Int).toNat) (c := co37) ((Kd.R_reads' (Kd.R_after (ok := (fun _ => True)) dq39 hg hat)).2.2) KL43.out ((Kd.R_reads' (Kd.R_after (ok := (fun _ => True)) dq39 hg hat)).2.1))); have n4_ := Aside0.mk (ho); clear HO_3; clear HB; clear HR212; clear HR223; clear HO219; have HO_3 := n0_; have HB := n1_; have HR212 := n2_; have HR223 := n3_; have HO226 := n4_; clear n0_ n1_ n2_ n3_ n4_; clear ho hb hg hat)))
              go_roundg k2
              case measure => have := HK1.out; have := HK2.out; omega
              case rel => exact ⟨(y224), (wrap64 (x4_1 + 1)), dq26, H', ⟨dq47⟩, ⟨by (with_reducible repeat (first | apply Kd.R_alloc | apply Kd.R_drewN | apply Kd.R_drew)); exact Kd.R_mono HO226.out (fun _ hk => trivial)⟩, ⟨dq23⟩⟩
             ·rw [if_neg c36] at H
              exact absurd H dq31
            ·rw [if_neg c33] at H
             exact absurd H dq31
           ·rw [if_neg c32] at H
            exact absurd H dq31
          ·rw [if_neg c31] at H
           exact absurd H dq31
         ·rw [if_neg c30] at H
          exact absurd H dq31
        ·rw [if_neg c29] at H
         exact absurd H dq31
       ·rw [if_neg c28] at H
        exact absurd H dq31
   ·rw [if_neg c4] at H
    have c4b0 := decide_eq_false c4
    clear c4
    obtain rfl := Option.some.inj H
    go_wp2
    repeat (go_quiet (fail); try go_wp2)
    go_ret
    exact ⟨_, dq25, dq39, dq23⟩

/-! ### spec_l11Select: function 42 -/
mutual
def spec_l11Select.j2 : Nat → List (S39) → List ByteArray → List Int → Option (List Int)
 | 0, _, _, _ => none
 | k + 1, x0, x7, x10 => spec_l11Select.l2 k x0 x7 x10 0
def spec_l11Select.l2 : Nat → List (S39) → List ByteArray → List Int → Int → Option (List Int)
 | 0, _, _, _, _ => none
 | k + 1, x0, x7, x10, x13 => if x13 < (x7.length : Int) then (spec_l11Select.l3 k x0 x7 x10 x13 (([] : List Int)) 0) else ((spec_l8Sorted.f k x10).bind fun t240 => (some t240))
def spec_l11Select.l3 : Nat → List (S39) → List ByteArray → List Int → Int → List Int → Int → Option (List Int)
 | 0, _, _, _, _, _, _ => none
 | k + 1, x0, x7, x10, x13, x14, x15 => if x15 < (x10.length : Int) then (if 0 ≤ x15 then ((spec_l2Kids.f k x0 (rd x10 x15)).bind fun t247 => (spec_l11Select.l4 k x0 x7 x10 x13 x14 x15 t247 0)) else (none)) else (spec_l11Select.l2 k x0 x7 x14 (wrap64 (x13 + 1)))
def spec_l11Select.l4 : Nat → List (S39) → List ByteArray → List Int → Int → List Int → Int → List Int → Int → Option (List Int)
 | 0, _, _, _, _, _, _, _, _ => none
 | k + 1, x0, x7, x10, x13, x14, x15, x16, x17 => if x17 < (x16.length : Int) then (if 0 ≤ x17 then (if 0 ≤ (rd x16 x17) then (if (rd x16 x17) < (x0.length : Int) then (if 0 ≤ x13 then (if x13 < (x7.length : Int) then (if ((rd_T39 x0 (rd x16 x17)).f1).toList = (rdOf ByteArray.empty x7 x13).toList then (if x14.length < 17592186044416 then (spec_l11Select.l4 k x0 x7 x10 x13 (x14 ++ [rd x16 x17]) x15 x16 (wrap64 (x17 + 1))) else (none)) else (spec_l11Select.l4 k x0 x7 x10 x13 x14 x15 x16 (wrap64 (x17 + 1)))) else (none)) else (none)) else (none)) else (none)) else (none)) else (spec_l11Select.l3 k x0 x7 x10 x13 x14 (wrap64 (x15 + 1)))
def spec_l11Select.l0 : Nat → List (S39) → Int → List ByteArray → List Int → Int → Option (List Int)
 | 0, _, _, _, _, _ => none
 | k + 1, x0, x1, x7, x10, x11 => if x11 < (x0.length : Int) then (spec_l11Select.l1 k x0 x1 x7 x10 x11 x11) else (spec_l11Select.j2 k x0 x7 x10)
def spec_l11Select.l1 : Nat → List (S39) → Int → List ByteArray → List Int → Int → Int → Option (List Int)
 | 0, _, _, _, _, _, _ => none
 | k + 1, x0, x1, x7, x10, x11, x12 => if x12 > x1 then (if 0 ≤ x12 then (if x12 < (x0.length : Int) then (spec_l11Select.l1 k x0 x1 x7 x10 x11 ((rd_T39 x0 x12).f0)) else (none)) else (none)) else (if x12 = x1 then (if 0 ≤ x11 then (if x11 < (x0.length : Int) then (if ((rd_T39 x0 x11).f1).toList = ([] : List UInt8) then (spec_l11Select.l0 k x0 x1 x7 x10 (wrap64 (x11 + 1))) else (if x10.length < 17592186044416 then (spec_l11Select.l0 k x0 x1 x7 (x10 ++ [x11]) (wrap64 (x11 + 1))) else (none))) else (none)) else (none)) else (spec_l11Select.l0 k x0 x1 x7 x10 (wrap64 (x11 + 1))))
end
def spec_l11Select.f (k : Nat) (l0 : List (S39)) (a1 : Int) (a2 : ByteArray) : Option (List Int) := (spec_l11Steps.f k a2).bind fun bt227 => ((some (([a1] : List Int) : List Int)).bind fun y232 => (if bt227.2.1 = true then (spec_l11Select.l0 k l0 a1 bt227.1 y232 (wrap64 (a1 + 1))) else (spec_l11Select.j2 k l0 bt227.1 y232)))
set_option maxHeartbeats 8000000 in
set_option maxRecDepth 100000 in
theorem spec_l11Select.calls (k : Nat) (P0_ : Nat → Prop) (A0 : Option Addr) (c0 : Nat) (l0 : List (S39)) (a1 : Int) (a2 : ByteArray) (r : List Int) (w : World) (hs0 : Kd.V k39 39 w w.heap.size (fun k_ => P0_ k_) (.slice A0 l0.length c0) l0) (h : spec_l11Select.f k l0 a1 a2 = some r) :
  Calls Tryd.prog 42 #[.slice A0 l0.length c0, .int .i64 a1, .string a2] w fun e w' => ∃ v0_ : Value, e = .returned (v0_) ∧ Kd.R (Kd.int .i64) 2 w' w.heap.size (fun k_ => (w.heap.size ≤ k_)) v0_ r ∧ Below w.heap.size w w' := by
 have HO0 := Aside0.mk (show Kd.V k39 39 w w.heap.size (fun k_ => (P0_ k_ ∨ w.heap.size ≤ k_)) (.slice A0 l0.length c0) l0 from Kd.V_mono hs0 (fun k_ hk => .inl hk))
 have HB := Aside0.mk (Below.refl w.heap.size w)
 have H : ((spec_l11Steps.f k a2).bind fun bt227 => ((some (([a1] : List Int) : List Int)).bind fun y232 => (if bt227.2.1 = true then (spec_l11Select.l0 k l0 a1 bt227.1 y232 (wrap64 (a1 + 1))) else (spec_l11Select.j2 k l0 bt227.1 y232)))) = some r := h
 clear h
 replace H := Option.bind_eq_some_iff.mp H
 obtain ⟨⟨t227, t228, t229⟩, A40, H⟩ := H
 replace H : ((some (([a1] : List Int) : List Int)).bind fun y232 => (if t228 = true then (spec_l11Select.l0 k l0 a1 t227 y232 (wrap64 (a1 + 1))) else (spec_l11Select.j2 k l0 t227 y232))) = some r := H
 have A4 := Aside0.mk A40
 clear A40
 obtain ⟨y232, hy232⟩ : ∃ y_ : List Int, y_ = (([a1] : List Int)) := ⟨_, rfl⟩
 replace H : (if t228 = true then (spec_l11Select.l0 k l0 a1 t227 y232 (wrap64 (a1 + 1))) else (spec_l11Select.j2 k l0 t227 y232)) = some r := by first | (rw [hy232]; with_reducible exact H) | (have H2_ := (Option.bind_some _ _).symm.trans H; rw [hy232]; with_reducible exact H2_) | (have H2_ := (Option.bind_some _ _).symm.trans H; with_reducible exact H2_) | with_reducible exact H | (rw [hy232]; exact H) | exact H
 have Ny232 := Aside0.mk hy232
 clear hy232
 have HC5 := Aside0.mk H
 clear H
 go_enter Tryd.func42, Tryd.ntmps42
 go_upto_if 26 with (first | (go_at_call 61; (with_reducible refine (spec_l11Steps.calls k a2 t227 t228 t229 _ A4.out).mono ?_); rintro e w6 ⟨v230, rfl, ho0, hb⟩; have n0_ := Aside0.mk (Kd.V_elder' dq59 (Kd.R_base ho0) hb); have n1_ := Aside0.mk (Kd.R_lower (Kd.R_newM (M := fun k_ => (w.heap.size ≤ k_)) ho0 (below_size dq23) (fun k_ h_ => h_)) (below_size dq23)); have n2_ := Aside0.mk (below_step dq23 hb); clear HO0; clear HB; have HO0 := n0_; have HO231 := n1_; have HB := n2_; clear n0_ n1_ n2_; (try clear hb); (try clear hb2); (try clear hk); (try clear hi); (try clear ho0)) | ((with_reducible refine gate_dst (N := 25) rfl ?_); refine Kd.R_lit (Kd.int .i64) _ 2 ?hg (N := 25) ?hd (xs := ([a1] : List Int)) (inner := [.int .i64 a1]) (ok := fun _ => True) (okp := fun _ => True) ?hr ?hp (fun _ hk => hk) trivial (Below.refl _ _) (Nat.le_refl _) dq31 ?_; (case hd => rfl); (case hg => rfl); (case hr => exact dq0); (case hp => exact (Reps.one (show Kd.M (Kd.int .i64) _ _ _ a1 [.int .i64 a1] from rfl) (Reps.none _ _))); intro v233 w7 ho8 hb hg_ hnew_; clear hg_ hnew_; (first | rw [← Ny232.out] at ho8 | (simp only [Int.reduceToNat] at ho8; rw [← Ny232.out] at ho8)); have n0_ := Aside0.mk (Kd.V_elder' dq59 (Kd.R_base ho8) hb); have n1_ := Aside0.mk (Kd.R_below dq58 hb); have n2_ := Aside0.mk (Kd.R_lower (Kd.R_newM (M := fun k_ => (w.heap.size ≤ k_)) ho8 (below_size dq23) (fun k_ h_ => h_)) (below_size dq23)); have n3_ := Aside0.mk (below_step dq23 hb); clear HO0; clear HO231; clear HB; have HO0 := n0_; have HO231 := n1_; have HO234 := n2_; have HB := n3_; clear n0_ n1_ n2_ n3_; clear hb ho8))
 repeat (go_quiet (first | (go_at_call 61; (with_reducible refine (spec_l11Steps.calls k a2 t227 t228 t229 _ A4.out).mono ?_); rintro e w6 ⟨v230, rfl, ho0, hb⟩; have n0_ := Aside0.mk (Kd.V_elder' dq59 (Kd.R_base ho0) hb); have n1_ := Aside0.mk (Kd.R_lower (Kd.R_newM (M := fun k_ => (w.heap.size ≤ k_)) ho0 (below_size dq23) (fun k_ h_ => h_)) (below_size dq23)); have n2_ := Aside0.mk (below_step dq23 hb); clear HO0; clear HB; have HO0 := n0_; have HO231 := n1_; have HB := n2_; clear n0_ n1_ n2_; (try clear hb); (try clear hb2); (try clear hk); (try clear hi); (try clear ho0)) | ((with_reducible refine gate_dst (N := 25) rfl ?_); refine Kd.R_lit (Kd.int .i64) _ 2 ?hg (N := 25) ?hd (xs := ([a1] : List Int)) (inner := [.int .i64 a1]) (ok := fun _ => True) (okp := fun _ => True) ?hr ?hp (fun _ hk => hk) trivial (Below.refl _ _) (Nat.le_refl _) dq31 ?_; (case hd => rfl); (case hg => rfl); (case hr => exact dq0); (case hp => exact (Reps.one (show Kd.M (Kd.int .i64) _ _ _ a1 [.int .i64 a1] from rfl) (Reps.none _ _))); intro v233 w7 ho8 hb hg_ hnew_; clear hg_ hnew_; (first | rw [← Ny232.out] at ho8 | (simp only [Int.reduceToNat] at ho8; rw [← Ny232.out] at ho8)); have n0_ := Aside0.mk (Kd.V_elder' dq59 (Kd.R_base ho8) hb); have n1_ := Aside0.mk (Kd.R_below dq58 hb); have n2_ := Aside0.mk (Kd.R_lower (Kd.R_newM (M := fun k_ => (w.heap.size ≤ k_)) ho8 (below_size dq23) (fun k_ h_ => h_)) (below_size dq23)); have n3_ := Aside0.mk (below_step dq23 hb); clear HO0; clear HO231; clear HB; have HO0 := n0_; have HO231 := n1_; have HO234 := n2_; have HB := n3_; clear n0_ n1_ n2_ n3_; clear hb ho8)); go_upto_if 26 with (first | (go_at_call 61; (with_reducible refine (spec_l11Steps.calls k a2 t227 t228 t229 _ A4.out).mono ?_); rintro e w6 ⟨v230, rfl, ho0, hb⟩; have n0_ := Aside0.mk (Kd.V_elder' dq59 (Kd.R_base ho0) hb); have n1_ := Aside0.mk (Kd.R_lower (Kd.R_newM (M := fun k_ => (w.heap.size ≤ k_)) ho0 (below_size dq23) (fun k_ h_ => h_)) (below_size dq23)); have n2_ := Aside0.mk (below_step dq23 hb); clear HO0; clear HB; have HO0 := n0_; have HO231 := n1_; have HB := n2_; clear n0_ n1_ n2_; (try clear hb); (try clear hb2); (try clear hk); (try clear hi); (try clear ho0)) | ((with_reducible refine gate_dst (N := 25) rfl ?_); refine Kd.R_lit (Kd.int .i64) _ 2 ?hg (N := 25) ?hd (xs := ([a1] : List Int)) (inner := [.int .i64 a1]) (ok := fun _ => True) (okp := fun _ => True) ?hr ?hp (fun _ hk => hk) trivial (Below.refl _ _) (Nat.le_refl _) dq31 ?_; (case hd => rfl); (case hg => rfl); (case hr => exact dq0); (case hp => exact (Reps.one (show Kd.M (Kd.int .i64) _ _ _ a1 [.int .i64 a1] from rfl) (Reps.none _ _))); intro v233 w7 ho8 hb hg_ hnew_; clear hg_ hnew_; (first | rw [← Ny232.out] at ho8 | (simp only [Int.reduceToNat] at ho8; rw [← Ny232.out] at ho8)); have n0_ := Aside0.mk (Kd.V_elder' dq59 (Kd.R_base ho8) hb); have n1_ := Aside0.mk (Kd.R_below dq58 hb); have n2_ := Aside0.mk (Kd.R_lower (Kd.R_newM (M := fun k_ => (w.heap.size ≤ k_)) ho8 (below_size dq23) (fun k_ h_ => h_)) (below_size dq23)); have n3_ := Aside0.mk (below_step dq23 hb); clear HO0; clear HO231; clear HB; have HO0 := n0_; have HO231 := n1_; have HO234 := n2_; have HB := n3_; clear n0_ n1_ n2_ n3_; clear hb ho8)))
 (try simp only [Act.put, List.setIfInBounds_toArray, List.set_cons_zero, List.set_cons_succ])
 go_cut [10] (fun v10 wc => ∃ (kq : Nat) (x10_4 : List Int), Aside0 (spec_l11Select.j2 kq l0 t227 x10_4 = some r) ∧ Aside0 (kq ≤ k) ∧ Aside0 (Kd.V k39 39 wc w.heap.size (fun k_ => (P0_ k_ ∨ w.heap.size ≤ k_) ∧ some k_ ≠ (v230 : Value).ownBlock ∧ some k_ ≠ (v10 : Value).ownBlock) (.slice A0 l0.length c0) l0) ∧ Aside0 (Kd.R Kd.string 9 wc w.heap.size (fun k_ => (w.heap.size ≤ k_)) v230 t227) ∧ Aside0 (Kd.R (Kd.int .i64) 2 wc w.heap.size (fun k_ => (w.heap.size ≤ k_)) v10 x10_4) ∧ Aside0 (Below w.heap.size w wc))
 case first =>
  have H := HC5.out
  clear HC5
  by_cases c9 : t228 = true
  ·subst c9
   have H1 : (spec_l11Select.l0 k l0 a1 t227 y232 (wrap64 (a1 + 1))) = some r := by rw [if_pos rfl] at H; exact H
   clear H
   have H := H1
   clear H1
   have H' := Aside0.mk H
   clear H
   go_wp2
   repeat (go_quiet (fail); try go_wp2)
   go_loopg [10, 11] k (fun kq v10 v11 w' => ∃ (x10_1 : List Int) (x11_1 : Int), v11 = .int .i64 x11_1 ∧ Aside0 (spec_l11Select.l0 kq l0 a1 t227 x10_1 x11_1 = some r) ∧ Aside0 (kq ≤ k) ∧ Aside0 (Kd.V k39 39 w' w.heap.size (fun k_ => (P0_ k_ ∨ w.heap.size ≤ k_) ∧ some k_ ≠ (v230 : Value).ownBlock ∧ some k_ ≠ (v10 : Value).ownBlock) (.slice A0 l0.length c0) l0) ∧ Aside0 (Kd.R Kd.string 9 w' w.heap.size (fun k_ => (w.heap.size ≤ k_)) v230 t227) ∧ Aside0 (Kd.R (Kd.int .i64) 2 w' w.heap.size (fun k_ => (w.heap.size ≤ k_)) v10 x10_1) ∧ Aside0 (Below w.heap.size w w'))
   case atStart => exact ⟨(y232), (wrap64 (a1 + 1)), dq26, H', ⟨Nat.le_refl _⟩, ⟨dq62⟩, ⟨dq61⟩, ⟨dq60⟩, ⟨dq23⟩⟩
   case round =>
    clear H'
    try clear p2
    try clear c4
    try clear p6
    try clear c9
    obtain ⟨x10_1, x11_1, rfl, HA, HK1, HO_0, HO_7, HO_10, HB⟩ := hrel
    cases gk with
    | zero => exact absurd HA.out (by simp [spec_l11Select.l0])
    | succ k1 =>
     have H := HA.out
     clear HA
     simp only [spec_l11Select.l0] at H
     by_cases c10 : x11_1 < (l0.length : Int)
     ·rw [if_pos c10] at H
      have c10b0 := decide_eq_true c10
      clear c10
      (first | rw [c10b0] | (simp only [i64_w, i32_w]; rw [c10b0]) | skip)
      have H' := Aside0.mk H
      clear H
      go_wp2
      repeat (go_quiet (fail); try go_wp2)
      go_loopg [12] k1 (fun kq v12 w' => ∃ (x12_2 : Int), v12 = .int .i64 x12_2 ∧ Aside0 (spec_l11Select.l1 kq l0 a1 t227 x10_1 x11_1 x12_2 = some r) ∧ Aside0 (kq ≤ k1) ∧ Aside0 (Kd.V k39 39 w' w.heap.size (fun k_ => (P0_ k_ ∨ w.heap.size ≤ k_) ∧ some k_ ≠ (v230 : Value).ownBlock ∧ some k_ ≠ (u10 : Value).ownBlock) (.slice A0 l0.length c0) l0) ∧ Aside0 (Kd.R Kd.string 9 w' w.heap.size (fun k_ => (w.heap.size ≤ k_)) v230 t227) ∧ Aside0 (Kd.R (Kd.int .i64) 2 w' w.heap.size (fun k_ => (w.heap.size ≤ k_)) u10 x10_1) ∧ Aside0 (Below w.heap.size w w'))
      case atStart => exact ⟨(x11_1), dq26, H', ⟨Nat.le_refl _⟩, ⟨dq65⟩, ⟨dq64⟩, ⟨dq63⟩, ⟨dq23⟩⟩
      case round =>
       clear H'
       try clear c1
       try clear p2
       try clear c4
       try clear p6
       try clear c9
       try clear c10
       try clear c10b0
       try clear p2
       try clear p6
       obtain ⟨x12_2, rfl, HA, HK2, HO_0, HO_7, HO_10, HB⟩ := hrel
       cases gk with
       | zero => exact absurd HA.out (by simp [spec_l11Select.l1])
       | succ k2 =>
        have H := HA.out
        clear HA
        simp only [spec_l11Select.l1] at H
        by_cases c11 : x12_2 > a1
        ·rw [if_pos c11] at H
         have c11b0 : decide (a1 < x12_2) = true := decide_eq_true c11
         clear c11
         by_cases c12 : 0 ≤ x12_2
         ·rw [if_pos c12] at H
          have c12b0 := decide_eq_true c12
          clear c12
          by_cases c13 : x12_2 < (l0.length : Int)
          ·rw [if_pos c13] at H
           have c13b0 := decide_eq_true c13
           clear c13
           have H' := Aside0.mk H
           clear H
           have p235 : 0 ≤ (x12_2 : Int) := of_decide_eq_true dq27
           have q235 : x12_2 < (l0.length : Int) := of_decide_eq_true dq27
           obtain ⟨ad235, A235_3, c235_3, e235, hx235_0, hx235_1, hx235_2, hx235_3, hl235_3, hi235_3⟩ := at_T39 (Kd.V_reads' HO_0.out).2.2 x12_2 p235 q235
           cases e235
           obtain ⟨ce235, hce235, hMe235, hcc235⟩ := Kd.V_get HO_0.out z39 x12_2 p235 (by first | exact q235 | exact of_decide_eq_true dq27 | (have e_ := (Kd.V_reads' HO_0.out).1; omega))
           obtain ⟨ua235_3, uc235_3, rfl, ul235_3, ge235_3⟩ := k39_openF hMe235
           have hv235_3 := hcc235 3 _ rfl
           rw [add_field _ _ 3 dq34] at hv235_3
           replace hv235_3 := Option.some.inj (hv235_3.symm.trans hx235_3)
           injection hv235_3 with hva_ hvn_ hvc_
           rw [hva_] at ge235_3
           rw [hvc_] at ul235_3
           have HL235_3 := Aside0.mk (show Kd.V k46 46 _ w.heap.size _ _ ((rd_T39 l0 x12_2).f3) from Kd.V_mk ul235_3 ge235_3)
           clear hva_ hvn_ hvc_ ge235_3 ul235_3
           clear hcc235 hce235
           have HR235_3 := Aside0.mk hi235_3
           have HC235_3 := Aside0.mk hl235_3
           clear hi235_3 hl235_3
           replace p235 := eq_true p235
           replace q235 := eq_true q235
           go_wp2
           repeat (go_quiet (fail); try go_wp2)
           go_roundg k2
           case measure => have := HK1.out; have := HK2.out; omega
           case rel => exact ⟨((rd_T39 l0 x12_2).f0), dq26, H', ⟨dq47⟩, ⟨dq65⟩, ⟨dq64⟩, ⟨dq63⟩, ⟨dq23⟩⟩
          ·rw [if_neg c13] at H
           exact absurd H dq31
         ·rw [if_neg c12] at H
          exact absurd H dq31
        ·rw [if_neg c11] at H
         have c11b0 : decide (a1 < x12_2) = false := decide_eq_false c11
         clear c11
         by_cases c14 : x12_2 = a1
         ·rw [if_pos c14] at H
          have c14b0 := beq_iff_eq.mpr c14
          have c14b1 := bne_eq_false_iff_eq.mpr c14
          clear c14
          by_cases c15 : 0 ≤ x11_1
          ·rw [if_pos c15] at H
           have c15b0 := decide_eq_true c15
           clear c15
           by_cases c16 : x11_1 < (l0.length : Int)
           ·rw [if_pos c16] at H
            have c16b0 := decide_eq_true c16
            clear c16
            by_cases c17 : ((rd_T39 l0 x11_1).f1).toList = ([] : List UInt8)
            ·rw [if_pos c17] at H
             have c17b0 := beq_iff_eq.mpr c17
             have c17b1 := bne_eq_false_iff_eq.mpr c17
             clear c17
             have H' := Aside0.mk H
             clear H
             have p236 : 0 ≤ (x11_1 : Int) := of_decide_eq_true dq27
             have q236 : x11_1 < (l0.length : Int) := of_decide_eq_true dq27
             obtain ⟨ad236, A236_3, c236_3, e236, hx236_0, hx236_1, hx236_2, hx236_3, hl236_3, hi236_3⟩ := at_T39 (Kd.V_reads' HO_0.out).2.2 x11_1 p236 q236
             cases e236
             obtain ⟨ce236, hce236, hMe236, hcc236⟩ := Kd.V_get HO_0.out z39 x11_1 p236 dq66
             obtain ⟨ua236_3, uc236_3, rfl, ul236_3, ge236_3⟩ := k39_openF hMe236
             have hv236_3 := hcc236 3 _ rfl
             rw [add_field _ _ 3 dq34] at hv236_3
             replace hv236_3 := Option.some.inj (hv236_3.symm.trans hx236_3)
             injection hv236_3 with hva_ hvn_ hvc_
             rw [hva_] at ge236_3
             rw [hvc_] at ul236_3
             have HL236_3 := Aside0.mk (show Kd.V k46 46 _ w.heap.size _ _ ((rd_T39 l0 x11_1).f3) from Kd.V_mk ul236_3 ge236_3)
             clear hva_ hvn_ hvc_ ge236_3 ul236_3
             clear hcc236 hce236
             have HR236_3 := Aside0.mk hi236_3
             have HC236_3 := Aside0.mk hl236_3
             clear hi236_3 hl236_3
             replace p236 := eq_true p236
             replace q236 := eq_true q236
             go_wp2
             repeat (go_quiet (fail); try go_wp2)
             go_roundg k2
             case measure => have := HK1.out; have := HK2.out; omega
             case rel => exact ⟨(x10_1), (wrap64 (x11_1 + 1)), dq26, H', ⟨dq47⟩, ⟨dq65⟩, ⟨dq64⟩, ⟨dq63⟩, ⟨dq23⟩⟩
            ·rw [if_neg c17] at H
             have c17b0 := beq_eq_false_iff_ne.mpr c17
             have c17b1 := bne_iff_ne.mpr c17
             by_cases c18 : x10_1.length < 17592186044416
             ·rw [if_pos c18] at H
              have LMc18 := Aside0.mk c18
              clear c18
              obtain ⟨y237, hy237⟩ : ∃ y_ : List Int, y_ = (x10_1 ++ [x11_1]) := ⟨_, rfl⟩
              replace H : (spec_l11Select.l0 k2 l0 a1 t227 y237 (wrap64 (x11_1 + 1))) = some r := by first | (rw [hy237]; with_reducible exact H) | (have H2_ := (Option.bind_some _ _).symm.trans H; rw [hy237]; with_reducible exact H2_) | (have H2_ := (Option.bind_some _ _).symm.trans H; with_reducible exact H2_) | with_reducible exact H | (rw [hy237]; exact H) | exact H
              have Ny237 := Aside0.mk hy237
              clear hy237
              have H' := Aside0.mk H
              clear H
              have p236 : 0 ≤ (x11_1 : Int) := of_decide_eq_true dq27
              have q236 : x11_1 < (l0.length : Int) := of_decide_eq_true dq27
              obtain ⟨ad236, A236_3, c236_3, e236, hx236_0, hx236_1, hx236_2, hx236_3, hl236_3, hi236_3⟩ := at_T39 (Kd.V_reads' HO_0.out).2.2 x11_1 p236 q236
              cases e236
              obtain ⟨ce236, hce236, hMe236, hcc236⟩ := Kd.V_get HO_0.out z39 x11_1 p236 dq66
              obtain ⟨ua236_3, uc236_3, rfl, ul236_3, ge236_3⟩ := k39_openF hMe236
              have hv236_3 := hcc236 3 _ rfl
              rw [add_field _ _ 3 dq34] at hv236_3
              replace hv236_3 := Option.some.inj (hv236_3.symm.trans hx236_3)
              injection hv236_3 with hva_ hvn_ hvc_
              rw [hva_] at ge236_3
              rw [hvc_] at ul236_3
              have HL236_3 := Aside0.mk (show Kd.V k46 46 _ w.heap.size _ _ ((rd_T39 l0 x11_1).f3) from Kd.V_mk ul236_3 ge236_3)
              clear hva_ hvn_ hvc_ ge236_3 ul236_3
              clear hcc236 hce236
              have HR236_3 := Aside0.mk hi236_3
              have HC236_3 := Aside0.mk hl236_3
              clear hi236_3 hl236_3
              replace p236 := eq_true p236
              replace q236 := eq_true q236
              go_wp2_with (first | ((with_reducible refine gate_builtin (b := .append) (xs := #[.tmp 55, .tmp 57]) rfl ?_); at_builtin; refine Kd.R_append (Kd.int .i64) (w0 := w) w.heap.size rfl (.tmp 55) (.tmp 57) 24 2 (.int .i64 0) 8 rfl Tryd.underlying24 info2 rfl dq38 dq34 u10 x10_1 x11_1 [.int .i64 x11_1] (fun k_ => (w.heap.size ≤ k_)) (fun _ => False) rfl rfl ?aP (fun _ hk => hk.elim) ?aF ?aO ?aB ?aS ?aL ?_; (case aP => exact rfl); (case aB => exact dq23); (case aF => exact (fun k_ hk => (Nat.le_trans (below_size dq23) hk))); (case aO => exact dq63); (case aS => exact (below_size dq23)); (case aL => have := LMc18.out; omega); intro v238 w19 ho hb hg hat; rw [← Ny237.out] at ho; have n0_ := Aside0.mk (Kd.V_afterv (ok := (fun k_ => (P0_ k_ ∨ w.heap.size ≤ k_) ∧ some k_ ≠ (v230 : Value).ownBlock)) dq68 hg hat); have n1_ := Aside0.mk (Kd.R_over' dq64 (Kd.R_typed dq63) dq38 hg); have n2_ := Aside0.mk (Kd.V_afterv (ok := (fun k_ => (P0_ k_ ∨ w.heap.size ≤ k_) ∧ some k_ ≠ (v230 : Value).ownBlock)) dq67 hg hat); have n3_ := Aside0.mk (hb); have n4_ := Aside0.mk (ho); clear HO_0; clear HO_7; clear HL236_3; clear HB; clear HO_10; have HO_0 := n0_; have HO_7 := n1_; have HL236_3 := n2_; have HB := n3_; have HO239 := n4_; clear n0_ n1_ n2_ n3_ n4_; clear ho hb hg hat))
              repeat (go_quiet (first | ((with_reducible refine gate_builtin (b := .append) (xs := #[.tmp 55, .tmp 57]) rfl ?_); at_builtin; refine Kd.R_append (Kd.int .i64) (w0 := w) w.heap.size rfl (.tmp 55) (.tmp 57) 24 2 (.int .i64 0) 8 rfl Tryd.underlying24 info2 rfl dq38 dq34 u10 x10_1 x11_1 [.int .i64 x11_1] (fun k_ => (w.heap.size ≤ k_)) (fun _ => False) rfl rfl ?aP (fun _ hk => hk.elim) ?aF ?aO ?aB ?aS ?aL ?_; (case aP => exact rfl); (case aB => exact dq23); (case aF => exact (fun k_ hk => (Nat.le_trans (below_size dq23) hk))); (case aO => exact dq63); (case aS => exact (below_size dq23)); (case aL => have := LMc18.out; omega); intro v238 w19 ho hb hg hat; rw [← Ny237.out] at ho; have n0_ := Aside0.mk (Kd.V_afterv (ok := (fun k_ => (P0_ k_ ∨ w.heap.size ≤ k_) ∧ some k_ ≠ (v230 : Value).ownBlock)) dq68 hg hat); have n1_ := Aside0.mk (Kd.R_over' dq64 (Kd.R_typed dq63) dq38 hg); have n2_ := Aside0.mk (Kd.V_afterv (ok := (fun k_ => (P0_ k_ ∨ w.heap.size ≤ k_) ∧ some k_ ≠ (v230 : Value).ownBlock)) dq67 hg hat); have n3_ := Aside0.mk (hb); have n4_ := Aside0.mk (ho); clear HO_0; clear HO_7; clear HL236_3; clear HB; clear HO_10; have HO_0 := n0_; have HO_7 := n1_; have HL236_3 := n2_; have HB := n3_; have HO239 := n4_; clear n0_ n1_ n2_ n3_ n4_; clear ho hb hg hat)); try go_wp2_with (first | ((with_reducible refine gate_builtin (b := .append) (xs := #[.tmp 55, .tmp 57]) rfl ?_); at_builtin; refine Kd.R_append (Kd.int .i64) (w0 := w) w.heap.size rfl (.tmp 55) (.tmp 57) 24 2 (.int .i64 0) 8 rfl Tryd.underlying24 info2 rfl dq38 dq34 u10 x10_1 x11_1 [.int .i64 x11_1] (fun k_ => (w.heap.size ≤ k_)) (fun _ => False) rfl rfl ?aP (fun _ hk => hk.elim) ?aF ?aO ?aB ?aS ?aL ?_; (case aP => exact rfl); (case aB => exact dq23); (case aF => exact (fun k_ hk => (Nat.le_trans (below_size dq23) hk))); (case aO => exact dq63); (case aS => exact (below_size dq23)); (case aL => have := LMc18.out; omega); intro v238 w19 ho hb hg hat; rw [← Ny237.out] at ho; have n0_ := Aside0.mk (Kd.V_afterv (ok := (fun k_ => (P0_ k_ ∨ w.heap.size ≤ k_) ∧ some k_ ≠ (v230 : Value).ownBlock)) dq68 hg hat); have n1_ := Aside0.mk (Kd.R_over' dq64 (Kd.R_typed dq63) dq38 hg); have n2_ := Aside0.mk (Kd.V_afterv (ok := (fun k_ => (P0_ k_ ∨ w.heap.size ≤ k_) ∧ some k_ ≠ (v230 : Value).ownBlock)) dq67 hg hat); have n3_ := Aside0.mk (hb); have n4_ := Aside0.mk (ho); clear HO_0; clear HO_7; clear HL236_3; clear HB; clear HO_10; have HO_0 := n0_; have HO_7 := n1_; have HL236_3 := n2_; have HB := n3_; have HO239 := n4_; clear n0_ n1_ n2_ n3_ n4_; clear ho hb hg hat)))
              go_roundg k2
              case measure => have := HK1.out; have := HK2.out; omega
              case rel => exact ⟨(y237), (wrap64 (x11_1 + 1)), dq26, H', ⟨dq47⟩, ⟨by (with_reducible repeat (first | apply Kd.V_alloc | apply Kd.V_drewN | apply Kd.V_drew)); exact Kd.V_mono HO_0.out (fun _ hk => ⟨hk.1.1, ⟨hk.1.2, hk.2⟩⟩)⟩, ⟨dq64⟩, ⟨by (with_reducible repeat (first | apply Kd.R_alloc | apply Kd.R_drewN | apply Kd.R_drew)); exact HO239.out⟩, ⟨dq23⟩⟩
             ·rw [if_neg c18] at H
              exact absurd H dq31
           ·rw [if_neg c16] at H
            exact absurd H dq31
          ·rw [if_neg c15] at H
           exact absurd H dq31
         ·rw [if_neg c14] at H
          have c14b0 := beq_eq_false_iff_ne.mpr c14
          have c14b1 := bne_iff_ne.mpr c14
          have H' := Aside0.mk H
          clear H
          go_wp2
          repeat (go_quiet (fail); try go_wp2)
          go_roundg k2
          case measure => have := HK1.out; have := HK2.out; omega
          case rel => exact ⟨(x10_1), (wrap64 (x11_1 + 1)), dq26, H', ⟨dq47⟩, ⟨dq65⟩, ⟨dq64⟩, ⟨dq63⟩, ⟨dq23⟩⟩
     ·rw [if_neg c10] at H
      have c10b0 := decide_eq_false c10
      clear c10
      (first | rw [c10b0] | (simp only [i64_w, i32_w]; rw [c10b0]) | skip)
      have H' := Aside0.mk H
      clear H
      go_wp2
      repeat (go_quiet (fail); try go_wp2)
      go_meet
      case rel => exact ⟨_, (x10_1), H', ⟨dq40⟩, ⟨dq65⟩, ⟨dq64⟩, ⟨dq63⟩, ⟨dq23⟩⟩
  ·replace c9 := Bool.eq_false_iff.mpr c9
   subst c9
   have H1 : (spec_l11Select.j2 k l0 t227 y232) = some r := by rw [if_neg (show ¬ (false = true) by decide)] at H; exact H
   clear H
   have H := H1
   clear H1
   have H' := Aside0.mk H
   clear H
   go_wp2
   repeat (go_quiet (fail); try go_wp2)
   go_meet
   case rel => exact ⟨_, (y232), H', ⟨dq35⟩, ⟨dq62⟩, ⟨dq61⟩, ⟨dq60⟩, ⟨dq23⟩⟩
 case rest =>
  clear HC5
  try clear c1
  try clear c2
  try clear p2
  try clear q2
  try clear hx2
  try clear c4
  try clear p6
  try clear c9
  try clear c10
  try clear c10b0
  try clear c11
  try clear c11b0
  try clear c12
  try clear c12b0
  try clear c13
  try clear c13b0
  try clear c14
  try clear c14b0
  try clear c14b1
  try clear c15
  try clear c15b0
  try clear c16
  try clear c16b0
  try clear c17
  try clear c17b0
  try clear c17b1
  try clear c18
  try clear hx235_0
  try clear hx235_1
  try clear hx235_2
  try clear hx235_3
  try clear hx236_0
  try clear hx236_1
  try clear hx236_2
  try clear hx236_3
  try clear p2
  try clear p235
  try clear p236
  try clear p6
  try clear q235
  try clear q236
  obtain ⟨kq, x10_4, HA, HJ4, HO_0, HO_7, HO_10, HB⟩ := hcut
  cases kq with
  | zero => exact absurd HA.out (by simp [spec_l11Select.j2])
  | succ kj4 =>
   have H := HA.out
   clear HA
   simp only [spec_l11Select.j2] at H
   have H' := Aside0.mk H
   clear H
   go_wp2
   repeat (go_quiet (fail); try go_wp2)
   go_loopg [10, 13] kj4 (fun kq v10 v13 w' => ∃ (x10_2 : List Int) (x13_2 : Int), v13 = .int .i64 x13_2 ∧ Aside0 (spec_l11Select.l2 kq l0 t227 x10_2 x13_2 = some r) ∧ Aside0 (kq ≤ kj4) ∧ Aside0 (Kd.V k39 39 w' w.heap.size (fun k_ => (P0_ k_ ∨ w.heap.size ≤ k_) ∧ some k_ ≠ (v230 : Value).ownBlock ∧ some k_ ≠ (v10 : Value).ownBlock) (.slice A0 l0.length c0) l0) ∧ Aside0 (Kd.R Kd.string 9 w' w.heap.size (fun k_ => (w.heap.size ≤ k_)) v230 t227) ∧ Aside0 (Kd.R (Kd.int .i64) 2 w' w.heap.size (fun k_ => (w.heap.size ≤ k_)) v10 x10_2) ∧ Aside0 (Below w.heap.size w w'))
   case atStart => exact ⟨(x10_4), (0), dq26, H', ⟨Nat.le_refl _⟩, ⟨dq65⟩, ⟨dq64⟩, ⟨dq63⟩, ⟨dq23⟩⟩
   case round =>
    clear H'
    try clear c1
    try clear c2
    try clear p2
    try clear q2
    try clear hx2
    try clear c4
    try clear p6
    try clear c9
    try clear c10
    try clear c10b0
    try clear c11
    try clear c11b0
    try clear c12
    try clear c12b0
    try clear c13
    try clear c13b0
    try clear c14
    try clear c14b0
    try clear c14b1
    try clear c15
    try clear c15b0
    try clear c16
    try clear c16b0
    try clear c17
    try clear c17b0
    try clear c17b1
    try clear c18
    try clear hx235_0
    try clear hx235_1
    try clear hx235_2
    try clear hx235_3
    try clear hx236_0
    try clear hx236_1
    try clear hx236_2
    try clear hx236_3
    try clear p2
    try clear p235
    try clear p236
    try clear p6
    try clear q2
    try clear q235
    try clear q236
    obtain ⟨x10_2, x13_2, rfl, HA, HK2, HO_0, HO_7, HO_10, HB⟩ := hrel
    cases gk with
    | zero => exact absurd HA.out (by simp [spec_l11Select.l2])
    | succ k2 =>
     have H := HA.out
     clear HA
     simp only [spec_l11Select.l2] at H
     by_cases c20 : x13_2 < (t227.length : Int)
     ·rw [if_pos c20] at H
      have c20b0 := decide_eq_true c20
      clear c20
      obtain ⟨y243, hy243⟩ : ∃ y_ : List Int, y_ = (([] : List Int)) := ⟨_, rfl⟩
      replace H : (spec_l11Select.l3 k2 l0 t227 x10_2 x13_2 y243 0) = some r := by first | (rw [hy243]; with_reducible exact H) | (have H2_ := (Option.bind_some _ _).symm.trans H; rw [hy243]; with_reducible exact H2_) | (have H2_ := (Option.bind_some _ _).symm.trans H; with_reducible exact H2_) | with_reducible exact H | (rw [hy243]; exact H) | exact H
      have Ny243 := Aside0.mk hy243
      clear hy243
      have H' := Aside0.mk H
      clear H
      obtain ⟨Ao21, co21, eo21⟩ := Kd.R_slice HO_7.out
      subst eo21
      go_wp2_with (first | ((with_reducible refine gate_dst (N := 65) rfl ?_); refine Kd.R_lit (Kd.int .i64) _ 2 ?hg (N := 65) ?hd (xs := ([] : List Int)) (inner := []) (ok := fun _ => True) (okp := fun _ => True) ?hr ?hp (fun _ hk => hk) trivial (Below.refl _ _) (Nat.le_refl _) dq31 ?_; (case hd => rfl); (case hg => rfl); (case hr => exact dq0); (case hp => exact dq2); intro v244 w22 ho23 hb hg_ hnew_; clear hg_ hnew_; (first | rw [← Ny243.out] at ho23 | (simp only [Int.reduceToNat] at ho23; rw [← Ny243.out] at ho23)); have n0_ := Aside0.mk (Kd.V_elder' dq65 (Kd.R_base ho23) hb); have n1_ := Aside0.mk (Kd.R_below dq64 hb); have n2_ := Aside0.mk (Kd.R_elder' dq63 (Kd.R_base ho23) hb); have n3_ := Aside0.mk (Kd.R_lower (Kd.R_new' (Kd.R_newM (M := fun k_ => (w.heap.size ≤ k_)) ho23 (below_size dq23) (fun k_ h_ => h_)) (Kd.R_lt dq63)) (below_size dq23)); have n4_ := Aside0.mk (below_step dq23 hb); clear HO_0; clear HO_7; clear HO_10; clear HB; have HO_0 := n0_; have HO_7 := n1_; have HO_10 := n2_; have HO245 := n3_; have HB := n4_; clear n0_ n1_ n2_ n3_ n4_; clear hb ho23))
      repeat (go_quiet (first | ((with_reducible refine gate_dst (N := 65) rfl ?_); refine Kd.R_lit (Kd.int .i64) _ 2 ?hg (N := 65) ?hd (xs := ([] : List Int)) (inner := []) (ok := fun _ => True) (okp := fun _ => True) ?hr ?hp (fun _ hk => hk) trivial (Below.refl _ _) (Nat.le_refl _) dq31 ?_; (case hd => rfl); (case hg => rfl); (case hr => exact dq0); (case hp => exact dq2); intro v244 w22 ho23 hb hg_ hnew_; clear hg_ hnew_; (first | rw [← Ny243.out] at ho23 | (simp only [Int.reduceToNat] at ho23; rw [← Ny243.out] at ho23)); have n0_ := Aside0.mk (Kd.V_elder' dq65 (Kd.R_base ho23) hb); have n1_ := Aside0.mk (Kd.R_below dq64 hb); have n2_ := Aside0.mk (Kd.R_elder' dq63 (Kd.R_base ho23) hb); have n3_ := Aside0.mk (Kd.R_lower (Kd.R_new' (Kd.R_newM (M := fun k_ => (w.heap.size ≤ k_)) ho23 (below_size dq23) (fun k_ h_ => h_)) (Kd.R_lt dq63)) (below_size dq23)); have n4_ := Aside0.mk (below_step dq23 hb); clear HO_0; clear HO_7; clear HO_10; clear HB; have HO_0 := n0_; have HO_7 := n1_; have HO_10 := n2_; have HO245 := n3_; have HB := n4_; clear n0_ n1_ n2_ n3_ n4_; clear hb ho23)); try go_wp2_with (first | ((with_reducible refine gate_dst (N := 65) rfl ?_); refine Kd.R_lit (Kd.int .i64) _ 2 ?hg (N := 65) ?hd (xs := ([] : List Int)) (inner := []) (ok := fun _ => True) (okp := fun _ => True) ?hr ?hp (fun _ hk => hk) trivial (Below.refl _ _) (Nat.le_refl _) dq31 ?_; (case hd => rfl); (case hg => rfl); (case hr => exact dq0); (case hp => exact dq2); intro v244 w22 ho23 hb hg_ hnew_; clear hg_ hnew_; (first | rw [← Ny243.out] at ho23 | (simp only [Int.reduceToNat] at ho23; rw [← Ny243.out] at ho23)); have n0_ := Aside0.mk (Kd.V_elder' dq65 (Kd.R_base ho23) hb); have n1_ := Aside0.mk (Kd.R_below dq64 hb); have n2_ := Aside0.mk (Kd.R_elder' dq63 (Kd.R_base ho23) hb); have n3_ := Aside0.mk (Kd.R_lower (Kd.R_new' (Kd.R_newM (M := fun k_ => (w.heap.size ≤ k_)) ho23 (below_size dq23) (fun k_ h_ => h_)) (Kd.R_lt dq63)) (below_size dq23)); have n4_ := Aside0.mk (below_step dq23 hb); clear HO_0; clear HO_7; clear HO_10; clear HB; have HO_0 := n0_; have HO_7 := n1_; have HO_10 := n2_; have HO245 := n3_; have HB := n4_; clear n0_ n1_ n2_ n3_ n4_; clear hb ho23)))
      go_loopg [14, 15] k2 (fun kq v14 v15 w' => ∃ (x14_3 : List Int) (x15_3 : Int), v15 = .int .i64 x15_3 ∧ Aside0 (spec_l11Select.l3 kq l0 t227 x10_2 x13_2 x14_3 x15_3 = some r) ∧ Aside0 (kq ≤ k2) ∧ Aside0 (Kd.V k39 39 w' w.heap.size (fun k_ => (P0_ k_ ∨ w.heap.size ≤ k_) ∧ some k_ ≠ ((.slice Ao21 t227.length co21) : Value).ownBlock ∧ some k_ ≠ (u10 : Value).ownBlock ∧ some k_ ≠ (v14 : Value).ownBlock) (.slice A0 l0.length c0) l0) ∧ Aside0 (Kd.R Kd.string 9 w' w.heap.size (fun k_ => (w.heap.size ≤ k_)) (.slice Ao21 t227.length co21) t227) ∧ Aside0 (Kd.R (Kd.int .i64) 2 w' w.heap.size (fun k_ => (w.heap.size ≤ k_) ∧ some k_ ≠ (v14 : Value).ownBlock) u10 x10_2) ∧ Aside0 (Kd.R (Kd.int .i64) 2 w' w.heap.size (fun k_ => (w.heap.size ≤ k_) ∧ some k_ ≠ (u10 : Value).ownBlock) v14 x14_3) ∧ Aside0 (Below w.heap.size w w'))
      case atStart => exact ⟨(y243), (0), dq26, H', ⟨Nat.le_refl _⟩, ⟨by (with_reducible repeat (first | apply Kd.V_alloc | apply Kd.V_drewN | apply Kd.V_drew)); exact Kd.V_mono HO_0.out (fun _ hk => ⟨hk.1.1, ⟨hk.1.2.1, ⟨hk.1.2.2, hk.2⟩⟩⟩)⟩, ⟨dq64⟩, ⟨dq63⟩, ⟨by (with_reducible repeat (first | apply Kd.R_alloc | apply Kd.R_drewN | apply Kd.R_drew)); exact Kd.R_mono HO245.out (fun _ hk => ⟨hk.1.1, hk.2⟩)⟩, ⟨dq23⟩⟩
      case round =>
       clear H'
       try clear c1
       try clear c2
       try clear p2
       try clear q2
       try clear hx2
       try clear c4
       try clear p6
       try clear c9
       try clear c10
       try clear c10b0
       try clear c11
       try clear c11b0
       try clear c12
       try clear c12b0
       try clear c13
       try clear c13b0
       try clear c14
       try clear c14b0
       try clear c14b1
       try clear c15
       try clear c15b0
       try clear c16
       try clear c16b0
       try clear c17
       try clear c17b0
       try clear c17b1
       try clear c18
       try clear c20
       try clear c20b0
       try clear c23
       try clear p23
       try clear q23
       try clear hx23
       try clear hx235_0
       try clear hx235_1
       try clear hx235_2
       try clear hx235_3
       try clear hx236_0
       try clear hx236_1
       try clear hx236_2
       try clear hx236_3
       try clear p2
       try clear p235
       try clear p236
       try clear p6
       try clear q2
       try clear q235
       try clear q236
       obtain ⟨x14_3, x15_3, rfl, HA, HK3, HO_0, HO_7, HO_10, HO_14, HB⟩ := hrel
       cases gk with
       | zero => exact absurd HA.out (by simp [spec_l11Select.l3])
       | succ k3 =>
        have H := HA.out
        clear HA
        simp only [spec_l11Select.l3] at H
        by_cases c24 : x15_3 < (x10_2.length : Int)
        ·rw [if_pos c24] at H
         have c24b0 := decide_eq_true c24
         clear c24
         by_cases c25 : 0 ≤ x15_3
         ·rw [if_pos c25] at H
          have c25b0 := decide_eq_true c25
          clear c25
          replace H := Option.bind_eq_some_iff.mp H
          obtain ⟨t247, A260, H⟩ := H
          replace H : (spec_l11Select.l4 k3 l0 t227 x10_2 x13_2 x14_3 x15_3 t247 0) = some r := H
          have A26 := Aside0.mk A260
          clear A260
          have H' := Aside0.mk H
          clear H
          obtain ⟨Ao27, co27, eo27⟩ := Kd.R_slice HO_10.out
          subst eo27
          have p246 : 0 ≤ (x15_3 : Int) := of_decide_eq_true dq27
          have q246 : x15_3 < (x10_2.length : Int) := of_decide_eq_true dq27
          obtain ⟨ad246, e246, hx246_0⟩ := Kd.at_int (Kd.R_reads' HO_10.out).2.2 x15_3 p246 q246
          cases e246
          replace p246 := eq_true p246
          replace q246 := eq_true q246
          go_wp2_with (first | (go_at_call 70; (with_reducible refine (spec_l2Kids.calls k3 _ _ l0 (rd x10_2 x15_3) t247 _ ?side1 ?side2 A26.out).mono ?_); (case side1 => exact dq5); (case side2 => exact (Kd.V_reads' HO_0.out).2.1); rintro e w28 ⟨v248, rfl, ho0, hb⟩; have n0_ := Aside0.mk (Kd.V_elder' dq65 (Kd.R_base ho0) hb); have n1_ := Aside0.mk (Kd.R_below dq64 hb); have n2_ := Aside0.mk (Kd.R_elder' dq63 (Kd.R_base ho0) hb); have n3_ := Aside0.mk (Kd.R_elder' dq69 (Kd.R_base ho0) hb); have n4_ := Aside0.mk (Kd.R_lower (Kd.R_new' (Kd.R_new' (Kd.R_newM (M := fun k_ => (w.heap.size ≤ k_)) ho0 (below_size dq23) (fun k_ h_ => h_)) (Kd.R_lt dq63)) (Kd.R_lt dq69)) (below_size dq23)); have n5_ := Aside0.mk (below_step dq23 hb); clear HO_0; clear HO_7; clear HO_10; clear HO_14; clear HB; have HO_0 := n0_; have HO_7 := n1_; have HO_10 := n2_; have HO_14 := n3_; have HO249 := n4_; have HB := n5_; clear n0_ n1_ n2_ n3_ n4_ n5_; (try clear hb); (try clear hb2); (try clear hk); (try clear hi); (try clear ho0)))
          repeat (go_quiet (first | (go_at_call 70; (with_reducible refine (spec_l2Kids.calls k3 _ _ l0 (rd x10_2 x15_3) t247 _ ?side1 ?side2 A26.out).mono ?_); (case side1 => exact dq5); (case side2 => exact (Kd.V_reads' HO_0.out).2.1); rintro e w28 ⟨v248, rfl, ho0, hb⟩; have n0_ := Aside0.mk (Kd.V_elder' dq65 (Kd.R_base ho0) hb); have n1_ := Aside0.mk (Kd.R_below dq64 hb); have n2_ := Aside0.mk (Kd.R_elder' dq63 (Kd.R_base ho0) hb); have n3_ := Aside0.mk (Kd.R_elder' dq69 (Kd.R_base ho0) hb); have n4_ := Aside0.mk (Kd.R_lower (Kd.R_new' (Kd.R_new' (Kd.R_newM (M := fun k_ => (w.heap.size ≤ k_)) ho0 (below_size dq23) (fun k_ h_ => h_)) (Kd.R_lt dq63)) (Kd.R_lt dq69)) (below_size dq23)); have n5_ := Aside0.mk (below_step dq23 hb); clear HO_0; clear HO_7; clear HO_10; clear HO_14; clear HB; have HO_0 := n0_; have HO_7 := n1_; have HO_10 := n2_; have HO_14 := n3_; have HO249 := n4_; have HB := n5_; clear n0_ n1_ n2_ n3_ n4_ n5_; (try clear hb); (try clear hb2); (try clear hk); (try clear hi); (try clear ho0))); try go_wp2_with (first | (go_at_call 70; (with_reducible refine (spec_l2Kids.calls k3 _ _ l0 (rd x10_2 x15_3) t247 _ ?side1 ?side2 A26.out).mono ?_); (case side1 => exact dq5); (case side2 => exact (Kd.V_reads' HO_0.out).2.1); rintro e w28 ⟨v248, rfl, ho0, hb⟩; have n0_ := Aside0.mk (Kd.V_elder' dq65 (Kd.R_base ho0) hb); have n1_ := Aside0.mk (Kd.R_below dq64 hb); have n2_ := Aside0.mk (Kd.R_elder' dq63 (Kd.R_base ho0) hb); have n3_ := Aside0.mk (Kd.R_elder' dq69 (Kd.R_base ho0) hb); have n4_ := Aside0.mk (Kd.R_lower (Kd.R_new' (Kd.R_new' (Kd.R_newM (M := fun k_ => (w.heap.size ≤ k_)) ho0 (below_size dq23) (fun k_ h_ => h_)) (Kd.R_lt dq63)) (Kd.R_lt dq69)) (below_size dq23)); have n5_ := Aside0.mk (below_step dq23 hb); clear HO_0; clear HO_7; clear HO_10; clear HO_14; clear HB; have HO_0 := n0_; have HO_7 := n1_; have HO_10 := n2_; have HO_14 := n3_; have HO249 := n4_; have HB := n5_; clear n0_ n1_ n2_ n3_ n4_ n5_; (try clear hb); (try clear hb2); (try clear hk); (try clear hi); (try clear ho0))))
          go_loopg [14, 17] k3 (fun kq v14 v17 w' => ∃ (x14_4 : List Int) (x17_4 : Int), v17 = .int .i64 x17_4 ∧ Aside0 (spec_l11Select.l4 kq l0 t227 x10_2 x13_2 x14_4 x15_3 t247 x17_4 = some r) ∧ Aside0 (kq ≤ k3) ∧ Aside0 (Kd.V k39 39 w' w.heap.size (fun k_ => (P0_ k_ ∨ w.heap.size ≤ k_) ∧ some k_ ≠ ((.slice Ao21 t227.length co21) : Value).ownBlock ∧ some k_ ≠ ((.slice (some ad246) x10_2.length co27) : Value).ownBlock ∧ some k_ ≠ (v14 : Value).ownBlock ∧ some k_ ≠ (v248 : Value).ownBlock) (.slice A0 l0.length c0) l0) ∧ Aside0 (Kd.R Kd.string 9 w' w.heap.size (fun k_ => (w.heap.size ≤ k_)) (.slice Ao21 t227.length co21) t227) ∧ Aside0 (Kd.R (Kd.int .i64) 2 w' w.heap.size (fun k_ => (w.heap.size ≤ k_) ∧ some k_ ≠ (v14 : Value).ownBlock ∧ some k_ ≠ (v248 : Value).ownBlock) (.slice (some ad246) x10_2.length co27) x10_2) ∧ Aside0 (Kd.R (Kd.int .i64) 2 w' w.heap.size (fun k_ => (w.heap.size ≤ k_) ∧ some k_ ≠ ((.slice (some ad246) x10_2.length co27) : Value).ownBlock ∧ some k_ ≠ (v248 : Value).ownBlock) v14 x14_4) ∧ Aside0 (Kd.R (Kd.int .i64) 2 w' w.heap.size (fun k_ => (w.heap.size ≤ k_) ∧ some k_ ≠ ((.slice (some ad246) x10_2.length co27) : Value).ownBlock ∧ some k_ ≠ (v14 : Value).ownBlock) v248 t247) ∧ Aside0 (Below w.heap.size w w'))
          case atStart => exact ⟨(x14_3), (0), dq26, H', ⟨Nat.le_refl _⟩, ⟨by (with_reducible repeat (first | apply Kd.V_alloc | apply Kd.V_drewN | apply Kd.V_drew)); exact Kd.V_mono HO_0.out (fun _ hk => ⟨hk.1.1, ⟨hk.1.2.1, ⟨hk.1.2.2.1, ⟨hk.1.2.2.2, hk.2⟩⟩⟩⟩)⟩, ⟨dq64⟩, ⟨by (with_reducible repeat (first | apply Kd.R_alloc | apply Kd.R_drewN | apply Kd.R_drew)); exact Kd.R_mono HO_10.out (fun _ hk => ⟨hk.1.1, ⟨hk.1.2, hk.2⟩⟩)⟩, ⟨by (with_reducible repeat (first | apply Kd.R_alloc | apply Kd.R_drewN | apply Kd.R_drew)); exact Kd.R_mono HO_14.out (fun _ hk => ⟨hk.1.1, ⟨hk.1.2, hk.2⟩⟩)⟩, ⟨by (with_reducible repeat (first | apply Kd.R_alloc | apply Kd.R_drewN | apply Kd.R_drew)); exact Kd.R_mono HO249.out (fun _ hk => ⟨hk.1.1.1, ⟨hk.1.2, hk.2⟩⟩)⟩, ⟨dq23⟩⟩
          case round =>
           clear H'
           try clear c1
           try clear c2
           try clear p2
           try clear q2
           try clear hx2
           try clear c4
           try clear p6
           try clear c9
           try clear c10
           try clear c10b0
           try clear c11
           try clear c11b0
           try clear c12
           try clear c12b0
           try clear c13
           try clear c13b0
           try clear c14
           try clear c14b0
           try clear c14b1
           try clear c15
           try clear c15b0
           try clear c16
           try clear c16b0
           try clear c17
           try clear c17b0
           try clear c17b1
           try clear c18
           try clear c20
           try clear c20b0
           try clear c23
           try clear p23
           try clear q23
           try clear hx23
           try clear c24
           try clear c24b0
           try clear p24
           try clear q24
           try clear hx24
           try clear c25
           try clear c25b0
           try clear hx235_0
           try clear hx235_1
           try clear hx235_2
           try clear hx235_3
           try clear hx236_0
           try clear hx236_1
           try clear hx236_2
           try clear hx236_3
           try clear hx246_0
           try clear p2
           try clear p23
           try clear p235
           try clear p236
           try clear p246
           try clear p6
           try clear q2
           try clear q23
           try clear q235
           try clear q236
           try clear q246
           obtain ⟨x14_4, x17_4, rfl, HA, HK4, HO_0, HO_7, HO_10, HO_14, HO_16, HB⟩ := hrel
           cases gk with
           | zero => exact absurd HA.out (by simp [spec_l11Select.l4])
           | succ k4 =>
            have H := HA.out
            clear HA
            simp only [spec_l11Select.l4] at H
            by_cases c29 : x17_4 < (t247.length : Int)
            ·rw [if_pos c29] at H
             have c29b0 := decide_eq_true c29
             clear c29
             by_cases c30 : 0 ≤ x17_4
             ·rw [if_pos c30] at H
              have c30b0 := decide_eq_true c30
              clear c30
              by_cases c31 : 0 ≤ (rd t247 x17_4)
              ·rw [if_pos c31] at H
               have c31b0 := decide_eq_true c31
               clear c31
               by_cases c32 : (rd t247 x17_4) < (l0.length : Int)
               ·rw [if_pos c32] at H
                have c32b0 := decide_eq_true c32
                clear c32
                by_cases c33 : 0 ≤ x13_2
                ·rw [if_pos c33] at H
                 have c33b0 := decide_eq_true c33
                 clear c33
                 by_cases c34 : x13_2 < (t227.length : Int)
                 ·rw [if_pos c34] at H
                  have c34b0 := decide_eq_true c34
                  clear c34
                  by_cases c35 : ((rd_T39 l0 (rd t247 x17_4)).f1).toList = (rdOf ByteArray.empty t227 x13_2).toList
                  ·rw [if_pos c35] at H
                   have c35b0 := beq_iff_eq.mpr c35
                   have c35b1 := bne_eq_false_iff_eq.mpr c35
                   clear c35
                   by_cases c36 : x14_4.length < 17592186044416
                   ·rw [if_pos c36] at H
                    have LMc36 := Aside0.mk c36
                    clear c36
                    obtain ⟨y254, hy254⟩ : ∃ y_ : List Int, y_ = (x14_4 ++ [rd t247 x17_4]) := ⟨_, rfl⟩
                    replace H : (spec_l11Select.l4 k4 l0 t227 x10_2 x13_2 y254 x15_3 t247 (wrap64 (x17_4 + 1))) = some r := by first | (rw [hy254]; with_reducible exact H) | (have H2_ := (Option.bind_some _ _).symm.trans H; rw [hy254]; with_reducible exact H2_) | (have H2_ := (Option.bind_some _ _).symm.trans H; with_reducible exact H2_) | with_reducible exact H | (rw [hy254]; exact H) | exact H
                    have Ny254 := Aside0.mk hy254
                    clear hy254
                    have H' := Aside0.mk H
                    clear H
                    obtain ⟨Ao37, co37, eo37⟩ := Kd.R_slice HO_16.out
                    subst eo37
                    have p250 : 0 ≤ (x17_4 : Int) := of_decide_eq_true dq27
                    have q250 : x17_4 < (t247.length : Int) := of_decide_eq_true dq27
                    obtain ⟨ad250, e250, hx250_0⟩ := Kd.at_int (Kd.R_reads' HO_16.out).2.2 x17_4 p250 q250
                    cases e250
                    replace p250 := eq_true p250
                    replace q250 := eq_true q250
                    have p251 : 0 ≤ ((rd t247 x17_4) : Int) := of_decide_eq_true dq27
                    have q251 : (rd t247 x17_4) < (l0.length : Int) := of_decide_eq_true dq27
                    obtain ⟨ad251, A251_3, c251_3, e251, hx251_0, hx251_1, hx251_2, hx251_3, hl251_3, hi251_3⟩ := at_T39 (Kd.V_reads' HO_0.out).2.2 (rd t247 x17_4) p251 q251
                    cases e251
                    obtain ⟨ce251, hce251, hMe251, hcc251⟩ := Kd.V_get HO_0.out z39 (rd t247 x17_4) p251 dq70
                    obtain ⟨ua251_3, uc251_3, rfl, ul251_3, ge251_3⟩ := k39_openF hMe251
                    have hv251_3 := hcc251 3 _ rfl
                    rw [add_field _ _ 3 dq34] at hv251_3
                    replace hv251_3 := Option.some.inj (hv251_3.symm.trans hx251_3)
                    injection hv251_3 with hva_ hvn_ hvc_
                    rw [hva_] at ge251_3
                    rw [hvc_] at ul251_3
                    have HL251_3 := Aside0.mk (show Kd.V k46 46 _ w.heap.size _ _ ((rd_T39 l0 (rd t247 x17_4)).f3) from Kd.V_mk ul251_3 ge251_3)
                    clear hva_ hvn_ hvc_ ge251_3 ul251_3
                    clear hcc251 hce251
                    have HR251_3 := Aside0.mk hi251_3
                    have HC251_3 := Aside0.mk hl251_3
                    clear hi251_3 hl251_3
                    replace p251 := eq_true p251
                    replace q251 := eq_true q251
                    have p252 : 0 ≤ (x13_2 : Int) := of_decide_eq_true dq27
                    have q252 : x13_2 < (t227.length : Int) := of_decide_eq_true dq27
                    obtain ⟨ad252, e252, hx252_0⟩ := Kd.at_string (Kd.R_reads' HO_7.out).2.2 x13_2 p252 q252
                    cases e252
                    replace p252 := eq_true p252
                    replace q252 := eq_true q252
                    have p253 : 0 ≤ (x17_4 : Int) := of_decide_eq_true dq27
                    have q253 : x17_4 < (t247.length : Int) := of_decide_eq_true dq27
                    obtain ⟨ad253, e253, hx253_0⟩ := Kd.at_int (Kd.R_reads' HO_16.out).2.2 x17_4 p253 q253
                    obtain rfl : ad250 = ad253 := (by injection e253)
                    replace p253 := eq_true p253
                    replace q253 := eq_true q253
                    go_wp2_with (first | ((with_reducible refine gate_builtin (b := .append) (xs := #[.tmp 97, .tmp 102]) rfl ?_); at_builtin; refine Kd.R_append (Kd.int .i64) (w0 := w) w.heap.size rfl (.tmp 97) (.tmp 102) 24 2 (.int .i64 0) 8 rfl Tryd.underlying24 info2 rfl dq38 dq34 u14 x14_4 (rd t247 x17_4) [.int .i64 (rd t247 x17_4)] (fun k_ => (w.heap.size ≤ k_) ∧ some k_ ≠ (.slice (some ad246) x10_2.length co27 : Value).ownBlock ∧ some k_ ≠ (.slice (some ad250) t247.length co37 : Value).ownBlock) (fun _ => False) rfl rfl ?aP (fun _ hk => hk.elim) ?aF ?aO ?aB ?aS ?aL ?_; (case aP => exact rfl); (case aB => exact dq23); (case aF => exact (fun k_ hk => ⟨(Nat.le_trans (below_size dq23) hk), Kd.fresh' (Kd.R_lt dq63) k_ hk, Kd.fresh' (Kd.R_lt dq75) k_ hk⟩)); (case aO => exact dq69); (case aS => exact (below_size dq23)); (case aL => have := LMc36.out; omega); intro v255 w38 ho hb hg hat; rw [← Ny254.out] at ho; have n0_ := Aside0.mk (Kd.V_afterv (ok := (fun k_ => (P0_ k_ ∨ w.heap.size ≤ k_) ∧ some k_ ≠ (.slice (some ad252) t227.length co21 : Value).ownBlock ∧ some k_ ≠ (.slice (some ad246) x10_2.length co27 : Value).ownBlock ∧ some k_ ≠ (.slice (some ad250) t247.length co37 : Value).ownBlock)) dq74 hg hat); have n1_ := Aside0.mk (Kd.R_over' dq64 (Kd.R_typed dq69) dq38 hg); have n2_ := Aside0.mk (Kd.R_after (ok := (fun k_ => (w.heap.size ≤ k_) ∧ some k_ ≠ (.slice (some ad250) t247.length co37 : Value).ownBlock)) dq73 hg hat); have n3_ := Aside0.mk (Kd.R_after (ok := (fun k_ => (w.heap.size ≤ k_) ∧ some k_ ≠ (.slice (some ad246) x10_2.length co27 : Value).ownBlock)) dq72 hg hat); have n4_ := Aside0.mk (Kd.V_afterv (ok := (fun k_ => (P0_ k_ ∨ w.heap.size ≤ k_) ∧ some k_ ≠ (.slice (some ad252) t227.length co21 : Value).ownBlock ∧ some k_ ≠ (.slice (some ad246) x10_2.length co27 : Value).ownBlock ∧ some k_ ≠ (.slice (some ad250) t247.length co37 : Value).ownBlock)) dq71 hg hat); have n5_ := Aside0.mk (hb); have n6_ := Aside0.mk (ho); clear HO_0; clear HO_7; clear HO_10; clear HO_16; clear HL251_3; clear HB; clear HO_14; have HO_0 := n0_; have HO_7 := n1_; have HO_10 := n2_; have HO_16 := n3_; have HL251_3 := n4_; have HB := n5_; have HO256 := n6_; clear n0_ n1_ n2_ n3_ n4_ n5_ n6_; clear ho hb hg hat))
                    repeat (go_quiet (first | ((with_reducible refine gate_builtin (b := .append) (xs := #[.tmp 97, .tmp 102]) rfl ?_); at_builtin; refine Kd.R_append (Kd.int .i64) (w0 := w) w.heap.size rfl (.tmp 97) (.tmp 102) 24 2 (.int .i64 0) 8 rfl Tryd.underlying24 info2 rfl dq38 dq34 u14 x14_4 (rd t247 x17_4) [.int .i64 (rd t247 x17_4)] (fun k_ => (w.heap.size ≤ k_) ∧ some k_ ≠ (.slice (some ad246) x10_2.length co27 : Value).ownBlock ∧ some k_ ≠ (.slice (some ad250) t247.length co37 : Value).ownBlock) (fun _ => False) rfl rfl ?aP (fun _ hk => hk.elim) ?aF ?aO ?aB ?aS ?aL ?_; (case aP => exact rfl); (case aB => exact dq23); (case aF => exact (fun k_ hk => ⟨(Nat.le_trans (below_size dq23) hk), Kd.fresh' (Kd.R_lt dq63) k_ hk, Kd.fresh' (Kd.R_lt dq75) k_ hk⟩)); (case aO => exact dq69); (case aS => exact (below_size dq23)); (case aL => have := LMc36.out; omega); intro v255 w38 ho hb hg hat; rw [← Ny254.out] at ho; have n0_ := Aside0.mk (Kd.V_afterv (ok := (fun k_ => (P0_ k_ ∨ w.heap.size ≤ k_) ∧ some k_ ≠ (.slice (some ad252) t227.length co21 : Value).ownBlock ∧ some k_ ≠ (.slice (some ad246) x10_2.length co27 : Value).ownBlock ∧ some k_ ≠ (.slice (some ad250) t247.length co37 : Value).ownBlock)) dq74 hg hat); have n1_ := Aside0.mk (Kd.R_over' dq64 (Kd.R_typed dq69) dq38 hg); have n2_ := Aside0.mk (Kd.R_after (ok := (fun k_ => (w.heap.size ≤ k_) ∧ some k_ ≠ (.slice (some ad250) t247.length co37 : Value).ownBlock)) dq73 hg hat); have n3_ := Aside0.mk (Kd.R_after (ok := (fun k_ => (w.heap.size ≤ k_) ∧ some k_ ≠ (.slice (some ad246) x10_2.length co27 : Value).ownBlock)) dq72 hg hat); have n4_ := Aside0.mk (Kd.V_afterv (ok := (fun k_ => (P0_ k_ ∨ w.heap.size ≤ k_) ∧ some k_ ≠ (.slice (some ad252) t227.length co21 : Value).ownBlock ∧ some k_ ≠ (.slice (some ad246) x10_2.length co27 : Value).ownBlock ∧ some k_ ≠ (.slice (some ad250) t247.length co37 : Value).ownBlock)) dq71 hg hat); have n5_ := Aside0.mk (hb); have n6_ := Aside0.mk (ho); clear HO_0; clear HO_7; clear HO_10; clear HO_16; clear HL251_3; clear HB; clear HO_14; have HO_0 := n0_; have HO_7 := n1_; have HO_10 := n2_; have HO_16 := n3_; have HL251_3 := n4_; have HB := n5_; have HO256 := n6_; clear n0_ n1_ n2_ n3_ n4_ n5_ n6_; clear ho hb hg hat)); try go_wp2_with (first | ((with_reducible refine gate_builtin (b := .append) (xs := #[.tmp 97, .tmp 102]) rfl ?_); at_builtin; refine Kd.R_append (Kd.int .i64) (w0 := w) w.heap.size rfl (.tmp 97) (.tmp 102) 24 2 (.int .i64 0) 8 rfl Tryd.underlying24 info2 rfl dq38 dq34 u14 x14_4 (rd t247 x17_4) [.int .i64 (rd t247 x17_4)] (fun k_ => (w.heap.size ≤ k_) ∧ some k_ ≠ (.slice (some ad246) x10_2.length co27 : Value).ownBlock ∧ some k_ ≠ (.slice (some ad250) t247.length co37 : Value).ownBlock) (fun _ => False) rfl rfl ?aP (fun _ hk => hk.elim) ?aF ?aO ?aB ?aS ?aL ?_; (case aP => exact rfl); (case aB => exact dq23); (case aF => exact (fun k_ hk => ⟨(Nat.le_trans (below_size dq23) hk), Kd.fresh' (Kd.R_lt dq63) k_ hk, Kd.fresh' (Kd.R_lt dq75) k_ hk⟩)); (case aO => exact dq69); (case aS => exact (below_size dq23)); (case aL => have := LMc36.out; omega); intro v255 w38 ho hb hg hat; rw [← Ny254.out] at ho; have n0_ := Aside0.mk (Kd.V_afterv (ok := (fun k_ => (P0_ k_ ∨ w.heap.size ≤ k_) ∧ some k_ ≠ (.slice (some ad252) t227.length co21 : Value).ownBlock ∧ some k_ ≠ (.slice (some ad246) x10_2.length co27 : Value).ownBlock ∧ some k_ ≠ (.slice (some ad250) t247.length co37 : Value).ownBlock)) dq74 hg hat); have n1_ := Aside0.mk (Kd.R_over' dq64 (Kd.R_typed dq69) dq38 hg); have n2_ := Aside0.mk (Kd.R_after (ok := (fun k_ => (w.heap.size ≤ k_) ∧ some k_ ≠ (.slice (some ad250) t247.length co37 : Value).ownBlock)) dq73 hg hat); have n3_ := Aside0.mk (Kd.R_after (ok := (fun k_ => (w.heap.size ≤ k_) ∧ some k_ ≠ (.slice (some ad246) x10_2.length co27 : Value).ownBlock)) dq72 hg hat); have n4_ := Aside0.mk (Kd.V_afterv (ok := (fun k_ => (P0_ k_ ∨ w.heap.size ≤ k_) ∧ some k_ ≠ (.slice (some ad252) t227.length co21 : Value).ownBlock ∧ some k_ ≠ (.slice (some ad246) x10_2.length co27 : Value).ownBlock ∧ some k_ ≠ (.slice (some ad250) t247.length co37 : Value).ownBlock)) dq71 hg hat); have n5_ := Aside0.mk (hb); have n6_ := Aside0.mk (ho); clear HO_0; clear HO_7; clear HO_10; clear HO_16; clear HL251_3; clear HB; clear HO_14; have HO_0 := n0_; have HO_7 := n1_; have HO_10 := n2_; have HO_16 := n3_; have HL251_3 := n4_; have HB := n5_; have HO256 := n6_; clear n0_ n1_ n2_ n3_ n4_ n5_ n6_; clear ho hb hg hat)))
                    go_roundg k4
                    case measure => have := HJ4.out; have := HK2.out; have := HK3.out; have := HK4.out; omega
                    case rel => exact ⟨(y254), (wrap64 (x17_4 + 1)), dq26, H', ⟨dq76⟩, ⟨by (with_reducible repeat (first | apply Kd.V_alloc | apply Kd.V_drewN | apply Kd.V_drew)); exact Kd.V_mono HO_0.out (fun _ hk => ⟨hk.1.1, ⟨hk.1.2.1, ⟨hk.1.2.2.1, ⟨hk.2, hk.1.2.2.2⟩⟩⟩⟩)⟩, ⟨dq64⟩, ⟨by (with_reducible repeat (first | apply Kd.R_alloc | apply Kd.R_drewN | apply Kd.R_drew)); exact Kd.R_mono HO_10.out (fun _ hk => ⟨hk.1.1, ⟨hk.2, hk.1.2⟩⟩)⟩, ⟨by (with_reducible repeat (first | apply Kd.R_alloc | apply Kd.R_drewN | apply Kd.R_drew)); exact HO256.out⟩, ⟨by (with_reducible repeat (first | apply Kd.R_alloc | apply Kd.R_drewN | apply Kd.R_drew)); exact Kd.R_mono HO_16.out (fun _ hk => ⟨hk.1.1, ⟨hk.1.2, hk.2⟩⟩)⟩, ⟨dq23⟩⟩
                   ·rw [if_neg c36] at H
                    exact absurd H dq31
                  ·rw [if_neg c35] at H
                   have c35b0 := beq_eq_false_iff_ne.mpr c35
                   have c35b1 := bne_iff_ne.mpr c35
                   have H' := Aside0.mk H
                   clear H
                   obtain ⟨Ao39, co39, eo39⟩ := Kd.R_slice HO_16.out
                   subst eo39
                   have p250 : 0 ≤ (x17_4 : Int) := of_decide_eq_true dq27
                   have q250 : x17_4 < (t247.length : Int) := of_decide_eq_true dq27
                   obtain ⟨ad250, e250, hx250_0⟩ := Kd.at_int (Kd.R_reads' HO_16.out).2.2 x17_4 p250 q250
                   cases e250
                   replace p250 := eq_true p250
                   replace q250 := eq_true q250
                   have p251 : 0 ≤ ((rd t247 x17_4) : Int) := of_decide_eq_true dq27
                   have q251 : (rd t247 x17_4) < (l0.length : Int) := of_decide_eq_true dq27
                   obtain ⟨ad251, A251_3, c251_3, e251, hx251_0, hx251_1, hx251_2, hx251_3, hl251_3, hi251_3⟩ := at_T39 (Kd.V_reads' HO_0.out).2.2 (rd t247 x17_4) p251 q251
                   cases e251
                   obtain ⟨ce251, hce251, hMe251, hcc251⟩ := Kd.V_get HO_0.out z39 (rd t247 x17_4) p251 dq70
                   obtain ⟨ua251_3, uc251_3, rfl, ul251_3, ge251_3⟩ := k39_openF hMe251
                   have hv251_3 := hcc251 3 _ rfl
                   rw [add_field _ _ 3 dq34] at hv251_3
                   replace hv251_3 := Option.some.inj (hv251_3.symm.trans hx251_3)
                   injection hv251_3 with hva_ hvn_ hvc_
                   rw [hva_] at ge251_3
                   rw [hvc_] at ul251_3
                   have HL251_3 := Aside0.mk (show Kd.V k46 46 _ w.heap.size _ _ ((rd_T39 l0 (rd t247 x17_4)).f3) from Kd.V_mk ul251_3 ge251_3)
                   clear hva_ hvn_ hvc_ ge251_3 ul251_3
                   clear hcc251 hce251
                   have HR251_3 := Aside0.mk hi251_3
                   have HC251_3 := Aside0.mk hl251_3
                   clear hi251_3 hl251_3
                   replace p251 := eq_true p251
                   replace q251 := eq_true q251
                   have p252 : 0 ≤ (x13_2 : Int) := of_decide_eq_true dq27
                   have q252 : x13_2 < (t227.length : Int) := of_decide_eq_true dq27
                   obtain ⟨ad252, e252, hx252_0⟩ := Kd.at_string (Kd.R_reads' HO_7.out).2.2 x13_2 p252 q252
                   cases e252
                   replace p252 := eq_true p252
                   replace q252 := eq_true q252
                   go_wp2
                   repeat (go_quiet (fail); try go_wp2)
                   go_roundg k4
                   case measure => have := HJ4.out; have := HK2.out; have := HK3.out; have := HK4.out; omega
                   case rel => exact ⟨(x14_4), (wrap64 (x17_4 + 1)), dq26, H', ⟨dq76⟩, ⟨dq65⟩, ⟨dq64⟩, ⟨dq63⟩, ⟨dq69⟩, ⟨dq75⟩, ⟨dq23⟩⟩
                 ·rw [if_neg c34] at H
                  exact absurd H dq31
                ·rw [if_neg c33] at H
                 exact absurd H dq31
               ·rw [if_neg c32] at H
                exact absurd H dq31
              ·rw [if_neg c31] at H
               exact absurd H dq31
             ·rw [if_neg c30] at H
              exact absurd H dq31
            ·rw [if_neg c29] at H
             have c29b0 := decide_eq_false c29
             clear c29
             have H' := Aside0.mk H
             clear H
             obtain ⟨Ao40, co40, eo40⟩ := Kd.R_slice HO_16.out
             subst eo40
             go_wp2
             repeat (go_quiet (fail); try go_wp2)
             go_roundg k4
             case measure => have := HJ4.out; have := HK2.out; have := HK3.out; have := HK4.out; omega
             case rel => exact ⟨(x14_4), (wrap64 (x15_3 + 1)), dq26, H', ⟨dq76⟩, ⟨by (with_reducible repeat (first | apply Kd.V_alloc | apply Kd.V_drewN | apply Kd.V_drew)); exact Kd.V_mono HO_0.out (fun _ hk => ⟨hk.1, ⟨hk.2.1, ⟨hk.2.2.1, hk.2.2.2.1⟩⟩⟩)⟩, ⟨dq64⟩, ⟨by (with_reducible repeat (first | apply Kd.R_alloc | apply Kd.R_drewN | apply Kd.R_drew)); exact Kd.R_mono HO_10.out (fun _ hk => ⟨hk.1, hk.2.1⟩)⟩, ⟨by (with_reducible repeat (first | apply Kd.R_alloc | apply Kd.R_drewN | apply Kd.R_drew)); exact Kd.R_mono HO_14.out (fun _ hk => ⟨hk.1, hk.2.1⟩)⟩, ⟨dq23⟩⟩
         ·rw [if_neg c25] at H
          exact absurd H dq31
        ·rw [if_neg c24] at H
         have c24b0 := decide_eq_false c24
         clear c24
         have H' := Aside0.mk H
         clear H
         obtain ⟨Ao41, co41, eo41⟩ := Kd.R_slice HO_10.out
         subst eo41
         go_wp2
         repeat (go_quiet (fail); try go_wp2)
         go_roundg k3
         case measure => have := HJ4.out; have := HK2.out; have := HK3.out; omega
         case rel => exact ⟨(x14_3), (wrap64 (x13_2 + 1)), dq26, H', ⟨by have := HJ4.out; have := HK2.out; have := HK3.out; omega⟩, ⟨by (with_reducible repeat (first | apply Kd.V_alloc | apply Kd.V_drewN | apply Kd.V_drew)); exact Kd.V_mono HO_0.out (fun _ hk => ⟨hk.1, ⟨hk.2.1, hk.2.2.2⟩⟩)⟩, ⟨dq64⟩, ⟨by (with_reducible repeat (first | apply Kd.R_alloc | apply Kd.R_drewN | apply Kd.R_drew)); exact Kd.R_mono HO_14.out (fun _ hk => hk.1)⟩, ⟨dq23⟩⟩
     ·rw [if_neg c20] at H
      have c20b0 := decide_eq_false c20
      clear c20
      replace H := Option.bind_eq_some_iff.mp H
      obtain ⟨t240, A420, H⟩ := H
      replace H : (some t240) = some r := H
      have A42 := Aside0.mk A420
      clear A420
      obtain rfl := Option.some.inj H
      obtain ⟨Ao43, co43, eo43⟩ := Kd.R_slice HO_7.out
      subst eo43
      obtain ⟨Ao44, co44, eo44⟩ := Kd.R_slice HO_10.out
      subst eo44
      go_wp2_with (first | (go_at_call 78; (with_reducible refine (spec_l8Sorted.calls k2 _ _ x10_2 t240 _ ?side1 ?side2 A42.out).mono ?_); (case side1 => exact dq6); (case side2 => exact (Kd.R_reads' HO_10.out).2.1); rintro e w45 ⟨v241, rfl, ho0, hb⟩; have n0_ := Aside0.mk (Kd.V_elder' dq65 (Kd.R_base ho0) hb); have n1_ := Aside0.mk (Kd.R_below dq64 hb); have n2_ := Aside0.mk (Kd.R_elder' dq63 (Kd.R_base ho0) hb); have n3_ := Aside0.mk (Kd.R_lower (Kd.R_new' (Kd.R_newM (M := fun k_ => (w.heap.size ≤ k_)) ho0 (below_size dq23) (fun k_ h_ => h_)) (Kd.R_lt dq63)) (below_size dq23)); have n4_ := Aside0.mk (below_step dq23 hb); clear HO_0; clear HO_7; clear HO_10; clear HB; have HO_0 := n0_; have HO_7 := n1_; have HO_10 := n2_; have HO242 := n3_; have HB := n4_; clear n0_ n1_ n2_ n3_ n4_; (try clear hb); (try clear hb2); (try clear hk); (try clear hi); (try clear ho0)))
      repeat (go_quiet (first | (go_at_call 78; (with_reducible refine (spec_l8Sorted.calls k2 _ _ x10_2 t240 _ ?side1 ?side2 A42.out).mono ?_); (case side1 => exact dq6); (case side2 => exact (Kd.R_reads' HO_10.out).2.1); rintro e w45 ⟨v241, rfl, ho0, hb⟩; have n0_ := Aside0.mk (Kd.V_elder' dq65 (Kd.R_base ho0) hb); have n1_ := Aside0.mk (Kd.R_below dq64 hb); have n2_ := Aside0.mk (Kd.R_elder' dq63 (Kd.R_base ho0) hb); have n3_ := Aside0.mk (Kd.R_lower (Kd.R_new' (Kd.R_newM (M := fun k_ => (w.heap.size ≤ k_)) ho0 (below_size dq23) (fun k_ h_ => h_)) (Kd.R_lt dq63)) (below_size dq23)); have n4_ := Aside0.mk (below_step dq23 hb); clear HO_0; clear HO_7; clear HO_10; clear HB; have HO_0 := n0_; have HO_7 := n1_; have HO_10 := n2_; have HO242 := n3_; have HB := n4_; clear n0_ n1_ n2_ n3_ n4_; (try clear hb); (try clear hb2); (try clear hk); (try clear hi); (try clear ho0))); try go_wp2_with (first | (go_at_call 78; (with_reducible refine (spec_l8Sorted.calls k2 _ _ x10_2 t240 _ ?side1 ?side2 A42.out).mono ?_); (case side1 => exact dq6); (case side2 => exact (Kd.R_reads' HO_10.out).2.1); rintro e w45 ⟨v241, rfl, ho0, hb⟩; have n0_ := Aside0.mk (Kd.V_elder' dq65 (Kd.R_base ho0) hb); have n1_ := Aside0.mk (Kd.R_below dq64 hb); have n2_ := Aside0.mk (Kd.R_elder' dq63 (Kd.R_base ho0) hb); have n3_ := Aside0.mk (Kd.R_lower (Kd.R_new' (Kd.R_newM (M := fun k_ => (w.heap.size ≤ k_)) ho0 (below_size dq23) (fun k_ h_ => h_)) (Kd.R_lt dq63)) (below_size dq23)); have n4_ := Aside0.mk (below_step dq23 hb); clear HO_0; clear HO_7; clear HO_10; clear HB; have HO_0 := n0_; have HO_7 := n1_; have HO_10 := n2_; have HO242 := n3_; have HB := n4_; clear n0_ n1_ n2_ n3_ n4_; (try clear hb); (try clear hb2); (try clear hk); (try clear hi); (try clear ho0))))
      go_ret
      exact ⟨_, dq25, by (with_reducible repeat (first | apply Kd.R_alloc | apply Kd.R_drewN | apply Kd.R_drew)); exact Kd.R_mono HO242.out (fun _ hk => hk.1.1), dq23⟩

end Go.Proofs.YtpmjpbaeecnpiaaDoor.L
