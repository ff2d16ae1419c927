/- Words and contracts for the row RowFnKids: what the Go functions answer that it calls; printed by programs of the kit and of this session, and merged. -/
import Derived.Test.YtpmjpbaeecnpiaaDoorQk6
namespace Go.Proofs.YtpmjpbaeecnpiaaDoor.L
open Go.RowKit Go.Proofs.YtpmjpbaeecnpiaaDoorW.PrintWords Go.Proofs.YtpmjpbaeecnpiaaDoorW.PrintLast Go.Proofs.YtpmjpbaeecnpiaaDoorW.PrintMore
attribute [local go_sem] max2_int min2_int max_two min_two max_three min_three max_four min_four
set_option linter.unusedVariables false
set_option linter.unusedSimpArgs false

/-! ### spec_DocOk: function 23 -/
mutual
def spec_DocOk.j0 : Nat → List (S39) → Bool → Option (Bool)
 | 0, _, _ => none
 | k + 1, x0, x15 => if x15 = true then (some false) else (spec_DocOk.l0 k x0 0 0)
def spec_DocOk.l0 : Nat → List (S39) → Int → Int → Option (Bool)
 | 0, _, _, _ => none
 | k + 1, x0, x3, x4 => if x4 < (x0.length : Int) then (if 0 ≤ x4 then (spec_DocOk.l1 k x0 (wrap64 ((wrap64 (x3 + (((rd_T39 x0 x4).f1).size : Int))) + (((rd_T39 x0 x4).f2).size : Int))) x4 0 ((rd_T39 x0 x4).f0) ((rd_T39 x0 x4).f1) ((rd_T39 x0 x4).f2) ((rd_T39 x0 x4).f3)) else (none)) else (some true)
def spec_DocOk.j3 : Nat → List (S39) → Int → Int → Int → ByteArray → ByteArray → List (S46) → Option (Bool)
 | 0, _, _, _, _, _, _, _ => none
 | k + 1, x0, x3, x4, x141000, x141001, x141002, x141003 => if x3 > 2500 then (some false) else (if x4 = 0 then (if x141000 = (-1) then (if x141001.toList = ([] : List UInt8) then (some false) else (spec_DocOk.j4 k x0 x3 x4 x141000 x141001 x141002 x141003)) else (some false)) else ((spec_l1In.f x141000 0 (wrap64 (x4 - 1))).bind fun t143 => (if t143 = true then (if 0 ≤ x141000 then (if x141000 < (x0.length : Int) then (if ((rd_T39 x0 x141000).f1).toList = ([] : List UInt8) then (some false) else (spec_DocOk.j4 k x0 x3 x4 x141000 x141001 x141002 x141003)) else (none)) else (none)) else (some false))))
def spec_DocOk.j4 : Nat → List (S39) → Int → Int → Int → ByteArray → ByteArray → List (S46) → Option (Bool)
 | 0, _, _, _, _, _, _, _ => none
 | k + 1, x0, x3, x4, x141000, x141001, x141002, x141003 => if x4 > 0 then (spec_DocOk.l2 k x0 x3 x4 (wrap64 (x4 - 1)) x141000 x141001 x141002 x141003) else (spec_DocOk.j6 k x0 x3 x4 x141000 x141001 x141002 x141003)
def spec_DocOk.j6 : Nat → List (S39) → Int → Int → Int → ByteArray → ByteArray → List (S46) → Option (Bool)
 | 0, _, _, _, _, _, _, _ => none
 | k + 1, x0, x3, x4, x141000, x141001, x141002, x141003 => (spec_l2Deep.f k x0 x4).bind fun t146 => (if t146 ≥ 20 then (some false) else (if x141001.toList = ([] : List UInt8) then (if x141002.toList = ([] : List UInt8) then (spec_DocOk.j7 k x0 x3 x4 true x141000 x141001 x141002 x141003) else (if (x141003.length : Int) > 0 then (spec_DocOk.j7 k x0 x3 x4 true x141000 x141001 x141002 x141003) else ((spec_l1Text.f k x141002).bind fun t147 => (spec_DocOk.j7 k x0 x3 x4 (!t147) x141000 x141001 x141002 x141003)))) else (if x141002.toList = ([] : List UInt8) then ((spec_l1Qual.f k x141001).bind fun t150 => (if t150 = true then ((spec_l2Attrs.f k x141003).bind fun t151 => (if t151 = true then (spec_DocOk.l0 k x0 x3 (wrap64 (x4 + 1))) else (some false))) else (some false))) else (some false))))
def spec_DocOk.j7 : Nat → List (S39) → Int → Int → Bool → Int → ByteArray → ByteArray → List (S46) → Option (Bool)
 | 0, _, _, _, _, _, _, _, _ => none
 | k + 1, x0, x3, x4, x130, x141000, x141001, x141002, x141003 => if x130 = true then (some false) else (if 0 ≤ (wrap64 (x4 - 1)) then (if (wrap64 (x4 - 1)) < (x0.length : Int) then (if ((rd_T39 x0 (wrap64 (x4 - 1))).f1).toList = ([] : List UInt8) then (if ((rd_T39 x0 (wrap64 (x4 - 1))).f0) = x141000 then (some false) else (spec_DocOk.l0 k x0 x3 (wrap64 (x4 + 1)))) else (spec_DocOk.l0 k x0 x3 (wrap64 (x4 + 1)))) else (none)) else (none))
def spec_DocOk.l2 : Nat → List (S39) → Int → Int → Int → Int → ByteArray → ByteArray → List (S46) → Option (Bool)
 | 0, _, _, _, _, _, _, _, _ => none
 | k + 1, x0, x3, x4, x7, x141000, x141001, x141002, x141003 => if x7 ≥ 0 then (if x7 = x141000 then (if x7 < 0 then (some false) else (spec_DocOk.j6 k x0 x3 x4 x141000 x141001 x141002 x141003)) else (if 0 ≤ x7 then (if x7 < (x0.length : Int) then (spec_DocOk.l2 k x0 x3 x4 ((rd_T39 x0 x7).f0) x141000 x141001 x141002 x141003) else (none)) else (none))) else (if x7 < 0 then (some false) else (spec_DocOk.j6 k x0 x3 x4 x141000 x141001 x141002 x141003))
def spec_DocOk.l1 : Nat → List (S39) → Int → Int → Int → Int → ByteArray → ByteArray → List (S46) → Option (Bool)
 | 0, _, _, _, _, _, _, _, _ => none
 | k + 1, x0, x3, x4, x6, x141000, x141001, x141002, x141003 => if x6 < (x141003.length : Int) then (if x6 < 20 then (if 0 ≤ x6 then (spec_DocOk.l1 k x0 (wrap64 ((wrap64 (x3 + (((rd_T46 x141003 x6).f0).size : Int))) + (((rd_T46 x141003 x6).f1).size : Int))) x4 (wrap64 (x6 + 1)) x141000 x141001 x141002 x141003) else (none)) else (spec_DocOk.j3 k x0 x3 x4 x141000 x141001 x141002 x141003)) else (spec_DocOk.j3 k x0 x3 x4 x141000 x141001 x141002 x141003)
end
def spec_DocOk.f (k : Nat) (l0 : List (S39)) : Option (Bool) := if (l0.length : Int) < 1 then (spec_DocOk.j0 k l0 true) else (spec_DocOk.j0 k l0 (decide ((l0.length : Int) > 200)))
set_option maxHeartbeats 8000000 in
set_option maxRecDepth 100000 in
theorem spec_DocOk.calls (k : Nat) (A0 : Option Addr) (c0 : Nat) (l0 : List (S39)) (r : Bool) (w : World) (hr0 : Kd.C k39 w A0 l0.length l0) (hc0 : l0.length ≤ c0) (h : spec_DocOk.f k l0 = some r) :
  Calls Tryd.prog 23 #[.slice A0 l0.length c0] w fun e w' => e = .returned (.bool r) ∧ Below w.heap.size w w' := by
 have hu39 := Tryd.underlying39
 have HR0 := Aside0.mk hr0
 have HC0 := Aside0.mk hc0
 clear hr0 hc0
 have HB := Aside0.mk (Below.refl w.heap.size w)
 have H : (if (l0.length : Int) < 1 then (spec_DocOk.j0 k l0 true) else (spec_DocOk.j0 k l0 (decide ((l0.length : Int) > 200)))) = some r := h
 clear h
 have HC2 := Aside0.mk H
 clear H
 go_enter Tryd.func23, Tryd.ntmps23
 go_upto_region 1 with (fail)
 repeat (go_quiet (fail); go_upto_region 1 with (fail))
 go_cut [15] (fun v15 wc => ∃ (kq : Nat) (x15_1 : Bool), v15 = .bool x15_1 ∧ Aside0 (spec_DocOk.j0 kq l0 x15_1 = some r) ∧ Aside0 (kq ≤ k) ∧ Aside0 (Below w.heap.size w wc))
 case first =>
  have H := HC2.out
  clear HC2
  by_cases c3 : (l0.length : Int) < 1
  ·rw [if_pos c3] at H
   have c3b0 := decide_eq_true c3
   have c3b1 : decide (l0.length < 1) = true := decide_eq_true dq45
   clear c3
   (first | rw [c3b0] | (simp only [i64_w, i32_w]; rw [c3b0]) | skip)
   have H' := Aside0.mk H
   clear H
   go_wp2
   repeat (go_quiet (fail); try go_wp2)
   go_meet
   case rel => exact ⟨_, (true), dq26, H', ⟨dq34⟩, ⟨dq27⟩⟩
  rw [if_neg c3] at H
  have c3b0 := decide_eq_false c3
  have c3b1 : decide (l0.length < 1) = false := decide_eq_false dq45
  clear c3
  (first | rw [c3b0] | (simp only [i64_w, i32_w]; rw [c3b0]) | skip)
  have H' := Aside0.mk H
  clear H
  go_wp2
  repeat (go_quiet (fail); try go_wp2)
  go_meet
  case rel => exact ⟨_, (decide ((l0.length : Int) > 200)), dq26, H', ⟨dq34⟩, ⟨dq27⟩⟩
 clear HC2
 try clear c2
 try clear p2
 try clear c3
 try clear c3b0
 try clear c3b1
 obtain ⟨kq, x15_1, rfl, HA, HJ1, HB⟩ := hcut
 cases kq with
 | zero => exact absurd HA.out (by simp [spec_DocOk.j0])
 | succ kj1 =>
  have H := HA.out
  clear HA
  simp only [spec_DocOk.j0] at H
  by_cases c4 : x15_1 = true
  ·subst c4
   have H1 : (some false) = some r := by rw [if_pos rfl] at H; exact H
   clear H
   have H := H1
   clear H1
   obtain rfl := Option.some.inj H
   go_wp2
   repeat (go_quiet (fail); try go_wp2)
   go_ret
   exact ⟨dq33, dq27⟩
  replace c4 := Bool.eq_false_iff.mpr c4
  subst c4
  have H1 : (spec_DocOk.l0 kj1 l0 0 0) = some r := by rw [if_neg (show ¬ (false = true) by decide)] at H; exact H
  clear H
  have H := H1
  clear H1
  have H' := Aside0.mk H
  clear H
  go_wp2
  repeat (go_quiet (fail); try go_wp2)
  go_loopg [3, 4] kj1 (fun kq v3 v4 w' => ∃ (x3_2 : Int) (x4_2 : Int), v3 = .int .i64 x3_2 ∧ v4 = .int .i64 x4_2 ∧ Aside0 (spec_DocOk.l0 kq l0 x3_2 x4_2 = some r) ∧ Aside0 (kq ≤ kj1) ∧ Aside0 (Below w.heap.size w w'))
  case atStart => exact ⟨(0), (0), dq26, dq26, H', ⟨Nat.le_refl _⟩, ⟨dq27⟩⟩
  clear H'
  try clear c2
  try clear p2
  try clear c3
  try clear c3b0
  try clear c3b1
  try clear c4
  try clear p2
  obtain ⟨x3_2, x4_2, rfl, rfl, HA, HK2, HB⟩ := hrel
  cases gk with
  | zero => exact absurd HA.out (by simp [spec_DocOk.l0])
  | succ k2 =>
   have H := HA.out
   clear HA
   simp only [spec_DocOk.l0] at H
   by_cases c5 : x4_2 < (l0.length : Int)
   rotate_left
   ·rw [if_neg c5] at H
    have c5b0 := decide_eq_false c5
    clear c5
    obtain rfl := Option.some.inj H
    go_wp2
    repeat (go_quiet (fail); try go_wp2)
    go_ret
    exact ⟨dq33, dq27⟩
   rw [if_pos c5] at H
   have c5b0 := decide_eq_true c5
   clear c5
   by_cases c6 : 0 ≤ x4_2
   rotate_left
   ·rw [if_neg c6] at H
    exact absurd H dq32
   rw [if_pos c6] at H
   have c6b0 := decide_eq_true c6
   clear c6
   have HC7 := Aside0.mk H
   clear H
   have p139 : 0 ≤ (x4_2 : Int) := of_decide_eq_true dq30
   have q139 : x4_2 < (l0.length : Int) := of_decide_eq_true dq30
   obtain ⟨ad139, A139_3, c139_3, e139, hx139_0, hx139_1, hx139_2, hx139_3, hl139_3, hi139_3⟩ := at_T39 HR0.out x4_2 p139 q139
   cases e139
   replace hx139_0 := (HB.out.cell (World.block_lt_of_cell? w _ hx139_0)).trans hx139_0
   replace hx139_1 := (HB.out.cell (World.block_lt_of_cell? w _ hx139_1)).trans hx139_1
   replace hx139_2 := (HB.out.cell (World.block_lt_of_cell? w _ hx139_2)).trans hx139_2
   replace hx139_3 := (HB.out.cell (World.block_lt_of_cell? w _ hx139_3)).trans hx139_3
   have HR139_3 := Aside0.mk hi139_3
   have HC139_3 := Aside0.mk hl139_3
   clear hi139_3 hl139_3
   replace p139 := eq_true p139
   replace q139 := eq_true q139
   go_upto_block 2 with (first | ((with_reducible refine gate_dst (N := 5) rfl ?_); (try (refine gate_guard (by rfl) ?_; dsimp only)); refine box_event ?hg (N := 5) ?hd (cs := #[.int .i64 0, .string (⟨#[]⟩ : ByteArray), .string (⟨#[]⟩ : ByteArray), .slice none 0 0]) (t := 39) ?hr ?_; (case hd => rfl); (case hg => rfl); (case hr => exact dq1); intro gb140 hg w8 hbox hb; have n0_ := Aside0.mk (below_step dq27 hb); have n1_ := Aside0.mk (hbox); have n2_ := Aside0.mk ((dq35 : w.heap.size ≤ gb140)); have n3_ := Aside0.mk ((dq35 : w.heap.size ≤ gb140)); clear HB; have HB := n0_; have BK140 := n1_; have GW140 := n2_; have GE140 := n3_; clear n0_ n1_ n2_ n3_; clear hb hbox hg; obtain ⟨⟨hcz9_0, hcz9_1, hcz9_2, hcz9_3⟩, hfz9_0, hfz9_1, hfz9_2, hfz9_3⟩ := blkC4 BK140.out))
   repeat (go_quiet (first | ((with_reducible refine gate_dst (N := 5) rfl ?_); (try (refine gate_guard (by rfl) ?_; dsimp only)); refine box_event ?hg (N := 5) ?hd (cs := #[.int .i64 0, .string (⟨#[]⟩ : ByteArray), .string (⟨#[]⟩ : ByteArray), .slice none 0 0]) (t := 39) ?hr ?_; (case hd => rfl); (case hg => rfl); (case hr => exact dq1); intro gb140 hg w8 hbox hb; have n0_ := Aside0.mk (below_step dq27 hb); have n1_ := Aside0.mk (hbox); have n2_ := Aside0.mk ((dq35 : w.heap.size ≤ gb140)); have n3_ := Aside0.mk ((dq35 : w.heap.size ≤ gb140)); clear HB; have HB := n0_; have BK140 := n1_; have GW140 := n2_; have GE140 := n3_; clear n0_ n1_ n2_ n3_; clear hb hbox hg; obtain ⟨⟨hcz9_0, hcz9_1, hcz9_2, hcz9_3⟩, hfz9_0, hfz9_1, hfz9_2, hfz9_3⟩ := blkC4 BK140.out)); go_upto_block 2 with (first | ((with_reducible refine gate_dst (N := 5) rfl ?_); (try (refine gate_guard (by rfl) ?_; dsimp only)); refine box_event ?hg (N := 5) ?hd (cs := #[.int .i64 0, .string (⟨#[]⟩ : ByteArray), .string (⟨#[]⟩ : ByteArray), .slice none 0 0]) (t := 39) ?hr ?_; (case hd => rfl); (case hg => rfl); (case hr => exact dq1); intro gb140 hg w8 hbox hb; have n0_ := Aside0.mk (below_step dq27 hb); have n1_ := Aside0.mk (hbox); have n2_ := Aside0.mk ((dq35 : w.heap.size ≤ gb140)); have n3_ := Aside0.mk ((dq35 : w.heap.size ≤ gb140)); clear HB; have HB := n0_; have BK140 := n1_; have GW140 := n2_; have GE140 := n3_; clear n0_ n1_ n2_ n3_; clear hb hbox hg; obtain ⟨⟨hcz9_0, hcz9_1, hcz9_2, hcz9_3⟩, hfz9_0, hfz9_1, hfz9_2, hfz9_3⟩ := blkC4 BK140.out)))
   (try simp only [Act.put, List.setIfInBounds_toArray, List.set_cons_zero, List.set_cons_succ])
   go_cut [3] (fun v3 wc => ∃ (kq : Nat) (x3_6 : Int), v3 = .int .i64 x3_6 ∧ Aside0 (spec_DocOk.j3 kq l0 x3_6 x4_2 ((rd_T39 l0 x4_2).f0) ((rd_T39 l0 x4_2).f1) ((rd_T39 l0 x4_2).f2) ((rd_T39 l0 x4_2).f3) = some r) ∧ Aside0 (kq ≤ k2) ∧ Aside0 (wc.heap[gb140]? = some (.cells #[.int .i64 ((rd_T39 l0 x4_2).f0), .string ((rd_T39 l0 x4_2).f1), .string ((rd_T39 l0 x4_2).f2), (.slice A139_3 ((rd_T39 l0 x4_2).f3).length c139_3)] 39 (0, 0))) ∧ Aside0 (Below w.heap.size w wc))
   case first =>
    have H := HC7.out
    clear HC7
    have H' := Aside0.mk H
    clear H
    go_wp2
    repeat (go_quiet (fail); try go_wp2)
    go_loopg [3, 6] k2 (fun kq v3 v6 w' => ∃ (x3_3 : Int) (x6_3 : Int), v3 = .int .i64 x3_3 ∧ v6 = .int .i64 x6_3 ∧ Aside0 (spec_DocOk.l1 kq l0 x3_3 x4_2 x6_3 ((rd_T39 l0 x4_2).f0) ((rd_T39 l0 x4_2).f1) ((rd_T39 l0 x4_2).f2) ((rd_T39 l0 x4_2).f3) = some r) ∧ Aside0 (kq ≤ k2) ∧ Aside0 (w'.heap[gb140]? = some (.cells #[.int .i64 ((rd_T39 l0 x4_2).f0), .string ((rd_T39 l0 x4_2).f1), .string ((rd_T39 l0 x4_2).f2), (.slice A139_3 ((rd_T39 l0 x4_2).f3).length c139_3)] 39 (0, 0))) ∧ Aside0 (Below w.heap.size w w'))
    case atStart => exact ⟨(wrap64 ((wrap64 (x3_2 + (((rd_T39 l0 x4_2).f1).size : Int))) + (((rd_T39 l0 x4_2).f2).size : Int))), (0), dq26, dq26, H', ⟨Nat.le_refl _⟩, ⟨by refine blk_up ?_; refine blk_put (cs := #[.int .i64 ((rd_T39 l0 x4_2).f0), .string ((rd_T39 l0 x4_2).f1), .string ((rd_T39 l0 x4_2).f2), .slice none 0 0]) ?_ 3 _ rfl; refine blk_up ?_; refine blk_put (cs := #[.int .i64 ((rd_T39 l0 x4_2).f0), .string ((rd_T39 l0 x4_2).f1), .string (⟨#[]⟩ : ByteArray), .slice none 0 0]) ?_ 2 _ rfl; refine blk_up ?_; refine blk_put (cs := #[.int .i64 ((rd_T39 l0 x4_2).f0), .string (⟨#[]⟩ : ByteArray), .string (⟨#[]⟩ : ByteArray), .slice none 0 0]) ?_ 1 _ rfl; refine blk_up ?_; refine blk_put (cs := #[.int .i64 0, .string (⟨#[]⟩ : ByteArray), .string (⟨#[]⟩ : ByteArray), .slice none 0 0]) ?_ 0 _ rfl; refine blk_up ?_; exact BK140.out⟩, ⟨dq96⟩⟩
    clear H'
    try clear c1
    try clear p1
    try clear q1
    try clear hx1
    try clear c2
    try clear p2
    try clear c3
    try clear c3b0
    try clear c3b1
    try clear c4
    try clear c5
    try clear c5b0
    try clear c6
    try clear c6b0
    try clear p6
    try clear hcz9_0
    try clear hcz9_1
    try clear hcz9_2
    try clear hcz9_3
    try clear hfz9_0
    try clear hfz9_1
    try clear hfz9_2
    try clear hfz9_3
    try clear hx139_0
    try clear hx139_1
    try clear hx139_2
    try clear hx139_3
    try clear p139
    try clear p2
    try clear q139
    obtain ⟨x3_3, x6_3, rfl, rfl, HA, HK3, BK140, HB⟩ := hrel
    cases gk with
    | zero => exact absurd HA.out (by simp [spec_DocOk.l1])
    | succ k3 =>
     have H := HA.out
     clear HA
     simp only [spec_DocOk.l1] at H
     by_cases c10 : x6_3 < (((rd_T39 l0 x4_2).f3).length : Int)
     rotate_left
     ·rw [if_neg c10] at H
      have c10b0 := decide_eq_false c10
      clear c10
      (first | rw [c10b0] | (simp only [i64_w, i32_w]; rw [c10b0]) | skip)
      have H' := Aside0.mk H
      clear H
      obtain ⟨⟨hcz15_0, hcz15_1, hcz15_2, hcz15_3⟩, hfz15_0, hfz15_1, hfz15_2, hfz15_3⟩ := blkC4 BK140.out
      go_wp2
      repeat (go_quiet (fail); try go_wp2)
      go_meet
      case rel => exact ⟨_, (x3_3), dq26, H', ⟨dq57⟩, ⟨dq97⟩, ⟨dq96⟩⟩
     rw [if_pos c10] at H
     have c10b0 := decide_eq_true c10
     clear c10
     (first | rw [c10b0] | (simp only [i64_w, i32_w]; rw [c10b0]) | skip)
     by_cases c11 : x6_3 < 20
     rotate_left
     ·rw [if_neg c11] at H
      have c11b0 := decide_eq_false c11
      clear c11
      have H' := Aside0.mk H
      clear H
      obtain ⟨⟨hcz14_0, hcz14_1, hcz14_2, hcz14_3⟩, hfz14_0, hfz14_1, hfz14_2, hfz14_3⟩ := blkC4 BK140.out
      go_wp2
      repeat (go_quiet (fail); try go_wp2)
      go_meet
      case rel => exact ⟨_, (x3_3), dq26, H', ⟨dq57⟩, ⟨dq97⟩, ⟨dq96⟩⟩
     rw [if_pos c11] at H
     have c11b0 := decide_eq_true c11
     clear c11
     by_cases c12 : 0 ≤ x6_3
     rotate_left
     ·rw [if_neg c12] at H
      exact absurd H dq32
     rw [if_pos c12] at H
     have c12b0 := decide_eq_true c12
     clear c12
     have H' := Aside0.mk H
     clear H
     obtain ⟨⟨hcz13_0, hcz13_1, hcz13_2, hcz13_3⟩, hfz13_0, hfz13_1, hfz13_2, hfz13_3⟩ := blkC4 BK140.out
     have p141 : 0 ≤ (x6_3 : Int) := of_decide_eq_true dq30
     have q141 : x6_3 < (((rd_T39 l0 x4_2).f3).length : Int) := of_decide_eq_true dq30
     obtain ⟨ad141, e141, hx141_0, hx141_1⟩ := at_T46 HR139_3.out x6_3 p141 q141
     cases e141
     replace hx141_0 := (HB.out.cell (World.block_lt_of_cell? w _ hx141_0)).trans hx141_0
     replace hx141_1 := (HB.out.cell (World.block_lt_of_cell? w _ hx141_1)).trans hx141_1
     replace p141 := eq_true p141
     replace q141 := eq_true q141
     have p142 : 0 ≤ (x6_3 : Int) := of_decide_eq_true dq30
     have q142 : x6_3 < (((rd_T39 l0 x4_2).f3).length : Int) := of_decide_eq_true dq30
     obtain ⟨ad142, e142, hx142_0, hx142_1⟩ := at_T46 HR139_3.out x6_3 p142 q142
     obtain rfl : ad141 = ad142 := (by injection e142)
     replace hx142_0 := (HB.out.cell (World.block_lt_of_cell? w _ hx142_0)).trans hx142_0
     replace hx142_1 := (HB.out.cell (World.block_lt_of_cell? w _ hx142_1)).trans hx142_1
     replace p142 := eq_true p142
     replace q142 := eq_true q142
     go_wp2
     repeat (go_quiet (fail); try go_wp2)
     go_roundg k3
     case measure => have := HJ1.out; have := HK2.out; have := HK3.out; omega
     case rel => exact ⟨(wrap64 ((wrap64 (x3_3 + (((rd_T46 ((rd_T39 l0 x4_2).f3) x6_3).f0).size : Int))) + (((rd_T46 ((rd_T39 l0 x4_2).f3) x6_3).f1).size : Int))), (wrap64 (x6_3 + 1)), dq26, dq26, H', ⟨by have := HJ1.out; have := HK2.out; have := HK3.out; omega⟩, ⟨dq97⟩, ⟨dq96⟩⟩
   clear HC7
   try clear c1
   try clear p1
   try clear q1
   try clear hx1
   try clear c2
   try clear p2
   try clear c3
   try clear c3b0
   try clear c3b1
   try clear c4
   try clear c5
   try clear c5b0
   try clear c6
   try clear c6b0
   try clear p6
   try clear c10
   try clear c10b0
   try clear c11
   try clear c11b0
   try clear c12
   try clear c12b0
   try clear c13
   try clear p13
   try clear q13
   try clear hx13
   try clear p14
   try clear q14
   try clear hx14
   try clear hcz13_0
   try clear hcz13_1
   try clear hcz13_2
   try clear hcz13_3
   try clear hcz14_0
   try clear hcz14_1
   try clear hcz14_2
   try clear hcz14_3
   try clear hcz15_0
   try clear hcz15_1
   try clear hcz15_2
   try clear hcz15_3
   try clear hcz9_0
   try clear hcz9_1
   try clear hcz9_2
   try clear hcz9_3
   try clear hfz13_0
   try clear hfz13_1
   try clear hfz13_2
   try clear hfz13_3
   try clear hfz14_0
   try clear hfz14_1
   try clear hfz14_2
   try clear hfz14_3
   try clear hfz15_0
   try clear hfz15_1
   try clear hfz15_2
   try clear hfz15_3
   try clear hfz9_0
   try clear hfz9_1
   try clear hfz9_2
   try clear hfz9_3
   try clear hx139_0
   try clear hx139_1
   try clear hx139_2
   try clear hx139_3
   try clear hx141_0
   try clear hx141_1
   try clear hx142_0
   try clear hx142_1
   try clear p1
   try clear p139
   try clear p141
   try clear p142
   try clear p2
   try clear p6
   try clear q1
   try clear q139
   try clear q141
   try clear q142
   obtain ⟨kq, x3_6, rfl, HA, HJ6, BK140, HB⟩ := hcut
   cases kq with
   | zero => exact absurd HA.out (by simp [spec_DocOk.j3])
   | succ kj6 =>
    have H := HA.out
    clear HA
    simp only [spec_DocOk.j3] at H
    by_cases c16 : x3_6 > 2500
    ·rw [if_pos c16] at H
     have c16b0 : decide (2500 < x3_6) = true := decide_eq_true c16
     clear c16
     obtain rfl := Option.some.inj H
     go_wp2
     repeat (go_quiet (fail); try go_wp2)
     go_ret
     exact ⟨dq33, dq96⟩
    rw [if_neg c16] at H
    have c16b0 : decide (2500 < x3_6) = false := decide_eq_false c16
    clear c16
    have HC17 := Aside0.mk H
    clear H
    go_upto_if 66 with (fail)
    repeat (go_quiet (fail); go_upto_if 66 with (fail))
    go_cut [] (fun wc => ∃ (kq : Nat), Aside0 (spec_DocOk.j4 kq l0 x3_6 x4_2 ((rd_T39 l0 x4_2).f0) ((rd_T39 l0 x4_2).f1) ((rd_T39 l0 x4_2).f2) ((rd_T39 l0 x4_2).f3) = some r) ∧ Aside0 (kq ≤ kj6) ∧ Aside0 (wc.heap[gb140]? = some (.cells #[.int .i64 ((rd_T39 l0 x4_2).f0), .string ((rd_T39 l0 x4_2).f1), .string ((rd_T39 l0 x4_2).f2), (.slice A139_3 ((rd_T39 l0 x4_2).f3).length c139_3)] 39 (0, 0))) ∧ Aside0 (Below w.heap.size w wc))
    case first =>
     have H := HC17.out
     clear HC17
     by_cases c18 : x4_2 = 0
     ·rw [if_pos c18] at H
      have c18b0 := beq_iff_eq.mpr c18
      have c18b1 := bne_eq_false_iff_eq.mpr c18
      clear c18
      (first | rw [c18b0] | (simp only [i64_w, i32_w]; rw [c18b0]) | skip)
      by_cases c19 : ((rd_T39 l0 x4_2).f0) = (-1)
      rotate_left
      ·rw [if_neg c19] at H
       have c19b0 := beq_eq_false_iff_ne.mpr c19
       have c19b1 := bne_iff_ne.mpr c19
       obtain rfl := Option.some.inj H
       obtain ⟨⟨hcz23_0, hcz23_1, hcz23_2, hcz23_3⟩, hfz23_0, hfz23_1, hfz23_2, hfz23_3⟩ := blkC4 BK140.out
       go_wp2
       repeat (go_quiet (fail); try go_wp2)
       go_ret
       exact ⟨dq33, dq96⟩
      rw [if_pos c19] at H
      have c19b0 := beq_iff_eq.mpr c19
      have c19b1 := bne_eq_false_iff_eq.mpr c19
      clear c19
      by_cases c20 : ((rd_T39 l0 x4_2).f1).toList = ([] : List UInt8)
      ·rw [if_pos c20] at H
       have c20b0 := beq_iff_eq.mpr c20
       have c20b1 := bne_eq_false_iff_eq.mpr c20
       clear c20
       obtain rfl := Option.some.inj H
       obtain ⟨⟨hcz21_0, hcz21_1, hcz21_2, hcz21_3⟩, hfz21_0, hfz21_1, hfz21_2, hfz21_3⟩ := blkC4 BK140.out
       go_wp2
       repeat (go_quiet (fail); try go_wp2)
       go_ret
       exact ⟨dq33, dq96⟩
      rw [if_neg c20] at H
      have c20b0 := beq_eq_false_iff_ne.mpr c20
      have c20b1 := bne_iff_ne.mpr c20
      have H' := Aside0.mk H
      clear H
      obtain ⟨⟨hcz22_0, hcz22_1, hcz22_2, hcz22_3⟩, hfz22_0, hfz22_1, hfz22_2, hfz22_3⟩ := blkC4 BK140.out
      go_wp2
      repeat (go_quiet (fail); try go_wp2)
      go_meet
      case rel => exact ⟨_, H', ⟨by have := HJ1.out; have := HK2.out; have := HJ6.out; first | omega | exact Nat.le_refl _⟩, ⟨dq97⟩, ⟨dq96⟩⟩
     rw [if_neg c18] at H
     have c18b0 := beq_eq_false_iff_ne.mpr c18
     have c18b1 := bne_iff_ne.mpr c18
     (first | rw [c18b0] | (simp only [i64_w, i32_w]; rw [c18b0]) | skip)
     replace H := Option.bind_eq_some_iff.mp H
     obtain ⟨t143, A240, H⟩ := H
     replace H : (if t143 = true then (if 0 ≤ ((rd_T39 l0 x4_2).f0) then (if ((rd_T39 l0 x4_2).f0) < (l0.length : Int) then (if ((rd_T39 l0 ((rd_T39 l0 x4_2).f0)).f1).toList = ([] : List UInt8) then (some false) else (spec_DocOk.j4 kj6 l0 x3_6 x4_2 ((rd_T39 l0 x4_2).f0) ((rd_T39 l0 x4_2).f1) ((rd_T39 l0 x4_2).f2) ((rd_T39 l0 x4_2).f3))) else (none)) else (none)) else (some false)) = some r := H
     have A24 := Aside0.mk A240
     clear A240
     by_cases c25 : t143 = true
     rotate_left
     ·replace c25 := Bool.eq_false_iff.mpr c25
      subst c25
      have H1 : (some false) = some r := by rw [if_neg (show ¬ (false = true) by decide)] at H; exact H
      clear H
      have H := H1
      clear H1
      obtain rfl := Option.some.inj H
      obtain ⟨⟨hcz31_0, hcz31_1, hcz31_2, hcz31_3⟩, hfz31_0, hfz31_1, hfz31_2, hfz31_3⟩ := blkC4 BK140.out
      go_wp2_with (first | (go_at_call 41; (with_reducible refine (spec_l1In.calls ((rd_T39 l0 x4_2).f0) 0 (wrap64 (x4_2 - 1)) false _ A24.out).mono ?_); rintro e w' ⟨rfl, ⟨nd, rfl⟩⟩; (try first | exact ⟨rfl, _, World.drewN_drewN _ _ _⟩ | exact ⟨rfl, _, Eq.trans (World.drewN_drewN _ _ _) (congrArg (World.drewN _) (Nat.add_assoc _ _ _))⟩)))
      repeat (go_quiet (first | (go_at_call 41; (with_reducible refine (spec_l1In.calls ((rd_T39 l0 x4_2).f0) 0 (wrap64 (x4_2 - 1)) false _ A24.out).mono ?_); rintro e w' ⟨rfl, ⟨nd, rfl⟩⟩; (try first | exact ⟨rfl, _, World.drewN_drewN _ _ _⟩ | exact ⟨rfl, _, Eq.trans (World.drewN_drewN _ _ _) (congrArg (World.drewN _) (Nat.add_assoc _ _ _))⟩))); try go_wp2_with (first | (go_at_call 41; (with_reducible refine (spec_l1In.calls ((rd_T39 l0 x4_2).f0) 0 (wrap64 (x4_2 - 1)) false _ A24.out).mono ?_); rintro e w' ⟨rfl, ⟨nd, rfl⟩⟩; (try first | exact ⟨rfl, _, World.drewN_drewN _ _ _⟩ | exact ⟨rfl, _, Eq.trans (World.drewN_drewN _ _ _) (congrArg (World.drewN _) (Nat.add_assoc _ _ _))⟩))))
      go_ret
      exact ⟨dq33, dq96⟩
     subst c25
     have H1 : (if 0 ≤ ((rd_T39 l0 x4_2).f0) then (if ((rd_T39 l0 x4_2).f0) < (l0.length : Int) then (if ((rd_T39 l0 ((rd_T39 l0 x4_2).f0)).f1).toList = ([] : List UInt8) then (some false) else (spec_DocOk.j4 kj6 l0 x3_6 x4_2 ((rd_T39 l0 x4_2).f0) ((rd_T39 l0 x4_2).f1) ((rd_T39 l0 x4_2).f2) ((rd_T39 l0 x4_2).f3))) else (none)) else (none)) = some r := by rw [if_pos rfl] at H; exact H
     clear H
     have H := H1
     clear H1
     by_cases c26 : 0 ≤ ((rd_T39 l0 x4_2).f0)
     rotate_left
     ·rw [if_neg c26] at H
      exact absurd H dq32
     rw [if_pos c26] at H
     have c26b0 := decide_eq_true c26
     clear c26
     by_cases c27 : ((rd_T39 l0 x4_2).f0) < (l0.length : Int)
     rotate_left
     ·rw [if_neg c27] at H
      exact absurd H dq32
     rw [if_pos c27] at H
     have c27b0 := decide_eq_true c27
     clear c27
     by_cases c28 : ((rd_T39 l0 ((rd_T39 l0 x4_2).f0)).f1).toList = ([] : List UInt8)
     ·rw [if_pos c28] at H
      have c28b0 := beq_iff_eq.mpr c28
      have c28b1 := bne_eq_false_iff_eq.mpr c28
      clear c28
      obtain rfl := Option.some.inj H
      obtain ⟨⟨hcz29_0, hcz29_1, hcz29_2, hcz29_3⟩, hfz29_0, hfz29_1, hfz29_2, hfz29_3⟩ := blkC4 BK140.out
      go_wp2_with (first | (go_at_call 41; (with_reducible refine (spec_l1In.calls ((rd_T39 l0 x4_2).f0) 0 (wrap64 (x4_2 - 1)) true _ A24.out).mono ?_); rintro e w' ⟨rfl, ⟨nd, rfl⟩⟩; (try first | exact ⟨rfl, _, World.drewN_drewN _ _ _⟩ | exact ⟨rfl, _, Eq.trans (World.drewN_drewN _ _ _) (congrArg (World.drewN _) (Nat.add_assoc _ _ _))⟩); have p144 : 0 ≤ (((rd_T39 l0 x4_2).f0) : Int) := of_decide_eq_true dq30; have q144 : ((rd_T39 l0 x4_2).f0) < (l0.length : Int) := of_decide_eq_true dq30; obtain ⟨ad144, A144_3, c144_3, e144, hx144_0, hx144_1, hx144_2, hx144_3, hl144_3, hi144_3⟩ := at_T39 HR0.out ((rd_T39 l0 x4_2).f0) p144 q144; obtain rfl : ad139 = ad144 := (by injection e144); replace hx144_0 := (HB.out.cell (World.block_lt_of_cell? w _ hx144_0)).trans hx144_0; replace hx144_1 := (HB.out.cell (World.block_lt_of_cell? w _ hx144_1)).trans hx144_1; replace hx144_2 := (HB.out.cell (World.block_lt_of_cell? w _ hx144_2)).trans hx144_2; replace hx144_3 := (HB.out.cell (World.block_lt_of_cell? w _ hx144_3)).trans hx144_3; have HR144_3 := Aside0.mk hi144_3; have HC144_3 := Aside0.mk hl144_3; clear hi144_3 hl144_3; replace p144 := eq_true p144; replace q144 := eq_true q144))
      repeat (go_quiet (first | (go_at_call 41; (with_reducible refine (spec_l1In.calls ((rd_T39 l0 x4_2).f0) 0 (wrap64 (x4_2 - 1)) true _ A24.out).mono ?_); rintro e w' ⟨rfl, ⟨nd, rfl⟩⟩; (try first | exact ⟨rfl, _, World.drewN_drewN _ _ _⟩ | exact ⟨rfl, _, Eq.trans (World.drewN_drewN _ _ _) (congrArg (World.drewN _) (Nat.add_assoc _ _ _))⟩); have p144 : 0 ≤ (((rd_T39 l0 x4_2).f0) : Int) := of_decide_eq_true dq30; have q144 : ((rd_T39 l0 x4_2).f0) < (l0.length : Int) := of_decide_eq_true dq30; obtain ⟨ad144, A144_3, c144_3, e144, hx144_0, hx144_1, hx144_2, hx144_3, hl144_3, hi144_3⟩ := at_T39 HR0.out ((rd_T39 l0 x4_2).f0) p144 q144; obtain rfl : ad139 = ad144 := (by injection e144); replace hx144_0 := (HB.out.cell (World.block_lt_of_cell? w _ hx144_0)).trans hx144_0; replace hx144_1 := (HB.out.cell (World.block_lt_of_cell? w _ hx144_1)).trans hx144_1; replace hx144_2 := (HB.out.cell (World.block_lt_of_cell? w _ hx144_2)).trans hx144_2; replace hx144_3 := (HB.out.cell (World.block_lt_of_cell? w _ hx144_3)).trans hx144_3; have HR144_3 := Aside0.mk hi144_3; have HC144_3 := Aside0.mk hl144_3; clear hi144_3 hl144_3; replace p144 := eq_true p144; replace q144 := eq_true q144)); try go_wp2_with (first | (go_at_call 41; (with_reducible refine (spec_l1In.calls ((rd_T39 l0 x4_2).f0) 0 (wrap64 (x4_2 - 1)) true _ A24.out).mono ?_); rintro e w' ⟨rfl, ⟨nd, rfl⟩⟩; (try first | exact ⟨rfl, _, World.drewN_drewN _ _ _⟩ | exact ⟨rfl, _, Eq.trans (World.drewN_drewN _ _ _) (congrArg (World.drewN _) (Nat.add_assoc _ _ _))⟩); have p144 : 0 ≤ (((rd_T39 l0 x4_2).f0) : Int) := of_decide_eq_true dq30; have q144 : ((rd_T39 l0 x4_2).f0) < (l0.length : Int) := of_decide_eq_true dq30; obtain ⟨ad144, A144_3, c144_3, e144, hx144_0, hx144_1, hx144_2, hx144_3, hl144_3, hi144_3⟩ := at_T39 HR0.out ((rd_T39 l0 x4_2).f0) p144 q144; obtain rfl : ad139 = ad144 := (by injection e144); replace hx144_0 := (HB.out.cell (World.block_lt_of_cell? w _ hx144_0)).trans hx144_0; replace hx144_1 := (HB.out.cell (World.block_lt_of_cell? w _ hx144_1)).trans hx144_1; replace hx144_2 := (HB.out.cell (World.block_lt_of_cell? w _ hx144_2)).trans hx144_2; replace hx144_3 := (HB.out.cell (World.block_lt_of_cell? w _ hx144_3)).trans hx144_3; have HR144_3 := Aside0.mk hi144_3; have HC144_3 := Aside0.mk hl144_3; clear hi144_3 hl144_3; replace p144 := eq_true p144; replace q144 := eq_true q144)))
      go_ret
      exact ⟨dq33, dq96⟩
     rw [if_neg c28] at H
     have c28b0 := beq_eq_false_iff_ne.mpr c28
     have c28b1 := bne_iff_ne.mpr c28
     have H' := Aside0.mk H
     clear H
     obtain ⟨⟨hcz30_0, hcz30_1, hcz30_2, hcz30_3⟩, hfz30_0, hfz30_1, hfz30_2, hfz30_3⟩ := blkC4 BK140.out
     go_wp2_with (first | (go_at_call 41; (with_reducible refine (spec_l1In.calls ((rd_T39 l0 x4_2).f0) 0 (wrap64 (x4_2 - 1)) true _ A24.out).mono ?_); rintro e w' ⟨rfl, ⟨nd, rfl⟩⟩; (try first | exact ⟨rfl, _, World.drewN_drewN _ _ _⟩ | exact ⟨rfl, _, Eq.trans (World.drewN_drewN _ _ _) (congrArg (World.drewN _) (Nat.add_assoc _ _ _))⟩); have p144 : 0 ≤ (((rd_T39 l0 x4_2).f0) : Int) := of_decide_eq_true dq30; have q144 : ((rd_T39 l0 x4_2).f0) < (l0.length : Int) := of_decide_eq_true dq30; obtain ⟨ad144, A144_3, c144_3, e144, hx144_0, hx144_1, hx144_2, hx144_3, hl144_3, hi144_3⟩ := at_T39 HR0.out ((rd_T39 l0 x4_2).f0) p144 q144; obtain rfl : ad139 = ad144 := (by injection e144); replace hx144_0 := (HB.out.cell (World.block_lt_of_cell? w _ hx144_0)).trans hx144_0; replace hx144_1 := (HB.out.cell (World.block_lt_of_cell? w _ hx144_1)).trans hx144_1; replace hx144_2 := (HB.out.cell (World.block_lt_of_cell? w _ hx144_2)).trans hx144_2; replace hx144_3 := (HB.out.cell (World.block_lt_of_cell? w _ hx144_3)).trans hx144_3; have HR144_3 := Aside0.mk hi144_3; have HC144_3 := Aside0.mk hl144_3; clear hi144_3 hl144_3; replace p144 := eq_true p144; replace q144 := eq_true q144))
     repeat (go_quiet (first | (go_at_call 41; (with_reducible refine (spec_l1In.calls ((rd_T39 l0 x4_2).f0) 0 (wrap64 (x4_2 - 1)) true _ A24.out).mono ?_); rintro e w' ⟨rfl, ⟨nd, rfl⟩⟩; (try first | exact ⟨rfl, _, World.drewN_drewN _ _ _⟩ | exact ⟨rfl, _, Eq.trans (World.drewN_drewN _ _ _) (congrArg (World.drewN _) (Nat.add_assoc _ _ _))⟩); have p144 : 0 ≤ (((rd_T39 l0 x4_2).f0) : Int) := of_decide_eq_true dq30; have q144 : ((rd_T39 l0 x4_2).f0) < (l0.length : Int) := of_decide_eq_true dq30; obtain ⟨ad144, A144_3, c144_3, e144, hx144_0, hx144_1, hx144_2, hx144_3, hl144_3, hi144_3⟩ := at_T39 HR0.out ((rd_T39 l0 x4_2).f0) p144 q144; obtain rfl : ad139 = ad144 := (by injection e144); replace hx144_0 := (HB.out.cell (World.block_lt_of_cell? w _ hx144_0)).trans hx144_0; replace hx144_1 := (HB.out.cell (World.block_lt_of_cell? w _ hx144_1)).trans hx144_1; replace hx144_2 := (HB.out.cell (World.block_lt_of_cell? w _ hx144_2)).trans hx144_2; replace hx144_3 := (HB.out.cell (World.block_lt_of_cell? w _ hx144_3)).trans hx144_3; have HR144_3 := Aside0.mk hi144_3; have HC144_3 := Aside0.mk hl144_3; clear hi144_3 hl144_3; replace p144 := eq_true p144; replace q144 := eq_true q144)); try go_wp2_with (first | (go_at_call 41; (with_reducible refine (spec_l1In.calls ((rd_T39 l0 x4_2).f0) 0 (wrap64 (x4_2 - 1)) true _ A24.out).mono ?_); rintro e w' ⟨rfl, ⟨nd, rfl⟩⟩; (try first | exact ⟨rfl, _, World.drewN_drewN _ _ _⟩ | exact ⟨rfl, _, Eq.trans (World.drewN_drewN _ _ _) (congrArg (World.drewN _) (Nat.add_assoc _ _ _))⟩); have p144 : 0 ≤ (((rd_T39 l0 x4_2).f0) : Int) := of_decide_eq_true dq30; have q144 : ((rd_T39 l0 x4_2).f0) < (l0.length : Int) := of_decide_eq_true dq30; obtain ⟨ad144, A144_3, c144_3, e144, hx144_0, hx144_1, hx144_2, hx144_3, hl144_3, hi144_3⟩ := at_T39 HR0.out ((rd_T39 l0 x4_2).f0) p144 q144; obtain rfl : ad139 = ad144 := (by injection e144); replace hx144_0 := (HB.out.cell (World.block_lt_of_cell? w _ hx144_0)).trans hx144_0; replace hx144_1 := (HB.out.cell (World.block_lt_of_cell? w _ hx144_1)).trans hx144_1; replace hx144_2 := (HB.out.cell (World.block_lt_of_cell? w _ hx144_2)).trans hx144_2; replace hx144_3 := (HB.out.cell (World.block_lt_of_cell? w _ hx144_3)).trans hx144_3; have HR144_3 := Aside0.mk hi144_3; have HC144_3 := Aside0.mk hl144_3; clear hi144_3 hl144_3; replace p144 := eq_true p144; replace q144 := eq_true q144)))
     go_meet
     case rel => exact ⟨_, H', ⟨by have := HJ1.out; have := HK2.out; have := HJ6.out; first | omega | exact Nat.le_refl _⟩, ⟨dq97⟩, ⟨dq96⟩⟩
    clear HC17
    try clear c1
    try clear p1
    try clear q1
    try clear hx1
    try clear c2
    try clear p2
    try clear c3
    try clear c3b0
    try clear c3b1
    try clear c4
    try clear c5
    try clear c5b0
    try clear c6
    try clear c6b0
    try clear p6
    try clear c10
    try clear c10b0
    try clear c11
    try clear c11b0
    try clear c12
    try clear c12b0
    try clear c13
    try clear p13
    try clear q13
    try clear hx13
    try clear c14
    try clear p14
    try clear q14
    try clear hx14
    try clear c16
    try clear c16b0
    try clear c18
    try clear c18b0
    try clear c18b1
    try clear c19
    try clear c19b0
    try clear c19b1
    try clear c20
    try clear c20b0
    try clear c20b1
    try clear c23
    try clear c25
    try clear c26
    try clear c26b0
    try clear c27
    try clear c27b0
    try clear c28
    try clear c28b0
    try clear c28b1
    try clear hcz13_0
    try clear hcz13_1
    try clear hcz13_2
    try clear hcz13_3
    try clear hcz14_0
    try clear hcz14_1
    try clear hcz14_2
    try clear hcz14_3
    try clear hcz15_0
    try clear hcz15_1
    try clear hcz15_2
    try clear hcz15_3
    try clear hcz21_0
    try clear hcz21_1
    try clear hcz21_2
    try clear hcz21_3
    try clear hcz22_0
    try clear hcz22_1
    try clear hcz22_2
    try clear hcz22_3
    try clear hcz23_0
    try clear hcz23_1
    try clear hcz23_2
    try clear hcz23_3
    try clear hcz29_0
    try clear hcz29_1
    try clear hcz29_2
    try clear hcz29_3
    try clear hcz30_0
    try clear hcz30_1
    try clear hcz30_2
    try clear hcz30_3
    try clear hcz31_0
    try clear hcz31_1
    try clear hcz31_2
    try clear hcz31_3
    try clear hcz9_0
    try clear hcz9_1
    try clear hcz9_2
    try clear hcz9_3
    try clear hfz13_0
    try clear hfz13_1
    try clear hfz13_2
    try clear hfz13_3
    try clear hfz14_0
    try clear hfz14_1
    try clear hfz14_2
    try clear hfz14_3
    try clear hfz15_0
    try clear hfz15_1
    try clear hfz15_2
    try clear hfz15_3
    try clear hfz21_0
    try clear hfz21_1
    try clear hfz21_2
    try clear hfz21_3
    try clear hfz22_0
    try clear hfz22_1
    try clear hfz22_2
    try clear hfz22_3
    try clear hfz23_0
    try clear hfz23_1
    try clear hfz23_2
    try clear hfz23_3
    try clear hfz29_0
    try clear hfz29_1
    try clear hfz29_2
    try clear hfz29_3
    try clear hfz30_0
    try clear hfz30_1
    try clear hfz30_2
    try clear hfz30_3
    try clear hfz31_0
    try clear hfz31_1
    try clear hfz31_2
    try clear hfz31_3
    try clear hfz9_0
    try clear hfz9_1
    try clear hfz9_2
    try clear hfz9_3
    try clear hx139_0
    try clear hx139_1
    try clear hx139_2
    try clear hx139_3
    try clear hx141_0
    try clear hx141_1
    try clear hx142_0
    try clear hx142_1
    try clear hx144_0
    try clear hx144_1
    try clear hx144_2
    try clear hx144_3
    try clear p1
    try clear p13
    try clear p139
    try clear p14
    try clear p141
    try clear p142
    try clear p144
    try clear p2
    try clear p6
    try clear q1
    try clear q13
    try clear q139
    try clear q14
    try clear q141
    try clear q142
    try clear q144
    obtain ⟨kq, HA, HJ16, BK140, HB⟩ := hcut
    cases kq with
    | zero => exact absurd HA.out (by simp [spec_DocOk.j4])
    | succ kj16 =>
     have H := HA.out
     clear HA
     simp only [spec_DocOk.j4] at H
     have HC32 := Aside0.mk H
     clear H
     go_upto_if 91 with (fail)
     repeat (go_quiet (fail); go_upto_if 91 with (fail))
     go_cut [] (fun wc => ∃ (kq : Nat), Aside0 (spec_DocOk.j6 kq l0 x3_6 x4_2 ((rd_T39 l0 x4_2).f0) ((rd_T39 l0 x4_2).f1) ((rd_T39 l0 x4_2).f2) ((rd_T39 l0 x4_2).f3) = some r) ∧ Aside0 (kq ≤ kj16) ∧ Aside0 (wc.heap[gb140]? = some (.cells #[.int .i64 ((rd_T39 l0 x4_2).f0), .string ((rd_T39 l0 x4_2).f1), .string ((rd_T39 l0 x4_2).f2), (.slice A139_3 ((rd_T39 l0 x4_2).f3).length c139_3)] 39 (0, 0))) ∧ Aside0 (Below w.heap.size w wc))
     case first =>
      have H := HC32.out
      clear HC32
      by_cases c33 : x4_2 > 0
      rotate_left
      ·rw [if_neg c33] at H
       have c33b0 : decide (0 < x4_2) = false := decide_eq_false c33
       clear c33
       (first | rw [c33b0] | (simp only [i64_w, i32_w]; rw [c33b0]) | skip)
       have H' := Aside0.mk H
       clear H
       go_wp2
       repeat (go_quiet (fail); try go_wp2)
       go_meet
       case rel => exact ⟨_, H', ⟨by have := HJ1.out; have := HK2.out; have := HJ6.out; have := HJ16.out; first | omega | exact Nat.le_refl _⟩, ⟨dq97⟩, ⟨dq96⟩⟩
      rw [if_pos c33] at H
      have c33b0 : decide (0 < x4_2) = true := decide_eq_true c33
      clear c33
      (first | rw [c33b0] | (simp only [i64_w, i32_w]; rw [c33b0]) | skip)
      have H' := Aside0.mk H
      clear H
      go_wp2
      repeat (go_quiet (fail); try go_wp2)
      go_loopg [7] kj16 (fun kq v7 w' => ∃ (x7_5 : Int), v7 = .int .i64 x7_5 ∧ Aside0 (spec_DocOk.l2 kq l0 x3_6 x4_2 x7_5 ((rd_T39 l0 x4_2).f0) ((rd_T39 l0 x4_2).f1) ((rd_T39 l0 x4_2).f2) ((rd_T39 l0 x4_2).f3) = some r) ∧ Aside0 (kq ≤ kj16) ∧ Aside0 (w'.heap[gb140]? = some (.cells #[.int .i64 ((rd_T39 l0 x4_2).f0), .string ((rd_T39 l0 x4_2).f1), .string ((rd_T39 l0 x4_2).f2), (.slice A139_3 ((rd_T39 l0 x4_2).f3).length c139_3)] 39 (0, 0))) ∧ Aside0 (Below w.heap.size w w'))
      case atStart => exact ⟨(wrap64 (x4_2 - 1)), dq26, H', ⟨Nat.le_refl _⟩, ⟨dq97⟩, ⟨dq96⟩⟩
      clear H'
      try clear c1
      try clear p1
      try clear q1
      try clear hx1
      try clear c2
      try clear p2
      try clear c3
      try clear c3b0
      try clear c3b1
      try clear c4
      try clear c5
      try clear c5b0
      try clear c6
      try clear c6b0
      try clear p6
      try clear c10
      try clear c10b0
      try clear c11
      try clear c11b0
      try clear c12
      try clear c12b0
      try clear c13
      try clear p13
      try clear q13
      try clear hx13
      try clear c14
      try clear p14
      try clear q14
      try clear hx14
      try clear c16
      try clear c16b0
      try clear c18
      try clear c18b0
      try clear c18b1
      try clear c19
      try clear c19b0
      try clear c19b1
      try clear c20
      try clear c20b0
      try clear c20b1
      try clear c23
      try clear c25
      try clear c26
      try clear c26b0
      try clear c27
      try clear c27b0
      try clear c28
      try clear c28b0
      try clear c28b1
      try clear c33
      try clear c33b0
      try clear hcz13_0
      try clear hcz13_1
      try clear hcz13_2
      try clear hcz13_3
      try clear hcz14_0
      try clear hcz14_1
      try clear hcz14_2
      try clear hcz14_3
      try clear hcz15_0
      try clear hcz15_1
      try clear hcz15_2
      try clear hcz15_3
      try clear hcz21_0
      try clear hcz21_1
      try clear hcz21_2
      try clear hcz21_3
      try clear hcz22_0
      try clear hcz22_1
      try clear hcz22_2
      try clear hcz22_3
      try clear hcz23_0
      try clear hcz23_1
      try clear hcz23_2
      try clear hcz23_3
      try clear hcz29_0
      try clear hcz29_1
      try clear hcz29_2
      try clear hcz29_3
      try clear hcz30_0
      try clear hcz30_1
      try clear hcz30_2
      try clear hcz30_3
      try clear hcz31_0
      try clear hcz31_1
      try clear hcz31_2
      try clear hcz31_3
      try clear hcz9_0
      try clear hcz9_1
      try clear hcz9_2
      try clear hcz9_3
      try clear hfz13_0
      try clear hfz13_1
      try clear hfz13_2
      try clear hfz13_3
      try clear hfz14_0
      try clear hfz14_1
      try clear hfz14_2
      try clear hfz14_3
      try clear hfz15_0
      try clear hfz15_1
      try clear hfz15_2
      try clear hfz15_3
      try clear hfz21_0
      try clear hfz21_1
      try clear hfz21_2
      try clear hfz21_3
      try clear hfz22_0
      try clear hfz22_1
      try clear hfz22_2
      try clear hfz22_3
      try clear hfz23_0
      try clear hfz23_1
      try clear hfz23_2
      try clear hfz23_3
      try clear hfz29_0
      try clear hfz29_1
      try clear hfz29_2
      try clear hfz29_3
      try clear hfz30_0
      try clear hfz30_1
      try clear hfz30_2
      try clear hfz30_3
      try clear hfz31_0
      try clear hfz31_1
      try clear hfz31_2
      try clear hfz31_3
      try clear hfz9_0
      try clear hfz9_1
      try clear hfz9_2
      try clear hfz9_3
      try clear hx139_0
      try clear hx139_1
      try clear hx139_2
      try clear hx139_3
      try clear hx141_0
      try clear hx141_1
      try clear hx142_0
      try clear hx142_1
      try clear hx144_0
      try clear hx144_1
      try clear hx144_2
      try clear hx144_3
      try clear p1
      try clear p13
      try clear p139
      try clear p14
      try clear p141
      try clear p142
      try clear p144
      try clear p2
      try clear p6
      try clear q1
      try clear q13
      try clear q139
      try clear q14
      try clear q141
      try clear q142
      try clear q144
      obtain ⟨x7_5, rfl, HA, HK5, BK140, HB⟩ := hrel
      cases gk with
      | zero => exact absurd HA.out (by simp [spec_DocOk.l2])
      | succ k5 =>
       have H := HA.out
       clear HA
       simp only [spec_DocOk.l2] at H
       by_cases c34 : x7_5 ≥ 0
       rotate_left
       ·rw [if_neg c34] at H
        have c34b0 : decide (0 ≤ x7_5) = false := decide_eq_false c34
        clear c34
        by_cases c42 : x7_5 < 0
        ·rw [if_pos c42] at H
         have c42b0 := decide_eq_true c42
         clear c42
         obtain rfl := Option.some.inj H
         go_wp2
         repeat (go_quiet (fail); try go_wp2)
         go_ret
         exact ⟨dq33, dq96⟩
        rw [if_neg c42] at H
        have c42b0 := decide_eq_false c42
        clear c42
        have H' := Aside0.mk H
        clear H
        go_wp2
        repeat (go_quiet (fail); try go_wp2)
        go_meet
        case rel => exact ⟨_, H', ⟨by have := HJ1.out; have := HK2.out; have := HJ6.out; have := HJ16.out; have := HK5.out; first | omega | exact Nat.le_refl _⟩, ⟨dq97⟩, ⟨dq96⟩⟩
       rw [if_pos c34] at H
       have c34b0 : decide (0 ≤ x7_5) = true := decide_eq_true c34
       clear c34
       by_cases c35 : x7_5 = ((rd_T39 l0 x4_2).f0)
       ·rw [if_pos c35] at H
        have c35b0 := beq_iff_eq.mpr c35
        have c35b1 := bne_eq_false_iff_eq.mpr c35
        clear c35
        by_cases c36 : x7_5 < 0
        ·rw [if_pos c36] at H
         have c36b0 := decide_eq_true c36
         clear c36
         obtain rfl := Option.some.inj H
         obtain ⟨⟨hcz37_0, hcz37_1, hcz37_2, hcz37_3⟩, hfz37_0, hfz37_1, hfz37_2, hfz37_3⟩ := blkC4 BK140.out
         go_wp2
         repeat (go_quiet (fail); try go_wp2)
         go_ret
         exact ⟨dq33, dq96⟩
        rw [if_neg c36] at H
        have c36b0 := decide_eq_false c36
        clear c36
        have H' := Aside0.mk H
        clear H
        obtain ⟨⟨hcz38_0, hcz38_1, hcz38_2, hcz38_3⟩, hfz38_0, hfz38_1, hfz38_2, hfz38_3⟩ := blkC4 BK140.out
        go_wp2
        repeat (go_quiet (fail); try go_wp2)
        go_meet
        case rel => exact ⟨_, H', ⟨by have := HJ1.out; have := HK2.out; have := HJ6.out; have := HJ16.out; have := HK5.out; first | omega | exact Nat.le_refl _⟩, ⟨dq97⟩, ⟨dq96⟩⟩
       rw [if_neg c35] at H
       have c35b0 := beq_eq_false_iff_ne.mpr c35
       have c35b1 := bne_iff_ne.mpr c35
       by_cases c39 : 0 ≤ x7_5
       rotate_left
       ·rw [if_neg c39] at H
        exact absurd H dq32
       rw [if_pos c39] at H
       have c39b0 := decide_eq_true c39
       clear c39
       by_cases c40 : x7_5 < (l0.length : Int)
       rotate_left
       ·rw [if_neg c40] at H
        exact absurd H dq32
       rw [if_pos c40] at H
       have c40b0 := decide_eq_true c40
       clear c40
       have H' := Aside0.mk H
       clear H
       obtain ⟨⟨hcz41_0, hcz41_1, hcz41_2, hcz41_3⟩, hfz41_0, hfz41_1, hfz41_2, hfz41_3⟩ := blkC4 BK140.out
       have p145 : 0 ≤ (x7_5 : Int) := of_decide_eq_true dq30
       have q145 : x7_5 < (l0.length : Int) := of_decide_eq_true dq30
       obtain ⟨ad145, A145_3, c145_3, e145, hx145_0, hx145_1, hx145_2, hx145_3, hl145_3, hi145_3⟩ := at_T39 HR0.out x7_5 p145 q145
       obtain rfl : ad139 = ad145 := (by injection e145)
       replace hx145_0 := (HB.out.cell (World.block_lt_of_cell? w _ hx145_0)).trans hx145_0
       replace hx145_1 := (HB.out.cell (World.block_lt_of_cell? w _ hx145_1)).trans hx145_1
       replace hx145_2 := (HB.out.cell (World.block_lt_of_cell? w _ hx145_2)).trans hx145_2
       replace hx145_3 := (HB.out.cell (World.block_lt_of_cell? w _ hx145_3)).trans hx145_3
       have HR145_3 := Aside0.mk hi145_3
       have HC145_3 := Aside0.mk hl145_3
       clear hi145_3 hl145_3
       replace p145 := eq_true p145
       replace q145 := eq_true q145
       go_wp2
       repeat (go_quiet (fail); try go_wp2)
       go_roundg k5
       case measure => have := HJ1.out; have := HK2.out; have := HJ6.out; have := HJ16.out; have := HK5.out; omega
       case rel => exact ⟨((rd_T39 l0 x7_5).f0), dq26, H', ⟨by have := HJ1.out; have := HK2.out; have := HJ6.out; have := HJ16.out; have := HK5.out; omega⟩, ⟨dq97⟩, ⟨dq96⟩⟩
     clear HC32
     try clear c1
     try clear p1
     try clear q1
     try clear hx1
     try clear c2
     try clear p2
     try clear c3
     try clear c3b0
     try clear c3b1
     try clear c4
     try clear c5
     try clear c5b0
     try clear c6
     try clear c6b0
     try clear p6
     try clear c10
     try clear c10b0
     try clear c11
     try clear c11b0
     try clear c12
     try clear c12b0
     try clear c13
     try clear p13
     try clear q13
     try clear hx13
     try clear c14
     try clear p14
     try clear q14
     try clear hx14
     try clear c16
     try clear c16b0
     try clear c18
     try clear c18b0
     try clear c18b1
     try clear c19
     try clear c19b0
     try clear c19b1
     try clear c20
     try clear c20b0
     try clear c20b1
     try clear c23
     try clear c25
     try clear c26
     try clear c26b0
     try clear c27
     try clear c27b0
     try clear c28
     try clear c28b0
     try clear c28b1
     try clear c33
     try clear c33b0
     try clear c34
     try clear c34b0
     try clear c35
     try clear c35b0
     try clear c35b1
     try clear c36
     try clear c36b0
     try clear c39
     try clear c39b0
     try clear c40
     try clear c40b0
     try clear c42
     try clear c42b0
     try clear hcz13_0
     try clear hcz13_1
     try clear hcz13_2
     try clear hcz13_3
     try clear hcz14_0
     try clear hcz14_1
     try clear hcz14_2
     try clear hcz14_3
     try clear hcz15_0
     try clear hcz15_1
     try clear hcz15_2
     try clear hcz15_3
     try clear hcz21_0
     try clear hcz21_1
     try clear hcz21_2
     try clear hcz21_3
     try clear hcz22_0
     try clear hcz22_1
     try clear hcz22_2
     try clear hcz22_3
     try clear hcz23_0
     try clear hcz23_1
     try clear hcz23_2
     try clear hcz23_3
     try clear hcz29_0
     try clear hcz29_1
     try clear hcz29_2
     try clear hcz29_3
     try clear hcz30_0
     try clear hcz30_1
     try clear hcz30_2
     try clear hcz30_3
     try clear hcz31_0
     try clear hcz31_1
     try clear hcz31_2
     try clear hcz31_3
     try clear hcz37_0
     try clear hcz37_1
     try clear hcz37_2
     try clear hcz37_3
     try clear hcz38_0
     try clear hcz38_1
     try clear hcz38_2
     try clear hcz38_3
     try clear hcz41_0
     try clear hcz41_1
     try clear hcz41_2
     try clear hcz41_3
     try clear hcz9_0
     try clear hcz9_1
     try clear hcz9_2
     try clear hcz9_3
     try clear hfz13_0
     try clear hfz13_1
     try clear hfz13_2
     try clear hfz13_3
     try clear hfz14_0
     try clear hfz14_1
     try clear hfz14_2
     try clear hfz14_3
     try clear hfz15_0
     try clear hfz15_1
     try clear hfz15_2
     try clear hfz15_3
     try clear hfz21_0
     try clear hfz21_1
     try clear hfz21_2
     try clear hfz21_3
     try clear hfz22_0
     try clear hfz22_1
     try clear hfz22_2
     try clear hfz22_3
     try clear hfz23_0
     try clear hfz23_1
     try clear hfz23_2
     try clear hfz23_3
     try clear hfz29_0
     try clear hfz29_1
     try clear hfz29_2
     try clear hfz29_3
     try clear hfz30_0
     try clear hfz30_1
     try clear hfz30_2
     try clear hfz30_3
     try clear hfz31_0
     try clear hfz31_1
     try clear hfz31_2
     try clear hfz31_3
     try clear hfz37_0
     try clear hfz37_1
     try clear hfz37_2
     try clear hfz37_3
     try clear hfz38_0
     try clear hfz38_1
     try clear hfz38_2
     try clear hfz38_3
     try clear hfz41_0
     try clear hfz41_1
     try clear hfz41_2
     try clear hfz41_3
     try clear hfz9_0
     try clear hfz9_1
     try clear hfz9_2
     try clear hfz9_3
     try clear hx139_0
     try clear hx139_1
     try clear hx139_2
     try clear hx139_3
     try clear hx141_0
     try clear hx141_1
     try clear hx142_0
     try clear hx142_1
     try clear hx144_0
     try clear hx144_1
     try clear hx144_2
     try clear hx144_3
     try clear hx145_0
     try clear hx145_1
     try clear hx145_2
     try clear hx145_3
     try clear p1
     try clear p13
     try clear p139
     try clear p14
     try clear p141
     try clear p142
     try clear p144
     try clear p145
     try clear p2
     try clear p6
     try clear q1
     try clear q13
     try clear q139
     try clear q14
     try clear q141
     try clear q142
     try clear q144
     try clear q145
     obtain ⟨kq, HA, HJ31, BK140, HB⟩ := hcut
     cases kq with
     | zero => exact absurd HA.out (by simp [spec_DocOk.j6])
     | succ kj31 =>
      have H := HA.out
      clear HA
      simp only [spec_DocOk.j6] at H
      replace H := Option.bind_eq_some_iff.mp H
      obtain ⟨t146, A430, H⟩ := H
      replace H : (if t146 ≥ 20 then (some false) else (if ((rd_T39 l0 x4_2).f1).toList = ([] : List UInt8) then (if ((rd_T39 l0 x4_2).f2).toList = ([] : List UInt8) then (spec_DocOk.j7 kj31 l0 x3_6 x4_2 true ((rd_T39 l0 x4_2).f0) ((rd_T39 l0 x4_2).f1) ((rd_T39 l0 x4_2).f2) ((rd_T39 l0 x4_2).f3)) else (if (((rd_T39 l0 x4_2).f3).length : Int) > 0 then (spec_DocOk.j7 kj31 l0 x3_6 x4_2 true ((rd_T39 l0 x4_2).f0) ((rd_T39 l0 x4_2).f1) ((rd_T39 l0 x4_2).f2) ((rd_T39 l0 x4_2).f3)) else ((spec_l1Text.f kj31 ((rd_T39 l0 x4_2).f2)).bind fun t147 => (spec_DocOk.j7 kj31 l0 x3_6 x4_2 (!t147) ((rd_T39 l0 x4_2).f0) ((rd_T39 l0 x4_2).f1) ((rd_T39 l0 x4_2).f2) ((rd_T39 l0 x4_2).f3))))) else (if ((rd_T39 l0 x4_2).f2).toList = ([] : List UInt8) then ((spec_l1Qual.f kj31 ((rd_T39 l0 x4_2).f1)).bind fun t150 => (if t150 = true then ((spec_l2Attrs.f kj31 ((rd_T39 l0 x4_2).f3)).bind fun t151 => (if t151 = true then (spec_DocOk.l0 kj31 l0 x3_6 (wrap64 (x4_2 + 1))) else (some false))) else (some false))) else (some false)))) = some r := H
      have A43 := Aside0.mk A430
      clear A430
      by_cases c44 : t146 ≥ 20
      ·rw [if_pos c44] at H
       have c44b0 : decide (20 ≤ t146) = true := decide_eq_true c44
       clear c44
       obtain rfl := Option.some.inj H
       go_wp2_with (first | (go_at_call 57; (with_reducible refine (spec_l2Deep.calls kj31 _ _ l0 x4_2 t146 _ ?side1 ?side2 A43.out).mono ?_); (case side1 => exact dq16); (case side2 => exact dq14); rintro e w' ⟨rfl, ⟨nd, rfl⟩⟩; (try first | exact ⟨rfl, _, World.drewN_drewN _ _ _⟩ | exact ⟨rfl, _, Eq.trans (World.drewN_drewN _ _ _) (congrArg (World.drewN _) (Nat.add_assoc _ _ _))⟩)))
       repeat (go_quiet (first | (go_at_call 57; (with_reducible refine (spec_l2Deep.calls kj31 _ _ l0 x4_2 t146 _ ?side1 ?side2 A43.out).mono ?_); (case side1 => exact dq16); (case side2 => exact dq14); rintro e w' ⟨rfl, ⟨nd, rfl⟩⟩; (try first | exact ⟨rfl, _, World.drewN_drewN _ _ _⟩ | exact ⟨rfl, _, Eq.trans (World.drewN_drewN _ _ _) (congrArg (World.drewN _) (Nat.add_assoc _ _ _))⟩))); try go_wp2_with (first | (go_at_call 57; (with_reducible refine (spec_l2Deep.calls kj31 _ _ l0 x4_2 t146 _ ?side1 ?side2 A43.out).mono ?_); (case side1 => exact dq16); (case side2 => exact dq14); rintro e w' ⟨rfl, ⟨nd, rfl⟩⟩; (try first | exact ⟨rfl, _, World.drewN_drewN _ _ _⟩ | exact ⟨rfl, _, Eq.trans (World.drewN_drewN _ _ _) (congrArg (World.drewN _) (Nat.add_assoc _ _ _))⟩))))
       go_ret
       exact ⟨dq33, dq96⟩
      rw [if_neg c44] at H
      have c44b0 : decide (20 ≤ t146) = false := decide_eq_false c44
      clear c44
      by_cases c45 : ((rd_T39 l0 x4_2).f1).toList = ([] : List UInt8)
      rotate_left
      ·rw [if_neg c45] at H
       have c45b0 := beq_eq_false_iff_ne.mpr c45
       have c45b1 := bne_iff_ne.mpr c45
       by_cases c63 : ((rd_T39 l0 x4_2).f2).toList = ([] : List UInt8)
       rotate_left
       ·rw [if_neg c63] at H
        have c63b0 := beq_eq_false_iff_ne.mpr c63
        have c63b1 := bne_iff_ne.mpr c63
        obtain rfl := Option.some.inj H
        go_wp2_with (first | (go_at_call 57; (with_reducible refine (spec_l2Deep.calls kj31 _ _ l0 x4_2 t146 _ ?side1 ?side2 A43.out).mono ?_); (case side1 => exact dq16); (case side2 => exact dq14); rintro e w' ⟨rfl, ⟨nd, rfl⟩⟩; (try first | exact ⟨rfl, _, World.drewN_drewN _ _ _⟩ | exact ⟨rfl, _, Eq.trans (World.drewN_drewN _ _ _) (congrArg (World.drewN _) (Nat.add_assoc _ _ _))⟩); obtain ⟨⟨hcz73_0, hcz73_1, hcz73_2, hcz73_3⟩, hfz73_0, hfz73_1, hfz73_2, hfz73_3⟩ := blkC4 BK140.out))
        repeat (go_quiet (first | (go_at_call 57; (with_reducible refine (spec_l2Deep.calls kj31 _ _ l0 x4_2 t146 _ ?side1 ?side2 A43.out).mono ?_); (case side1 => exact dq16); (case side2 => exact dq14); rintro e w' ⟨rfl, ⟨nd, rfl⟩⟩; (try first | exact ⟨rfl, _, World.drewN_drewN _ _ _⟩ | exact ⟨rfl, _, Eq.trans (World.drewN_drewN _ _ _) (congrArg (World.drewN _) (Nat.add_assoc _ _ _))⟩); obtain ⟨⟨hcz73_0, hcz73_1, hcz73_2, hcz73_3⟩, hfz73_0, hfz73_1, hfz73_2, hfz73_3⟩ := blkC4 BK140.out)); try go_wp2_with (first | (go_at_call 57; (with_reducible refine (spec_l2Deep.calls kj31 _ _ l0 x4_2 t146 _ ?side1 ?side2 A43.out).mono ?_); (case side1 => exact dq16); (case side2 => exact dq14); rintro e w' ⟨rfl, ⟨nd, rfl⟩⟩; (try first | exact ⟨rfl, _, World.drewN_drewN _ _ _⟩ | exact ⟨rfl, _, Eq.trans (World.drewN_drewN _ _ _) (congrArg (World.drewN _) (Nat.add_assoc _ _ _))⟩); obtain ⟨⟨hcz73_0, hcz73_1, hcz73_2, hcz73_3⟩, hfz73_0, hfz73_1, hfz73_2, hfz73_3⟩ := blkC4 BK140.out)))
        go_ret
        exact ⟨dq33, dq96⟩
       rw [if_pos c63] at H
       have c63b0 := beq_iff_eq.mpr c63
       have c63b1 := bne_eq_false_iff_eq.mpr c63
       clear c63
       replace H := Option.bind_eq_some_iff.mp H
       obtain ⟨t150, A640, H⟩ := H
       replace H : (if t150 = true then ((spec_l2Attrs.f kj31 ((rd_T39 l0 x4_2).f3)).bind fun t151 => (if t151 = true then (spec_DocOk.l0 kj31 l0 x3_6 (wrap64 (x4_2 + 1))) else (some false))) else (some false)) = some r := H
       have A64 := Aside0.mk A640
       clear A640
       by_cases c65 : t150 = true
       rotate_left
       ·replace c65 := Bool.eq_false_iff.mpr c65
        subst c65
        have H1 : (some false) = some r := by rw [if_neg (show ¬ (false = true) by decide)] at H; exact H
        clear H
        have H := H1
        clear H1
        obtain rfl := Option.some.inj H
        go_wp2_with (first | (go_at_call 57; (with_reducible refine (spec_l2Deep.calls kj31 _ _ l0 x4_2 t146 _ ?side1 ?side2 A43.out).mono ?_); (case side1 => exact dq16); (case side2 => exact dq14); rintro e w' ⟨rfl, ⟨nd, rfl⟩⟩; (try first | exact ⟨rfl, _, World.drewN_drewN _ _ _⟩ | exact ⟨rfl, _, Eq.trans (World.drewN_drewN _ _ _) (congrArg (World.drewN _) (Nat.add_assoc _ _ _))⟩); obtain ⟨⟨hcz72_0, hcz72_1, hcz72_2, hcz72_3⟩, hfz72_0, hfz72_1, hfz72_2, hfz72_3⟩ := blkC4 BK140.out) | (go_at_call 59; (with_reducible refine (spec_l1Qual.calls kj31 ((rd_T39 l0 x4_2).f1) false _ A64.out).mono ?_); rintro e w' ⟨rfl, ⟨nd, rfl⟩⟩; (try first | exact ⟨rfl, _, World.drewN_drewN _ _ _⟩ | exact ⟨rfl, _, Eq.trans (World.drewN_drewN _ _ _) (congrArg (World.drewN _) (Nat.add_assoc _ _ _))⟩)))
        repeat (go_quiet (first | (go_at_call 57; (with_reducible refine (spec_l2Deep.calls kj31 _ _ l0 x4_2 t146 _ ?side1 ?side2 A43.out).mono ?_); (case side1 => exact dq16); (case side2 => exact dq14); rintro e w' ⟨rfl, ⟨nd, rfl⟩⟩; (try first | exact ⟨rfl, _, World.drewN_drewN _ _ _⟩ | exact ⟨rfl, _, Eq.trans (World.drewN_drewN _ _ _) (congrArg (World.drewN _) (Nat.add_assoc _ _ _))⟩); obtain ⟨⟨hcz72_0, hcz72_1, hcz72_2, hcz72_3⟩, hfz72_0, hfz72_1, hfz72_2, hfz72_3⟩ := blkC4 BK140.out) | (go_at_call 59; (with_reducible refine (spec_l1Qual.calls kj31 ((rd_T39 l0 x4_2).f1) false _ A64.out).mono ?_); rintro e w' ⟨rfl, ⟨nd, rfl⟩⟩; (try first | exact ⟨rfl, _, World.drewN_drewN _ _ _⟩ | exact ⟨rfl, _, Eq.trans (World.drewN_drewN _ _ _) (congrArg (World.drewN _) (Nat.add_assoc _ _ _))⟩))); try go_wp2_with (first | (go_at_call 57; (with_reducible refine (spec_l2Deep.calls kj31 _ _ l0 x4_2 t146 _ ?side1 ?side2 A43.out).mono ?_); (case side1 => exact dq16); (case side2 => exact dq14); rintro e w' ⟨rfl, ⟨nd, rfl⟩⟩; (try first | exact ⟨rfl, _, World.drewN_drewN _ _ _⟩ | exact ⟨rfl, _, Eq.trans (World.drewN_drewN _ _ _) (congrArg (World.drewN _) (Nat.add_assoc _ _ _))⟩); obtain ⟨⟨hcz72_0, hcz72_1, hcz72_2, hcz72_3⟩, hfz72_0, hfz72_1, hfz72_2, hfz72_3⟩ := blkC4 BK140.out) | (go_at_call 59; (with_reducible refine (spec_l1Qual.calls kj31 ((rd_T39 l0 x4_2).f1) false _ A64.out).mono ?_); rintro e w' ⟨rfl, ⟨nd, rfl⟩⟩; (try first | exact ⟨rfl, _, World.drewN_drewN _ _ _⟩ | exact ⟨rfl, _, Eq.trans (World.drewN_drewN _ _ _) (congrArg (World.drewN _) (Nat.add_assoc _ _ _))⟩))))
        go_ret
        exact ⟨dq33, dq96⟩
       subst c65
       have H1 : ((spec_l2Attrs.f kj31 ((rd_T39 l0 x4_2).f3)).bind fun t151 => (if t151 = true then (spec_DocOk.l0 kj31 l0 x3_6 (wrap64 (x4_2 + 1))) else (some false))) = some r := by rw [if_pos rfl] at H; exact H
       clear H
       have H := H1
       clear H1
       replace H := Option.bind_eq_some_iff.mp H
       obtain ⟨t151, A660, H⟩ := H
       replace H : (if t151 = true then (spec_DocOk.l0 kj31 l0 x3_6 (wrap64 (x4_2 + 1))) else (some false)) = some r := H
       have A66 := Aside0.mk A660
       clear A660
       by_cases c67 : t151 = true
       rotate_left
       ·replace c67 := Bool.eq_false_iff.mpr c67
        subst c67
        have H1 : (some false) = some r := by rw [if_neg (show ¬ (false = true) by decide)] at H; exact H
        clear H
        have H := H1
        clear H1
        obtain rfl := Option.some.inj H
        go_wp2_with (first | (go_at_call 57; (with_reducible refine (spec_l2Deep.calls kj31 _ _ l0 x4_2 t146 _ ?side1 ?side2 A43.out).mono ?_); (case side1 => exact dq16); (case side2 => exact dq14); rintro e w' ⟨rfl, ⟨nd, rfl⟩⟩; (try first | exact ⟨rfl, _, World.drewN_drewN _ _ _⟩ | exact ⟨rfl, _, Eq.trans (World.drewN_drewN _ _ _) (congrArg (World.drewN _) (Nat.add_assoc _ _ _))⟩); obtain ⟨⟨hcz70_0, hcz70_1, hcz70_2, hcz70_3⟩, hfz70_0, hfz70_1, hfz70_2, hfz70_3⟩ := blkC4 BK140.out) | (go_at_call 59; (with_reducible refine (spec_l1Qual.calls kj31 ((rd_T39 l0 x4_2).f1) true _ A64.out).mono ?_); rintro e w' ⟨rfl, ⟨nd, rfl⟩⟩; (try first | exact ⟨rfl, _, World.drewN_drewN _ _ _⟩ | exact ⟨rfl, _, Eq.trans (World.drewN_drewN _ _ _) (congrArg (World.drewN _) (Nat.add_assoc _ _ _))⟩)) | (go_at_call 60; (with_reducible refine (spec_l2Attrs.calls kj31 _ _ ((rd_T39 l0 x4_2).f3) false _ ?side1 ?side2 A66.out).mono ?_); (case side1 => repeat (first | exact (Kd.C_below HR139_3.out dq96) | (with_reducible refine Kd.C_alloc ?_ _) | (with_reducible refine Kd.C_drewN ?_ _) | (with_reducible refine Kd.C_drew ?_))); (case side2 => exact HC139_3.out); rintro e w71 ⟨rfl, hb⟩; have n0_ := Aside0.mk (blk_below (g := gb140) (o := .cells #[.int .i64 ((rd_T39 l0 x4_2).f0), .string ((rd_T39 l0 x4_2).f1), .string ((rd_T39 l0 x4_2).f2), .slice A139_3 ((rd_T39 l0 x4_2).f3).length c139_3] 39 (0, 0)) dq97 hb); have n1_ := Aside0.mk (below_step dq96 hb); clear BK140; clear HB; have BK140 := n0_; have HB := n1_; clear n0_ n1_; (try clear hb); (try clear hb2); (try clear hk); (try clear hi)))
        repeat (go_quiet (first | (go_at_call 57; (with_reducible refine (spec_l2Deep.calls kj31 _ _ l0 x4_2 t146 _ ?side1 ?side2 A43.out).mono ?_); (case side1 => exact dq16); (case side2 => exact dq14); rintro e w' ⟨rfl, ⟨nd, rfl⟩⟩; (try first | exact ⟨rfl, _, World.drewN_drewN _ _ _⟩ | exact ⟨rfl, _, Eq.trans (World.drewN_drewN _ _ _) (congrArg (World.drewN _) (Nat.add_assoc _ _ _))⟩); obtain ⟨⟨hcz70_0, hcz70_1, hcz70_2, hcz70_3⟩, hfz70_0, hfz70_1, hfz70_2, hfz70_3⟩ := blkC4 BK140.out) | (go_at_call 59; (with_reducible refine (spec_l1Qual.calls kj31 ((rd_T39 l0 x4_2).f1) true _ A64.out).mono ?_); rintro e w' ⟨rfl, ⟨nd, rfl⟩⟩; (try first | exact ⟨rfl, _, World.drewN_drewN _ _ _⟩ | exact ⟨rfl, _, Eq.trans (World.drewN_drewN _ _ _) (congrArg (World.drewN _) (Nat.add_assoc _ _ _))⟩)) | (go_at_call 60; (with_reducible refine (spec_l2Attrs.calls kj31 _ _ ((rd_T39 l0 x4_2).f3) false _ ?side1 ?side2 A66.out).mono ?_); (case side1 => repeat (first | exact (Kd.C_below HR139_3.out dq96) | (with_reducible refine Kd.C_alloc ?_ _) | (with_reducible refine Kd.C_drewN ?_ _) | (with_reducible refine Kd.C_drew ?_))); (case side2 => exact HC139_3.out); rintro e w71 ⟨rfl, hb⟩; have n0_ := Aside0.mk (blk_below (g := gb140) (o := .cells #[.int .i64 ((rd_T39 l0 x4_2).f0), .string ((rd_T39 l0 x4_2).f1), .string ((rd_T39 l0 x4_2).f2), .slice A139_3 ((rd_T39 l0 x4_2).f3).length c139_3] 39 (0, 0)) dq97 hb); have n1_ := Aside0.mk (below_step dq96 hb); clear BK140; clear HB; have BK140 := n0_; have HB := n1_; clear n0_ n1_; (try clear hb); (try clear hb2); (try clear hk); (try clear hi))); try go_wp2_with (first | (go_at_call 57; (with_reducible refine (spec_l2Deep.calls kj31 _ _ l0 x4_2 t146 _ ?side1 ?side2 A43.out).mono ?_); (case side1 => exact dq16); (case side2 => exact dq14); rintro e w' ⟨rfl, ⟨nd, rfl⟩⟩; (try first | exact ⟨rfl, _, World.drewN_drewN _ _ _⟩ | exact ⟨rfl, _, Eq.trans (World.drewN_drewN _ _ _) (congrArg (World.drewN _) (Nat.add_assoc _ _ _))⟩); obtain ⟨⟨hcz70_0, hcz70_1, hcz70_2, hcz70_3⟩, hfz70_0, hfz70_1, hfz70_2, hfz70_3⟩ := blkC4 BK140.out) | (go_at_call 59; (with_reducible refine (spec_l1Qual.calls kj31 ((rd_T39 l0 x4_2).f1) true _ A64.out).mono ?_); rintro e w' ⟨rfl, ⟨nd, rfl⟩⟩; (try first | exact ⟨rfl, _, World.drewN_drewN _ _ _⟩ | exact ⟨rfl, _, Eq.trans (World.drewN_drewN _ _ _) (congrArg (World.drewN _) (Nat.add_assoc _ _ _))⟩)) | (go_at_call 60; (with_reducible refine (spec_l2Attrs.calls kj31 _ _ ((rd_T39 l0 x4_2).f3) false _ ?side1 ?side2 A66.out).mono ?_); (case side1 => repeat (first | exact (Kd.C_below HR139_3.out dq96) | (with_reducible refine Kd.C_alloc ?_ _) | (with_reducible refine Kd.C_drewN ?_ _) | (with_reducible refine Kd.C_drew ?_))); (case side2 => exact HC139_3.out); rintro e w71 ⟨rfl, hb⟩; have n0_ := Aside0.mk (blk_below (g := gb140) (o := .cells #[.int .i64 ((rd_T39 l0 x4_2).f0), .string ((rd_T39 l0 x4_2).f1), .string ((rd_T39 l0 x4_2).f2), .slice A139_3 ((rd_T39 l0 x4_2).f3).length c139_3] 39 (0, 0)) dq97 hb); have n1_ := Aside0.mk (below_step dq96 hb); clear BK140; clear HB; have BK140 := n0_; have HB := n1_; clear n0_ n1_; (try clear hb); (try clear hb2); (try clear hk); (try clear hi))))
        go_ret
        exact ⟨dq33, dq96⟩
       subst c67
       have H1 : (spec_DocOk.l0 kj31 l0 x3_6 (wrap64 (x4_2 + 1))) = some r := by rw [if_pos rfl] at H; exact H
       clear H
       have H := H1
       clear H1
       have H' := Aside0.mk H
       clear H
       go_wp2_with (first | (go_at_call 57; (with_reducible refine (spec_l2Deep.calls kj31 _ _ l0 x4_2 t146 _ ?side1 ?side2 A43.out).mono ?_); (case side1 => exact dq16); (case side2 => exact dq14); rintro e w' ⟨rfl, ⟨nd, rfl⟩⟩; (try first | exact ⟨rfl, _, World.drewN_drewN _ _ _⟩ | exact ⟨rfl, _, Eq.trans (World.drewN_drewN _ _ _) (congrArg (World.drewN _) (Nat.add_assoc _ _ _))⟩); obtain ⟨⟨hcz68_0, hcz68_1, hcz68_2, hcz68_3⟩, hfz68_0, hfz68_1, hfz68_2, hfz68_3⟩ := blkC4 BK140.out) | (go_at_call 59; (with_reducible refine (spec_l1Qual.calls kj31 ((rd_T39 l0 x4_2).f1) true _ A64.out).mono ?_); rintro e w' ⟨rfl, ⟨nd, rfl⟩⟩; (try first | exact ⟨rfl, _, World.drewN_drewN _ _ _⟩ | exact ⟨rfl, _, Eq.trans (World.drewN_drewN _ _ _) (congrArg (World.drewN _) (Nat.add_assoc _ _ _))⟩)) | (go_at_call 60; (with_reducible refine (spec_l2Attrs.calls kj31 _ _ ((rd_T39 l0 x4_2).f3) true _ ?side1 ?side2 A66.out).mono ?_); (case side1 => repeat (first | exact (Kd.C_below HR139_3.out dq96) | (with_reducible refine Kd.C_alloc ?_ _) | (with_reducible refine Kd.C_drewN ?_ _) | (with_reducible refine Kd.C_drew ?_))); (case side2 => exact HC139_3.out); rintro e w69 ⟨rfl, hb⟩; have n0_ := Aside0.mk (blk_below (g := gb140) (o := .cells #[.int .i64 ((rd_T39 l0 x4_2).f0), .string ((rd_T39 l0 x4_2).f1), .string ((rd_T39 l0 x4_2).f2), .slice A139_3 ((rd_T39 l0 x4_2).f3).length c139_3] 39 (0, 0)) dq97 hb); have n1_ := Aside0.mk (below_step dq96 hb); clear BK140; clear HB; have BK140 := n0_; have HB := n1_; clear n0_ n1_; (try clear hb); (try clear hb2); (try clear hk); (try clear hi)))
       repeat (go_quiet (first | (go_at_call 57; (with_reducible refine (spec_l2Deep.calls kj31 _ _ l0 x4_2 t146 _ ?side1 ?side2 A43.out).mono ?_); (case side1 => exact dq16); (case side2 => exact dq14); rintro e w' ⟨rfl, ⟨nd, rfl⟩⟩; (try first | exact ⟨rfl, _, World.drewN_drewN _ _ _⟩ | exact ⟨rfl, _, Eq.trans (World.drewN_drewN _ _ _) (congrArg (World.drewN _) (Nat.add_assoc _ _ _))⟩); obtain ⟨⟨hcz68_0, hcz68_1, hcz68_2, hcz68_3⟩, hfz68_0, hfz68_1, hfz68_2, hfz68_3⟩ := blkC4 BK140.out) | (go_at_call 59; (with_reducible refine (spec_l1Qual.calls kj31 ((rd_T39 l0 x4_2).f1) true _ A64.out).mono ?_); rintro e w' ⟨rfl, ⟨nd, rfl⟩⟩; (try first | exact ⟨rfl, _, World.drewN_drewN _ _ _⟩ | exact ⟨rfl, _, Eq.trans (World.drewN_drewN _ _ _) (congrArg (World.drewN _) (Nat.add_assoc _ _ _))⟩)) | (go_at_call 60; (with_reducible refine (spec_l2Attrs.calls kj31 _ _ ((rd_T39 l0 x4_2).f3) true _ ?side1 ?side2 A66.out).mono ?_); (case side1 => repeat (first | exact (Kd.C_below HR139_3.out dq96) | (with_reducible refine Kd.C_alloc ?_ _) | (with_reducible refine Kd.C_drewN ?_ _) | (with_reducible refine Kd.C_drew ?_))); (case side2 => exact HC139_3.out); rintro e w69 ⟨rfl, hb⟩; have n0_ := Aside0.mk (blk_below (g := gb140) (o := .cells #[.int .i64 ((rd_T39 l0 x4_2).f0), .string ((rd_T39 l0 x4_2).f1), .string ((rd_T39 l0 x4_2).f2), .slice A139_3 ((rd_T39 l0 x4_2).f3).length c139_3] 39 (0, 0)) dq97 hb); have n1_ := Aside0.mk (below_step dq96 hb); clear BK140; clear HB; have BK140 := n0_; have HB := n1_; clear n0_ n1_; (try clear hb); (try clear hb2); (try clear hk); (try clear hi))); try go_wp2_with (first | (go_at_call 57; (with_reducible refine (spec_l2Deep.calls kj31 _ _ l0 x4_2 t146 _ ?side1 ?side2 A43.out).mono ?_); (case side1 => exact dq16); (case side2 => exact dq14); rintro e w' ⟨rfl, ⟨nd, rfl⟩⟩; (try first | exact ⟨rfl, _, World.drewN_drewN _ _ _⟩ | exact ⟨rfl, _, Eq.trans (World.drewN_drewN _ _ _) (congrArg (World.drewN _) (Nat.add_assoc _ _ _))⟩); obtain ⟨⟨hcz68_0, hcz68_1, hcz68_2, hcz68_3⟩, hfz68_0, hfz68_1, hfz68_2, hfz68_3⟩ := blkC4 BK140.out) | (go_at_call 59; (with_reducible refine (spec_l1Qual.calls kj31 ((rd_T39 l0 x4_2).f1) true _ A64.out).mono ?_); rintro e w' ⟨rfl, ⟨nd, rfl⟩⟩; (try first | exact ⟨rfl, _, World.drewN_drewN _ _ _⟩ | exact ⟨rfl, _, Eq.trans (World.drewN_drewN _ _ _) (congrArg (World.drewN _) (Nat.add_assoc _ _ _))⟩)) | (go_at_call 60; (with_reducible refine (spec_l2Attrs.calls kj31 _ _ ((rd_T39 l0 x4_2).f3) true _ ?side1 ?side2 A66.out).mono ?_); (case side1 => repeat (first | exact (Kd.C_below HR139_3.out dq96) | (with_reducible refine Kd.C_alloc ?_ _) | (with_reducible refine Kd.C_drewN ?_ _) | (with_reducible refine Kd.C_drew ?_))); (case side2 => exact HC139_3.out); rintro e w69 ⟨rfl, hb⟩; have n0_ := Aside0.mk (blk_below (g := gb140) (o := .cells #[.int .i64 ((rd_T39 l0 x4_2).f0), .string ((rd_T39 l0 x4_2).f1), .string ((rd_T39 l0 x4_2).f2), .slice A139_3 ((rd_T39 l0 x4_2).f3).length c139_3] 39 (0, 0)) dq97 hb); have n1_ := Aside0.mk (below_step dq96 hb); clear BK140; clear HB; have BK140 := n0_; have HB := n1_; clear n0_ n1_; (try clear hb); (try clear hb2); (try clear hk); (try clear hi))))
       go_roundg kj31
       case measure => have := HJ1.out; have := HK2.out; have := HJ6.out; have := HJ16.out; have := HJ31.out; omega
       case rel => exact ⟨(x3_6), (wrap64 (x4_2 + 1)), dq26, dq26, H', ⟨by have := HJ1.out; have := HK2.out; have := HJ6.out; have := HJ16.out; have := HJ31.out; omega⟩, ⟨dq96⟩⟩
      rw [if_pos c45] at H
      have c45b0 := beq_iff_eq.mpr c45
      have c45b1 := bne_eq_false_iff_eq.mpr c45
      clear c45
      have HC46 := Aside0.mk H
      clear H
      go_upto_region 29 with (first | (go_at_call 57; (with_reducible refine (spec_l2Deep.calls kj31 _ _ l0 x4_2 t146 _ ?side1 ?side2 A43.out).mono ?_); (case side1 => exact dq16); (case side2 => exact dq14); rintro e w' ⟨rfl, ⟨nd, rfl⟩⟩; (try first | exact ⟨rfl, _, World.drewN_drewN _ _ _⟩ | exact ⟨rfl, _, Eq.trans (World.drewN_drewN _ _ _) (congrArg (World.drewN _) (Nat.add_assoc _ _ _))⟩); obtain ⟨⟨hcz47_0, hcz47_1, hcz47_2, hcz47_3⟩, hfz47_0, hfz47_1, hfz47_2, hfz47_3⟩ := blkC4 BK140.out))
      repeat (go_quiet (first | (go_at_call 57; (with_reducible refine (spec_l2Deep.calls kj31 _ _ l0 x4_2 t146 _ ?side1 ?side2 A43.out).mono ?_); (case side1 => exact dq16); (case side2 => exact dq14); rintro e w' ⟨rfl, ⟨nd, rfl⟩⟩; (try first | exact ⟨rfl, _, World.drewN_drewN _ _ _⟩ | exact ⟨rfl, _, Eq.trans (World.drewN_drewN _ _ _) (congrArg (World.drewN _) (Nat.add_assoc _ _ _))⟩); obtain ⟨⟨hcz47_0, hcz47_1, hcz47_2, hcz47_3⟩, hfz47_0, hfz47_1, hfz47_2, hfz47_3⟩ := blkC4 BK140.out)); go_upto_region 29 with (first | (go_at_call 57; (with_reducible refine (spec_l2Deep.calls kj31 _ _ l0 x4_2 t146 _ ?side1 ?side2 A43.out).mono ?_); (case side1 => exact dq16); (case side2 => exact dq14); rintro e w' ⟨rfl, ⟨nd, rfl⟩⟩; (try first | exact ⟨rfl, _, World.drewN_drewN _ _ _⟩ | exact ⟨rfl, _, Eq.trans (World.drewN_drewN _ _ _) (congrArg (World.drewN _) (Nat.add_assoc _ _ _))⟩); obtain ⟨⟨hcz47_0, hcz47_1, hcz47_2, hcz47_3⟩, hfz47_0, hfz47_1, hfz47_2, hfz47_3⟩ := blkC4 BK140.out)))
      (try simp only [Act.put, List.setIfInBounds_toArray, List.set_cons_zero, List.set_cons_succ])
      go_cut [130] (fun v130 wc => ∃ (kq : Nat) (x130_45 : Bool), v130 = .bool x130_45 ∧ Aside0 (spec_DocOk.j7 kq l0 x3_6 x4_2 x130_45 ((rd_T39 l0 x4_2).f0) ((rd_T39 l0 x4_2).f1) ((rd_T39 l0 x4_2).f2) ((rd_T39 l0 x4_2).f3) = some r) ∧ Aside0 (kq ≤ kj31) ∧ Aside0 (wc.heap[gb140]? = some (.cells #[.int .i64 ((rd_T39 l0 x4_2).f0), .string ((rd_T39 l0 x4_2).f1), .string ((rd_T39 l0 x4_2).f2), (.slice A139_3 ((rd_T39 l0 x4_2).f3).length c139_3)] 39 (0, 0))) ∧ Aside0 (Below w.heap.size w wc))
      case first =>
       have H := HC46.out
       clear HC46
       by_cases c48 : ((rd_T39 l0 x4_2).f2).toList = ([] : List UInt8)
       ·rw [if_pos c48] at H
        have c48b0 := beq_iff_eq.mpr c48
        have c48b1 := bne_eq_false_iff_eq.mpr c48
        clear c48
        (first | rw [c48b0] | (simp only [i64_w, i32_w]; rw [c48b0]) | skip)
        have H' := Aside0.mk H
        clear H
        obtain ⟨⟨hcz49_0, hcz49_1, hcz49_2, hcz49_3⟩, hfz49_0, hfz49_1, hfz49_2, hfz49_3⟩ := blkC4 BK140.out
        go_wp2
        repeat (go_quiet (fail); try go_wp2)
        go_meet
        case rel => exact ⟨_, (true), dq26, H', ⟨dq98⟩, ⟨dq97⟩, ⟨dq96⟩⟩
       rw [if_neg c48] at H
       have c48b0 := beq_eq_false_iff_ne.mpr c48
       have c48b1 := bne_iff_ne.mpr c48
       (first | rw [c48b0] | (simp only [i64_w, i32_w]; rw [c48b0]) | skip)
       by_cases c50 : (((rd_T39 l0 x4_2).f3).length : Int) > 0
       ·rw [if_pos c50] at H
        have c50b0 : decide (0 < (((rd_T39 l0 x4_2).f3).length : Int)) = true := decide_eq_true c50
        have c50b1 : decide (0 < ((rd_T39 l0 x4_2).f3).length) = true := decide_eq_true dq45
        clear c50
        have H' := Aside0.mk H
        clear H
        obtain ⟨⟨hcz51_0, hcz51_1, hcz51_2, hcz51_3⟩, hfz51_0, hfz51_1, hfz51_2, hfz51_3⟩ := blkC4 BK140.out
        go_wp2
        repeat (go_quiet (fail); try go_wp2)
        go_meet
        case rel => exact ⟨_, (true), dq26, H', ⟨dq98⟩, ⟨dq97⟩, ⟨dq96⟩⟩
       rw [if_neg c50] at H
       have c50b0 : decide (0 < (((rd_T39 l0 x4_2).f3).length : Int)) = false := decide_eq_false c50
       have c50b1 : decide (0 < ((rd_T39 l0 x4_2).f3).length) = false := decide_eq_false dq45
       clear c50
       replace H := Option.bind_eq_some_iff.mp H
       obtain ⟨t147, A520, H⟩ := H
       replace H : (spec_DocOk.j7 kj31 l0 x3_6 x4_2 (!t147) ((rd_T39 l0 x4_2).f0) ((rd_T39 l0 x4_2).f1) ((rd_T39 l0 x4_2).f2) ((rd_T39 l0 x4_2).f3)) = some r := H
       have A52 := Aside0.mk A520
       clear A520
       have H' := Aside0.mk H
       clear H
       obtain ⟨⟨hcz53_0, hcz53_1, hcz53_2, hcz53_3⟩, hfz53_0, hfz53_1, hfz53_2, hfz53_3⟩ := blkC4 BK140.out
       go_wp2_with (first | (go_at_call 58; (with_reducible refine (spec_l1Text.calls kj31 ((rd_T39 l0 x4_2).f2) t147 _ A52.out).mono ?_); rintro e w54 ⟨rfl, hb⟩; have n0_ := Aside0.mk (blk_below (g := gb140) (o := .cells #[.int .i64 ((rd_T39 l0 x4_2).f0), .string ((rd_T39 l0 x4_2).f1), .string ((rd_T39 l0 x4_2).f2), .slice A139_3 ((rd_T39 l0 x4_2).f3).length c139_3] 39 (0, 0)) dq97 hb); have n1_ := Aside0.mk (below_step dq96 hb); clear BK140; clear HB; have BK140 := n0_; have HB := n1_; clear n0_ n1_; (try clear hb); (try clear hb2); (try clear hk); (try clear hi)))
       repeat (go_quiet (first | (go_at_call 58; (with_reducible refine (spec_l1Text.calls kj31 ((rd_T39 l0 x4_2).f2) t147 _ A52.out).mono ?_); rintro e w54 ⟨rfl, hb⟩; have n0_ := Aside0.mk (blk_below (g := gb140) (o := .cells #[.int .i64 ((rd_T39 l0 x4_2).f0), .string ((rd_T39 l0 x4_2).f1), .string ((rd_T39 l0 x4_2).f2), .slice A139_3 ((rd_T39 l0 x4_2).f3).length c139_3] 39 (0, 0)) dq97 hb); have n1_ := Aside0.mk (below_step dq96 hb); clear BK140; clear HB; have BK140 := n0_; have HB := n1_; clear n0_ n1_; (try clear hb); (try clear hb2); (try clear hk); (try clear hi))); try go_wp2_with (first | (go_at_call 58; (with_reducible refine (spec_l1Text.calls kj31 ((rd_T39 l0 x4_2).f2) t147 _ A52.out).mono ?_); rintro e w54 ⟨rfl, hb⟩; have n0_ := Aside0.mk (blk_below (g := gb140) (o := .cells #[.int .i64 ((rd_T39 l0 x4_2).f0), .string ((rd_T39 l0 x4_2).f1), .string ((rd_T39 l0 x4_2).f2), .slice A139_3 ((rd_T39 l0 x4_2).f3).length c139_3] 39 (0, 0)) dq97 hb); have n1_ := Aside0.mk (below_step dq96 hb); clear BK140; clear HB; have BK140 := n0_; have HB := n1_; clear n0_ n1_; (try clear hb); (try clear hb2); (try clear hk); (try clear hi))))
       go_meet
       case rel => exact ⟨_, (!t147), dq26, H', ⟨dq98⟩, ⟨dq97⟩, ⟨dq96⟩⟩
      clear HC46
      try clear c1
      try clear p1
      try clear q1
      try clear hx1
      try clear c2
      try clear p2
      try clear c3
      try clear c3b0
      try clear c3b1
      try clear c4
      try clear c5
      try clear c5b0
      try clear c6
      try clear c6b0
      try clear p6
      try clear c10
      try clear c10b0
      try clear c11
      try clear c11b0
      try clear c12
      try clear c12b0
      try clear c13
      try clear p13
      try clear q13
      try clear hx13
      try clear c14
      try clear p14
      try clear q14
      try clear hx14
      try clear c16
      try clear c16b0
      try clear c18
      try clear c18b0
      try clear c18b1
      try clear c19
      try clear c19b0
      try clear c19b1
      try clear c20
      try clear c20b0
      try clear c20b1
      try clear c23
      try clear c25
      try clear c26
      try clear c26b0
      try clear c27
      try clear c27b0
      try clear c28
      try clear c28b0
      try clear c28b1
      try clear c33
      try clear c33b0
      try clear c34
      try clear c34b0
      try clear c35
      try clear c35b0
      try clear c35b1
      try clear c36
      try clear c36b0
      try clear c39
      try clear c39b0
      try clear c40
      try clear c40b0
      try clear c42
      try clear c42b0
      try clear c44
      try clear c44b0
      try clear c45
      try clear c45b0
      try clear c45b1
      try clear c48
      try clear c48b0
      try clear c48b1
      try clear c50
      try clear c50b0
      try clear c50b1
      try clear hcz13_0
      try clear hcz13_1
      try clear hcz13_2
      try clear hcz13_3
      try clear hcz14_0
      try clear hcz14_1
      try clear hcz14_2
      try clear hcz14_3
      try clear hcz15_0
      try clear hcz15_1
      try clear hcz15_2
      try clear hcz15_3
      try clear hcz21_0
      try clear hcz21_1
      try clear hcz21_2
      try clear hcz21_3
      try clear hcz22_0
      try clear hcz22_1
      try clear hcz22_2
      try clear hcz22_3
      try clear hcz23_0
      try clear hcz23_1
      try clear hcz23_2
      try clear hcz23_3
      try clear hcz29_0
      try clear hcz29_1
      try clear hcz29_2
      try clear hcz29_3
      try clear hcz30_0
      try clear hcz30_1
      try clear hcz30_2
      try clear hcz30_3
      try clear hcz31_0
      try clear hcz31_1
      try clear hcz31_2
      try clear hcz31_3
      try clear hcz37_0
      try clear hcz37_1
      try clear hcz37_2
      try clear hcz37_3
      try clear hcz38_0
      try clear hcz38_1
      try clear hcz38_2
      try clear hcz38_3
      try clear hcz41_0
      try clear hcz41_1
      try clear hcz41_2
      try clear hcz41_3
      try clear hcz47_0
      try clear hcz47_1
      try clear hcz47_2
      try clear hcz47_3
      try clear hcz49_0
      try clear hcz49_1
      try clear hcz49_2
      try clear hcz49_3
      try clear hcz51_0
      try clear hcz51_1
      try clear hcz51_2
      try clear hcz51_3
      try clear hcz53_0
      try clear hcz53_1
      try clear hcz53_2
      try clear hcz53_3
      try clear hcz9_0
      try clear hcz9_1
      try clear hcz9_2
      try clear hcz9_3
      try clear hfz13_0
      try clear hfz13_1
      try clear hfz13_2
      try clear hfz13_3
      try clear hfz14_0
      try clear hfz14_1
      try clear hfz14_2
      try clear hfz14_3
      try clear hfz15_0
      try clear hfz15_1
      try clear hfz15_2
      try clear hfz15_3
      try clear hfz21_0
      try clear hfz21_1
      try clear hfz21_2
      try clear hfz21_3
      try clear hfz22_0
      try clear hfz22_1
      try clear hfz22_2
      try clear hfz22_3
      try clear hfz23_0
      try clear hfz23_1
      try clear hfz23_2
      try clear hfz23_3
      try clear hfz29_0
      try clear hfz29_1
      try clear hfz29_2
      try clear hfz29_3
      try clear hfz30_0
      try clear hfz30_1
      try clear hfz30_2
      try clear hfz30_3
      try clear hfz31_0
      try clear hfz31_1
      try clear hfz31_2
      try clear hfz31_3
      try clear hfz37_0
      try clear hfz37_1
      try clear hfz37_2
      try clear hfz37_3
      try clear hfz38_0
      try clear hfz38_1
      try clear hfz38_2
      try clear hfz38_3
      try clear hfz41_0
      try clear hfz41_1
      try clear hfz41_2
      try clear hfz41_3
      try clear hfz47_0
      try clear hfz47_1
      try clear hfz47_2
      try clear hfz47_3
      try clear hfz49_0
      try clear hfz49_1
      try clear hfz49_2
      try clear hfz49_3
      try clear hfz51_0
      try clear hfz51_1
      try clear hfz51_2
      try clear hfz51_3
      try clear hfz53_0
      try clear hfz53_1
      try clear hfz53_2
      try clear hfz53_3
      try clear hfz9_0
      try clear hfz9_1
      try clear hfz9_2
      try clear hfz9_3
      try clear hx139_0
      try clear hx139_1
      try clear hx139_2
      try clear hx139_3
      try clear hx141_0
      try clear hx141_1
      try clear hx142_0
      try clear hx142_1
      try clear hx144_0
      try clear hx144_1
      try clear hx144_2
      try clear hx144_3
      try clear hx145_0
      try clear hx145_1
      try clear hx145_2
      try clear hx145_3
      try clear p1
      try clear p13
      try clear p139
      try clear p14
      try clear p141
      try clear p142
      try clear p144
      try clear p145
      try clear p2
      try clear p6
      try clear q1
      try clear q13
      try clear q139
      try clear q14
      try clear q141
      try clear q142
      try clear q144
      try clear q145
      obtain ⟨kq, x130_45, rfl, HA, HJ45, BK140, HB⟩ := hcut
      cases kq with
      | zero => exact absurd HA.out (by simp [spec_DocOk.j7])
      | succ kj45 =>
       have H := HA.out
       clear HA
       simp only [spec_DocOk.j7] at H
       by_cases c55 : x130_45 = true
       ·subst c55
        have H1 : (some false) = some r := by rw [if_pos rfl] at H; exact H
        clear H
        have H := H1
        clear H1
        obtain rfl := Option.some.inj H
        go_wp2
        repeat (go_quiet (fail); try go_wp2)
        go_ret
        exact ⟨dq33, dq96⟩
       replace c55 := Bool.eq_false_iff.mpr c55
       subst c55
       have H1 : (if 0 ≤ (wrap64 (x4_2 - 1)) then (if (wrap64 (x4_2 - 1)) < (l0.length : Int) then (if ((rd_T39 l0 (wrap64 (x4_2 - 1))).f1).toList = ([] : List UInt8) then (if ((rd_T39 l0 (wrap64 (x4_2 - 1))).f0) = ((rd_T39 l0 x4_2).f0) then (some false) else (spec_DocOk.l0 kj45 l0 x3_6 (wrap64 (x4_2 + 1)))) else (spec_DocOk.l0 kj45 l0 x3_6 (wrap64 (x4_2 + 1)))) else (none)) else (none)) = some r := by rw [if_neg (show ¬ (false = true) by decide)] at H; exact H
       clear H
       have H := H1
       clear H1
       obtain ⟨ji56, hji56⟩ : ∃ j_ : Int, (wrap64 (x4_2 - 1)) = j_ := ⟨_, rfl⟩
       replace H : (if 0 ≤ (ji56) then (if (ji56) < (l0.length : Int) then (if ((rd_T39 l0 (ji56)).f1).toList = ([] : List UInt8) then (if ((rd_T39 l0 (ji56)).f0) = ((rd_T39 l0 x4_2).f0) then (some false) else (spec_DocOk.l0 kj45 l0 x3_6 (wrap64 (x4_2 + 1)))) else (spec_DocOk.l0 kj45 l0 x3_6 (wrap64 (x4_2 + 1)))) else (none)) else (none)) = some r := by first | (rw [hji56] at H; exact H) | (simp only [hji56] at H ⊢; exact H)
       have hji56w : (IntKind.i64.wrap (x4_2 - 1)) = ji56 := (i64_w _).trans hji56
       by_cases c57 : 0 ≤ (ji56)
       rotate_left
       ·rw [if_neg c57] at H
        exact absurd H dq32
       rw [if_pos c57] at H
       have c57b0 := decide_eq_true c57
       clear c57
       by_cases c58 : (ji56) < (l0.length : Int)
       rotate_left
       ·rw [if_neg c58] at H
        exact absurd H dq32
       rw [if_pos c58] at H
       have c58b0 := decide_eq_true c58
       clear c58
       by_cases c59 : ((rd_T39 l0 (ji56)).f1).toList = ([] : List UInt8)
       rotate_left
       ·rw [if_neg c59] at H
        have c59b0 := beq_eq_false_iff_ne.mpr c59
        have c59b1 := bne_iff_ne.mpr c59
        have H' := Aside0.mk H
        clear H
        have p148 : 0 ≤ ((ji56) : Int) := of_decide_eq_true dq30
        have q148 : (ji56) < (l0.length : Int) := of_decide_eq_true dq30
        obtain ⟨ad148, A148_3, c148_3, e148, hx148_0, hx148_1, hx148_2, hx148_3, hl148_3, hi148_3⟩ := at_T39 HR0.out (ji56) p148 q148
        obtain rfl : ad139 = ad148 := (by injection e148)
        replace hx148_0 := (HB.out.cell (World.block_lt_of_cell? w _ hx148_0)).trans hx148_0
        replace hx148_1 := (HB.out.cell (World.block_lt_of_cell? w _ hx148_1)).trans hx148_1
        replace hx148_2 := (HB.out.cell (World.block_lt_of_cell? w _ hx148_2)).trans hx148_2
        replace hx148_3 := (HB.out.cell (World.block_lt_of_cell? w _ hx148_3)).trans hx148_3
        have HR148_3 := Aside0.mk hi148_3
        have HC148_3 := Aside0.mk hl148_3
        clear hi148_3 hl148_3
        replace p148 := eq_true p148
        replace q148 := eq_true q148
        go_wp2
        repeat (go_quiet (fail); try go_wp2)
        go_roundg kj45
        case measure => have := HJ1.out; have := HK2.out; have := HJ6.out; have := HJ16.out; have := HJ31.out; have := HJ45.out; omega
        case rel => exact ⟨(x3_6), (wrap64 (x4_2 + 1)), dq26, dq26, H', ⟨by have := HJ1.out; have := HK2.out; have := HJ6.out; have := HJ16.out; have := HJ31.out; have := HJ45.out; omega⟩, ⟨dq96⟩⟩
       rw [if_pos c59] at H
       have c59b0 := beq_iff_eq.mpr c59
       have c59b1 := bne_eq_false_iff_eq.mpr c59
       clear c59
       by_cases c60 : ((rd_T39 l0 (ji56)).f0) = ((rd_T39 l0 x4_2).f0)
       ·rw [if_pos c60] at H
        have c60b0 := beq_iff_eq.mpr c60
        have c60b1 := bne_eq_false_iff_eq.mpr c60
        clear c60
        obtain rfl := Option.some.inj H
        have p148 : 0 ≤ ((ji56) : Int) := of_decide_eq_true dq30
        have q148 : (ji56) < (l0.length : Int) := of_decide_eq_true dq30
        obtain ⟨ad148, A148_3, c148_3, e148, hx148_0, hx148_1, hx148_2, hx148_3, hl148_3, hi148_3⟩ := at_T39 HR0.out (ji56) p148 q148
        obtain rfl : ad139 = ad148 := (by injection e148)
        replace hx148_0 := (HB.out.cell (World.block_lt_of_cell? w _ hx148_0)).trans hx148_0
        replace hx148_1 := (HB.out.cell (World.block_lt_of_cell? w _ hx148_1)).trans hx148_1
        replace hx148_2 := (HB.out.cell (World.block_lt_of_cell? w _ hx148_2)).trans hx148_2
        replace hx148_3 := (HB.out.cell (World.block_lt_of_cell? w _ hx148_3)).trans hx148_3
        have HR148_3 := Aside0.mk hi148_3
        have HC148_3 := Aside0.mk hl148_3
        clear hi148_3 hl148_3
        replace p148 := eq_true p148
        replace q148 := eq_true q148
        have p149 : 0 ≤ ((ji56) : Int) := of_decide_eq_true dq30
        have q149 : (ji56) < (l0.length : Int) := of_decide_eq_true dq30
        obtain ⟨ad149, A149_3, c149_3, e149, hx149_0, hx149_1, hx149_2, hx149_3, hl149_3, hi149_3⟩ := at_T39 HR0.out (ji56) p149 q149
        obtain rfl : ad139 = ad149 := (by injection e149)
        replace hx149_0 := (HB.out.cell (World.block_lt_of_cell? w _ hx149_0)).trans hx149_0
        replace hx149_1 := (HB.out.cell (World.block_lt_of_cell? w _ hx149_1)).trans hx149_1
        replace hx149_2 := (HB.out.cell (World.block_lt_of_cell? w _ hx149_2)).trans hx149_2
        replace hx149_3 := (HB.out.cell (World.block_lt_of_cell? w _ hx149_3)).trans hx149_3
        have HR149_3 := Aside0.mk hi149_3
        have HC149_3 := Aside0.mk hl149_3
        clear hi149_3 hl149_3
        replace p149 := eq_true p149
        replace q149 := eq_true q149
        have ea_ := Option.some.inj (hx148_3.symm.trans hx149_3)
        injection ea_ with ea_ en_ ec_
        subst ea_
        subst ec_
        clear en_
        obtain ⟨⟨hcz61_0, hcz61_1, hcz61_2, hcz61_3⟩, hfz61_0, hfz61_1, hfz61_2, hfz61_3⟩ := blkC4 BK140.out
        go_wp2
        repeat (go_quiet (fail); try go_wp2)
        go_ret
        exact ⟨by first | rfl | (simp [errW_none, errW_some] <;> rfl) | (simp only [← hji56]; first | rfl | (simp [errW_none, errW_some] <;> rfl)) | (simp [*, errW_none, errW_some] <;> rfl), dq96⟩
       rw [if_neg c60] at H
       have c60b0 := beq_eq_false_iff_ne.mpr c60
       have c60b1 := bne_iff_ne.mpr c60
       have H' := Aside0.mk H
       clear H
       have p148 : 0 ≤ ((ji56) : Int) := of_decide_eq_true dq30
       have q148 : (ji56) < (l0.length : Int) := of_decide_eq_true dq30
       obtain ⟨ad148, A148_3, c148_3, e148, hx148_0, hx148_1, hx148_2, hx148_3, hl148_3, hi148_3⟩ := at_T39 HR0.out (ji56) p148 q148
       obtain rfl : ad139 = ad148 := (by injection e148)
       replace hx148_0 := (HB.out.cell (World.block_lt_of_cell? w _ hx148_0)).trans hx148_0
       replace hx148_1 := (HB.out.cell (World.block_lt_of_cell? w _ hx148_1)).trans hx148_1
       replace hx148_2 := (HB.out.cell (World.block_lt_of_cell? w _ hx148_2)).trans hx148_2
       replace hx148_3 := (HB.out.cell (World.block_lt_of_cell? w _ hx148_3)).trans hx148_3
       have HR148_3 := Aside0.mk hi148_3
       have HC148_3 := Aside0.mk hl148_3
       clear hi148_3 hl148_3
       replace p148 := eq_true p148
       replace q148 := eq_true q148
       have p149 : 0 ≤ ((ji56) : Int) := of_decide_eq_true dq30
       have q149 : (ji56) < (l0.length : Int) := of_decide_eq_true dq30
       obtain ⟨ad149, A149_3, c149_3, e149, hx149_0, hx149_1, hx149_2, hx149_3, hl149_3, hi149_3⟩ := at_T39 HR0.out (ji56) p149 q149
       obtain rfl : ad139 = ad149 := (by injection e149)
       replace hx149_0 := (HB.out.cell (World.block_lt_of_cell? w _ hx149_0)).trans hx149_0
       replace hx149_1 := (HB.out.cell (World.block_lt_of_cell? w _ hx149_1)).trans hx149_1
       replace hx149_2 := (HB.out.cell (World.block_lt_of_cell? w _ hx149_2)).trans hx149_2
       replace hx149_3 := (HB.out.cell (World.block_lt_of_cell? w _ hx149_3)).trans hx149_3
       have HR149_3 := Aside0.mk hi149_3
       have HC149_3 := Aside0.mk hl149_3
       clear hi149_3 hl149_3
       replace p149 := eq_true p149
       replace q149 := eq_true q149
       have ea_ := Option.some.inj (hx148_3.symm.trans hx149_3)
       injection ea_ with ea_ en_ ec_
       subst ea_
       subst ec_
       clear en_
       obtain ⟨⟨hcz62_0, hcz62_1, hcz62_2, hcz62_3⟩, hfz62_0, hfz62_1, hfz62_2, hfz62_3⟩ := blkC4 BK140.out
       go_wp2
       repeat (go_quiet (fail); try go_wp2)
       go_roundg kj45
       case measure => have := HJ1.out; have := HK2.out; have := HJ6.out; have := HJ16.out; have := HJ31.out; have := HJ45.out; omega
       case rel => exact ⟨(x3_6), (wrap64 (x4_2 + 1)), dq26, dq26, H', ⟨by have := HJ1.out; have := HK2.out; have := HJ6.out; have := HJ16.out; have := HJ31.out; have := HJ45.out; omega⟩, ⟨dq96⟩⟩

/-! ### spec_l2Kids: function 70 -/
def spec_l2Kids.l0 : Nat → List (S39) → Int → List Int → Int → Option (List Int)
 | 0, _, _, _, _ => none
 | k + 1, x0, x1, x5, x6 => if x6 < (x0.length : Int) then (if 0 ≤ x6 then (if ((rd_T39 x0 x6).f0) = x1 then (if x5.length < 17592186044416 then (spec_l2Kids.l0 k x0 x1 (x5 ++ [x6]) (wrap64 (x6 + 1))) else (none)) else (spec_l2Kids.l0 k x0 x1 x5 (wrap64 (x6 + 1)))) else (none)) else (some x5)
def spec_l2Kids.f (k : Nat) (l0 : List (S39)) (a1 : Int) : Option (List Int) := spec_l2Kids.l0 k l0 a1 (([] : List Int)) (wrap64 (a1 + 1))
set_option maxHeartbeats 8000000 in
set_option maxRecDepth 100000 in
theorem spec_l2Kids.calls (k : Nat) (A0 : Option Addr) (c0 : Nat) (l0 : List (S39)) (a1 : Int) (r : List Int) (w : World) (hr0 : Kd.C k39 w A0 l0.length l0) (hc0 : l0.length ≤ c0) (h : spec_l2Kids.f k l0 a1 = some r) :
  Calls Tryd.prog 70 #[.slice A0 l0.length c0, .int .i64 a1] w fun e w' => ∃ v0_ : Value, e = .returned (v0_) ∧ Kd.R (Kd.int .i64) 2 w' w.heap.size (fun _ => True) v0_ r ∧ Below w.heap.size w w' := by
 have HR0 := Aside0.mk hr0
 have HC0 := Aside0.mk hc0
 clear hr0 hc0
 have HB := Aside0.mk (Below.refl w.heap.size w)
 have H : (spec_l2Kids.l0 k l0 a1 (([] : List Int)) (wrap64 (a1 + 1))) = some r := h
 clear h
 obtain ⟨y164, hy164⟩ : ∃ y_ : List Int, y_ = (([] : List Int)) := ⟨_, rfl⟩
 replace H : (spec_l2Kids.l0 k l0 a1 y164 (wrap64 (a1 + 1))) = some r := by first | (rw [hy164]; with_reducible exact H) | (have H2_ := (Option.bind_some _ _).symm.trans H; rw [hy164]; with_reducible exact H2_) | (have H2_ := (Option.bind_some _ _).symm.trans H; with_reducible exact H2_) | with_reducible exact H | (rw [hy164]; exact H) | exact H
 have Ny164 := Aside0.mk hy164
 clear hy164
 have H' := Aside0.mk H
 clear H
 go_enter Tryd.func70, Tryd.ntmps70
 go_wp2_with (first | ((with_reducible refine gate_dst (N := 7) rfl ?_); refine Kd.R_lit (Kd.int .i64) _ 2 ?hg (N := 7) ?hd (xs := ([] : List Int)) (inner := []) (ok := fun _ => True) (okp := fun _ => True) ?hr ?hp (fun _ hk => hk) trivial (Below.refl _ _) (Nat.le_refl _) dq32 ?_; (case hd => rfl); (case hg => rfl); (case hr => exact dq1); (case hp => exact (Reps.none _ _)); intro v165 w3 ho4 hb hg_ hnew_; clear hg_ hnew_; (first | rw [← Ny164.out] at ho4 | (simp only [Int.reduceToNat] at ho4; rw [← Ny164.out] at ho4)); have n0_ := Aside0.mk (Kd.R_lower ho4 (below_size dq27)); have n1_ := Aside0.mk (below_step dq27 hb); clear HB; have HO166 := n0_; have HB := n1_; clear n0_ n1_; clear hb ho4))
 go_loopg [5, 6] k (fun kq v5 v6 w' => ∃ (x5_1 : List Int) (x6_1 : Int), v6 = .int .i64 x6_1 ∧ Aside0 (spec_l2Kids.l0 kq l0 a1 x5_1 x6_1 = some r) ∧ Aside0 (kq ≤ k) ∧ Aside0 (Kd.R (Kd.int .i64) 2 w' w.heap.size (fun _ => True) v5 x5_1) ∧ Aside0 (Below w.heap.size w w'))
 case atStart => exact ⟨(y164), (wrap64 (a1 + 1)), dq26, H', ⟨Nat.le_refl _⟩, ⟨by (with_reducible repeat (first | apply Kd.R_alloc | apply Kd.R_drewN | apply Kd.R_drew)); exact HO166.out⟩, ⟨dq27⟩⟩
 clear H'
 try clear p2
 obtain ⟨x5_1, x6_1, rfl, HA, HK1, HO_5, HB⟩ := hrel
 cases gk with
 | zero => exact absurd HA.out (by simp [spec_l2Kids.l0])
 | succ k1 =>
  have H := HA.out
  clear HA
  simp only [spec_l2Kids.l0] at H
  by_cases c5 : x6_1 < (l0.length : Int)
  rotate_left
  ·rw [if_neg c5] at H
   have c5b0 := decide_eq_false c5
   clear c5
   obtain rfl := Option.some.inj H
   go_wp2
   go_ret
   exact ⟨_, dq33, dq99, dq27⟩
  rw [if_pos c5] at H
  have c5b0 := decide_eq_true c5
  clear c5
  by_cases c6 : 0 ≤ x6_1
  rotate_left
  ·rw [if_neg c6] at H
   exact absurd H dq32
  rw [if_pos c6] at H
  have c6b0 := decide_eq_true c6
  clear c6
  by_cases c7 : ((rd_T39 l0 x6_1).f0) = a1
  rotate_left
  ·rw [if_neg c7] at H
   have c7b0 := beq_eq_false_iff_ne.mpr c7
   have c7b1 := bne_iff_ne.mpr c7
   have H' := Aside0.mk H
   clear H
   have p167 : 0 ≤ (x6_1 : Int) := of_decide_eq_true dq30
   have q167 : x6_1 < (l0.length : Int) := of_decide_eq_true dq30
   obtain ⟨ad167, A167_3, c167_3, e167, hx167_0, hx167_1, hx167_2, hx167_3, hl167_3, hi167_3⟩ := at_T39 HR0.out x6_1 p167 q167
   cases e167
   replace hx167_0 := (HB.out.cell (World.block_lt_of_cell? w _ hx167_0)).trans hx167_0
   replace hx167_1 := (HB.out.cell (World.block_lt_of_cell? w _ hx167_1)).trans hx167_1
   replace hx167_2 := (HB.out.cell (World.block_lt_of_cell? w _ hx167_2)).trans hx167_2
   replace hx167_3 := (HB.out.cell (World.block_lt_of_cell? w _ hx167_3)).trans hx167_3
   have HR167_3 := Aside0.mk hi167_3
   have HC167_3 := Aside0.mk hl167_3
   clear hi167_3 hl167_3
   replace p167 := eq_true p167
   replace q167 := eq_true q167
   go_wp2
   go_roundg k1
   case measure => have := HK1.out; omega
   case rel => exact ⟨(x5_1), (wrap64 (x6_1 + 1)), dq26, H', ⟨dq31⟩, ⟨dq99⟩, ⟨dq27⟩⟩
  rw [if_pos c7] at H
  have c7b0 := beq_iff_eq.mpr c7
  have c7b1 := bne_eq_false_iff_eq.mpr c7
  clear c7
  by_cases c8 : x5_1.length < 17592186044416
  rotate_left
  ·rw [if_neg c8] at H
   exact absurd H dq32
  rw [if_pos c8] at H
  have LMc8 := Aside0.mk c8
  clear c8
  obtain ⟨y168, hy168⟩ : ∃ y_ : List Int, y_ = (x5_1 ++ [x6_1]) := ⟨_, rfl⟩
  replace H : (spec_l2Kids.l0 k1 l0 a1 y168 (wrap64 (x6_1 + 1))) = some r := by first | (rw [hy168]; with_reducible exact H) | (have H2_ := (Option.bind_some _ _).symm.trans H; rw [hy168]; with_reducible exact H2_) | (have H2_ := (Option.bind_some _ _).symm.trans H; with_reducible exact H2_) | with_reducible exact H | (rw [hy168]; exact H) | exact H
  have Ny168 := Aside0.mk hy168
  clear hy168
  have H' := Aside0.mk H
  clear H
  have p167 : 0 ≤ (x6_1 : Int) := of_decide_eq_true dq30
  have q167 : x6_1 < (l0.length : Int) := of_decide_eq_true dq30
  obtain ⟨ad167, A167_3, c167_3, e167, hx167_0, hx167_1, hx167_2, hx167_3, hl167_3, hi167_3⟩ := at_T39 HR0.out x6_1 p167 q167
  cases e167
  replace hx167_0 := (HB.out.cell (World.block_lt_of_cell? w _ hx167_0)).trans hx167_0
  replace hx167_1 := (HB.out.cell (World.block_lt_of_cell? w _ hx167_1)).trans hx167_1
  replace hx167_2 := (HB.out.cell (World.block_lt_of_cell? w _ hx167_2)).trans hx167_2
  replace hx167_3 := (HB.out.cell (World.block_lt_of_cell? w _ hx167_3)).trans hx167_3
  have HR167_3 := Aside0.mk hi167_3
  have HC167_3 := Aside0.mk hl167_3
  clear hi167_3 hl167_3
  replace p167 := eq_true p167
  replace q167 := eq_true q167
  go_wp2_with (first | ((with_reducible refine gate_builtin (b := .append) (xs := #[.tmp 23, .tmp 25]) rfl ?_); at_builtin; refine Kd.R_append (Kd.int .i64) (w0 := w) w.heap.size rfl (.tmp 23) (.tmp 25) 24 2 (.int .i64 0) 8 rfl Tryd.underlying24 info2 rfl dq60 dq45 u5 x5_1 x6_1 [.int .i64 x6_1] (fun _ => True) (fun _ => False) rfl rfl ?aP (fun _ hk => hk.elim) ?aF ?aO ?aB ?aS ?aL ?_; (case aP => exact rfl); (case aB => exact dq27); (case aF => exact (fun _ _ => trivial)); (case aO => exact dq99); (case aS => exact (below_size dq27)); (case aL => have := LMc8.out; omega); intro v169 w9 ho hb hg hat; rw [← Ny168.out] at ho; have n0_ := Aside0.mk (hb); have n1_ := Aside0.mk (ho); clear HB; clear HO_5; have HB := n0_; have HO170 := n1_; clear n0_ n1_; clear ho hb hg hat))
  go_roundg k1
  case measure => have := HK1.out; omega
  case rel => exact ⟨(y168), (wrap64 (x6_1 + 1)), dq26, H', ⟨dq31⟩, ⟨by (with_reducible repeat (first | apply Kd.R_alloc | apply Kd.R_drewN | apply Kd.R_drew)); exact HO170.out⟩, ⟨dq27⟩⟩

/-! ### spec_l2Text: function 69 -/
def spec_l2Text.l0 : Nat → List (S39) → ByteArray → List Int → Int → Option (ByteArray)
 | 0, _, _, _, _ => none
 | k + 1, x0, x5, x6, x7 => if x7 < (x6.length : Int) then (if 0 ≤ x7 then (if 0 ≤ (rd x6 x7) then (if (rd x6 x7) < (x0.length : Int) then (if x5.size + ((rd_T39 x0 (rd x6 x7)).f2).size ≤ 9223372036854775807 then (spec_l2Text.l0 k x0 (x5 ++ ((rd_T39 x0 (rd x6 x7)).f2)) x6 (wrap64 (x7 + 1))) else (none)) else (none)) else (none)) else (none)) else (some x5)
def spec_l2Text.f (k : Nat) (l0 : List (S39)) (a1 : Int) : Option (ByteArray) := (spec_l2Kids.f k l0 a1).bind fun t613 => (spec_l2Text.l0 k l0 (⟨#[]⟩ : ByteArray) t613 0)
set_option maxHeartbeats 8000000 in
set_option maxRecDepth 100000 in
theorem spec_l2Text.calls (k : Nat) (A0 : Option Addr) (c0 : Nat) (l0 : List (S39)) (a1 : Int) (r : ByteArray) (w : World) (hr0 : Kd.C k39 w A0 l0.length l0) (hc0 : l0.length ≤ c0) (h : spec_l2Text.f k l0 a1 = some r) :
  Calls Tryd.prog 69 #[.slice A0 l0.length c0, .int .i64 a1] w fun e w' => e = .returned (.string r) ∧ Below w.heap.size w w' := by
 have HR0 := Aside0.mk hr0
 have HC0 := Aside0.mk hc0
 clear hr0 hc0
 have HB := Aside0.mk (Below.refl w.heap.size w)
 have H : ((spec_l2Kids.f k l0 a1).bind fun t613 => (spec_l2Text.l0 k l0 (⟨#[]⟩ : ByteArray) t613 0)) = some r := h
 clear h
 replace H := Option.bind_eq_some_iff.mp H
 obtain ⟨t613, A30, H⟩ := H
 replace H : (spec_l2Text.l0 k l0 (⟨#[]⟩ : ByteArray) t613 0) = some r := H
 have A3 := Aside0.mk A30
 clear A30
 have H' := Aside0.mk H
 clear H
 go_enter Tryd.func69, Tryd.ntmps69
 go_wp2_with (first | ((with_reducible refine gate_callee (f := 70) rfl ?_); refine goesL_ (some 10) rfl rfl Tryd.func70 dq29 rfl #[.slice A0 l0.length c0, .int .i64 a1] rfl dq28 ?_; (with_reducible refine (spec_l2Kids.calls k _ _ l0 a1 t613 _ ?side1 ?side2 A3.out).mono ?_); (case side1 => exact dq15); (case side2 => exact dq14); rintro e w4 ⟨v614, rfl, ho0, hb⟩; refine ⟨_, rfl, ?_⟩; have n0_ := Aside0.mk (Kd.R_lower ho0 (below_size dq27)); have n1_ := Aside0.mk (below_step dq27 hb); clear HB; have HO615 := n0_; have HB := n1_; clear n0_ n1_; (try clear hb); (try clear hb2); (try clear hk); (try clear hi); (try clear ho0)))
 go_loopg [5, 7] k (fun kq v5 v7 w' => ∃ (x5_1 : ByteArray) (x7_1 : Int), v5 = .string x5_1 ∧ v7 = .int .i64 x7_1 ∧ Aside0 (spec_l2Text.l0 kq l0 x5_1 t613 x7_1 = some r) ∧ Aside0 (kq ≤ k) ∧ Aside0 (Kd.R (Kd.int .i64) 2 w' w.heap.size (fun _ => True) v614 t613) ∧ Aside0 (Below w.heap.size w w'))
 case atStart => exact ⟨((⟨#[]⟩ : ByteArray)), (0), dq26, dq26, H', ⟨Nat.le_refl _⟩, ⟨by (with_reducible repeat (first | apply Kd.R_alloc | apply Kd.R_drewN | apply Kd.R_drew)); exact HO615.out⟩, ⟨dq27⟩⟩
 clear H'
 try clear p2
 obtain ⟨x5_1, x7_1, rfl, rfl, HA, HK1, HO_6, HB⟩ := hrel
 cases gk with
 | zero => exact absurd HA.out (by simp [spec_l2Text.l0])
 | succ k1 =>
  have H := HA.out
  clear HA
  simp only [spec_l2Text.l0] at H
  by_cases c5 : x7_1 < (t613.length : Int)
  rotate_left
  ·rw [if_neg c5] at H
   have c5b0 := decide_eq_false c5
   clear c5
   obtain rfl := Option.some.inj H
   obtain ⟨Ao11, co11, eo11⟩ := Kd.R_slice HO_6.out
   subst eo11
   go_wp2
   go_ret
   exact ⟨dq33, dq27⟩
  rw [if_pos c5] at H
  have c5b0 := decide_eq_true c5
  clear c5
  by_cases c6 : 0 ≤ x7_1
  rotate_left
  ·rw [if_neg c6] at H
   exact absurd H dq32
  rw [if_pos c6] at H
  have c6b0 := decide_eq_true c6
  clear c6
  by_cases c7 : 0 ≤ (rd t613 x7_1)
  rotate_left
  ·rw [if_neg c7] at H
   exact absurd H dq32
  rw [if_pos c7] at H
  have c7b0 := decide_eq_true c7
  clear c7
  by_cases c8 : (rd t613 x7_1) < (l0.length : Int)
  rotate_left
  ·rw [if_neg c8] at H
   exact absurd H dq32
  rw [if_pos c8] at H
  have c8b0 := decide_eq_true c8
  clear c8
  by_cases c9 : x5_1.size + ((rd_T39 l0 (rd t613 x7_1)).f2).size ≤ 9223372036854775807
  rotate_left
  ·rw [if_neg c9] at H
   exact absurd H dq32
  rw [if_pos c9] at H
  have c9b0 := eq_true c9
  have c9b1 := decide_eq_true c9
  try have c9b2 : (9223372036854775807 < x5_1.size + ((rd_T39 l0 (rd t613 x7_1)).f2).size) = False := eq_false (Nat.not_lt.2 c9)
  have H' := Aside0.mk H
  clear H
  obtain ⟨Ao10, co10, eo10⟩ := Kd.R_slice HO_6.out
  subst eo10
  have p616 : 0 ≤ (x7_1 : Int) := of_decide_eq_true dq30
  have q616 : x7_1 < (t613.length : Int) := of_decide_eq_true dq30
  obtain ⟨ad616, e616, hx616_0⟩ := Kd.at_int (Kd.R_reads' HO_6.out).2.2 x7_1 p616 q616
  cases e616
  replace p616 := eq_true p616
  replace q616 := eq_true q616
  have p617 : 0 ≤ ((rd t613 x7_1) : Int) := of_decide_eq_true dq30
  have q617 : (rd t613 x7_1) < (l0.length : Int) := of_decide_eq_true dq30
  obtain ⟨ad617, A617_3, c617_3, e617, hx617_0, hx617_1, hx617_2, hx617_3, hl617_3, hi617_3⟩ := at_T39 HR0.out (rd t613 x7_1) p617 q617
  cases e617
  replace hx617_0 := (HB.out.cell (World.block_lt_of_cell? w _ hx617_0)).trans hx617_0
  replace hx617_1 := (HB.out.cell (World.block_lt_of_cell? w _ hx617_1)).trans hx617_1
  replace hx617_2 := (HB.out.cell (World.block_lt_of_cell? w _ hx617_2)).trans hx617_2
  replace hx617_3 := (HB.out.cell (World.block_lt_of_cell? w _ hx617_3)).trans hx617_3
  have HR617_3 := Aside0.mk hi617_3
  have HC617_3 := Aside0.mk hl617_3
  clear hi617_3 hl617_3
  replace p617 := eq_true p617
  replace q617 := eq_true q617
  go_wp2
  go_roundg k1
  case measure => have := HK1.out; omega
  case rel => exact ⟨(x5_1 ++ ((rd_T39 l0 (rd t613 x7_1)).f2)), (wrap64 (x7_1 + 1)), dq26, dq26, H', ⟨dq31⟩, ⟨by (with_reducible repeat (first | apply Kd.R_alloc | apply Kd.R_drewN | apply Kd.R_drew)); exact HO_6.out⟩, ⟨dq27⟩⟩

/-! ### spec_TextOf: function 32 -/
def spec_TextOf.f (k : Nat) (l0 : List (S39)) (a1 : Int) : Option (ByteArray × Bool) := (spec_DocOk.f k l0).bind fun t618 => (if t618 = true then ((spec_l1In.f a1 0 (wrap64 ((l0.length : Int) - 1))).bind fun t619 => (if t619 = true then (if 0 ≤ a1 then (if a1 < (l0.length : Int) then (if ((rd_T39 l0 a1).f1).toList = ([] : List UInt8) then (some ((⟨#[]⟩ : ByteArray), false)) else ((spec_l2Text.f k l0 a1).bind fun t621 => (some (t621, true)))) else (none)) else (none)) else (some ((⟨#[]⟩ : ByteArray), false)))) else (some ((⟨#[]⟩ : ByteArray), false)))
set_option maxHeartbeats 8000000 in
set_option maxRecDepth 100000 in
theorem spec_TextOf.calls (k : Nat) (A0 : Option Addr) (c0 : Nat) (l0 : List (S39)) (a1 : Int) (r1 : ByteArray) (r2 : Bool) (w : World) (hr0 : Kd.C k39 w A0 l0.length l0) (hc0 : l0.length ≤ c0) (h : spec_TextOf.f k l0 a1 = some (r1, r2)) :
  Calls Tryd.prog 32 #[.slice A0 l0.length c0, .int .i64 a1] w fun e w' => e = .returned (.tuple #[.string r1, .bool r2]) ∧ Below w.heap.size w w' := by
 have HR0 := Aside0.mk hr0
 have HC0 := Aside0.mk hc0
 clear hr0 hc0
 have HB := Aside0.mk (Below.refl w.heap.size w)
 have H : ((spec_DocOk.f k l0).bind fun t618 => (if t618 = true then ((spec_l1In.f a1 0 (wrap64 ((l0.length : Int) - 1))).bind fun t619 => (if t619 = true then (if 0 ≤ a1 then (if a1 < (l0.length : Int) then (if ((rd_T39 l0 a1).f1).toList = ([] : List UInt8) then (some ((⟨#[]⟩ : ByteArray), false)) else ((spec_l2Text.f k l0 a1).bind fun t621 => (some (t621, true)))) else (none)) else (none)) else (some ((⟨#[]⟩ : ByteArray), false)))) else (some ((⟨#[]⟩ : ByteArray), false)))) = some (r1, r2) := h
 clear h
 replace H := Option.bind_eq_some_iff.mp H
 obtain ⟨t618, A30, H⟩ := H
 replace H : (if t618 = true then ((spec_l1In.f a1 0 (wrap64 ((l0.length : Int) - 1))).bind fun t619 => (if t619 = true then (if 0 ≤ a1 then (if a1 < (l0.length : Int) then (if ((rd_T39 l0 a1).f1).toList = ([] : List UInt8) then (some ((⟨#[]⟩ : ByteArray), false)) else ((spec_l2Text.f k l0 a1).bind fun t621 => (some (t621, true)))) else (none)) else (none)) else (some ((⟨#[]⟩ : ByteArray), false)))) else (some ((⟨#[]⟩ : ByteArray), false))) = some (r1, r2) := H
 have A3 := Aside0.mk A30
 clear A30
 by_cases c4 : t618 = true
 rotate_left
 ·replace c4 := Bool.eq_false_iff.mpr c4
  subst c4
  have H1 : (some ((⟨#[]⟩ : ByteArray), false)) = some (r1, r2) := by rw [if_neg (show ¬ (false = true) by decide)] at H; exact H
  clear H
  have H := H1
  clear H1
  simp only [Option.some.injEq, Prod.mk.injEq] at H
  obtain ⟨rfl, rfl⟩ := H
  go_enter Tryd.func32, Tryd.ntmps32
  go_wp2_with (first | ((with_reducible refine gate_callee (f := 23) rfl ?_); refine goesL_ (some 7) rfl rfl Tryd.func23 dq29 rfl #[.slice A0 l0.length c0] rfl dq28 ?_; (with_reducible refine (spec_DocOk.calls k _ _ l0 false _ ?side1 ?side2 A3.out).mono ?_); (case side1 => exact dq15); (case side2 => exact dq14); rintro e w15 ⟨rfl, hb⟩; refine ⟨_, rfl, ?_⟩; have n0_ := Aside0.mk (below_step dq27 hb); clear HB; have HB := n0_; clear n0_; (try clear hb); (try clear hb2); (try clear hk); (try clear hi)))
  go_ret2
  exact ⟨dq33, dq27⟩
 subst c4
 have H1 : ((spec_l1In.f a1 0 (wrap64 ((l0.length : Int) - 1))).bind fun t619 => (if t619 = true then (if 0 ≤ a1 then (if a1 < (l0.length : Int) then (if ((rd_T39 l0 a1).f1).toList = ([] : List UInt8) then (some ((⟨#[]⟩ : ByteArray), false)) else ((spec_l2Text.f k l0 a1).bind fun t621 => (some (t621, true)))) else (none)) else (none)) else (some ((⟨#[]⟩ : ByteArray), false)))) = some (r1, r2) := by rw [if_pos rfl] at H; exact H
 clear H
 have H := H1
 clear H1
 replace H := Option.bind_eq_some_iff.mp H
 obtain ⟨t619, A50, H⟩ := H
 replace H : (if t619 = true then (if 0 ≤ a1 then (if a1 < (l0.length : Int) then (if ((rd_T39 l0 a1).f1).toList = ([] : List UInt8) then (some ((⟨#[]⟩ : ByteArray), false)) else ((spec_l2Text.f k l0 a1).bind fun t621 => (some (t621, true)))) else (none)) else (none)) else (some ((⟨#[]⟩ : ByteArray), false))) = some (r1, r2) := H
 have A5 := Aside0.mk A50
 clear A50
 by_cases c6 : t619 = true
 rotate_left
 ·replace c6 := Bool.eq_false_iff.mpr c6
  subst c6
  have H1 : (some ((⟨#[]⟩ : ByteArray), false)) = some (r1, r2) := by rw [if_neg (show ¬ (false = true) by decide)] at H; exact H
  clear H
  have H := H1
  clear H1
  simp only [Option.some.injEq, Prod.mk.injEq] at H
  obtain ⟨rfl, rfl⟩ := H
  go_enter Tryd.func32, Tryd.ntmps32
  go_wp2_with (first | ((with_reducible refine gate_callee (f := 23) rfl ?_); refine goesL_ (some 7) rfl rfl Tryd.func23 dq29 rfl #[.slice A0 l0.length c0] rfl dq28 ?_; (with_reducible refine (spec_DocOk.calls k _ _ l0 true _ ?side1 ?side2 A3.out).mono ?_); (case side1 => exact dq15); (case side2 => exact dq14); rintro e w14 ⟨rfl, hb⟩; refine ⟨_, rfl, ?_⟩; have n0_ := Aside0.mk (below_step dq27 hb); clear HB; have HB := n0_; clear n0_; (try clear hb); (try clear hb2); (try clear hk); (try clear hi)) | (go_at_call 41; (with_reducible refine (spec_l1In.calls a1 0 (wrap64 ((l0.length : Int) - 1)) false _ A5.out).mono ?_); rintro e w' ⟨rfl, ⟨nd, rfl⟩⟩))
  go_ret2
  exact ⟨dq33, dq27⟩
 subst c6
 have H1 : (if 0 ≤ a1 then (if a1 < (l0.length : Int) then (if ((rd_T39 l0 a1).f1).toList = ([] : List UInt8) then (some ((⟨#[]⟩ : ByteArray), false)) else ((spec_l2Text.f k l0 a1).bind fun t621 => (some (t621, true)))) else (none)) else (none)) = some (r1, r2) := by rw [if_pos rfl] at H; exact H
 clear H
 have H := H1
 clear H1
 by_cases c7 : 0 ≤ a1
 rotate_left
 ·rw [if_neg c7] at H
  exact absurd H dq32
 rw [if_pos c7] at H
 have c7b0 := decide_eq_true c7
 clear c7
 by_cases c8 : a1 < (l0.length : Int)
 rotate_left
 ·rw [if_neg c8] at H
  exact absurd H dq32
 rw [if_pos c8] at H
 have c8b0 := decide_eq_true c8
 clear c8
 by_cases c9 : ((rd_T39 l0 a1).f1).toList = ([] : List UInt8)
 ·rw [if_pos c9] at H
  have c9b0 := beq_iff_eq.mpr c9
  have c9b1 := bne_eq_false_iff_eq.mpr c9
  clear c9
  simp only [Option.some.injEq, Prod.mk.injEq] at H
  obtain ⟨rfl, rfl⟩ := H
  go_enter Tryd.func32, Tryd.ntmps32
  go_wp2_with (first | ((with_reducible refine gate_callee (f := 23) rfl ?_); refine goesL_ (some 7) rfl rfl Tryd.func23 dq29 rfl #[.slice A0 l0.length c0] rfl dq28 ?_; (with_reducible refine (spec_DocOk.calls k _ _ l0 true _ ?side1 ?side2 A3.out).mono ?_); (case side1 => exact dq15); (case side2 => exact dq14); rintro e w10 ⟨rfl, hb⟩; refine ⟨_, rfl, ?_⟩; have n0_ := Aside0.mk (below_step dq27 hb); clear HB; have HB := n0_; clear n0_; (try clear hb); (try clear hb2); (try clear hk); (try clear hi)) | (go_at_call 41; (with_reducible refine (spec_l1In.calls a1 0 (wrap64 ((l0.length : Int) - 1)) true _ A5.out).mono ?_); rintro e w' ⟨rfl, ⟨nd, rfl⟩⟩; have p620 : 0 ≤ (a1 : Int) := of_decide_eq_true dq30; have q620 : a1 < (l0.length : Int) := of_decide_eq_true dq30; obtain ⟨ad620, A620_3, c620_3, e620, hx620_0, hx620_1, hx620_2, hx620_3, hl620_3, hi620_3⟩ := at_T39 HR0.out a1 p620 q620; cases e620; replace hx620_0 := (HB.out.cell (World.block_lt_of_cell? w _ hx620_0)).trans hx620_0; replace hx620_1 := (HB.out.cell (World.block_lt_of_cell? w _ hx620_1)).trans hx620_1; replace hx620_2 := (HB.out.cell (World.block_lt_of_cell? w _ hx620_2)).trans hx620_2; replace hx620_3 := (HB.out.cell (World.block_lt_of_cell? w _ hx620_3)).trans hx620_3; have HR620_3 := Aside0.mk hi620_3; have HC620_3 := Aside0.mk hl620_3; clear hi620_3 hl620_3; replace p620 := eq_true p620; replace q620 := eq_true q620))
  go_ret2
  exact ⟨dq33, dq27⟩
 rw [if_neg c9] at H
 have c9b0 := beq_eq_false_iff_ne.mpr c9
 have c9b1 := bne_iff_ne.mpr c9
 replace H := Option.bind_eq_some_iff.mp H
 obtain ⟨t621, A110, H⟩ := H
 replace H : (some (t621, true)) = some (r1, r2) := H
 have A11 := Aside0.mk A110
 clear A110
 simp only [Option.some.injEq, Prod.mk.injEq] at H
 obtain ⟨rfl, rfl⟩ := H
 go_enter Tryd.func32, Tryd.ntmps32
 go_wp2_with (first | ((with_reducible refine gate_callee (f := 23) rfl ?_); refine goesL_ (some 7) rfl rfl Tryd.func23 dq29 rfl #[.slice A0 l0.length c0] rfl dq28 ?_; (with_reducible refine (spec_DocOk.calls k _ _ l0 true _ ?side1 ?side2 A3.out).mono ?_); (case side1 => exact dq15); (case side2 => exact dq14); rintro e w12 ⟨rfl, hb⟩; refine ⟨_, rfl, ?_⟩; have n0_ := Aside0.mk (below_step dq27 hb); clear HB; have HB := n0_; clear n0_; (try clear hb); (try clear hb2); (try clear hk); (try clear hi)) | (go_at_call 41; (with_reducible refine (spec_l1In.calls a1 0 (wrap64 ((l0.length : Int) - 1)) true _ A5.out).mono ?_); rintro e w' ⟨rfl, ⟨nd, rfl⟩⟩; have p620 : 0 ≤ (a1 : Int) := of_decide_eq_true dq30; have q620 : a1 < (l0.length : Int) := of_decide_eq_true dq30; obtain ⟨ad620, A620_3, c620_3, e620, hx620_0, hx620_1, hx620_2, hx620_3, hl620_3, hi620_3⟩ := at_T39 HR0.out a1 p620 q620; cases e620; replace hx620_0 := (HB.out.cell (World.block_lt_of_cell? w _ hx620_0)).trans hx620_0; replace hx620_1 := (HB.out.cell (World.block_lt_of_cell? w _ hx620_1)).trans hx620_1; replace hx620_2 := (HB.out.cell (World.block_lt_of_cell? w _ hx620_2)).trans hx620_2; replace hx620_3 := (HB.out.cell (World.block_lt_of_cell? w _ hx620_3)).trans hx620_3; have HR620_3 := Aside0.mk hi620_3; have HC620_3 := Aside0.mk hl620_3; clear hi620_3 hl620_3; replace p620 := eq_true p620; replace q620 := eq_true q620) | ((with_reducible refine gate_callee (f := 69) rfl ?_); refine goesL_ (some 27) rfl rfl Tryd.func69 dq29 rfl #[.slice (some ad620) l0.length c0, .int .i64 a1] rfl dq28 ?_; (with_reducible refine (spec_l2Text.calls k _ _ l0 a1 t621 _ ?side1 ?side2 A11.out).mono ?_); (case side1 => repeat (first | exact (Kd.C_below HR0.out dq27) | (with_reducible refine Kd.C_alloc ?_ _) | (with_reducible refine Kd.C_drewN ?_ _) | (with_reducible refine Kd.C_drew ?_))); (case side2 => exact dq14); rintro e w13 ⟨rfl, hb⟩; refine ⟨_, rfl, ?_⟩; have n0_ := Aside0.mk (below_step dq27 hb); clear HB; have HB := n0_; clear n0_; (try clear hb); (try clear hb2); (try clear hk); (try clear hi)))
 go_ret2
 exact ⟨dq33, dq27⟩

/-! ### spec_KidsOf: function 33 -/
def spec_KidsOf.f (k : Nat) (l0 : List (S39)) (a1 : Int) : Option (List Int) := (spec_DocOk.f k l0).bind fun t622 => (if t622 = true then ((spec_l1In.f a1 0 (wrap64 ((l0.length : Int) - 1))).bind fun t623 => (if t623 = true then ((spec_l2Kids.f k l0 a1).bind fun t624 => (some t624)) else (some (([] : List Int))))) else (some (([] : List Int))))
set_option maxHeartbeats 8000000 in
set_option maxRecDepth 100000 in
theorem spec_KidsOf.calls (k : Nat) (A0 : Option Addr) (c0 : Nat) (l0 : List (S39)) (a1 : Int) (r : List Int) (w : World) (hr0 : Kd.C k39 w A0 l0.length l0) (hc0 : l0.length ≤ c0) (h : spec_KidsOf.f k l0 a1 = some r) :
  Calls Tryd.prog 33 #[.slice A0 l0.length c0, .int .i64 a1] w fun e w' => ∃ v0_ : Value, e = .returned (v0_) ∧ Kd.R (Kd.int .i64) 2 w' w.heap.size (fun _ => True) v0_ r ∧ Below w.heap.size w w' := by
 have HR0 := Aside0.mk hr0
 have HC0 := Aside0.mk hc0
 clear hr0 hc0
 have HB := Aside0.mk (Below.refl w.heap.size w)
 have H : ((spec_DocOk.f k l0).bind fun t622 => (if t622 = true then ((spec_l1In.f a1 0 (wrap64 ((l0.length : Int) - 1))).bind fun t623 => (if t623 = true then ((spec_l2Kids.f k l0 a1).bind fun t624 => (some t624)) else (some (([] : List Int))))) else (some (([] : List Int))))) = some r := h
 clear h
 replace H := Option.bind_eq_some_iff.mp H
 obtain ⟨t622, A30, H⟩ := H
 replace H : (if t622 = true then ((spec_l1In.f a1 0 (wrap64 ((l0.length : Int) - 1))).bind fun t623 => (if t623 = true then ((spec_l2Kids.f k l0 a1).bind fun t624 => (some t624)) else (some (([] : List Int))))) else (some (([] : List Int)))) = some r := H
 have A3 := Aside0.mk A30
 clear A30
 by_cases c4 : t622 = true
 rotate_left
 ·replace c4 := Bool.eq_false_iff.mpr c4
  subst c4
  have H1 : (some (([] : List Int))) = some r := by rw [if_neg (show ¬ (false = true) by decide)] at H; exact H
  clear H
  have H := H1
  clear H1
  obtain ⟨y630, hy630⟩ : ∃ y_ : List Int, y_ = (([] : List Int)) := ⟨_, rfl⟩
  replace H : (some y630) = some r := by first | (rw [hy630]; with_reducible exact H) | (have H2_ := (Option.bind_some _ _).symm.trans H; rw [hy630]; with_reducible exact H2_) | (have H2_ := (Option.bind_some _ _).symm.trans H; with_reducible exact H2_) | with_reducible exact H | (rw [hy630]; exact H) | exact H
  have Ny630 := Aside0.mk hy630
  clear hy630
  obtain rfl := Option.some.inj H
  go_enter Tryd.func33, Tryd.ntmps33
  go_wp2_with (first | ((with_reducible refine gate_callee (f := 23) rfl ?_); refine goesL_ (some 6) rfl rfl Tryd.func23 dq29 rfl #[.slice A0 l0.length c0] rfl dq28 ?_; (with_reducible refine (spec_DocOk.calls k _ _ l0 false _ ?side1 ?side2 A3.out).mono ?_); (case side1 => exact dq15); (case side2 => exact dq14); rintro e w13 ⟨rfl, hb⟩; refine ⟨_, rfl, ?_⟩; have n0_ := Aside0.mk (below_step dq27 hb); clear HB; have HB := n0_; clear n0_; (try clear hb); (try clear hb2); (try clear hk); (try clear hi)) | ((with_reducible refine gate_dst (N := 16) rfl ?_); (try (refine gate_guard (by rfl) ?_; dsimp only)); refine Kd.R_lit (Kd.int .i64) _ 2 ?hg (N := 16) ?hd (xs := ([] : List Int)) (inner := []) (ok := fun _ => True) (okp := fun _ => True) ?hr ?hp (fun _ hk => hk) trivial (Below.refl _ _) (Nat.le_refl _) dq32 ?_; (case hd => rfl); (case hg => rfl); (case hr => exact dq1); (case hp => exact (Reps.none _ _)); intro v631 w14 ho15 hb hg_ hnew_; clear hg_ hnew_; (first | rw [← Ny630.out] at ho15 | (simp only [Int.reduceToNat] at ho15; rw [← Ny630.out] at ho15)); have n0_ := Aside0.mk (Kd.R_lower ho15 (below_size dq27)); have n1_ := Aside0.mk (below_step dq27 hb); clear HB; have HO632 := n0_; have HB := n1_; clear n0_ n1_; clear hb ho15))
  go_ret
  exact ⟨_, dq33, by (with_reducible repeat (first | apply Kd.R_alloc | apply Kd.R_drewN | apply Kd.R_drew)); exact HO632.out, dq27⟩
 subst c4
 have H1 : ((spec_l1In.f a1 0 (wrap64 ((l0.length : Int) - 1))).bind fun t623 => (if t623 = true then ((spec_l2Kids.f k l0 a1).bind fun t624 => (some t624)) else (some (([] : List Int))))) = some r := by rw [if_pos rfl] at H; exact H
 clear H
 have H := H1
 clear H1
 replace H := Option.bind_eq_some_iff.mp H
 obtain ⟨t623, A50, H⟩ := H
 replace H : (if t623 = true then ((spec_l2Kids.f k l0 a1).bind fun t624 => (some t624)) else (some (([] : List Int)))) = some r := H
 have A5 := Aside0.mk A50
 clear A50
 by_cases c6 : t623 = true
 ·subst c6
  have H1 : ((spec_l2Kids.f k l0 a1).bind fun t624 => (some t624)) = some r := by rw [if_pos rfl] at H; exact H
  clear H
  have H := H1
  clear H1
  replace H := Option.bind_eq_some_iff.mp H
  obtain ⟨t624, A70, H⟩ := H
  replace H : (some t624) = some r := H
  have A7 := Aside0.mk A70
  clear A70
  obtain rfl := Option.some.inj H
  go_enter Tryd.func33, Tryd.ntmps33
  go_wp2_with (first | ((with_reducible refine gate_callee (f := 23) rfl ?_); refine goesL_ (some 6) rfl rfl Tryd.func23 dq29 rfl #[.slice A0 l0.length c0] rfl dq28 ?_; (with_reducible refine (spec_DocOk.calls k _ _ l0 true _ ?side1 ?side2 A3.out).mono ?_); (case side1 => exact dq15); (case side2 => exact dq14); rintro e w8 ⟨rfl, hb⟩; refine ⟨_, rfl, ?_⟩; have n0_ := Aside0.mk (below_step dq27 hb); clear HB; have HB := n0_; clear n0_; (try clear hb); (try clear hb2); (try clear hk); (try clear hi)) | (go_at_call 41; (with_reducible refine (spec_l1In.calls a1 0 (wrap64 ((l0.length : Int) - 1)) true _ A5.out).mono ?_); rintro e w' ⟨rfl, ⟨nd, rfl⟩⟩) | ((with_reducible refine gate_callee (f := 70) rfl ?_); refine goesL_ (some 19) rfl rfl Tryd.func70 dq29 rfl #[.slice A0 l0.length c0, .int .i64 a1] rfl dq28 ?_; (with_reducible refine (spec_l2Kids.calls k _ _ l0 a1 t624 _ ?side1 ?side2 A7.out).mono ?_); (case side1 => repeat (first | exact (Kd.C_below HR0.out dq27) | (with_reducible refine Kd.C_alloc ?_ _) | (with_reducible refine Kd.C_drewN ?_ _) | (with_reducible refine Kd.C_drew ?_))); (case side2 => exact dq14); rintro e w9 ⟨v625, rfl, ho0, hb⟩; refine ⟨_, rfl, ?_⟩; have n0_ := Aside0.mk (Kd.R_lower ho0 (below_size dq27)); have n1_ := Aside0.mk (below_step dq27 hb); clear HB; have HO626 := n0_; have HB := n1_; clear n0_ n1_; (try clear hb); (try clear hb2); (try clear hk); (try clear hi); (try clear ho0)))
  go_ret
  exact ⟨_, dq33, by (with_reducible repeat (first | apply Kd.R_alloc | apply Kd.R_drewN | apply Kd.R_drew)); exact HO626.out, dq27⟩
 replace c6 := Bool.eq_false_iff.mpr c6
 subst c6
 have H1 : (some (([] : List Int))) = some r := by rw [if_neg (show ¬ (false = true) by decide)] at H; exact H
 clear H
 have H := H1
 clear H1
 obtain ⟨y627, hy627⟩ : ∃ y_ : List Int, y_ = (([] : List Int)) := ⟨_, rfl⟩
 replace H : (some y627) = some r := by first | (rw [hy627]; with_reducible exact H) | (have H2_ := (Option.bind_some _ _).symm.trans H; rw [hy627]; with_reducible exact H2_) | (have H2_ := (Option.bind_some _ _).symm.trans H; with_reducible exact H2_) | with_reducible exact H | (rw [hy627]; exact H) | exact H
 have Ny627 := Aside0.mk hy627
 clear hy627
 obtain rfl := Option.some.inj H
 go_enter Tryd.func33, Tryd.ntmps33
 go_wp2_with (first | ((with_reducible refine gate_callee (f := 23) rfl ?_); refine goesL_ (some 6) rfl rfl Tryd.func23 dq29 rfl #[.slice A0 l0.length c0] rfl dq28 ?_; (with_reducible refine (spec_DocOk.calls k _ _ l0 true _ ?side1 ?side2 A3.out).mono ?_); (case side1 => exact dq15); (case side2 => exact dq14); rintro e w10 ⟨rfl, hb⟩; refine ⟨_, rfl, ?_⟩; have n0_ := Aside0.mk (below_step dq27 hb); clear HB; have HB := n0_; clear n0_; (try clear hb); (try clear hb2); (try clear hk); (try clear hi)) | (go_at_call 41; (with_reducible refine (spec_l1In.calls a1 0 (wrap64 ((l0.length : Int) - 1)) false _ A5.out).mono ?_); rintro e w' ⟨rfl, ⟨nd, rfl⟩⟩) | ((with_reducible refine gate_dst (N := 16) rfl ?_); (try (refine gate_guard (by rfl) ?_; dsimp only)); refine Kd.R_lit (Kd.int .i64) _ 2 ?hg (N := 16) ?hd (xs := ([] : List Int)) (inner := []) (ok := fun _ => True) (okp := fun _ => True) ?hr ?hp (fun _ hk => hk) trivial (Below.refl _ _) (Nat.le_refl _) dq32 ?_; (case hd => rfl); (case hg => rfl); (case hr => exact dq1); (case hp => exact (Reps.none _ _)); intro v628 w11 ho12 hb hg_ hnew_; clear hg_ hnew_; (first | rw [← Ny627.out] at ho12 | (simp only [Int.reduceToNat] at ho12; rw [← Ny627.out] at ho12)); have n0_ := Aside0.mk (Kd.R_lower ho12 (below_size dq27)); have n1_ := Aside0.mk (below_step dq27 hb); clear HB; have HO629 := n0_; have HB := n1_; clear n0_ n1_; clear hb ho12))
 go_ret
 exact ⟨_, dq33, by (with_reducible repeat (first | apply Kd.R_alloc | apply Kd.R_drewN | apply Kd.R_drew)); exact HO629.out, dq27⟩

end Go.Proofs.YtpmjpbaeecnpiaaDoor.L
