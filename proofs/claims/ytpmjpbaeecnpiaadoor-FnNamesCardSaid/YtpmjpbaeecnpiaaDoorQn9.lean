/- Words and contracts for the row RowFnNames: what the Go functions answer that it calls; printed by programs of the kit and of this session, and merged. -/
import Derived.Test.YtpmjpbaeecnpiaaDoorQn8
namespace Go.Proofs.YtpmjpbaeecnpiaaDoor.L
open Go.RowKit Go.Proofs.YtpmjpbaeecnpiaaDoorW.PrintWords Go.Proofs.YtpmjpbaeecnpiaaDoorW.PrintLast Go.Proofs.YtpmjpbaeecnpiaaDoorW.PrintMore
attribute [local go_sem] max2_int min2_int max_two min_two max_three min_three max_four min_four
set_option linter.unusedVariables false
set_option linter.unusedSimpArgs false

/-! ### spec_DocOk: function 23 -/
mutual
def spec_DocOk.j0 : Nat → List (S39) → Bool → Option (Bool)
 | 0, _, _ => none
 | k + 1, x0, x15 => if x15 = true then (some false) else (spec_DocOk.l0 k x0 0 0)
def spec_DocOk.l0 : Nat → List (S39) → Int → Int → Option (Bool)
 | 0, _, _, _ => none
 | k + 1, x0, x3, x4 => if x4 < (x0.length : Int) then (if 0 ≤ x4 then (spec_DocOk.l1 k x0 (wrap64 ((wrap64 (x3 + (((rd_T39 x0 x4).f1).size : Int))) + (((rd_T39 x0 x4).f2).size : Int))) x4 0 ((rd_T39 x0 x4).f0) ((rd_T39 x0 x4).f1) ((rd_T39 x0 x4).f2) ((rd_T39 x0 x4).f3)) else (none)) else (some true)
def spec_DocOk.j3 : Nat → List (S39) → Int → Int → Int → ByteArray → ByteArray → List (S46) → Option (Bool)
 | 0, _, _, _, _, _, _, _ => none
 | k + 1, x0, x3, x4, x141000, x141001, x141002, x141003 => if x3 > 2500 then (some false) else (if x4 = 0 then (if x141000 = (-1) then (if x141001.toList = ([] : List UInt8) then (some false) else (spec_DocOk.j4 k x0 x3 x4 x141000 x141001 x141002 x141003)) else (some false)) else ((spec_l1In.f x141000 0 (wrap64 (x4 - 1))).bind fun t143 => (if t143 = true then (if 0 ≤ x141000 then (if x141000 < (x0.length : Int) then (if ((rd_T39 x0 x141000).f1).toList = ([] : List UInt8) then (some false) else (spec_DocOk.j4 k x0 x3 x4 x141000 x141001 x141002 x141003)) else (none)) else (none)) else (some false))))
def spec_DocOk.j4 : Nat → List (S39) → Int → Int → Int → ByteArray → ByteArray → List (S46) → Option (Bool)
 | 0, _, _, _, _, _, _, _ => none
 | k + 1, x0, x3, x4, x141000, x141001, x141002, x141003 => if x4 > 0 then (spec_DocOk.l2 k x0 x3 x4 (wrap64 (x4 - 1)) x141000 x141001 x141002 x141003) else (spec_DocOk.j6 k x0 x3 x4 x141000 x141001 x141002 x141003)
def spec_DocOk.j6 : Nat → List (S39) → Int → Int → Int → ByteArray → ByteArray → List (S46) → Option (Bool)
 | 0, _, _, _, _, _, _, _ => none
 | k + 1, x0, x3, x4, x141000, x141001, x141002, x141003 => (spec_l2Deep.f k x0 x4).bind fun t146 => (if t146 ≥ 20 then (some false) else (if x141001.toList = ([] : List UInt8) then (if x141002.toList = ([] : List UInt8) then (spec_DocOk.j7 k x0 x3 x4 true x141000 x141001 x141002 x141003) else (if (x141003.length : Int) > 0 then (spec_DocOk.j7 k x0 x3 x4 true x141000 x141001 x141002 x141003) else ((spec_l1Text.f k x141002).bind fun t147 => (spec_DocOk.j7 k x0 x3 x4 (!t147) x141000 x141001 x141002 x141003)))) else (if x141002.toList = ([] : List UInt8) then ((spec_l1Qual.f k x141001).bind fun t150 => (if t150 = true then ((spec_l2Attrs.f k x141003).bind fun t151 => (if t151 = true then (spec_DocOk.l0 k x0 x3 (wrap64 (x4 + 1))) else (some false))) else (some false))) else (some false))))
def spec_DocOk.j7 : Nat → List (S39) → Int → Int → Bool → Int → ByteArray → ByteArray → List (S46) → Option (Bool)
 | 0, _, _, _, _, _, _, _, _ => none
 | k + 1, x0, x3, x4, x130, x141000, x141001, x141002, x141003 => if x130 = true then (some false) else (if 0 ≤ (wrap64 (x4 - 1)) then (if (wrap64 (x4 - 1)) < (x0.length : Int) then (if ((rd_T39 x0 (wrap64 (x4 - 1))).f1).toList = ([] : List UInt8) then (if ((rd_T39 x0 (wrap64 (x4 - 1))).f0) = x141000 then (some false) else (spec_DocOk.l0 k x0 x3 (wrap64 (x4 + 1)))) else (spec_DocOk.l0 k x0 x3 (wrap64 (x4 + 1)))) else (none)) else (none))
def spec_DocOk.l2 : Nat → List (S39) → Int → Int → Int → Int → ByteArray → ByteArray → List (S46) → Option (Bool)
 | 0, _, _, _, _, _, _, _, _ => none
 | k + 1, x0, x3, x4, x7, x141000, x141001, x141002, x141003 => if x7 ≥ 0 then (if x7 = x141000 then (if x7 < 0 then (some false) else (spec_DocOk.j6 k x0 x3 x4 x141000 x141001 x141002 x141003)) else (if 0 ≤ x7 then (if x7 < (x0.length : Int) then (spec_DocOk.l2 k x0 x3 x4 ((rd_T39 x0 x7).f0) x141000 x141001 x141002 x141003) else (none)) else (none))) else (if x7 < 0 then (some false) else (spec_DocOk.j6 k x0 x3 x4 x141000 x141001 x141002 x141003))
def spec_DocOk.l1 : Nat → List (S39) → Int → Int → Int → Int → ByteArray → ByteArray → List (S46) → Option (Bool)
 | 0, _, _, _, _, _, _, _, _ => none
 | k + 1, x0, x3, x4, x6, x141000, x141001, x141002, x141003 => if x6 < (x141003.length : Int) then (if x6 < 20 then (if 0 ≤ x6 then (spec_DocOk.l1 k x0 (wrap64 ((wrap64 (x3 + (((rd_T46 x141003 x6).f0).size : Int))) + (((rd_T46 x141003 x6).f1).size : Int))) x4 (wrap64 (x6 + 1)) x141000 x141001 x141002 x141003) else (none)) else (spec_DocOk.j3 k x0 x3 x4 x141000 x141001 x141002 x141003)) else (spec_DocOk.j3 k x0 x3 x4 x141000 x141001 x141002 x141003)
end
def spec_DocOk.f (k : Nat) (l0 : List (S39)) : Option (Bool) := if (l0.length : Int) < 1 then (spec_DocOk.j0 k l0 true) else (spec_DocOk.j0 k l0 (decide ((l0.length : Int) > 200)))
set_option maxHeartbeats 8000000 in
set_option maxRecDepth 100000 in
theorem spec_DocOk.calls (k : Nat) (A0 : Option Addr) (c0 : Nat) (l0 : List (S39)) (r : Bool) (w : World) (hr0 : Kd.C k39 w A0 l0.length l0) (hc0 : l0.length ≤ c0) (h : spec_DocOk.f k l0 = some r) :
  Calls Tryd.prog 23 #[.slice A0 l0.length c0] w fun e w' => e = .returned (.bool r) ∧ Below w.heap.size w w' := by
 have hu39 := Tryd.underlying39
 have HR0 := Aside0.mk hr0
 have HC0 := Aside0.mk hc0
 clear hr0 hc0
 have HB := Aside0.mk (Below.refl w.heap.size w)
 have H : (if (l0.length : Int) < 1 then (spec_DocOk.j0 k l0 true) else (spec_DocOk.j0 k l0 (decide ((l0.length : Int) > 200)))) = some r := h
 clear h
 have HC2 := Aside0.mk H
 clear H
 go_enter Tryd.func23, Tryd.ntmps23
 go_upto_region 1 with (fail)
 go_cut [15] (fun v15 wc => ∃ (kq : Nat) (x15_1 : Bool), v15 = .bool x15_1 ∧ Aside0 (spec_DocOk.j0 kq l0 x15_1 = some r) ∧ Aside0 (kq ≤ k) ∧ Aside0 (Below w.heap.size w wc))
 case first =>
  have H := HC2.out
  clear HC2
  by_cases c3 : (l0.length : Int) < 1
  ·rw [if_pos c3] at H
   have c3b0 := decide_eq_true c3
   have c3b1 : decide (l0.length < 1) = true := decide_eq_true dq37
   clear c3
   (first | rw [c3b0] | (simp only [i64_w, i32_w]; rw [c3b0]) | skip)
   have H' := Aside0.mk H
   clear H
   go_wp2
   go_meet
   case rel => exact ⟨_, (true), dq18, H', ⟨dq25⟩, ⟨dq24⟩⟩
  rw [if_neg c3] at H
  have c3b0 := decide_eq_false c3
  have c3b1 : decide (l0.length < 1) = false := decide_eq_false dq37
  clear c3
  (first | rw [c3b0] | (simp only [i64_w, i32_w]; rw [c3b0]) | skip)
  have H' := Aside0.mk H
  clear H
  go_wp2
  go_meet
  case rel => exact ⟨_, (decide ((l0.length : Int) > 200)), dq18, H', ⟨dq25⟩, ⟨dq24⟩⟩
 clear HC2
 obtain ⟨kq, x15_1, rfl, HA, HJ1, HB⟩ := hcut
 cases kq with
 | zero => exact absurd HA.out (by simp [spec_DocOk.j0])
 | succ kj1 =>
  have H := HA.out
  clear HA
  simp only [spec_DocOk.j0] at H
  by_cases c4 : x15_1 = true
  ·subst c4
   have H1 : (some false) = some r := by rw [if_pos rfl] at H; exact H
   clear H
   have H := H1
   clear H1
   obtain rfl := Option.some.inj H
   go_wp2
   go_ret
   exact ⟨dq26, dq24⟩
  replace c4 := Bool.eq_false_iff.mpr c4
  subst c4
  have H1 : (spec_DocOk.l0 kj1 l0 0 0) = some r := by rw [if_neg (show ¬ (false = true) by decide)] at H; exact H
  clear H
  have H := H1
  clear H1
  have H' := Aside0.mk H
  clear H
  go_wp2
  go_loopg [3, 4] kj1 (fun kq v3 v4 w' => ∃ (x3_2 : Int) (x4_2 : Int), v3 = .int .i64 x3_2 ∧ v4 = .int .i64 x4_2 ∧ Aside0 (spec_DocOk.l0 kq l0 x3_2 x4_2 = some r) ∧ Aside0 (kq ≤ kj1) ∧ Aside0 (Below w.heap.size w w'))
  case atStart => exact ⟨(0), (0), dq18, dq18, H', ⟨Nat.le_refl _⟩, ⟨dq24⟩⟩
  clear H'
  obtain ⟨x3_2, x4_2, rfl, rfl, HA, HK2, HB⟩ := hrel
  cases gk with
  | zero => exact absurd HA.out (by simp [spec_DocOk.l0])
  | succ k2 =>
   have H := HA.out
   clear HA
   simp only [spec_DocOk.l0] at H
   by_cases c5 : x4_2 < (l0.length : Int)
   rotate_left
   ·rw [if_neg c5] at H
    have c5b0 := decide_eq_false c5
    clear c5
    obtain rfl := Option.some.inj H
    go_wp2
    go_ret
    exact ⟨dq26, dq24⟩
   rw [if_pos c5] at H
   have c5b0 := decide_eq_true c5
   clear c5
   by_cases c6 : 0 ≤ x4_2
   rotate_left
   ·rw [if_neg c6] at H
    exact absurd H dq21
   rw [if_pos c6] at H
   have c6b0 := decide_eq_true c6
   clear c6
   have HC7 := Aside0.mk H
   clear H
   have p139 : 0 ≤ (x4_2 : Int) := of_decide_eq_true dq19
   have q139 : x4_2 < (l0.length : Int) := of_decide_eq_true dq19
   obtain ⟨ad139, A139_3, c139_3, e139, hx139_0, hx139_1, hx139_2, hx139_3, hl139_3, hi139_3⟩ := at_T39 HR0.out x4_2 p139 q139
   cases e139
   replace hx139_0 := (HB.out.cell (World.block_lt_of_cell? w _ hx139_0)).trans hx139_0
   replace hx139_1 := (HB.out.cell (World.block_lt_of_cell? w _ hx139_1)).trans hx139_1
   replace hx139_2 := (HB.out.cell (World.block_lt_of_cell? w _ hx139_2)).trans hx139_2
   replace hx139_3 := (HB.out.cell (World.block_lt_of_cell? w _ hx139_3)).trans hx139_3
   have HR139_3 := Aside0.mk hi139_3
   have HC139_3 := Aside0.mk hl139_3
   clear hi139_3 hl139_3
   replace p139 := eq_true p139
   replace q139 := eq_true q139
   go_upto_block 2 with (first | ((with_reducible refine gate_dst (N := 5) rfl ?_); (try (refine gate_guard (by rfl) ?_; dsimp only)); refine box_event ?hg (N := 5) ?hd (cs := #[.int .i64 0, .string (⟨#[]⟩ : ByteArray), .string (⟨#[]⟩ : ByteArray), .slice none 0 0]) (t := 39) ?hr ?_; (case hd => rfl); (case hg => rfl); (case hr => exact dq1); intro gb140 hg w8 hbox hb; have n0_ := Aside0.mk (below_step dq24 hb); have n1_ := Aside0.mk (hbox); have n2_ := Aside0.mk ((dq27 : w.heap.size ≤ gb140)); have n3_ := Aside0.mk ((dq27 : w.heap.size ≤ gb140)); clear HB; have HB := n0_; have BK140 := n1_; have GW140 := n2_; have GE140 := n3_; clear n0_ n1_ n2_ n3_; clear hb hbox hg; obtain ⟨⟨hcz9_0, hcz9_1, hcz9_2, hcz9_3⟩, hfz9_0, hfz9_1, hfz9_2, hfz9_3⟩ := blkC4 BK140.out))
   (try simp only [Act.put, List.setIfInBounds_toArray, List.set_cons_zero, List.set_cons_succ])
   go_cut [3] (fun v3 wc => ∃ (kq : Nat) (x3_6 : Int), v3 = .int .i64 x3_6 ∧ Aside0 (spec_DocOk.j3 kq l0 x3_6 x4_2 ((rd_T39 l0 x4_2).f0) ((rd_T39 l0 x4_2).f1) ((rd_T39 l0 x4_2).f2) ((rd_T39 l0 x4_2).f3) = some r) ∧ Aside0 (kq ≤ k2) ∧ Aside0 (wc.heap[gb140]? = some (.cells #[.int .i64 ((rd_T39 l0 x4_2).f0), .string ((rd_T39 l0 x4_2).f1), .string ((rd_T39 l0 x4_2).f2), (.slice A139_3 ((rd_T39 l0 x4_2).f3).length c139_3)] 39 (0, 0))) ∧ Aside0 (Below w.heap.size w wc))
   case first =>
    have H := HC7.out
    clear HC7
    have H' := Aside0.mk H
    clear H
    go_wp2
    go_loopg [3, 6] k2 (fun kq v3 v6 w' => ∃ (x3_3 : Int) (x6_3 : Int), v3 = .int .i64 x3_3 ∧ v6 = .int .i64 x6_3 ∧ Aside0 (spec_DocOk.l1 kq l0 x3_3 x4_2 x6_3 ((rd_T39 l0 x4_2).f0) ((rd_T39 l0 x4_2).f1) ((rd_T39 l0 x4_2).f2) ((rd_T39 l0 x4_2).f3) = some r) ∧ Aside0 (kq ≤ k2) ∧ Aside0 (w'.heap[gb140]? = some (.cells #[.int .i64 ((rd_T39 l0 x4_2).f0), .string ((rd_T39 l0 x4_2).f1), .string ((rd_T39 l0 x4_2).f2), (.slice A139_3 ((rd_T39 l0 x4_2).f3).length c139_3)] 39 (0, 0))) ∧ Aside0 (Below w.heap.size w w'))
    case atStart => exact ⟨(wrap64 ((wrap64 (x3_2 + (((rd_T39 l0 x4_2).f1).size : Int))) + (((rd_T39 l0 x4_2).f2).size : Int))), (0), dq18, dq18, H', ⟨Nat.le_refl _⟩, ⟨by refine blk_up ?_; refine blk_put (cs := #[.int .i64 ((rd_T39 l0 x4_2).f0), .string ((rd_T39 l0 x4_2).f1), .string ((rd_T39 l0 x4_2).f2), .slice none 0 0]) ?_ 3 _ rfl; refine blk_up ?_; refine blk_put (cs := #[.int .i64 ((rd_T39 l0 x4_2).f0), .string ((rd_T39 l0 x4_2).f1), .string (⟨#[]⟩ : ByteArray), .slice none 0 0]) ?_ 2 _ rfl; refine blk_up ?_; refine blk_put (cs := #[.int .i64 ((rd_T39 l0 x4_2).f0), .string (⟨#[]⟩ : ByteArray), .string (⟨#[]⟩ : ByteArray), .slice none 0 0]) ?_ 1 _ rfl; refine blk_up ?_; refine blk_put (cs := #[.int .i64 0, .string (⟨#[]⟩ : ByteArray), .string (⟨#[]⟩ : ByteArray), .slice none 0 0]) ?_ 0 _ rfl; refine blk_up ?_; exact BK140.out⟩, ⟨dq132⟩⟩
    clear H'
    try clear c5b0
    try clear c6b0
    try clear hcz9_0
    try clear hcz9_1
    try clear hcz9_2
    try clear hcz9_3
    try clear hfz9_0
    try clear hfz9_1
    try clear hfz9_2
    try clear hfz9_3
    try clear hx139_0
    try clear hx139_1
    try clear hx139_2
    try clear hx139_3
    try clear p139
    try clear q139
    obtain ⟨x3_3, x6_3, rfl, rfl, HA, HK3, BK140, HB⟩ := hrel
    cases gk with
    | zero => exact absurd HA.out (by simp [spec_DocOk.l1])
    | succ k3 =>
     have H := HA.out
     clear HA
     simp only [spec_DocOk.l1] at H
     by_cases c10 : x6_3 < (((rd_T39 l0 x4_2).f3).length : Int)
     rotate_left
     ·rw [if_neg c10] at H
      have c10b0 := decide_eq_false c10
      clear c10
      (first | rw [c10b0] | (simp only [i64_w, i32_w]; rw [c10b0]) | skip)
      have H' := Aside0.mk H
      clear H
      obtain ⟨⟨hcz15_0, hcz15_1, hcz15_2, hcz15_3⟩, hfz15_0, hfz15_1, hfz15_2, hfz15_3⟩ := blkC4 BK140.out
      go_wp2
      go_meet
      case rel => exact ⟨_, (x3_3), dq18, H', ⟨dq49⟩, ⟨dq133⟩, ⟨dq132⟩⟩
     rw [if_pos c10] at H
     have c10b0 := decide_eq_true c10
     clear c10
     (first | rw [c10b0] | (simp only [i64_w, i32_w]; rw [c10b0]) | skip)
     by_cases c11 : x6_3 < 20
     rotate_left
     ·rw [if_neg c11] at H
      have c11b0 := decide_eq_false c11
      clear c11
      have H' := Aside0.mk H
      clear H
      obtain ⟨⟨hcz14_0, hcz14_1, hcz14_2, hcz14_3⟩, hfz14_0, hfz14_1, hfz14_2, hfz14_3⟩ := blkC4 BK140.out
      go_wp2
      go_meet
      case rel => exact ⟨_, (x3_3), dq18, H', ⟨dq49⟩, ⟨dq133⟩, ⟨dq132⟩⟩
     rw [if_pos c11] at H
     have c11b0 := decide_eq_true c11
     clear c11
     by_cases c12 : 0 ≤ x6_3
     rotate_left
     ·rw [if_neg c12] at H
      exact absurd H dq21
     rw [if_pos c12] at H
     have c12b0 := decide_eq_true c12
     clear c12
     have H' := Aside0.mk H
     clear H
     obtain ⟨⟨hcz13_0, hcz13_1, hcz13_2, hcz13_3⟩, hfz13_0, hfz13_1, hfz13_2, hfz13_3⟩ := blkC4 BK140.out
     have p141 : 0 ≤ (x6_3 : Int) := of_decide_eq_true dq19
     have q141 : x6_3 < (((rd_T39 l0 x4_2).f3).length : Int) := of_decide_eq_true dq19
     obtain ⟨ad141, e141, hx141_0, hx141_1⟩ := at_T46 HR139_3.out x6_3 p141 q141
     cases e141
     replace hx141_0 := (HB.out.cell (World.block_lt_of_cell? w _ hx141_0)).trans hx141_0
     replace hx141_1 := (HB.out.cell (World.block_lt_of_cell? w _ hx141_1)).trans hx141_1
     replace p141 := eq_true p141
     replace q141 := eq_true q141
     have p142 : 0 ≤ (x6_3 : Int) := of_decide_eq_true dq19
     have q142 : x6_3 < (((rd_T39 l0 x4_2).f3).length : Int) := of_decide_eq_true dq19
     obtain ⟨ad142, e142, hx142_0, hx142_1⟩ := at_T46 HR139_3.out x6_3 p142 q142
     obtain rfl : ad141 = ad142 := (by injection e142)
     replace hx142_0 := (HB.out.cell (World.block_lt_of_cell? w _ hx142_0)).trans hx142_0
     replace hx142_1 := (HB.out.cell (World.block_lt_of_cell? w _ hx142_1)).trans hx142_1
     replace p142 := eq_true p142
     replace q142 := eq_true q142
     go_wp2
     repeat (go_quiet (fail); try go_wp2)
     go_roundg k3
     case measure => have := HJ1.out; have := HK2.out; have := HK3.out; omega
     case rel => exact ⟨(wrap64 ((wrap64 (x3_3 + (((rd_T46 ((rd_T39 l0 x4_2).f3) x6_3).f0).size : Int))) + (((rd_T46 ((rd_T39 l0 x4_2).f3) x6_3).f1).size : Int))), (wrap64 (x6_3 + 1)), dq18, dq18, H', ⟨by have := HJ1.out; have := HK2.out; have := HK3.out; omega⟩, ⟨dq133⟩, ⟨dq132⟩⟩
   clear HC7
   try clear c5b0
   try clear c6b0
   try clear hcz9_0
   try clear hcz9_1
   try clear hcz9_2
   try clear hcz9_3
   try clear hfz9_0
   try clear hfz9_1
   try clear hfz9_2
   try clear hfz9_3
   try clear hx139_0
   try clear hx139_1
   try clear hx139_2
   try clear hx139_3
   try clear p139
   try clear q139
   obtain ⟨kq, x3_6, rfl, HA, HJ6, BK140, HB⟩ := hcut
   cases kq with
   | zero => exact absurd HA.out (by simp [spec_DocOk.j3])
   | succ kj6 =>
    have H := HA.out
    clear HA
    simp only [spec_DocOk.j3] at H
    by_cases c16 : x3_6 > 2500
    ·rw [if_pos c16] at H
     have c16b0 : decide (2500 < x3_6) = true := decide_eq_true c16
     clear c16
     obtain rfl := Option.some.inj H
     go_wp2
     go_ret
     exact ⟨dq26, dq132⟩
    rw [if_neg c16] at H
    have c16b0 : decide (2500 < x3_6) = false := decide_eq_false c16
    clear c16
    have HC17 := Aside0.mk H
    clear H
    go_upto_if 66 with (fail)
    go_cut [] (fun wc => ∃ (kq : Nat), Aside0 (spec_DocOk.j4 kq l0 x3_6 x4_2 ((rd_T39 l0 x4_2).f0) ((rd_T39 l0 x4_2).f1) ((rd_T39 l0 x4_2).f2) ((rd_T39 l0 x4_2).f3) = some r) ∧ Aside0 (kq ≤ kj6) ∧ Aside0 (wc.heap[gb140]? = some (.cells #[.int .i64 ((rd_T39 l0 x4_2).f0), .string ((rd_T39 l0 x4_2).f1), .string ((rd_T39 l0 x4_2).f2), (.slice A139_3 ((rd_T39 l0 x4_2).f3).length c139_3)] 39 (0, 0))) ∧ Aside0 (Below w.heap.size w wc))
    case first =>
     have H := HC17.out
     clear HC17
     by_cases c18 : x4_2 = 0
     ·rw [if_pos c18] at H
      have c18b0 := beq_iff_eq.mpr c18
      have c18b1 := bne_eq_false_iff_eq.mpr c18
      clear c18
      (first | rw [c18b0] | (simp only [i64_w, i32_w]; rw [c18b0]) | skip)
      by_cases c19 : ((rd_T39 l0 x4_2).f0) = (-1)
      rotate_left
      ·rw [if_neg c19] at H
       have c19b0 := beq_eq_false_iff_ne.mpr c19
       have c19b1 := bne_iff_ne.mpr c19
       obtain rfl := Option.some.inj H
       obtain ⟨⟨hcz23_0, hcz23_1, hcz23_2, hcz23_3⟩, hfz23_0, hfz23_1, hfz23_2, hfz23_3⟩ := blkC4 BK140.out
       go_wp2
       go_ret
       exact ⟨dq26, dq132⟩
      rw [if_pos c19] at H
      have c19b0 := beq_iff_eq.mpr c19
      have c19b1 := bne_eq_false_iff_eq.mpr c19
      clear c19
      by_cases c20 : ((rd_T39 l0 x4_2).f1).toList = ([] : List UInt8)
      ·rw [if_pos c20] at H
       have c20b0 := beq_iff_eq.mpr c20
       have c20b1 := bne_eq_false_iff_eq.mpr c20
       clear c20
       obtain rfl := Option.some.inj H
       obtain ⟨⟨hcz21_0, hcz21_1, hcz21_2, hcz21_3⟩, hfz21_0, hfz21_1, hfz21_2, hfz21_3⟩ := blkC4 BK140.out
       go_wp2
       go_ret
       exact ⟨dq26, dq132⟩
      rw [if_neg c20] at H
      have c20b0 := beq_eq_false_iff_ne.mpr c20
      have c20b1 := bne_iff_ne.mpr c20
      have H' := Aside0.mk H
      clear H
      obtain ⟨⟨hcz22_0, hcz22_1, hcz22_2, hcz22_3⟩, hfz22_0, hfz22_1, hfz22_2, hfz22_3⟩ := blkC4 BK140.out
      go_wp2
      go_meet
      case rel => exact ⟨_, H', ⟨by have := HJ1.out; have := HK2.out; have := HJ6.out; first | omega | exact Nat.le_refl _⟩, ⟨dq133⟩, ⟨dq132⟩⟩
     rw [if_neg c18] at H
     have c18b0 := beq_eq_false_iff_ne.mpr c18
     have c18b1 := bne_iff_ne.mpr c18
     (first | rw [c18b0] | (simp only [i64_w, i32_w]; rw [c18b0]) | skip)
     replace H := Option.bind_eq_some_iff.mp H
     obtain ⟨t143, A240, H⟩ := H
     replace H : (if t143 = true then (if 0 ≤ ((rd_T39 l0 x4_2).f0) then (if ((rd_T39 l0 x4_2).f0) < (l0.length : Int) then (if ((rd_T39 l0 ((rd_T39 l0 x4_2).f0)).f1).toList = ([] : List UInt8) then (some false) else (spec_DocOk.j4 kj6 l0 x3_6 x4_2 ((rd_T39 l0 x4_2).f0) ((rd_T39 l0 x4_2).f1) ((rd_T39 l0 x4_2).f2) ((rd_T39 l0 x4_2).f3))) else (none)) else (none)) else (some false)) = some r := H
     have A24 := Aside0.mk A240
     clear A240
     by_cases c25 : t143 = true
     rotate_left
     ·replace c25 := Bool.eq_false_iff.mpr c25
      subst c25
      have H1 : (some false) = some r := by rw [if_neg (show ¬ (false = true) by decide)] at H; exact H
      clear H
      have H := H1
      clear H1
      obtain rfl := Option.some.inj H
      obtain ⟨⟨hcz31_0, hcz31_1, hcz31_2, hcz31_3⟩, hfz31_0, hfz31_1, hfz31_2, hfz31_3⟩ := blkC4 BK140.out
      go_wp2_with (first | (go_at_call 41; (with_reducible refine (spec_l1In.calls ((rd_T39 l0 x4_2).f0) 0 (wrap64 (x4_2 - 1)) false _ A24.out).mono ?_); rintro e w' ⟨rfl, ⟨nd, rfl⟩⟩; (try first | exact ⟨rfl, _, World.drewN_drewN _ _ _⟩ | exact ⟨rfl, _, Eq.trans (World.drewN_drewN _ _ _) (congrArg (World.drewN _) (Nat.add_assoc _ _ _))⟩)))
      go_ret
      exact ⟨dq26, dq132⟩
     subst c25
     have H1 : (if 0 ≤ ((rd_T39 l0 x4_2).f0) then (if ((rd_T39 l0 x4_2).f0) < (l0.length : Int) then (if ((rd_T39 l0 ((rd_T39 l0 x4_2).f0)).f1).toList = ([] : List UInt8) then (some false) else (spec_DocOk.j4 kj6 l0 x3_6 x4_2 ((rd_T39 l0 x4_2).f0) ((rd_T39 l0 x4_2).f1) ((rd_T39 l0 x4_2).f2) ((rd_T39 l0 x4_2).f3))) else (none)) else (none)) = some r := by rw [if_pos rfl] at H; exact H
     clear H
     have H := H1
     clear H1
     by_cases c26 : 0 ≤ ((rd_T39 l0 x4_2).f0)
     rotate_left
     ·rw [if_neg c26] at H
      exact absurd H dq21
     rw [if_pos c26] at H
     have c26b0 := decide_eq_true c26
     clear c26
     by_cases c27 : ((rd_T39 l0 x4_2).f0) < (l0.length : Int)
     rotate_left
     ·rw [if_neg c27] at H
      exact absurd H dq21
     rw [if_pos c27] at H
     have c27b0 := decide_eq_true c27
     clear c27
     by_cases c28 : ((rd_T39 l0 ((rd_T39 l0 x4_2).f0)).f1).toList = ([] : List UInt8)
     ·rw [if_pos c28] at H
      have c28b0 := beq_iff_eq.mpr c28
      have c28b1 := bne_eq_false_iff_eq.mpr c28
      clear c28
      obtain rfl := Option.some.inj H
      obtain ⟨⟨hcz29_0, hcz29_1, hcz29_2, hcz29_3⟩, hfz29_0, hfz29_1, hfz29_2, hfz29_3⟩ := blkC4 BK140.out
      go_wp2_with (first | (go_at_call 41; (with_reducible refine (spec_l1In.calls ((rd_T39 l0 x4_2).f0) 0 (wrap64 (x4_2 - 1)) true _ A24.out).mono ?_); rintro e w' ⟨rfl, ⟨nd, rfl⟩⟩; (try first | exact ⟨rfl, _, World.drewN_drewN _ _ _⟩ | exact ⟨rfl, _, Eq.trans (World.drewN_drewN _ _ _) (congrArg (World.drewN _) (Nat.add_assoc _ _ _))⟩); have p144 : 0 ≤ (((rd_T39 l0 x4_2).f0) : Int) := of_decide_eq_true dq19; have q144 : ((rd_T39 l0 x4_2).f0) < (l0.length : Int) := of_decide_eq_true dq19; obtain ⟨ad144, A144_3, c144_3, e144, hx144_0, hx144_1, hx144_2, hx144_3, hl144_3, hi144_3⟩ := at_T39 HR0.out ((rd_T39 l0 x4_2).f0) p144 q144; obtain rfl : ad139 = ad144 := (by injection e144); replace hx144_0 := (HB.out.cell (World.block_lt_of_cell? w _ hx144_0)).trans hx144_0; replace hx144_1 := (HB.out.cell (World.block_lt_of_cell? w _ hx144_1)).trans hx144_1; replace hx144_2 := (HB.out.cell (World.block_lt_of_cell? w _ hx144_2)).trans hx144_2; replace hx144_3 := (HB.out.cell (World.block_lt_of_cell? w _ hx144_3)).trans hx144_3; have HR144_3 := Aside0.mk hi144_3; have HC144_3 := Aside0.mk hl144_3; clear hi144_3 hl144_3; replace p144 := eq_true p144; replace q144 := eq_true q144))
      go_ret
      exact ⟨dq26, dq132⟩
     rw [if_neg c28] at H
     have c28b0 := beq_eq_false_iff_ne.mpr c28
     have c28b1 := bne_iff_ne.mpr c28
     have H' := Aside0.mk H
     clear H
     obtain ⟨⟨hcz30_0, hcz30_1, hcz30_2, hcz30_3⟩, hfz30_0, hfz30_1, hfz30_2, hfz30_3⟩ := blkC4 BK140.out
     go_wp2_with (first | (go_at_call 41; (with_reducible refine (spec_l1In.calls ((rd_T39 l0 x4_2).f0) 0 (wrap64 (x4_2 - 1)) true _ A24.out).mono ?_); rintro e w' ⟨rfl, ⟨nd, rfl⟩⟩; (try first | exact ⟨rfl, _, World.drewN_drewN _ _ _⟩ | exact ⟨rfl, _, Eq.trans (World.drewN_drewN _ _ _) (congrArg (World.drewN _) (Nat.add_assoc _ _ _))⟩); have p144 : 0 ≤ (((rd_T39 l0 x4_2).f0) : Int) := of_decide_eq_true dq19; have q144 : ((rd_T39 l0 x4_2).f0) < (l0.length : Int) := of_decide_eq_true dq19; obtain ⟨ad144, A144_3, c144_3, e144, hx144_0, hx144_1, hx144_2, hx144_3, hl144_3, hi144_3⟩ := at_T39 HR0.out ((rd_T39 l0 x4_2).f0) p144 q144; obtain rfl : ad139 = ad144 := (by injection e144); replace hx144_0 := (HB.out.cell (World.block_lt_of_cell? w _ hx144_0)).trans hx144_0; replace hx144_1 := (HB.out.cell (World.block_lt_of_cell? w _ hx144_1)).trans hx144_1; replace hx144_2 := (HB.out.cell (World.block_lt_of_cell? w _ hx144_2)).trans hx144_2; replace hx144_3 := (HB.out.cell (World.block_lt_of_cell? w _ hx144_3)).trans hx144_3; have HR144_3 := Aside0.mk hi144_3; have HC144_3 := Aside0.mk hl144_3; clear hi144_3 hl144_3; replace p144 := eq_true p144; replace q144 := eq_true q144))
     go_meet
     case rel => exact ⟨_, H', ⟨by have := HJ1.out; have := HK2.out; have := HJ6.out; first | omega | exact Nat.le_refl _⟩, ⟨dq133⟩, ⟨dq132⟩⟩
    clear HC17
    try clear c16b0
    obtain ⟨kq, HA, HJ16, BK140, HB⟩ := hcut
    cases kq with
    | zero => exact absurd HA.out (by simp [spec_DocOk.j4])
    | succ kj16 =>
     have H := HA.out
     clear HA
     simp only [spec_DocOk.j4] at H
     have HC32 := Aside0.mk H
     clear H
     go_upto_if 91 with (fail)
     go_cut [] (fun wc => ∃ (kq : Nat), Aside0 (spec_DocOk.j6 kq l0 x3_6 x4_2 ((rd_T39 l0 x4_2).f0) ((rd_T39 l0 x4_2).f1) ((rd_T39 l0 x4_2).f2) ((rd_T39 l0 x4_2).f3) = some r) ∧ Aside0 (kq ≤ kj16) ∧ Aside0 (wc.heap[gb140]? = some (.cells #[.int .i64 ((rd_T39 l0 x4_2).f0), .string ((rd_T39 l0 x4_2).f1), .string ((rd_T39 l0 x4_2).f2), (.slice A139_3 ((rd_T39 l0 x4_2).f3).length c139_3)] 39 (0, 0))) ∧ Aside0 (Below w.heap.size w wc))
     case first =>
      have H := HC32.out
      clear HC32
      by_cases c33 : x4_2 > 0
      rotate_left
      ·rw [if_neg c33] at H
       have c33b0 : decide (0 < x4_2) = false := decide_eq_false c33
       clear c33
       (first | rw [c33b0] | (simp only [i64_w, i32_w]; rw [c33b0]) | skip)
       have H' := Aside0.mk H
       clear H
       go_wp2
       go_meet
       case rel => exact ⟨_, H', ⟨by have := HJ1.out; have := HK2.out; have := HJ6.out; have := HJ16.out; first | omega | exact Nat.le_refl _⟩, ⟨dq133⟩, ⟨dq132⟩⟩
      rw [if_pos c33] at H
      have c33b0 : decide (0 < x4_2) = true := decide_eq_true c33
      clear c33
      (first | rw [c33b0] | (simp only [i64_w, i32_w]; rw [c33b0]) | skip)
      have H' := Aside0.mk H
      clear H
      go_wp2
      go_loopg [7] kj16 (fun kq v7 w' => ∃ (x7_5 : Int), v7 = .int .i64 x7_5 ∧ Aside0 (spec_DocOk.l2 kq l0 x3_6 x4_2 x7_5 ((rd_T39 l0 x4_2).f0) ((rd_T39 l0 x4_2).f1) ((rd_T39 l0 x4_2).f2) ((rd_T39 l0 x4_2).f3) = some r) ∧ Aside0 (kq ≤ kj16) ∧ Aside0 (w'.heap[gb140]? = some (.cells #[.int .i64 ((rd_T39 l0 x4_2).f0), .string ((rd_T39 l0 x4_2).f1), .string ((rd_T39 l0 x4_2).f2), (.slice A139_3 ((rd_T39 l0 x4_2).f3).length c139_3)] 39 (0, 0))) ∧ Aside0 (Below w.heap.size w w'))
      case atStart => exact ⟨(wrap64 (x4_2 - 1)), dq18, H', ⟨Nat.le_refl _⟩, ⟨dq133⟩, ⟨dq132⟩⟩
      clear H'
      try clear c33b0
      obtain ⟨x7_5, rfl, HA, HK5, BK140, HB⟩ := hrel
      cases gk with
      | zero => exact absurd HA.out (by simp [spec_DocOk.l2])
      | succ k5 =>
       have H := HA.out
       clear HA
       simp only [spec_DocOk.l2] at H
       by_cases c34 : x7_5 ≥ 0
       rotate_left
       ·rw [if_neg c34] at H
        have c34b0 : decide (0 ≤ x7_5) = false := decide_eq_false c34
        clear c34
        by_cases c42 : x7_5 < 0
        ·rw [if_pos c42] at H
         have c42b0 := decide_eq_true c42
         clear c42
         obtain rfl := Option.some.inj H
         go_wp2
         go_ret
         exact ⟨dq26, dq132⟩
        rw [if_neg c42] at H
        have c42b0 := decide_eq_false c42
        clear c42
        have H' := Aside0.mk H
        clear H
        go_wp2
        go_meet
        case rel => exact ⟨_, H', ⟨by have := HJ1.out; have := HK2.out; have := HJ6.out; have := HJ16.out; have := HK5.out; first | omega | exact Nat.le_refl _⟩, ⟨dq133⟩, ⟨dq132⟩⟩
       rw [if_pos c34] at H
       have c34b0 : decide (0 ≤ x7_5) = true := decide_eq_true c34
       clear c34
       by_cases c35 : x7_5 = ((rd_T39 l0 x4_2).f0)
       ·rw [if_pos c35] at H
        have c35b0 := beq_iff_eq.mpr c35
        have c35b1 := bne_eq_false_iff_eq.mpr c35
        clear c35
        by_cases c36 : x7_5 < 0
        ·rw [if_pos c36] at H
         have c36b0 := decide_eq_true c36
         clear c36
         obtain rfl := Option.some.inj H
         obtain ⟨⟨hcz37_0, hcz37_1, hcz37_2, hcz37_3⟩, hfz37_0, hfz37_1, hfz37_2, hfz37_3⟩ := blkC4 BK140.out
         go_wp2
         go_ret
         exact ⟨dq26, dq132⟩
        rw [if_neg c36] at H
        have c36b0 := decide_eq_false c36
        clear c36
        have H' := Aside0.mk H
        clear H
        obtain ⟨⟨hcz38_0, hcz38_1, hcz38_2, hcz38_3⟩, hfz38_0, hfz38_1, hfz38_2, hfz38_3⟩ := blkC4 BK140.out
        go_wp2
        go_meet
        case rel => exact ⟨_, H', ⟨by have := HJ1.out; have := HK2.out; have := HJ6.out; have := HJ16.out; have := HK5.out; first | omega | exact Nat.le_refl _⟩, ⟨dq133⟩, ⟨dq132⟩⟩
       rw [if_neg c35] at H
       have c35b0 := beq_eq_false_iff_ne.mpr c35
       have c35b1 := bne_iff_ne.mpr c35
       by_cases c39 : 0 ≤ x7_5
       rotate_left
       ·rw [if_neg c39] at H
        exact absurd H dq21
       rw [if_pos c39] at H
       have c39b0 := decide_eq_true c39
       clear c39
       by_cases c40 : x7_5 < (l0.length : Int)
       rotate_left
       ·rw [if_neg c40] at H
        exact absurd H dq21
       rw [if_pos c40] at H
       have c40b0 := decide_eq_true c40
       clear c40
       have H' := Aside0.mk H
       clear H
       obtain ⟨⟨hcz41_0, hcz41_1, hcz41_2, hcz41_3⟩, hfz41_0, hfz41_1, hfz41_2, hfz41_3⟩ := blkC4 BK140.out
       have p145 : 0 ≤ (x7_5 : Int) := of_decide_eq_true dq19
       have q145 : x7_5 < (l0.length : Int) := of_decide_eq_true dq19
       obtain ⟨ad145, A145_3, c145_3, e145, hx145_0, hx145_1, hx145_2, hx145_3, hl145_3, hi145_3⟩ := at_T39 HR0.out x7_5 p145 q145
       obtain rfl : ad139 = ad145 := (by injection e145)
       replace hx145_0 := (HB.out.cell (World.block_lt_of_cell? w _ hx145_0)).trans hx145_0
       replace hx145_1 := (HB.out.cell (World.block_lt_of_cell? w _ hx145_1)).trans hx145_1
       replace hx145_2 := (HB.out.cell (World.block_lt_of_cell? w _ hx145_2)).trans hx145_2
       replace hx145_3 := (HB.out.cell (World.block_lt_of_cell? w _ hx145_3)).trans hx145_3
       have HR145_3 := Aside0.mk hi145_3
       have HC145_3 := Aside0.mk hl145_3
       clear hi145_3 hl145_3
       replace p145 := eq_true p145
       replace q145 := eq_true q145
       go_wp2
       go_roundg k5
       case measure => have := HJ1.out; have := HK2.out; have := HJ6.out; have := HJ16.out; have := HK5.out; omega
       case rel => exact ⟨((rd_T39 l0 x7_5).f0), dq18, H', ⟨by have := HJ1.out; have := HK2.out; have := HJ6.out; have := HJ16.out; have := HK5.out; omega⟩, ⟨dq133⟩, ⟨dq132⟩⟩
     clear HC32
     obtain ⟨kq, HA, HJ31, BK140, HB⟩ := hcut
     cases kq with
     | zero => exact absurd HA.out (by simp [spec_DocOk.j6])
     | succ kj31 =>
      have H := HA.out
      clear HA
      simp only [spec_DocOk.j6] at H
      replace H := Option.bind_eq_some_iff.mp H
      obtain ⟨t146, A430, H⟩ := H
      replace H : (if t146 ≥ 20 then (some false) else (if ((rd_T39 l0 x4_2).f1).toList = ([] : List UInt8) then (if ((rd_T39 l0 x4_2).f2).toList = ([] : List UInt8) then (spec_DocOk.j7 kj31 l0 x3_6 x4_2 true ((rd_T39 l0 x4_2).f0) ((rd_T39 l0 x4_2).f1) ((rd_T39 l0 x4_2).f2) ((rd_T39 l0 x4_2).f3)) else (if (((rd_T39 l0 x4_2).f3).length : Int) > 0 then (spec_DocOk.j7 kj31 l0 x3_6 x4_2 true ((rd_T39 l0 x4_2).f0) ((rd_T39 l0 x4_2).f1) ((rd_T39 l0 x4_2).f2) ((rd_T39 l0 x4_2).f3)) else ((spec_l1Text.f kj31 ((rd_T39 l0 x4_2).f2)).bind fun t147 => (spec_DocOk.j7 kj31 l0 x3_6 x4_2 (!t147) ((rd_T39 l0 x4_2).f0) ((rd_T39 l0 x4_2).f1) ((rd_T39 l0 x4_2).f2) ((rd_T39 l0 x4_2).f3))))) else (if ((rd_T39 l0 x4_2).f2).toList = ([] : List UInt8) then ((spec_l1Qual.f kj31 ((rd_T39 l0 x4_2).f1)).bind fun t150 => (if t150 = true then ((spec_l2Attrs.f kj31 ((rd_T39 l0 x4_2).f3)).bind fun t151 => (if t151 = true then (spec_DocOk.l0 kj31 l0 x3_6 (wrap64 (x4_2 + 1))) else (some false))) else (some false))) else (some false)))) = some r := H
      have A43 := Aside0.mk A430
      clear A430
      by_cases c44 : t146 ≥ 20
      ·rw [if_pos c44] at H
       have c44b0 : decide (20 ≤ t146) = true := decide_eq_true c44
       clear c44
       obtain rfl := Option.some.inj H
       go_wp2_with (first | (go_at_call 57; (with_reducible refine (spec_l2Deep.calls kj31 _ _ l0 x4_2 t146 _ ?side1 ?side2 A43.out).mono ?_); (case side1 => exact dq6); (case side2 => exact HC0.out); rintro e w' ⟨rfl, ⟨nd, rfl⟩⟩; (try first | exact ⟨rfl, _, World.drewN_drewN _ _ _⟩ | exact ⟨rfl, _, Eq.trans (World.drewN_drewN _ _ _) (congrArg (World.drewN _) (Nat.add_assoc _ _ _))⟩)))
       go_ret
       exact ⟨dq26, dq132⟩
      rw [if_neg c44] at H
      have c44b0 : decide (20 ≤ t146) = false := decide_eq_false c44
      clear c44
      by_cases c45 : ((rd_T39 l0 x4_2).f1).toList = ([] : List UInt8)
      rotate_left
      ·rw [if_neg c45] at H
       have c45b0 := beq_eq_false_iff_ne.mpr c45
       have c45b1 := bne_iff_ne.mpr c45
       by_cases c63 : ((rd_T39 l0 x4_2).f2).toList = ([] : List UInt8)
       rotate_left
       ·rw [if_neg c63] at H
        have c63b0 := beq_eq_false_iff_ne.mpr c63
        have c63b1 := bne_iff_ne.mpr c63
        obtain rfl := Option.some.inj H
        go_wp2_with (first | (go_at_call 57; (with_reducible refine (spec_l2Deep.calls kj31 _ _ l0 x4_2 t146 _ ?side1 ?side2 A43.out).mono ?_); (case side1 => exact dq6); (case side2 => exact HC0.out); rintro e w' ⟨rfl, ⟨nd, rfl⟩⟩; (try first | exact ⟨rfl, _, World.drewN_drewN _ _ _⟩ | exact ⟨rfl, _, Eq.trans (World.drewN_drewN _ _ _) (congrArg (World.drewN _) (Nat.add_assoc _ _ _))⟩); obtain ⟨⟨hcz73_0, hcz73_1, hcz73_2, hcz73_3⟩, hfz73_0, hfz73_1, hfz73_2, hfz73_3⟩ := blkC4 BK140.out))
        go_ret
        exact ⟨dq26, dq132⟩
       rw [if_pos c63] at H
       have c63b0 := beq_iff_eq.mpr c63
       have c63b1 := bne_eq_false_iff_eq.mpr c63
       clear c63
       replace H := Option.bind_eq_some_iff.mp H
       obtain ⟨t150, A640, H⟩ := H
       replace H : (if t150 = true then ((spec_l2Attrs.f kj31 ((rd_T39 l0 x4_2).f3)).bind fun t151 => (if t151 = true then (spec_DocOk.l0 kj31 l0 x3_6 (wrap64 (x4_2 + 1))) else (some false))) else (some false)) = some r := H
       have A64 := Aside0.mk A640
       clear A640
       by_cases c65 : t150 = true
       rotate_left
       ·replace c65 := Bool.eq_false_iff.mpr c65
        subst c65
        have H1 : (some false) = some r := by rw [if_neg (show ¬ (false = true) by decide)] at H; exact H
        clear H
        have H := H1
        clear H1
        obtain rfl := Option.some.inj H
        go_wp2_with (first | (go_at_call 57; (with_reducible refine (spec_l2Deep.calls kj31 _ _ l0 x4_2 t146 _ ?side1 ?side2 A43.out).mono ?_); (case side1 => exact dq6); (case side2 => exact HC0.out); rintro e w' ⟨rfl, ⟨nd, rfl⟩⟩; (try first | exact ⟨rfl, _, World.drewN_drewN _ _ _⟩ | exact ⟨rfl, _, Eq.trans (World.drewN_drewN _ _ _) (congrArg (World.drewN _) (Nat.add_assoc _ _ _))⟩); obtain ⟨⟨hcz72_0, hcz72_1, hcz72_2, hcz72_3⟩, hfz72_0, hfz72_1, hfz72_2, hfz72_3⟩ := blkC4 BK140.out) | (go_at_call 59; (with_reducible refine (spec_l1Qual.calls kj31 ((rd_T39 l0 x4_2).f1) false _ A64.out).mono ?_); rintro e w' ⟨rfl, ⟨nd, rfl⟩⟩; (try first | exact ⟨rfl, _, World.drewN_drewN _ _ _⟩ | exact ⟨rfl, _, Eq.trans (World.drewN_drewN _ _ _) (congrArg (World.drewN _) (Nat.add_assoc _ _ _))⟩)))
        go_ret
        exact ⟨dq26, dq132⟩
       subst c65
       have H1 : ((spec_l2Attrs.f kj31 ((rd_T39 l0 x4_2).f3)).bind fun t151 => (if t151 = true then (spec_DocOk.l0 kj31 l0 x3_6 (wrap64 (x4_2 + 1))) else (some false))) = some r := by rw [if_pos rfl] at H; exact H
       clear H
       have H := H1
       clear H1
       replace H := Option.bind_eq_some_iff.mp H
       obtain ⟨t151, A660, H⟩ := H
       replace H : (if t151 = true then (spec_DocOk.l0 kj31 l0 x3_6 (wrap64 (x4_2 + 1))) else (some false)) = some r := H
       have A66 := Aside0.mk A660
       clear A660
       by_cases c67 : t151 = true
       rotate_left
       ·replace c67 := Bool.eq_false_iff.mpr c67
        subst c67
        have H1 : (some false) = some r := by rw [if_neg (show ¬ (false = true) by decide)] at H; exact H
        clear H
        have H := H1
        clear H1
        obtain rfl := Option.some.inj H
        go_wp2_with (first | (go_at_call 57; (with_reducible refine (spec_l2Deep.calls kj31 _ _ l0 x4_2 t146 _ ?side1 ?side2 A43.out).mono ?_); (case side1 => exact dq6); (case side2 => exact HC0.out); rintro e w' ⟨rfl, ⟨nd, rfl⟩⟩; (try first | exact ⟨rfl, _, World.drewN_drewN _ _ _⟩ | exact ⟨rfl, _, Eq.trans (World.drewN_drewN _ _ _) (congrArg (World.drewN _) (Nat.add_assoc _ _ _))⟩); obtain ⟨⟨hcz70_0, hcz70_1, hcz70_2, hcz70_3⟩, hfz70_0, hfz70_1, hfz70_2, hfz70_3⟩ := blkC4 BK140.out) | (go_at_call 59; (with_reducible refine (spec_l1Qual.calls kj31 ((rd_T39 l0 x4_2).f1) true _ A64.out).mono ?_); rintro e w' ⟨rfl, ⟨nd, rfl⟩⟩; (try first | exact ⟨rfl, _, World.drewN_drewN _ _ _⟩ | exact ⟨rfl, _, Eq.trans (World.drewN_drewN _ _ _) (congrArg (World.drewN _) (Nat.add_assoc _ _ _))⟩)) | (go_at_call 60; (with_reducible refine (spec_l2Attrs.calls kj31 _ _ ((rd_T39 l0 x4_2).f3) false _ ?side1 ?side2 A66.out).mono ?_); (case side1 => repeat (first | exact (Kd.C_below HR139_3.out dq132) | (with_reducible refine Kd.C_alloc ?_ _) | (with_reducible refine Kd.C_drewN ?_ _) | (with_reducible refine Kd.C_drew ?_))); (case side2 => exact HC139_3.out); rintro e w71 ⟨rfl, hb⟩; have n0_ := Aside0.mk (blk_below (g := gb140) (o := .cells #[.int .i64 ((rd_T39 l0 x4_2).f0), .string ((rd_T39 l0 x4_2).f1), .string ((rd_T39 l0 x4_2).f2), .slice A139_3 ((rd_T39 l0 x4_2).f3).length c139_3] 39 (0, 0)) dq133 hb); have n1_ := Aside0.mk (below_step dq132 hb); clear BK140; clear HB; have BK140 := n0_; have HB := n1_; clear n0_ n1_; (try clear hb); (try clear hb2); (try clear hk); (try clear hi)))
        go_ret
        exact ⟨dq26, dq132⟩
       subst c67
       have H1 : (spec_DocOk.l0 kj31 l0 x3_6 (wrap64 (x4_2 + 1))) = some r := by rw [if_pos rfl] at H; exact H
       clear H
       have H := H1
       clear H1
       have H' := Aside0.mk H
       clear H
       go_wp2_with (first | (go_at_call 57; (with_reducible refine (spec_l2Deep.calls kj31 _ _ l0 x4_2 t146 _ ?side1 ?side2 A43.out).mono ?_); (case side1 => exact dq6); (case side2 => exact HC0.out); rintro e w' ⟨rfl, ⟨nd, rfl⟩⟩; (try first | exact ⟨rfl, _, World.drewN_drewN _ _ _⟩ | exact ⟨rfl, _, Eq.trans (World.drewN_drewN _ _ _) (congrArg (World.drewN _) (Nat.add_assoc _ _ _))⟩); obtain ⟨⟨hcz68_0, hcz68_1, hcz68_2, hcz68_3⟩, hfz68_0, hfz68_1, hfz68_2, hfz68_3⟩ := blkC4 BK140.out) | (go_at_call 59; (with_reducible refine (spec_l1Qual.calls kj31 ((rd_T39 l0 x4_2).f1) true _ A64.out).mono ?_); rintro e w' ⟨rfl, ⟨nd, rfl⟩⟩; (try first | exact ⟨rfl, _, World.drewN_drewN _ _ _⟩ | exact ⟨rfl, _, Eq.trans (World.drewN_drewN _ _ _) (congrArg (World.drewN _) (Nat.add_assoc _ _ _))⟩)) | (go_at_call 60; (with_reducible refine (spec_l2Attrs.calls kj31 _ _ ((rd_T39 l0 x4_2).f3) true _ ?side1 ?side2 A66.out).mono ?_); (case side1 => repeat (first | exact (Kd.C_below HR139_3.out dq132) | (with_reducible refine Kd.C_alloc ?_ _) | (with_reducible refine Kd.C_drewN ?_ _) | (with_reducible refine Kd.C_drew ?_))); (case side2 => exact HC139_3.out); rintro e w69 ⟨rfl, hb⟩; have n0_ := Aside0.mk (blk_below (g := gb140) (o := .cells #[.int .i64 ((rd_T39 l0 x4_2).f0), .string ((rd_T39 l0 x4_2).f1), .string ((rd_T39 l0 x4_2).f2), .slice A139_3 ((rd_T39 l0 x4_2).f3).length c139_3] 39 (0, 0)) dq133 hb); have n1_ := Aside0.mk (below_step dq132 hb); clear BK140; clear HB; have BK140 := n0_; have HB := n1_; clear n0_ n1_; (try clear hb); (try clear hb2); (try clear hk); (try clear hi)))
       go_roundg kj31
       case measure => have := HJ1.out; have := HK2.out; have := HJ6.out; have := HJ16.out; have := HJ31.out; omega
       case rel => exact ⟨(x3_6), (wrap64 (x4_2 + 1)), dq18, dq18, H', ⟨by have := HJ1.out; have := HK2.out; have := HJ6.out; have := HJ16.out; have := HJ31.out; omega⟩, ⟨dq132⟩⟩
      rw [if_pos c45] at H
      have c45b0 := beq_iff_eq.mpr c45
      have c45b1 := bne_eq_false_iff_eq.mpr c45
      clear c45
      have HC46 := Aside0.mk H
      clear H
      go_upto_region 29 with (first | (go_at_call 57; (with_reducible refine (spec_l2Deep.calls kj31 _ _ l0 x4_2 t146 _ ?side1 ?side2 A43.out).mono ?_); (case side1 => exact dq6); (case side2 => exact HC0.out); rintro e w' ⟨rfl, ⟨nd, rfl⟩⟩; (try first | exact ⟨rfl, _, World.drewN_drewN _ _ _⟩ | exact ⟨rfl, _, Eq.trans (World.drewN_drewN _ _ _) (congrArg (World.drewN _) (Nat.add_assoc _ _ _))⟩); obtain ⟨⟨hcz47_0, hcz47_1, hcz47_2, hcz47_3⟩, hfz47_0, hfz47_1, hfz47_2, hfz47_3⟩ := blkC4 BK140.out))
      (try simp only [Act.put, List.setIfInBounds_toArray, List.set_cons_zero, List.set_cons_succ])
      go_cut [130] (fun v130 wc => ∃ (kq : Nat) (x130_45 : Bool), v130 = .bool x130_45 ∧ Aside0 (spec_DocOk.j7 kq l0 x3_6 x4_2 x130_45 ((rd_T39 l0 x4_2).f0) ((rd_T39 l0 x4_2).f1) ((rd_T39 l0 x4_2).f2) ((rd_T39 l0 x4_2).f3) = some r) ∧ Aside0 (kq ≤ kj31) ∧ Aside0 (wc.heap[gb140]? = some (.cells #[.int .i64 ((rd_T39 l0 x4_2).f0), .string ((rd_T39 l0 x4_2).f1), .string ((rd_T39 l0 x4_2).f2), (.slice A139_3 ((rd_T39 l0 x4_2).f3).length c139_3)] 39 (0, 0))) ∧ Aside0 (Below w.heap.size w wc))
      case first =>
       have H := HC46.out
       clear HC46
       by_cases c48 : ((rd_T39 l0 x4_2).f2).toList = ([] : List UInt8)
       ·rw [if_pos c48] at H
        have c48b0 := beq_iff_eq.mpr c48
        have c48b1 := bne_eq_false_iff_eq.mpr c48
        clear c48
        (first | rw [c48b0] | (simp only [i64_w, i32_w]; rw [c48b0]) | skip)
        have H' := Aside0.mk H
        clear H
        obtain ⟨⟨hcz49_0, hcz49_1, hcz49_2, hcz49_3⟩, hfz49_0, hfz49_1, hfz49_2, hfz49_3⟩ := blkC4 BK140.out
        go_wp2
        go_meet
        case rel => exact ⟨_, (true), dq18, H', ⟨dq134⟩, ⟨dq133⟩, ⟨dq132⟩⟩
       rw [if_neg c48] at H
       have c48b0 := beq_eq_false_iff_ne.mpr c48
       have c48b1 := bne_iff_ne.mpr c48
       (first | rw [c48b0] | (simp only [i64_w, i32_w]; rw [c48b0]) | skip)
       by_cases c50 : (((rd_T39 l0 x4_2).f3).length : Int) > 0
       ·rw [if_pos c50] at H
        have c50b0 : decide (0 < (((rd_T39 l0 x4_2).f3).length : Int)) = true := decide_eq_true c50
        have c50b1 : decide (0 < ((rd_T39 l0 x4_2).f3).length) = true := decide_eq_true dq37
        clear c50
        have H' := Aside0.mk H
        clear H
        obtain ⟨⟨hcz51_0, hcz51_1, hcz51_2, hcz51_3⟩, hfz51_0, hfz51_1, hfz51_2, hfz51_3⟩ := blkC4 BK140.out
        go_wp2
        go_meet
        case rel => exact ⟨_, (true), dq18, H', ⟨dq134⟩, ⟨dq133⟩, ⟨dq132⟩⟩
       rw [if_neg c50] at H
       have c50b0 : decide (0 < (((rd_T39 l0 x4_2).f3).length : Int)) = false := decide_eq_false c50
       have c50b1 : decide (0 < ((rd_T39 l0 x4_2).f3).length) = false := decide_eq_false dq37
       clear c50
       replace H := Option.bind_eq_some_iff.mp H
       obtain ⟨t147, A520, H⟩ := H
       replace H : (spec_DocOk.j7 kj31 l0 x3_6 x4_2 (!t147) ((rd_T39 l0 x4_2).f0) ((rd_T39 l0 x4_2).f1) ((rd_T39 l0 x4_2).f2) ((rd_T39 l0 x4_2).f3)) = some r := H
       have A52 := Aside0.mk A520
       clear A520
       have H' := Aside0.mk H
       clear H
       obtain ⟨⟨hcz53_0, hcz53_1, hcz53_2, hcz53_3⟩, hfz53_0, hfz53_1, hfz53_2, hfz53_3⟩ := blkC4 BK140.out
       go_wp2_with (first | (go_at_call 58; (with_reducible refine (spec_l1Text.calls kj31 ((rd_T39 l0 x4_2).f2) t147 _ A52.out).mono ?_); rintro e w54 ⟨rfl, hb⟩; have n0_ := Aside0.mk (blk_below (g := gb140) (o := .cells #[.int .i64 ((rd_T39 l0 x4_2).f0), .string ((rd_T39 l0 x4_2).f1), .string ((rd_T39 l0 x4_2).f2), .slice A139_3 ((rd_T39 l0 x4_2).f3).length c139_3] 39 (0, 0)) dq133 hb); have n1_ := Aside0.mk (below_step dq132 hb); clear BK140; clear HB; have BK140 := n0_; have HB := n1_; clear n0_ n1_; (try clear hb); (try clear hb2); (try clear hk); (try clear hi)))
       go_meet
       case rel => exact ⟨_, (!t147), dq18, H', ⟨dq134⟩, ⟨dq133⟩, ⟨dq132⟩⟩
      clear HC46
      try clear c44b0
      try clear c45b0
      try clear c45b1
      try clear hcz47_0
      try clear hcz47_1
      try clear hcz47_2
      try clear hcz47_3
      try clear hfz47_0
      try clear hfz47_1
      try clear hfz47_2
      try clear hfz47_3
      obtain ⟨kq, x130_45, rfl, HA, HJ45, BK140, HB⟩ := hcut
      cases kq with
      | zero => exact absurd HA.out (by simp [spec_DocOk.j7])
      | succ kj45 =>
       have H := HA.out
       clear HA
       simp only [spec_DocOk.j7] at H
       by_cases c55 : x130_45 = true
       ·subst c55
        have H1 : (some false) = some r := by rw [if_pos rfl] at H; exact H
        clear H
        have H := H1
        clear H1
        obtain rfl := Option.some.inj H
        go_wp2
        go_ret
        exact ⟨dq26, dq132⟩
       replace c55 := Bool.eq_false_iff.mpr c55
       subst c55
       have H1 : (if 0 ≤ (wrap64 (x4_2 - 1)) then (if (wrap64 (x4_2 - 1)) < (l0.length : Int) then (if ((rd_T39 l0 (wrap64 (x4_2 - 1))).f1).toList = ([] : List UInt8) then (if ((rd_T39 l0 (wrap64 (x4_2 - 1))).f0) = ((rd_T39 l0 x4_2).f0) then (some false) else (spec_DocOk.l0 kj45 l0 x3_6 (wrap64 (x4_2 + 1)))) else (spec_DocOk.l0 kj45 l0 x3_6 (wrap64 (x4_2 + 1)))) else (none)) else (none)) = some r := by rw [if_neg (show ¬ (false = true) by decide)] at H; exact H
       clear H
       have H := H1
       clear H1
       obtain ⟨ji56, hji56⟩ : ∃ j_ : Int, (wrap64 (x4_2 - 1)) = j_ := ⟨_, rfl⟩
       replace H : (if 0 ≤ (ji56) then (if (ji56) < (l0.length : Int) then (if ((rd_T39 l0 (ji56)).f1).toList = ([] : List UInt8) then (if ((rd_T39 l0 (ji56)).f0) = ((rd_T39 l0 x4_2).f0) then (some false) else (spec_DocOk.l0 kj45 l0 x3_6 (wrap64 (x4_2 + 1)))) else (spec_DocOk.l0 kj45 l0 x3_6 (wrap64 (x4_2 + 1)))) else (none)) else (none)) = some r := by first | (rw [hji56] at H; exact H) | (simp only [hji56] at H ⊢; exact H)
       have hji56w : (IntKind.i64.wrap (x4_2 - 1)) = ji56 := (i64_w _).trans hji56
       by_cases c57 : 0 ≤ (ji56)
       rotate_left
       ·rw [if_neg c57] at H
        exact absurd H dq21
       rw [if_pos c57] at H
       have c57b0 := decide_eq_true c57
       clear c57
       by_cases c58 : (ji56) < (l0.length : Int)
       rotate_left
       ·rw [if_neg c58] at H
        exact absurd H dq21
       rw [if_pos c58] at H
       have c58b0 := decide_eq_true c58
       clear c58
       by_cases c59 : ((rd_T39 l0 (ji56)).f1).toList = ([] : List UInt8)
       rotate_left
       ·rw [if_neg c59] at H
        have c59b0 := beq_eq_false_iff_ne.mpr c59
        have c59b1 := bne_iff_ne.mpr c59
        have H' := Aside0.mk H
        clear H
        have p148 : 0 ≤ ((ji56) : Int) := of_decide_eq_true dq19
        have q148 : (ji56) < (l0.length : Int) := of_decide_eq_true dq19
        obtain ⟨ad148, A148_3, c148_3, e148, hx148_0, hx148_1, hx148_2, hx148_3, hl148_3, hi148_3⟩ := at_T39 HR0.out (ji56) p148 q148
        obtain rfl : ad139 = ad148 := (by injection e148)
        replace hx148_0 := (HB.out.cell (World.block_lt_of_cell? w _ hx148_0)).trans hx148_0
        replace hx148_1 := (HB.out.cell (World.block_lt_of_cell? w _ hx148_1)).trans hx148_1
        replace hx148_2 := (HB.out.cell (World.block_lt_of_cell? w _ hx148_2)).trans hx148_2
        replace hx148_3 := (HB.out.cell (World.block_lt_of_cell? w _ hx148_3)).trans hx148_3
        have HR148_3 := Aside0.mk hi148_3
        have HC148_3 := Aside0.mk hl148_3
        clear hi148_3 hl148_3
        replace p148 := eq_true p148
        replace q148 := eq_true q148
        go_wp2
        repeat (go_quiet (fail); try go_wp2)
        go_roundg kj45
        case measure => have := HJ1.out; have := HK2.out; have := HJ6.out; have := HJ16.out; have := HJ31.out; have := HJ45.out; omega
        case rel => exact ⟨(x3_6), (wrap64 (x4_2 + 1)), dq18, dq18, H', ⟨by have := HJ1.out; have := HK2.out; have := HJ6.out; have := HJ16.out; have := HJ31.out; have := HJ45.out; omega⟩, ⟨dq132⟩⟩
       rw [if_pos c59] at H
       have c59b0 := beq_iff_eq.mpr c59
       have c59b1 := bne_eq_false_iff_eq.mpr c59
       clear c59
       by_cases c60 : ((rd_T39 l0 (ji56)).f0) = ((rd_T39 l0 x4_2).f0)
       ·rw [if_pos c60] at H
        have c60b0 := beq_iff_eq.mpr c60
        have c60b1 := bne_eq_false_iff_eq.mpr c60
        clear c60
        obtain rfl := Option.some.inj H
        have p148 : 0 ≤ ((ji56) : Int) := of_decide_eq_true dq19
        have q148 : (ji56) < (l0.length : Int) := of_decide_eq_true dq19
        obtain ⟨ad148, A148_3, c148_3, e148, hx148_0, hx148_1, hx148_2, hx148_3, hl148_3, hi148_3⟩ := at_T39 HR0.out (ji56) p148 q148
        obtain rfl : ad139 = ad148 := (by injection e148)
        replace hx148_0 := (HB.out.cell (World.block_lt_of_cell? w _ hx148_0)).trans hx148_0
        replace hx148_1 := (HB.out.cell (World.block_lt_of_cell? w _ hx148_1)).trans hx148_1
        replace hx148_2 := (HB.out.cell (World.block_lt_of_cell? w _ hx148_2)).trans hx148_2
        replace hx148_3 := (HB.out.cell (World.block_lt_of_cell? w _ hx148_3)).trans hx148_3
        have HR148_3 := Aside0.mk hi148_3
        have HC148_3 := Aside0.mk hl148_3
        clear hi148_3 hl148_3
        replace p148 := eq_true p148
        replace q148 := eq_true q148
        have p149 : 0 ≤ ((ji56) : Int) := of_decide_eq_true dq19
        have q149 : (ji56) < (l0.length : Int) := of_decide_eq_true dq19
        obtain ⟨ad149, A149_3, c149_3, e149, hx149_0, hx149_1, hx149_2, hx149_3, hl149_3, hi149_3⟩ := at_T39 HR0.out (ji56) p149 q149
        obtain rfl : ad139 = ad149 := (by injection e149)
        replace hx149_0 := (HB.out.cell (World.block_lt_of_cell? w _ hx149_0)).trans hx149_0
        replace hx149_1 := (HB.out.cell (World.block_lt_of_cell? w _ hx149_1)).trans hx149_1
        replace hx149_2 := (HB.out.cell (World.block_lt_of_cell? w _ hx149_2)).trans hx149_2
        replace hx149_3 := (HB.out.cell (World.block_lt_of_cell? w _ hx149_3)).trans hx149_3
        have HR149_3 := Aside0.mk hi149_3
        have HC149_3 := Aside0.mk hl149_3
        clear hi149_3 hl149_3
        replace p149 := eq_true p149
        replace q149 := eq_true q149
        have ea_ := Option.some.inj (hx148_3.symm.trans hx149_3)
        injection ea_ with ea_ en_ ec_
        subst ea_
        subst ec_
        clear en_
        obtain ⟨⟨hcz61_0, hcz61_1, hcz61_2, hcz61_3⟩, hfz61_0, hfz61_1, hfz61_2, hfz61_3⟩ := blkC4 BK140.out
        go_wp2
        repeat (go_quiet (fail); try go_wp2)
        go_ret
        exact ⟨by first | rfl | (simp [errW_none, errW_some] <;> rfl) | (simp only [← hji56]; first | rfl | (simp [errW_none, errW_some] <;> rfl)) | (simp [*, errW_none, errW_some] <;> rfl), dq132⟩
       rw [if_neg c60] at H
       have c60b0 := beq_eq_false_iff_ne.mpr c60
       have c60b1 := bne_iff_ne.mpr c60
       have H' := Aside0.mk H
       clear H
       have p148 : 0 ≤ ((ji56) : Int) := of_decide_eq_true dq19
       have q148 : (ji56) < (l0.length : Int) := of_decide_eq_true dq19
       obtain ⟨ad148, A148_3, c148_3, e148, hx148_0, hx148_1, hx148_2, hx148_3, hl148_3, hi148_3⟩ := at_T39 HR0.out (ji56) p148 q148
       obtain rfl : ad139 = ad148 := (by injection e148)
       replace hx148_0 := (HB.out.cell (World.block_lt_of_cell? w _ hx148_0)).trans hx148_0
       replace hx148_1 := (HB.out.cell (World.block_lt_of_cell? w _ hx148_1)).trans hx148_1
       replace hx148_2 := (HB.out.cell (World.block_lt_of_cell? w _ hx148_2)).trans hx148_2
       replace hx148_3 := (HB.out.cell (World.block_lt_of_cell? w _ hx148_3)).trans hx148_3
       have HR148_3 := Aside0.mk hi148_3
       have HC148_3 := Aside0.mk hl148_3
       clear hi148_3 hl148_3
       replace p148 := eq_true p148
       replace q148 := eq_true q148
       have p149 : 0 ≤ ((ji56) : Int) := of_decide_eq_true dq19
       have q149 : (ji56) < (l0.length : Int) := of_decide_eq_true dq19
       obtain ⟨ad149, A149_3, c149_3, e149, hx149_0, hx149_1, hx149_2, hx149_3, hl149_3, hi149_3⟩ := at_T39 HR0.out (ji56) p149 q149
       obtain rfl : ad139 = ad149 := (by injection e149)
       replace hx149_0 := (HB.out.cell (World.block_lt_of_cell? w _ hx149_0)).trans hx149_0
       replace hx149_1 := (HB.out.cell (World.block_lt_of_cell? w _ hx149_1)).trans hx149_1
       replace hx149_2 := (HB.out.cell (World.block_lt_of_cell? w _ hx149_2)).trans hx149_2
       replace hx149_3 := (HB.out.cell (World.block_lt_of_cell? w _ hx149_3)).trans hx149_3
       have HR149_3 := Aside0.mk hi149_3
       have HC149_3 := Aside0.mk hl149_3
       clear hi149_3 hl149_3
       replace p149 := eq_true p149
       replace q149 := eq_true q149
       have ea_ := Option.some.inj (hx148_3.symm.trans hx149_3)
       injection ea_ with ea_ en_ ec_
       subst ea_
       subst ec_
       clear en_
       obtain ⟨⟨hcz62_0, hcz62_1, hcz62_2, hcz62_3⟩, hfz62_0, hfz62_1, hfz62_2, hfz62_3⟩ := blkC4 BK140.out
       go_wp2
       repeat (go_quiet (fail); try go_wp2)
       go_roundg kj45
       case measure => have := HJ1.out; have := HK2.out; have := HJ6.out; have := HJ16.out; have := HJ31.out; have := HJ45.out; omega
       case rel => exact ⟨(x3_6), (wrap64 (x4_2 + 1)), dq18, dq18, H', ⟨by have := HJ1.out; have := HK2.out; have := HJ6.out; have := HJ16.out; have := HJ31.out; have := HJ45.out; omega⟩, ⟨dq132⟩⟩

theorem bne_nilE70 (l : List UInt8) : (l != ([] : List UInt8)) = !l.isEmpty := by cases l <;> rfl
/-! ### spec_l3Bound: function 66 -/
mutual
def spec_l3Bound.j0 : Nat → List (S39) → Int → ByteArray → ByteArray → Option (ByteArray × Bool)
 | 0, _, _, _, _ => none
 | k + 1, x0, x1, x2, x8 => spec_l3Bound.l0 k x0 x2 x8 x1
def spec_l3Bound.l0 : Nat → List (S39) → ByteArray → ByteArray → Int → Option (ByteArray × Bool)
 | 0, _, _, _, _ => none
 | k + 1, x0, x2, x8, x9 => if x9 ≥ 0 then (spec_l3Bound.l1 k x0 x2 x8 x9 0) else (some ((⟨#[]⟩ : ByteArray), (x2.toList == ([] : List UInt8))))
def spec_l3Bound.l1 : Nat → List (S39) → ByteArray → ByteArray → Int → Int → Option (ByteArray × Bool)
 | 0, _, _, _, _, _ => none
 | k + 1, x0, x2, x8, x9, x10 => if 0 ≤ x9 then (if x9 < (x0.length : Int) then (if x10 < (((rd_T39 x0 x9).f3).length : Int) then (if 0 ≤ x10 then (if ((rd_T46 ((rd_T39 x0 x9).f3) x10).f0).toList = x8.toList then (if ((rd_T46 ((rd_T39 x0 x9).f3) x10).f1).toList = ([] : List UInt8) then (some ((rd_T46 ((rd_T39 x0 x9).f3) x10).f1, (x2.toList == ([] : List UInt8)))) else (some ((rd_T46 ((rd_T39 x0 x9).f3) x10).f1, true))) else (spec_l3Bound.l1 k x0 x2 x8 x9 (wrap64 (x10 + 1)))) else (none)) else (spec_l3Bound.l0 k x0 x2 x8 ((rd_T39 x0 x9).f0))) else (none)) else (none)
end
def spec_l3Bound.f (k : Nat) (l0 : List (S39)) (a1 : Int) (a2 : ByteArray) : Option (ByteArray × Bool) := if a2.toList = ([120, 109, 108] : List UInt8) then (some ((⟨#[104, 116, 116, 112, 58, 47, 47, 119, 119, 119, 46, 119, 51, 46, 111, 114, 103, 47, 88, 77, 76, 47, 49, 57, 57, 56, 47, 110, 97, 109, 101, 115, 112, 97, 99, 101]⟩ : ByteArray), true)) else (if a2.toList = ([] : List UInt8) then (spec_l3Bound.j0 k l0 a1 a2 (⟨#[120, 109, 108, 110, 115]⟩ : ByteArray)) else (if 6 + a2.size ≤ 9223372036854775807 then (spec_l3Bound.j0 k l0 a1 a2 ((⟨#[120, 109, 108, 110, 115, 58]⟩ : ByteArray) ++ a2)) else (none)))
set_option maxHeartbeats 8000000 in
set_option maxRecDepth 100000 in
theorem spec_l3Bound.calls (k : Nat) (A0 : Option Addr) (c0 : Nat) (l0 : List (S39)) (a1 : Int) (a2 : ByteArray) (r1 : ByteArray) (r2 : Bool) (w : World) (hr0 : Kd.C k39 w A0 l0.length l0) (hc0 : l0.length ≤ c0) (h : spec_l3Bound.f k l0 a1 a2 = some (r1, r2)) :
  Calls Tryd.prog 66 #[.slice A0 l0.length c0, .int .i64 a1, .string a2] w fun e w' => e = .returned (.tuple #[.string r1, .bool r2]) ∧ Drawn0 w w' := by
 have HR0 := Aside0.mk hr0
 have HC0 := Aside0.mk hc0
 clear hr0 hc0
 have H : (if a2.toList = ([120, 109, 108] : List UInt8) then (some ((⟨#[104, 116, 116, 112, 58, 47, 47, 119, 119, 119, 46, 119, 51, 46, 111, 114, 103, 47, 88, 77, 76, 47, 49, 57, 57, 56, 47, 110, 97, 109, 101, 115, 112, 97, 99, 101]⟩ : ByteArray), true)) else (if a2.toList = ([] : List UInt8) then (spec_l3Bound.j0 k l0 a1 a2 (⟨#[120, 109, 108, 110, 115]⟩ : ByteArray)) else (if 6 + a2.size ≤ 9223372036854775807 then (spec_l3Bound.j0 k l0 a1 a2 ((⟨#[120, 109, 108, 110, 115, 58]⟩ : ByteArray) ++ a2)) else (none)))) = some (r1, r2) := h
 clear h
 by_cases c4 : a2.toList = ([120, 109, 108] : List UInt8)
 ·rw [if_pos c4] at H
  have c4b0 := beq_iff_eq.mpr c4
  have c4b1 := bne_eq_false_iff_eq.mpr c4
  clear c4
  simp only [Option.some.injEq, Prod.mk.injEq] at H
  obtain ⟨rfl, rfl⟩ := H
  go_enter Tryd.func66, Tryd.ntmps66
  go_wp2
  go_ret2
  exact ⟨dq18, dq17⟩
 rw [if_neg c4] at H
 have c4b0 := beq_eq_false_iff_ne.mpr c4
 have c4b1 := bne_iff_ne.mpr c4
 have HC5 := Aside0.mk H
 clear H
 go_enter Tryd.func66, Tryd.ntmps66
 go_upto_if 15 with (fail)
 go_cut [8] (fun v8 wc => ∃ (kq : Nat) (x8_4 : ByteArray), v8 = .string x8_4 ∧ Aside0 (spec_l3Bound.j0 kq l0 a1 a2 x8_4 = some (r1, r2)) ∧ Aside0 (kq ≤ k) ∧ Drawn0 w wc)
 case first =>
  have H := HC5.out
  clear HC5
  by_cases c6 : a2.toList = ([] : List UInt8)
  ·rw [if_pos c6] at H
   have c6b0 := beq_iff_eq.mpr c6
   have c6b1 := bne_eq_false_iff_eq.mpr c6
   have c6b3 : (!a2.toList.isEmpty) = false := (bne_nilE70 a2.toList).symm.trans c6b1
   clear c6
   (first | rw [c6b0] | rw [c6b3] | (simp only [i64_w, i32_w]; rw [c6b0]) | skip)
   have H' := Aside0.mk H
   clear H
   go_wp2
   go_meet
   case rel => exact ⟨_, ((⟨#[120, 109, 108, 110, 115]⟩ : ByteArray)), dq18, H', ⟨dq25⟩, dq17⟩
  rw [if_neg c6] at H
  have c6b0 := beq_eq_false_iff_ne.mpr c6
  have c6b1 := bne_iff_ne.mpr c6
  have c6b3 : (!a2.toList.isEmpty) = true := (bne_nilE70 a2.toList).symm.trans c6b1
  (first | rw [c6b0] | rw [c6b3] | (simp only [i64_w, i32_w]; rw [c6b0]) | skip)
  by_cases c7 : 6 + a2.size ≤ 9223372036854775807
  rotate_left
  ·rw [if_neg c7] at H
   exact absurd H dq21
  rw [if_pos c7] at H
  have c7b0 := eq_true c7
  have c7b1 := decide_eq_true c7
  try have c7b2 : (9223372036854775807 < 6 + a2.size) = False := eq_false (Nat.not_lt.2 c7)
  have H' := Aside0.mk H
  clear H
  go_wp2
  go_meet
  case rel => exact ⟨_, ((⟨#[120, 109, 108, 110, 115, 58]⟩ : ByteArray) ++ a2), dq18, H', ⟨dq25⟩, dq17⟩
 clear HC5
 try clear c4
 try clear c4b0
 try clear c4b1
 obtain ⟨kq, x8_4, rfl, HA, HJ4, ⟨mc4, rfl⟩⟩ := hcut
 cases kq with
 | zero => exact absurd HA.out (by simp [spec_l3Bound.j0])
 | succ kj4 =>
  have H := HA.out
  clear HA
  simp only [spec_l3Bound.j0] at H
  have H' := Aside0.mk H
  clear H
  go_wp2
  go_loopg [9] kj4 (fun kq v9 w' => ∃ (x9_2 : Int), v9 = .int .i64 x9_2 ∧ Aside0 (spec_l3Bound.l0 kq l0 a2 x8_4 x9_2 = some (r1, r2)) ∧ Aside0 (kq ≤ kj4) ∧ Drawn0 w w')
  case atStart => exact ⟨(a1), dq18, H', ⟨Nat.le_refl _⟩, dq17⟩
  clear H'
  obtain ⟨x9_2, rfl, HA, HK2, ⟨m2, rfl⟩⟩ := hrel
  cases gk with
  | zero => exact absurd HA.out (by simp [spec_l3Bound.l0])
  | succ k2 =>
   have H := HA.out
   clear HA
   simp only [spec_l3Bound.l0] at H
   by_cases c8 : x9_2 ≥ 0
   rotate_left
   ·rw [if_neg c8] at H
    have c8b0 : decide (0 ≤ x9_2) = false := decide_eq_false c8
    clear c8
    simp only [Option.some.injEq, Prod.mk.injEq] at H
    obtain ⟨rfl, rfl⟩ := H
    go_wp2
    go_ret2
    exact ⟨dq18, dq17⟩
   rw [if_pos c8] at H
   have c8b0 : decide (0 ≤ x9_2) = true := decide_eq_true c8
   clear c8
   have H' := Aside0.mk H
   clear H
   go_wp2
   go_loopg [10] k2 (fun kq v10 w' => ∃ (x10_3 : Int), v10 = .int .i64 x10_3 ∧ Aside0 (spec_l3Bound.l1 kq l0 a2 x8_4 x9_2 x10_3 = some (r1, r2)) ∧ Aside0 (kq ≤ k2) ∧ Drawn0 w w')
   case atStart => exact ⟨(0), dq18, H', ⟨Nat.le_refl _⟩, dq17⟩
   clear H'
   try clear c8b0
   obtain ⟨x10_3, rfl, HA, HK3, ⟨m3, rfl⟩⟩ := hrel
   cases gk with
   | zero => exact absurd HA.out (by simp [spec_l3Bound.l1])
   | succ k3 =>
    have H := HA.out
    clear HA
    simp only [spec_l3Bound.l1] at H
    by_cases c9 : 0 ≤ x9_2
    rotate_left
    ·rw [if_neg c9] at H
     exact absurd H dq21
    rw [if_pos c9] at H
    have c9b0 := decide_eq_true c9
    clear c9
    by_cases c10 : x9_2 < (l0.length : Int)
    rotate_left
    ·rw [if_neg c10] at H
     exact absurd H dq21
    rw [if_pos c10] at H
    have c10b0 := decide_eq_true c10
    clear c10
    by_cases c11 : x10_3 < (((rd_T39 l0 x9_2).f3).length : Int)
    rotate_left
    ·rw [if_neg c11] at H
     have c11b0 := decide_eq_false c11
     clear c11
     have H' := Aside0.mk H
     clear H
     have p704 : 0 ≤ (x9_2 : Int) := of_decide_eq_true dq19
     have q704 : x9_2 < (l0.length : Int) := of_decide_eq_true dq19
     obtain ⟨ad704, A704_3, c704_3, e704, hx704_0, hx704_1, hx704_2, hx704_3, hl704_3, hi704_3⟩ := at_T39 HR0.out x9_2 p704 q704
     cases e704
     have HR704_3 := Aside0.mk hi704_3
     have HC704_3 := Aside0.mk hl704_3
     clear hi704_3 hl704_3
     replace p704 := eq_true p704
     replace q704 := eq_true q704
     have p709 : 0 ≤ (x9_2 : Int) := of_decide_eq_true dq19
     have q709 : x9_2 < (l0.length : Int) := of_decide_eq_true dq19
     obtain ⟨ad709, A709_3, c709_3, e709, hx709_0, hx709_1, hx709_2, hx709_3, hl709_3, hi709_3⟩ := at_T39 HR0.out x9_2 p709 q709
     obtain rfl : ad704 = ad709 := (by injection e709)
     have HR709_3 := Aside0.mk hi709_3
     have HC709_3 := Aside0.mk hl709_3
     clear hi709_3 hl709_3
     replace p709 := eq_true p709
     replace q709 := eq_true q709
     have ea_ := Option.some.inj (hx704_3.symm.trans hx709_3)
     injection ea_ with ea_ en_ ec_
     subst ea_
     subst ec_
     clear en_
     go_wp2
     go_roundg k3
     case measure => have := HJ4.out; have := HK2.out; have := HK3.out; omega
     case rel => exact ⟨((rd_T39 l0 x9_2).f0), dq18, H', ⟨dq54⟩, dq17⟩
    rw [if_pos c11] at H
    have c11b0 := decide_eq_true c11
    clear c11
    by_cases c12 : 0 ≤ x10_3
    rotate_left
    ·rw [if_neg c12] at H
     exact absurd H dq21
    rw [if_pos c12] at H
    have c12b0 := decide_eq_true c12
    clear c12
    by_cases c13 : ((rd_T46 ((rd_T39 l0 x9_2).f3) x10_3).f0).toList = x8_4.toList
    rotate_left
    ·rw [if_neg c13] at H
     have c13b0 := beq_eq_false_iff_ne.mpr c13
     have c13b1 := bne_iff_ne.mpr c13
     have H' := Aside0.mk H
     clear H
     have p704 : 0 ≤ (x9_2 : Int) := of_decide_eq_true dq19
     have q704 : x9_2 < (l0.length : Int) := of_decide_eq_true dq19
     obtain ⟨ad704, A704_3, c704_3, e704, hx704_0, hx704_1, hx704_2, hx704_3, hl704_3, hi704_3⟩ := at_T39 HR0.out x9_2 p704 q704
     cases e704
     have HR704_3 := Aside0.mk hi704_3
     have HC704_3 := Aside0.mk hl704_3
     clear hi704_3 hl704_3
     replace p704 := eq_true p704
     replace q704 := eq_true q704
     have p705 : 0 ≤ (x9_2 : Int) := of_decide_eq_true dq19
     have q705 : x9_2 < (l0.length : Int) := of_decide_eq_true dq19
     obtain ⟨ad705, A705_3, c705_3, e705, hx705_0, hx705_1, hx705_2, hx705_3, hl705_3, hi705_3⟩ := at_T39 HR0.out x9_2 p705 q705
     obtain rfl : ad704 = ad705 := (by injection e705)
     have HR705_3 := Aside0.mk hi705_3
     have HC705_3 := Aside0.mk hl705_3
     clear hi705_3 hl705_3
     replace p705 := eq_true p705
     replace q705 := eq_true q705
     have ea_ := Option.some.inj (hx704_3.symm.trans hx705_3)
     injection ea_ with ea_ en_ ec_
     subst ea_
     subst ec_
     clear en_
     have p706 : 0 ≤ (x10_3 : Int) := of_decide_eq_true dq19
     have q706 : x10_3 < (((rd_T39 l0 x9_2).f3).length : Int) := of_decide_eq_true dq19
     obtain ⟨ad706, e706, hx706_0, hx706_1⟩ := at_T46 HR705_3.out x10_3 p706 q706
     cases e706
     replace p706 := eq_true p706
     replace q706 := eq_true q706
     go_wp2
     go_roundg k3
     case measure => have := HJ4.out; have := HK2.out; have := HK3.out; omega
     case rel => exact ⟨(wrap64 (x10_3 + 1)), dq18, H', ⟨dq54⟩, dq17⟩
    rw [if_pos c13] at H
    have c13b0 := beq_iff_eq.mpr c13
    have c13b1 := bne_eq_false_iff_eq.mpr c13
    clear c13
    by_cases c14 : ((rd_T46 ((rd_T39 l0 x9_2).f3) x10_3).f1).toList = ([] : List UInt8)
    rotate_left
    ·rw [if_neg c14] at H
     have c14b0 := beq_eq_false_iff_ne.mpr c14
     have c14b1 := bne_iff_ne.mpr c14
     simp only [Option.some.injEq, Prod.mk.injEq] at H
     obtain ⟨rfl, rfl⟩ := H
     have p704 : 0 ≤ (x9_2 : Int) := of_decide_eq_true dq19
     have q704 : x9_2 < (l0.length : Int) := of_decide_eq_true dq19
     obtain ⟨ad704, A704_3, c704_3, e704, hx704_0, hx704_1, hx704_2, hx704_3, hl704_3, hi704_3⟩ := at_T39 HR0.out x9_2 p704 q704
     cases e704
     have HR704_3 := Aside0.mk hi704_3
     have HC704_3 := Aside0.mk hl704_3
     clear hi704_3 hl704_3
     replace p704 := eq_true p704
     replace q704 := eq_true q704
     have p705 : 0 ≤ (x9_2 : Int) := of_decide_eq_true dq19
     have q705 : x9_2 < (l0.length : Int) := of_decide_eq_true dq19
     obtain ⟨ad705, A705_3, c705_3, e705, hx705_0, hx705_1, hx705_2, hx705_3, hl705_3, hi705_3⟩ := at_T39 HR0.out x9_2 p705 q705
     obtain rfl : ad704 = ad705 := (by injection e705)
     have HR705_3 := Aside0.mk hi705_3
     have HC705_3 := Aside0.mk hl705_3
     clear hi705_3 hl705_3
     replace p705 := eq_true p705
     replace q705 := eq_true q705
     have ea_ := Option.some.inj (hx704_3.symm.trans hx705_3)
     injection ea_ with ea_ en_ ec_
     subst ea_
     subst ec_
     clear en_
     have p706 : 0 ≤ (x10_3 : Int) := of_decide_eq_true dq19
     have q706 : x10_3 < (((rd_T39 l0 x9_2).f3).length : Int) := of_decide_eq_true dq19
     obtain ⟨ad706, e706, hx706_0, hx706_1⟩ := at_T46 HR705_3.out x10_3 p706 q706
     cases e706
     replace p706 := eq_true p706
     replace q706 := eq_true q706
     have p707 : 0 ≤ (x9_2 : Int) := of_decide_eq_true dq19
     have q707 : x9_2 < (l0.length : Int) := of_decide_eq_true dq19
     obtain ⟨ad707, A707_3, c707_3, e707, hx707_0, hx707_1, hx707_2, hx707_3, hl707_3, hi707_3⟩ := at_T39 HR0.out x9_2 p707 q707
     obtain rfl : ad704 = ad707 := (by injection e707)
     have HR707_3 := Aside0.mk hi707_3
     have HC707_3 := Aside0.mk hl707_3
     clear hi707_3 hl707_3
     replace p707 := eq_true p707
     replace q707 := eq_true q707
     have ea_ := Option.some.inj (hx704_3.symm.trans hx707_3)
     injection ea_ with ea_ en_ ec_
     subst ea_
     subst ec_
     clear en_
     have p708 : 0 ≤ (x10_3 : Int) := of_decide_eq_true dq19
     have q708 : x10_3 < (((rd_T39 l0 x9_2).f3).length : Int) := of_decide_eq_true dq19
     obtain ⟨ad708, e708, hx708_0, hx708_1⟩ := at_T46 HR707_3.out x10_3 p708 q708
     cases e708
     replace p708 := eq_true p708
     replace q708 := eq_true q708
     go_wp2
     go_ret2
     exact ⟨dq18, dq17⟩
    rw [if_pos c14] at H
    have c14b0 := beq_iff_eq.mpr c14
    have c14b1 := bne_eq_false_iff_eq.mpr c14
    clear c14
    simp only [Option.some.injEq, Prod.mk.injEq] at H
    obtain ⟨rfl, rfl⟩ := H
    have p704 : 0 ≤ (x9_2 : Int) := of_decide_eq_true dq19
    have q704 : x9_2 < (l0.length : Int) := of_decide_eq_true dq19
    obtain ⟨ad704, A704_3, c704_3, e704, hx704_0, hx704_1, hx704_2, hx704_3, hl704_3, hi704_3⟩ := at_T39 HR0.out x9_2 p704 q704
    cases e704
    have HR704_3 := Aside0.mk hi704_3
    have HC704_3 := Aside0.mk hl704_3
    clear hi704_3 hl704_3
    replace p704 := eq_true p704
    replace q704 := eq_true q704
    have p705 : 0 ≤ (x9_2 : Int) := of_decide_eq_true dq19
    have q705 : x9_2 < (l0.length : Int) := of_decide_eq_true dq19
    obtain ⟨ad705, A705_3, c705_3, e705, hx705_0, hx705_1, hx705_2, hx705_3, hl705_3, hi705_3⟩ := at_T39 HR0.out x9_2 p705 q705
    obtain rfl : ad704 = ad705 := (by injection e705)
    have HR705_3 := Aside0.mk hi705_3
    have HC705_3 := Aside0.mk hl705_3
    clear hi705_3 hl705_3
    replace p705 := eq_true p705
    replace q705 := eq_true q705
    have ea_ := Option.some.inj (hx704_3.symm.trans hx705_3)
    injection ea_ with ea_ en_ ec_
    subst ea_
    subst ec_
    clear en_
    have p706 : 0 ≤ (x10_3 : Int) := of_decide_eq_true dq19
    have q706 : x10_3 < (((rd_T39 l0 x9_2).f3).length : Int) := of_decide_eq_true dq19
    obtain ⟨ad706, e706, hx706_0, hx706_1⟩ := at_T46 HR705_3.out x10_3 p706 q706
    cases e706
    replace p706 := eq_true p706
    replace q706 := eq_true q706
    have p707 : 0 ≤ (x9_2 : Int) := of_decide_eq_true dq19
    have q707 : x9_2 < (l0.length : Int) := of_decide_eq_true dq19
    obtain ⟨ad707, A707_3, c707_3, e707, hx707_0, hx707_1, hx707_2, hx707_3, hl707_3, hi707_3⟩ := at_T39 HR0.out x9_2 p707 q707
    obtain rfl : ad704 = ad707 := (by injection e707)
    have HR707_3 := Aside0.mk hi707_3
    have HC707_3 := Aside0.mk hl707_3
    clear hi707_3 hl707_3
    replace p707 := eq_true p707
    replace q707 := eq_true q707
    have ea_ := Option.some.inj (hx704_3.symm.trans hx707_3)
    injection ea_ with ea_ en_ ec_
    subst ea_
    subst ec_
    clear en_
    have p708 : 0 ≤ (x10_3 : Int) := of_decide_eq_true dq19
    have q708 : x10_3 < (((rd_T39 l0 x9_2).f3).length : Int) := of_decide_eq_true dq19
    obtain ⟨ad708, e708, hx708_0, hx708_1⟩ := at_T46 HR707_3.out x10_3 p708 q708
    cases e708
    replace p708 := eq_true p708
    replace q708 := eq_true q708
    go_wp2
    go_ret2
    exact ⟨dq18, dq17⟩

end Go.Proofs.YtpmjpbaeecnpiaaDoor.L

namespace Go.Proofs.YtpmjpbaeecnpiaaDoor.L
open Go.RowKit Go.Proofs.YtpmjpbaeecnpiaaDoorW.PrintWords Go.Proofs.YtpmjpbaeecnpiaaDoorW.PrintLast Go.Proofs.YtpmjpbaeecnpiaaDoorW.PrintMore
attribute [local go_sem] max2_int min2_int max_two min_two max_three min_three max_four min_four
set_option linter.unusedVariables false
set_option linter.unusedSimpArgs false

attribute [local go_sem high] eqA56
theorem bne_nilE71 (l : List UInt8) : (l != ([] : List UInt8)) = !l.isEmpty := by cases l <;> rfl
/-! ### spec_l3Attrs: function 75 -/
mutual
def spec_l3Attrs.l0 : Nat → List (S39) → Int → List (S56) → Int → Option ((List (S56)) × Bool)
 | 0, _, _, _, _ => none
 | k + 1, x0, x1, x6, x7 => if 0 ≤ x1 then (if x1 < (x0.length : Int) then (if x7 < (((rd_T39 x0 x1).f3).length : Int) then (if 0 ≤ x7 then ((spec_Split.f k ((rd_T46 ((rd_T39 x0 x1).f3) x7).f0)).bind fun bt716 => (if bt716.1.toList = ([120, 109, 108, 110, 115] : List UInt8) then (spec_l3Attrs.j1 k x0 x1 x6 x7 bt716.1 bt716.2.1 true) else (if bt716.1.toList = ([] : List UInt8) then (spec_l3Attrs.j1 k x0 x1 x6 x7 bt716.1 bt716.2.1 (bt716.2.1.toList == ([120, 109, 108, 110, 115] : List UInt8))) else (spec_l3Attrs.j1 k x0 x1 x6 x7 bt716.1 bt716.2.1 false)))) else (none)) else (some (x6, true))) else (none)) else (none)
def spec_l3Attrs.j1 : Nat → List (S39) → Int → List (S56) → Int → ByteArray → ByteArray → Bool → Option ((List (S56)) × Bool)
 | 0, _, _, _, _, _, _, _ => none
 | k + 1, x0, x1, x6, x7, x8, x9, x49 => if x49 = true then (spec_l3Attrs.l0 k x0 x1 x6 (wrap64 (x7 + 1))) else (if x8.toList = ([] : List UInt8) then (spec_l3Attrs.j2 k x0 x1 x6 x7 (⟨#[]⟩ : ByteArray) x9) else ((spec_l3Bound.f k x0 x1 x8).bind fun bt720 => (if bt720.2 = true then (spec_l3Attrs.j2 k x0 x1 x6 x7 bt720.1 x9) else (some (([] : List (S56)), false)))))
def spec_l3Attrs.j2 : Nat → List (S39) → Int → List (S56) → Int → ByteArray → ByteArray → Option ((List (S56)) × Bool)
 | 0, _, _, _, _, _, _ => none
 | k + 1, x0, x1, x6, x7, x720000, x720001 => spec_l3Attrs.l1 k x0 x1 x6 x7 0 x720000 x720001
def spec_l3Attrs.l1 : Nat → List (S39) → Int → List (S56) → Int → Int → ByteArray → ByteArray → Option ((List (S56)) × Bool)
 | 0, _, _, _, _, _, _, _ => none
 | k + 1, x0, x1, x6, x7, x14, x720000, x720001 => if x14 < (x6.length : Int) then (if 0 ≤ x14 then (if ((((rd_T56 x6 x14).f0).toList) == x720000.toList && ((((rd_T56 x6 x14).f1).toList) == x720001.toList)) = true then (some (([] : List (S56)), false)) else (spec_l3Attrs.l1 k x0 x1 x6 x7 (wrap64 (x14 + 1)) x720000 x720001)) else (none)) else (if x6.length < 4398046511104 then (spec_l3Attrs.l0 k x0 x1 (x6 ++ [(⟨x720000, x720001⟩ : S56)]) (wrap64 (x7 + 1))) else (none))
end
def spec_l3Attrs.f (k : Nat) (l0 : List (S39)) (a1 : Int) : Option ((List (S56)) × Bool) := spec_l3Attrs.l0 k l0 a1 (([] : List (S56))) 0
set_option maxHeartbeats 8000000 in
set_option maxRecDepth 100000 in
theorem spec_l3Attrs.calls (k : Nat) (A0 : Option Addr) (c0 : Nat) (l0 : List (S39)) (a1 : Int) (r1 : List (S56)) (r2 : Bool) (w : World) (hr0 : Kd.C k39 w A0 l0.length l0) (hc0 : l0.length ≤ c0) (h : spec_l3Attrs.f k l0 a1 = some (r1, r2)) :
  Calls Tryd.prog 75 #[.slice A0 l0.length c0, .int .i64 a1] w fun e w' => ∃ v0_ : Value, e = .returned (.tuple #[v0_, .bool r2]) ∧ Kd.R k56 56 w' w.heap.size (fun _ => True) v0_ r1 ∧ Below w.heap.size w w' := by
 have hu56 := Tryd.underlying56
 have HR0 := Aside0.mk hr0
 have HC0 := Aside0.mk hc0
 clear hr0 hc0
 have HB := Aside0.mk (Below.refl w.heap.size w)
 have H : (spec_l3Attrs.l0 k l0 a1 (([] : List (S56))) 0) = some (r1, r2) := h
 clear h
 obtain ⟨y710, hy710⟩ : ∃ y_ : List (S56), y_ = (([] : List (S56))) := ⟨_, rfl⟩
 replace H : (spec_l3Attrs.l0 k l0 a1 y710 0) = some (r1, r2) := by first | (rw [hy710]; with_reducible exact H) | (have H2_ := (Option.bind_some _ _).symm.trans H; rw [hy710]; with_reducible exact H2_) | (have H2_ := (Option.bind_some _ _).symm.trans H; with_reducible exact H2_) | with_reducible exact H | (rw [hy710]; exact H) | exact H
 have Ny710 := Aside0.mk hy710
 clear hy710
 have H' := Aside0.mk H
 clear H
 go_enter Tryd.func75, Tryd.ntmps75
 go_wp2_with (first | ((with_reducible refine gate_dst (N := 15) rfl ?_); refine Kd.R_lit k56 _ 56 ?hg (N := 15) ?hd (xs := ([] : List (S56))) (inner := []) (ok := fun _ => True) (okp := fun _ => True) ?hr ?hp (fun _ hk => hk) trivial (Below.refl _ _) (Nat.le_refl _) dq21 ?_; (case hd => rfl); (case hg => rfl); (case hr => exact dq1); (case hp => exact (Reps.none _ _)); intro v711 w3 ho4 hb hg_ hnew_; clear hg_ hnew_; (first | rw [← Ny710.out] at ho4 | (simp only [Int.reduceToNat] at ho4; rw [← Ny710.out] at ho4)); have n0_ := Aside0.mk (Kd.R_lower ho4 (below_size dq24)); have n1_ := Aside0.mk (below_step dq24 hb); clear HB; have HO712 := n0_; have HB := n1_; clear n0_ n1_; clear hb ho4))
 go_loopg [6, 7] k (fun kq v6 v7 w' => ∃ (x6_1 : List (S56)) (x7_1 : Int), v7 = .int .i64 x7_1 ∧ Aside0 (spec_l3Attrs.l0 kq l0 a1 x6_1 x7_1 = some (r1, r2)) ∧ Aside0 (kq ≤ k) ∧ Aside0 (Kd.R k56 56 w' w.heap.size (fun _ => True) v6 x6_1) ∧ Aside0 (Below w.heap.size w w'))
 case atStart => exact ⟨(y710), (0), dq18, H', ⟨Nat.le_refl _⟩, ⟨by (with_reducible repeat (first | apply Kd.R_alloc | apply Kd.R_drewN | apply Kd.R_drew)); exact HO712.out⟩, ⟨dq24⟩⟩
 clear H'
 obtain ⟨x6_1, x7_1, rfl, HA, HK1, HO_6, HB⟩ := hrel
 cases gk with
 | zero => exact absurd HA.out (by simp [spec_l3Attrs.l0])
 | succ k1 =>
  have H := HA.out
  clear HA
  simp only [spec_l3Attrs.l0] at H
  by_cases c5 : 0 ≤ a1
  rotate_left
  ·rw [if_neg c5] at H
   exact absurd H dq21
  rw [if_pos c5] at H
  have c5b0 := decide_eq_true c5
  clear c5
  by_cases c6 : a1 < (l0.length : Int)
  rotate_left
  ·rw [if_neg c6] at H
   exact absurd H dq21
  rw [if_pos c6] at H
  have c6b0 := decide_eq_true c6
  clear c6
  by_cases c7 : x7_1 < (((rd_T39 l0 a1).f3).length : Int)
  rotate_left
  ·rw [if_neg c7] at H
   have c7b0 := decide_eq_false c7
   clear c7
   simp only [Option.some.injEq, Prod.mk.injEq] at H
   obtain ⟨rfl, rfl⟩ := H
   have p713 : 0 ≤ (a1 : Int) := of_decide_eq_true dq19
   have q713 : a1 < (l0.length : Int) := of_decide_eq_true dq19
   obtain ⟨ad713, A713_3, c713_3, e713, hx713_0, hx713_1, hx713_2, hx713_3, hl713_3, hi713_3⟩ := at_T39 HR0.out a1 p713 q713
   cases e713
   replace hx713_0 := (HB.out.cell (World.block_lt_of_cell? w _ hx713_0)).trans hx713_0
   replace hx713_1 := (HB.out.cell (World.block_lt_of_cell? w _ hx713_1)).trans hx713_1
   replace hx713_2 := (HB.out.cell (World.block_lt_of_cell? w _ hx713_2)).trans hx713_2
   replace hx713_3 := (HB.out.cell (World.block_lt_of_cell? w _ hx713_3)).trans hx713_3
   have HR713_3 := Aside0.mk hi713_3
   have HC713_3 := Aside0.mk hl713_3
   clear hi713_3 hl713_3
   replace p713 := eq_true p713
   replace q713 := eq_true q713
   go_wp2
   go_ret2
   exact ⟨_, dq26, dq107, dq24⟩
  rw [if_pos c7] at H
  have c7b0 := decide_eq_true c7
  clear c7
  by_cases c8 : 0 ≤ x7_1
  rotate_left
  ·rw [if_neg c8] at H
   exact absurd H dq21
  rw [if_pos c8] at H
  have c8b0 := decide_eq_true c8
  clear c8
  replace H := Option.bind_eq_some_iff.mp H
  obtain ⟨⟨t716, t717, t718⟩, A90, H⟩ := H
  replace H : (if t716.toList = ([120, 109, 108, 110, 115] : List UInt8) then (spec_l3Attrs.j1 k1 l0 a1 x6_1 x7_1 t716 t717 true) else (if t716.toList = ([] : List UInt8) then (spec_l3Attrs.j1 k1 l0 a1 x6_1 x7_1 t716 t717 (t717.toList == ([120, 109, 108, 110, 115] : List UInt8))) else (spec_l3Attrs.j1 k1 l0 a1 x6_1 x7_1 t716 t717 false))) = some (r1, r2) := H
  have A9 := Aside0.mk A90
  clear A90
  have HC10 := Aside0.mk H
  clear H
  have p713 : 0 ≤ (a1 : Int) := of_decide_eq_true dq19
  have q713 : a1 < (l0.length : Int) := of_decide_eq_true dq19
  obtain ⟨ad713, A713_3, c713_3, e713, hx713_0, hx713_1, hx713_2, hx713_3, hl713_3, hi713_3⟩ := at_T39 HR0.out a1 p713 q713
  cases e713
  replace hx713_0 := (HB.out.cell (World.block_lt_of_cell? w _ hx713_0)).trans hx713_0
  replace hx713_1 := (HB.out.cell (World.block_lt_of_cell? w _ hx713_1)).trans hx713_1
  replace hx713_2 := (HB.out.cell (World.block_lt_of_cell? w _ hx713_2)).trans hx713_2
  replace hx713_3 := (HB.out.cell (World.block_lt_of_cell? w _ hx713_3)).trans hx713_3
  have HR713_3 := Aside0.mk hi713_3
  have HC713_3 := Aside0.mk hl713_3
  clear hi713_3 hl713_3
  replace p713 := eq_true p713
  replace q713 := eq_true q713
  have p714 : 0 ≤ (a1 : Int) := of_decide_eq_true dq19
  have q714 : a1 < (l0.length : Int) := of_decide_eq_true dq19
  obtain ⟨ad714, A714_3, c714_3, e714, hx714_0, hx714_1, hx714_2, hx714_3, hl714_3, hi714_3⟩ := at_T39 HR0.out a1 p714 q714
  obtain rfl : ad713 = ad714 := (by injection e714)
  replace hx714_0 := (HB.out.cell (World.block_lt_of_cell? w _ hx714_0)).trans hx714_0
  replace hx714_1 := (HB.out.cell (World.block_lt_of_cell? w _ hx714_1)).trans hx714_1
  replace hx714_2 := (HB.out.cell (World.block_lt_of_cell? w _ hx714_2)).trans hx714_2
  replace hx714_3 := (HB.out.cell (World.block_lt_of_cell? w _ hx714_3)).trans hx714_3
  have HR714_3 := Aside0.mk hi714_3
  have HC714_3 := Aside0.mk hl714_3
  clear hi714_3 hl714_3
  replace p714 := eq_true p714
  replace q714 := eq_true q714
  have ea_ := Option.some.inj (hx713_3.symm.trans hx714_3)
  injection ea_ with ea_ en_ ec_
  subst ea_
  subst ec_
  clear en_
  have p715 : 0 ≤ (x7_1 : Int) := of_decide_eq_true dq19
  have q715 : x7_1 < (((rd_T39 l0 a1).f3).length : Int) := of_decide_eq_true dq19
  obtain ⟨ad715, e715, hx715_0, hx715_1⟩ := at_T46 HR714_3.out x7_1 p715 q715
  cases e715
  replace hx715_0 := (HB.out.cell (World.block_lt_of_cell? w _ hx715_0)).trans hx715_0
  replace hx715_1 := (HB.out.cell (World.block_lt_of_cell? w _ hx715_1)).trans hx715_1
  replace p715 := eq_true p715
  replace q715 := eq_true q715
  go_upto_region 6 with (first | (go_at_call 74; (with_reducible refine (spec_Split.calls k1 ((rd_T46 ((rd_T39 l0 a1).f3) x7_1).f0) t716 t717 t718 _ A9.out).mono ?_); rintro e w' ⟨rfl, ⟨nd, rfl⟩⟩; (try first | exact ⟨rfl, _, World.drewN_drewN _ _ _⟩ | exact ⟨rfl, _, Eq.trans (World.drewN_drewN _ _ _) (congrArg (World.drewN _) (Nat.add_assoc _ _ _))⟩)))
  (try simp only [Act.put, List.setIfInBounds_toArray, List.set_cons_zero, List.set_cons_succ])
  go_cut [49] (fun v49 wc => ∃ (kq : Nat) (x49_9 : Bool), v49 = .bool x49_9 ∧ Aside0 (spec_l3Attrs.j1 kq l0 a1 x6_1 x7_1 t716 t717 x49_9 = some (r1, r2)) ∧ Aside0 (kq ≤ k1) ∧ Aside0 (Kd.R k56 56 wc w.heap.size (fun _ => True) u6 x6_1) ∧ Aside0 (Below w.heap.size w wc))
  case first =>
   have H := HC10.out
   clear HC10
   by_cases c11 : t716.toList = ([120, 109, 108, 110, 115] : List UInt8)
   ·rw [if_pos c11] at H
    have c11b0 := beq_iff_eq.mpr c11
    have c11b1 := bne_eq_false_iff_eq.mpr c11
    clear c11
    (first | rw [c11b0] | rw [c11b3] | (simp only [i64_w, i32_w]; rw [c11b0]) | skip)
    have H' := Aside0.mk H
    clear H
    go_wp2
    go_meet
    case rel => exact ⟨_, (true), dq18, H', ⟨dq56⟩, ⟨dq107⟩, ⟨dq24⟩⟩
   rw [if_neg c11] at H
   have c11b0 := beq_eq_false_iff_ne.mpr c11
   have c11b1 := bne_iff_ne.mpr c11
   (first | rw [c11b0] | rw [c11b3] | (simp only [i64_w, i32_w]; rw [c11b0]) | skip)
   by_cases c12 : t716.toList = ([] : List UInt8)
   rotate_left
   ·rw [if_neg c12] at H
    have c12b0 := beq_eq_false_iff_ne.mpr c12
    have c12b1 := bne_iff_ne.mpr c12
    have c12b3 : (!t716.toList.isEmpty) = true := (bne_nilE71 t716.toList).symm.trans c12b1
    have H' := Aside0.mk H
    clear H
    go_wp2
    go_meet
    case rel => exact ⟨_, (false), dq18, H', ⟨dq56⟩, ⟨dq107⟩, ⟨dq24⟩⟩
   rw [if_pos c12] at H
   have c12b0 := beq_iff_eq.mpr c12
   have c12b1 := bne_eq_false_iff_eq.mpr c12
   have c12b3 : (!t716.toList.isEmpty) = false := (bne_nilE71 t716.toList).symm.trans c12b1
   clear c12
   have H' := Aside0.mk H
   clear H
   go_wp2
   go_meet
   case rel => exact ⟨_, ((t717.toList == ([120, 109, 108, 110, 115] : List UInt8))), dq18, H', ⟨dq56⟩, ⟨dq107⟩, ⟨dq24⟩⟩
  clear HC10
  try clear c5b0
  try clear c6b0
  try clear c7b0
  try clear c8b0
  try clear hx713_0
  try clear hx713_1
  try clear hx713_2
  try clear hx713_3
  try clear hx714_0
  try clear hx714_1
  try clear hx714_2
  try clear hx714_3
  try clear hx715_0
  try clear hx715_1
  try clear p713
  try clear p714
  try clear p715
  try clear q713
  try clear q714
  try clear q715
  obtain ⟨kq, x49_9, rfl, HA, HJ9, HO_6, HB⟩ := hcut
  cases kq with
  | zero => exact absurd HA.out (by simp [spec_l3Attrs.j1])
  | succ kj9 =>
   have H := HA.out
   clear HA
   simp only [spec_l3Attrs.j1] at H
   by_cases c13 : x49_9 = true
   ·subst c13
    have H1 : (spec_l3Attrs.l0 kj9 l0 a1 x6_1 (wrap64 (x7_1 + 1))) = some (r1, r2) := by rw [if_pos rfl] at H; exact H
    clear H
    have H := H1
    clear H1
    have H' := Aside0.mk H
    clear H
    go_wp2
    go_roundg kj9
    case measure => have := HK1.out; have := HJ9.out; omega
    case rel => exact ⟨(x6_1), (wrap64 (x7_1 + 1)), dq18, H', ⟨by have := HK1.out; have := HJ9.out; omega⟩, ⟨dq107⟩, ⟨dq24⟩⟩
   replace c13 := Bool.eq_false_iff.mpr c13
   subst c13
   have H1 : (if t716.toList = ([] : List UInt8) then (spec_l3Attrs.j2 kj9 l0 a1 x6_1 x7_1 (⟨#[]⟩ : ByteArray) t717) else ((spec_l3Bound.f kj9 l0 a1 t716).bind fun bt720 => (if bt720.2 = true then (spec_l3Attrs.j2 kj9 l0 a1 x6_1 x7_1 bt720.1 t717) else (some (([] : List (S56)), false))))) = some (r1, r2) := by rw [if_neg (show ¬ (false = true) by decide)] at H; exact H
   clear H
   have H := H1
   clear H1
   have HC14 := Aside0.mk H
   clear H
   go_upto_if 53 with (first | ((with_reducible refine gate_dst (N := 11) rfl ?_); refine box_event ?hg (N := 11) ?hd (cs := #[.string (⟨#[]⟩ : ByteArray), .string (⟨#[]⟩ : ByteArray)]) (t := 56) ?hr ?_; (case hd => rfl); (case hg => rfl); (case hr => exact dq1); intro gb719 hg w15 hbox hb; have n0_ := Aside0.mk (Kd.R_below (Kd.R_elderB dq107 gb719 (Nat.le_of_eq hg.symm)) hb); have n1_ := Aside0.mk (below_step dq24 hb); have n2_ := Aside0.mk (hbox); have n3_ := Aside0.mk ((dq27 : w.heap.size ≤ gb719)); have n4_ := Aside0.mk ((dq27 : w.heap.size ≤ gb719)); clear HO_6; clear HB; have HO_6 := n0_; have HB := n1_; have BK719 := n2_; have GW719 := n3_; have GE719 := n4_; clear n0_ n1_ n2_ n3_ n4_; clear hb hbox hg; obtain ⟨⟨hcz16_0, hcz16_1⟩, hfz16_0, hfz16_1⟩ := blkC2 BK719.out))
   (try simp only [Act.put, List.setIfInBounds_toArray, List.set_cons_zero, List.set_cons_succ])
   go_cut [] (fun wc => ∃ (kq : Nat) (x720000_13 : ByteArray), Aside0 (spec_l3Attrs.j2 kq l0 a1 x6_1 x7_1 x720000_13 t717 = some (r1, r2)) ∧ Aside0 (kq ≤ kj9) ∧ Aside0 (Kd.R k56 56 wc w.heap.size (fun k_ => k_ ≠ gb719) u6 x6_1) ∧ Aside0 (wc.heap[gb719]? = some (.cells #[.string x720000_13, .string t717] 56 (0, 0))) ∧ Aside0 (Below w.heap.size w wc))
   case first =>
    have H := HC14.out
    clear HC14
    by_cases c17 : t716.toList = ([] : List UInt8)
    ·rw [if_pos c17] at H
     have c17b0 := beq_iff_eq.mpr c17
     have c17b1 := bne_eq_false_iff_eq.mpr c17
     have c17b3 : (!t716.toList.isEmpty) = false := (bne_nilE71 t716.toList).symm.trans c17b1
     clear c17
     (first | rw [c17b0] | rw [c17b3] | (simp only [i64_w, i32_w]; rw [c17b0]) | skip)
     have H' := Aside0.mk H
     clear H
     go_wp2
     go_meet
     case rel => exact ⟨_, ((⟨#[]⟩ : ByteArray)), H', ⟨by have := HK1.out; have := HJ9.out; first | omega | exact Nat.le_refl _⟩, ⟨by (with_reducible repeat (first | apply Kd.R_alloc | apply Kd.R_drewN | apply Kd.R_drew)); exact Kd.R_mono (Kd.R_far (p := ⟨gb719, 1, none⟩) (Kd.R_far (p := ⟨gb719, 0, none⟩) (Kd.R_mono HO_6.out (fun k_ hk => (⟨hk, hk.2⟩ : _ ∧ k_ ≠ gb719))) (fun _ hk => hk.2) (.string (⟨#[]⟩ : ByteArray))) (fun _ hk => hk.2) (.string t717)) (fun _ hk => hk.1.2)⟩, ⟨by refine blk_up ?_; refine blk_put (cs := #[.string (⟨#[]⟩ : ByteArray), .string (⟨#[]⟩ : ByteArray)]) ?_ 1 _ rfl; refine blk_up ?_; refine blk_put (cs := #[.string (⟨#[]⟩ : ByteArray), .string (⟨#[]⟩ : ByteArray)]) ?_ 0 _ rfl; refine blk_up ?_; exact BK719.out⟩, ⟨dq135⟩⟩
    rw [if_neg c17] at H
    have c17b0 := beq_eq_false_iff_ne.mpr c17
    have c17b1 := bne_iff_ne.mpr c17
    have c17b3 : (!t716.toList.isEmpty) = true := (bne_nilE71 t716.toList).symm.trans c17b1
    (first | rw [c17b0] | rw [c17b3] | (simp only [i64_w, i32_w]; rw [c17b0]) | skip)
    replace H := Option.bind_eq_some_iff.mp H
    obtain ⟨⟨t720, t721⟩, A180, H⟩ := H
    replace H : (if t721 = true then (spec_l3Attrs.j2 kj9 l0 a1 x6_1 x7_1 t720 t717) else (some (([] : List (S56)), false))) = some (r1, r2) := H
    have A18 := Aside0.mk A180
    clear A180
    by_cases c19 : t721 = true
    rotate_left
    ·replace c19 := Bool.eq_false_iff.mpr c19
     subst c19
     have H1 : (some (([] : List (S56)), false)) = some (r1, r2) := by rw [if_neg (show ¬ (false = true) by decide)] at H; exact H
     clear H
     have H := H1
     clear H1
     simp only [Option.some.injEq, Prod.mk.injEq] at H
     obtain ⟨rfl, rfl⟩ := H
     go_wp2_with (first | (go_at_call 66; (with_reducible refine (spec_l3Bound.calls kj9 _ _ l0 a1 t716 t720 false _ ?side1 ?side2 A18.out).mono ?_); (case side1 => exact dq16); (case side2 => exact HC0.out); rintro e w' ⟨rfl, ⟨nd, rfl⟩⟩; (try first | exact ⟨rfl, _, World.drewN_drewN _ _ _⟩ | exact ⟨rfl, _, Eq.trans (World.drewN_drewN _ _ _) (congrArg (World.drewN _) (Nat.add_assoc _ _ _))⟩)))
     go_ret2
     exact ⟨_, dq26, dq60, dq135⟩
    subst c19
    have H1 : (spec_l3Attrs.j2 kj9 l0 a1 x6_1 x7_1 t720 t717) = some (r1, r2) := by rw [if_pos rfl] at H; exact H
    clear H
    have H := H1
    clear H1
    have H' := Aside0.mk H
    clear H
    go_wp2_with (first | (go_at_call 66; (with_reducible refine (spec_l3Bound.calls kj9 _ _ l0 a1 t716 t720 true _ ?side1 ?side2 A18.out).mono ?_); (case side1 => exact dq16); (case side2 => exact HC0.out); rintro e w' ⟨rfl, ⟨nd, rfl⟩⟩; (try first | exact ⟨rfl, _, World.drewN_drewN _ _ _⟩ | exact ⟨rfl, _, Eq.trans (World.drewN_drewN _ _ _) (congrArg (World.drewN _) (Nat.add_assoc _ _ _))⟩); obtain ⟨⟨hcz20_0, hcz20_1⟩, hfz20_0, hfz20_1⟩ := blkC2 BK719.out))
    go_meet
    case rel => exact ⟨_, (t720), H', ⟨by have := HK1.out; have := HJ9.out; first | omega | exact Nat.le_refl _⟩, ⟨by (with_reducible repeat (first | apply Kd.R_alloc | apply Kd.R_drewN | apply Kd.R_drew)); exact Kd.R_mono (Kd.R_far (p := ⟨gb719, 0, none⟩) (Kd.R_far (p := ⟨gb719, 1, none⟩) (Kd.R_far (p := ⟨gb719, 0, none⟩) (Kd.R_mono HO_6.out (fun k_ hk => (⟨hk, hk.2⟩ : _ ∧ k_ ≠ gb719))) (fun _ hk => hk.2) (.string (⟨#[]⟩ : ByteArray))) (fun _ hk => hk.2) (.string t717)) (fun _ hk => hk.2) (.string t720)) (fun _ hk => hk.1.2)⟩, ⟨by refine blk_up ?_; refine blk_put (cs := #[.string (⟨#[]⟩ : ByteArray), .string t717]) ?_ 0 _ rfl; refine blk_up ?_; refine blk_put (cs := #[.string (⟨#[]⟩ : ByteArray), .string (⟨#[]⟩ : ByteArray)]) ?_ 1 _ rfl; refine blk_up ?_; refine blk_put (cs := #[.string (⟨#[]⟩ : ByteArray), .string (⟨#[]⟩ : ByteArray)]) ?_ 0 _ rfl; refine blk_up ?_; exact BK719.out⟩, ⟨dq135⟩⟩
   clear HC14
   try clear hcz16_0
   try clear hcz16_1
   try clear hfz16_0
   try clear hfz16_1
   obtain ⟨kq, x720000_13, HA, HJ13, HO_6, BK719, HB⟩ := hcut
   cases kq with
   | zero => exact absurd HA.out (by simp [spec_l3Attrs.j2])
   | succ kj13 =>
    have H := HA.out
    clear HA
    simp only [spec_l3Attrs.j2] at H
    have H' := Aside0.mk H
    clear H
    go_wp2
    go_loopg [14] kj13 (fun kq v14 w' => ∃ (x14_4 : Int), v14 = .int .i64 x14_4 ∧ Aside0 (spec_l3Attrs.l1 kq l0 a1 x6_1 x7_1 x14_4 x720000_13 t717 = some (r1, r2)) ∧ Aside0 (kq ≤ kj13) ∧ Aside0 (Kd.R k56 56 w' w.heap.size (fun k_ => k_ ≠ gb719) u6 x6_1) ∧ Aside0 (w'.heap[gb719]? = some (.cells #[.string x720000_13, .string t717] 56 (0, 0))) ∧ Aside0 (Below w.heap.size w w'))
    case atStart => exact ⟨(0), dq18, H', ⟨Nat.le_refl _⟩, ⟨dq107⟩, ⟨by refine blk_up ?_; exact BK719.out⟩, ⟨dq135⟩⟩
    clear H'
    obtain ⟨x14_4, rfl, HA, HK4, HO_6, BK719, HB⟩ := hrel
    cases gk with
    | zero => exact absurd HA.out (by simp [spec_l3Attrs.l1])
    | succ k4 =>
     have H := HA.out
     clear HA
     simp only [spec_l3Attrs.l1] at H
     by_cases c21 : x14_4 < (x6_1.length : Int)
     rotate_left
     ·rw [if_neg c21] at H
      have c21b0 := decide_eq_false c21
      clear c21
      by_cases c28 : x6_1.length < 4398046511104
      rotate_left
      ·rw [if_neg c28] at H
       exact absurd H dq21
      rw [if_pos c28] at H
      have LMc28 := Aside0.mk c28
      clear c28
      obtain ⟨y723, hy723⟩ : ∃ y_ : List (S56), y_ = (x6_1 ++ [(⟨x720000_13, t717⟩ : S56)]) := ⟨_, rfl⟩
      replace H : (spec_l3Attrs.l0 k4 l0 a1 y723 (wrap64 (x7_1 + 1))) = some (r1, r2) := by first | (rw [hy723]; with_reducible exact H) | (have H2_ := (Option.bind_some _ _).symm.trans H; rw [hy723]; with_reducible exact H2_) | (have H2_ := (Option.bind_some _ _).symm.trans H; with_reducible exact H2_) | with_reducible exact H | (rw [hy723]; exact H) | exact H
      have Ny723 := Aside0.mk hy723
      clear hy723
      have H' := Aside0.mk H
      clear H
      obtain ⟨Ao29, co29, eo29⟩ := Kd.R_slice HO_6.out
      subst eo29
      obtain ⟨⟨hcz30_0, hcz30_1⟩, hfz30_0, hfz30_1⟩ := blkC2 BK719.out
      go_wp2_with (first | ((with_reducible refine gate_builtin (b := .append) (xs := #[.tmp 77, .tmp 79]) rfl ?_); at_builtin; refine Kd.R_append k56 (w0 := w) w.heap.size rfl (.tmp 77) (.tmp 79) 52 56 (.agg #[(.string ⟨#[]⟩), (.string ⟨#[]⟩)]) 32 rfl Tryd.underlying52 info56 rfl dq52 dq37 (.slice Ao29 x6_1.length co29) x6_1 (⟨x720000_13, t717⟩ : S56) [.string x720000_13, .string t717] (fun k_ => k_ ≠ gb719) (fun _ => False) rfl rfl ?aP (fun _ hk => hk.elim) ?aF ?aO ?aB ?aS ?aL ?_; (case aP => exact k56_mkM _ _ _ (⟨x720000_13, t717⟩ : S56)); (case aB => exact dq135); (case aF => exact (fun k_ hk => Kd.freshB (g := gb719) (o := .cells #[.string x720000_13, .string t717] 56 (0, 0)) (by refine blk_up ?_; exact BK719.out) k_ hk)); (case aO => exact dq107); (case aS => exact (below_size dq135)); (case aL => have := LMc28.out; omega); intro v724 w31 ho hb hg hat; rw [← Ny723.out] at ho; have n0_ := Aside0.mk (blk_grown (g := gb719) (o := .cells #[.string x720000_13, .string t717] 56 (0, 0)) (by refine blk_up ?_; exact BK719.out) hg (Kd.R_away HO_6.out (fun _ hk => hk))); have n1_ := Aside0.mk (hb); have n2_ := Aside0.mk (ho); clear BK719; clear HB; clear HO_6; have BK719 := n0_; have HB := n1_; have HO725 := n2_; clear n0_ n1_ n2_; clear ho hb hg hat))
      go_roundg k4
      case measure => have := HK1.out; have := HJ9.out; have := HJ13.out; have := HK4.out; omega
      case rel => exact ⟨(y723), (wrap64 (x7_1 + 1)), dq18, H', ⟨by have := HK1.out; have := HJ9.out; have := HJ13.out; have := HK4.out; omega⟩, ⟨by (with_reducible repeat (first | apply Kd.R_alloc | apply Kd.R_drewN | apply Kd.R_drew)); exact Kd.R_mono HO725.out (fun _ hk => trivial)⟩, ⟨dq135⟩⟩
     rw [if_pos c21] at H
     have c21b0 := decide_eq_true c21
     clear c21
     by_cases c22 : 0 ≤ x14_4
     rotate_left
     ·rw [if_neg c22] at H
      exact absurd H dq21
     rw [if_pos c22] at H
     have c22b0 := decide_eq_true c22
     clear c22
     by_cases c23 : ((((rd_T56 x6_1 x14_4).f0).toList) == x720000_13.toList && ((((rd_T56 x6_1 x14_4).f1).toList) == t717.toList)) = true
     ·rw [if_pos c23] at H
      have c23b0 : ((((rd_T56 x6_1 x14_4).f0).toList) == x720000_13.toList && ((((rd_T56 x6_1 x14_4).f1).toList) == t717.toList)) = true := c23
      (try (have c23b1 : decide ((((rd_T56 x6_1 x14_4).f0).toList) = x720000_13.toList && ((((rd_T56 x6_1 x14_4).f1).toList) == t717.toList)) = true := by simpa using c23))
      (try (have c23b2 : ((((rd_T56 x6_1 x14_4).f0).toList) == x720000_13.toList && ((((rd_T56 x6_1 x14_4).f1).toList) == t717.toList)) = true := by simpa using c23))
      clear c23
      simp only [Option.some.injEq, Prod.mk.injEq] at H
      obtain ⟨rfl, rfl⟩ := H
      obtain ⟨Ao24, co24, eo24⟩ := Kd.R_slice HO_6.out
      subst eo24
      have p722 : 0 ≤ (x14_4 : Int) := of_decide_eq_true dq19
      have q722 : x14_4 < (x6_1.length : Int) := of_decide_eq_true dq19
      obtain ⟨ad722, e722, hx722_0, hx722_1⟩ := at_T56 (Kd.R_reads' HO_6.out).2.2 x14_4 p722 q722
      cases e722
      replace p722 := eq_true p722
      replace q722 := eq_true q722
      obtain ⟨⟨hcz25_0, hcz25_1⟩, hfz25_0, hfz25_1⟩ := blkC2 BK719.out
      go_wp2
      repeat (go_quiet (fail); try go_wp2)
      go_ret2
      exact ⟨_, dq26, dq60, dq135⟩
     rw [if_neg c23] at H
     have c23b0 : ((((rd_T56 x6_1 x14_4).f0).toList) == x720000_13.toList && ((((rd_T56 x6_1 x14_4).f1).toList) == t717.toList)) = false := by simpa using c23
     (try (have c23b1 : decide ((((rd_T56 x6_1 x14_4).f0).toList) = x720000_13.toList && ((((rd_T56 x6_1 x14_4).f1).toList) == t717.toList)) = false := by simpa using c23))
     (try (have c23b2 : ((((rd_T56 x6_1 x14_4).f0).toList) == x720000_13.toList && ((((rd_T56 x6_1 x14_4).f1).toList) == t717.toList)) = false := by simpa using c23))
     (try (have c23b3 : ¬ ((((rd_T56 x6_1 x14_4).f0).toList) = x720000_13.toList && ((((rd_T56 x6_1 x14_4).f1).toList) == t717.toList)) := by simpa using c23))
     clear c23
     have H' := Aside0.mk H
     clear H
     obtain ⟨Ao26, co26, eo26⟩ := Kd.R_slice HO_6.out
     subst eo26
     have p722 : 0 ≤ (x14_4 : Int) := of_decide_eq_true dq19
     have q722 : x14_4 < (x6_1.length : Int) := of_decide_eq_true dq19
     obtain ⟨ad722, e722, hx722_0, hx722_1⟩ := at_T56 (Kd.R_reads' HO_6.out).2.2 x14_4 p722 q722
     cases e722
     replace p722 := eq_true p722
     replace q722 := eq_true q722
     obtain ⟨⟨hcz27_0, hcz27_1⟩, hfz27_0, hfz27_1⟩ := blkC2 BK719.out
     go_wp2
     repeat (go_quiet (fail); try go_wp2)
     go_roundg k4
     case measure => have := HK1.out; have := HJ9.out; have := HJ13.out; have := HK4.out; omega
     case rel => exact ⟨(wrap64 (x14_4 + 1)), dq18, H', ⟨by have := HK1.out; have := HJ9.out; have := HJ13.out; have := HK4.out; omega⟩, ⟨dq107⟩, ⟨by refine blk_up ?_; exact BK719.out⟩, ⟨dq135⟩⟩

end Go.Proofs.YtpmjpbaeecnpiaaDoor.L

namespace Go.Proofs.YtpmjpbaeecnpiaaDoor.L
open Go.RowKit Go.Proofs.YtpmjpbaeecnpiaaDoorW.PrintWords Go.Proofs.YtpmjpbaeecnpiaaDoorW.PrintLast Go.Proofs.YtpmjpbaeecnpiaaDoorW.PrintMore
attribute [local go_sem] max2_int min2_int max_two min_two max_three min_three max_four min_four
set_option linter.unusedVariables false
set_option linter.unusedSimpArgs false

/-! ### spec_NamesOf: function 37 -/
def spec_NamesOf.l0 : Nat → List (S39) → List (S56) → Int → Option ((List (S56)) × Bool)
 | 0, _, _, _ => none
 | k + 1, x0, x4, x5 => if x5 < (x0.length : Int) then (if 0 ≤ x5 then (if ((rd_T39 x0 x5).f1).toList = ([] : List UInt8) then (if x4.length < 4398046511104 then (spec_NamesOf.l0 k x0 (x4 ++ [(⟨(⟨#[]⟩ : ByteArray), (⟨#[]⟩ : ByteArray)⟩ : S56)]) (wrap64 (x5 + 1))) else (none)) else ((spec_Split.f k ((rd_T39 x0 x5).f1)).bind fun bt735 => ((spec_l3Bound.f k x0 x5 bt735.1).bind fun bt738 => ((spec_l3Attrs.f k x0 x5).bind fun bt740 => (if bt738.2 = true then (if bt740.2 = true then (if x4.length < 4398046511104 then (spec_NamesOf.l0 k x0 (x4 ++ [(⟨bt738.1, bt735.2.1⟩ : S56)]) (wrap64 (x5 + 1))) else (none)) else (some (([] : List (S56)), false))) else (some (([] : List (S56)), false))))))) else (none)) else (some (x4, true))
def spec_NamesOf.f (k : Nat) (l0 : List (S39)) : Option ((List (S56)) × Bool) := (spec_DocOk.f k l0).bind fun t726 => (if t726 = true then (spec_NamesOf.l0 k l0 (([] : List (S56))) 0) else (some (([] : List (S56)), false)))
set_option maxHeartbeats 8000000 in
set_option maxRecDepth 100000 in
theorem spec_NamesOf.calls (k : Nat) (A0 : Option Addr) (c0 : Nat) (l0 : List (S39)) (r1 : List (S56)) (r2 : Bool) (w : World) (hr0 : Kd.C k39 w A0 l0.length l0) (hc0 : l0.length ≤ c0) (h : spec_NamesOf.f k l0 = some (r1, r2)) :
  Calls Tryd.prog 37 #[.slice A0 l0.length c0] w fun e w' => ∃ v0_ : Value, e = .returned (.tuple #[v0_, .bool r2]) ∧ Kd.R k56 56 w' w.heap.size (fun _ => True) v0_ r1 ∧ Below w.heap.size w w' := by
 have hu56 := Tryd.underlying56
 have HR0 := Aside0.mk hr0
 have HC0 := Aside0.mk hc0
 clear hr0 hc0
 have HB := Aside0.mk (Below.refl w.heap.size w)
 have H : ((spec_DocOk.f k l0).bind fun t726 => (if t726 = true then (spec_NamesOf.l0 k l0 (([] : List (S56))) 0) else (some (([] : List (S56)), false)))) = some (r1, r2) := h
 clear h
 replace H := Option.bind_eq_some_iff.mp H
 obtain ⟨t726, A20, H⟩ := H
 replace H : (if t726 = true then (spec_NamesOf.l0 k l0 (([] : List (S56))) 0) else (some (([] : List (S56)), false))) = some (r1, r2) := H
 have A2 := Aside0.mk A20
 clear A20
 by_cases c3 : t726 = true
 rotate_left
 ·replace c3 := Bool.eq_false_iff.mpr c3
  subst c3
  have H1 : (some (([] : List (S56)), false)) = some (r1, r2) := by rw [if_neg (show ¬ (false = true) by decide)] at H; exact H
  clear H
  have H := H1
  clear H1
  simp only [Option.some.injEq, Prod.mk.injEq] at H
  obtain ⟨rfl, rfl⟩ := H
  go_enter Tryd.func37, Tryd.ntmps37
  go_wp2_with (first | ((with_reducible refine gate_callee (f := 23) rfl ?_); refine goesL_ (some 14) rfl rfl Tryd.func23 dq23 rfl #[.slice A0 l0.length c0] rfl dq22 ?_; (with_reducible refine (spec_DocOk.calls k _ _ l0 false _ ?side1 ?side2 A2.out).mono ?_); (case side1 => exact dq5); (case side2 => exact HC0.out); rintro e w22 ⟨rfl, hb⟩; refine ⟨_, rfl, ?_⟩; have n0_ := Aside0.mk (below_step dq24 hb); clear HB; have HB := n0_; clear n0_; (try clear hb); (try clear hb2); (try clear hk); (try clear hi)))
  go_ret2
  exact ⟨_, dq26, dq60, dq24⟩
 subst c3
 have H1 : (spec_NamesOf.l0 k l0 (([] : List (S56))) 0) = some (r1, r2) := by rw [if_pos rfl] at H; exact H
 clear H
 have H := H1
 clear H1
 obtain ⟨y727, hy727⟩ : ∃ y_ : List (S56), y_ = (([] : List (S56))) := ⟨_, rfl⟩
 replace H : (spec_NamesOf.l0 k l0 y727 0) = some (r1, r2) := by first | (rw [hy727]; with_reducible exact H) | (have H2_ := (Option.bind_some _ _).symm.trans H; rw [hy727]; with_reducible exact H2_) | (have H2_ := (Option.bind_some _ _).symm.trans H; with_reducible exact H2_) | with_reducible exact H | (rw [hy727]; exact H) | exact H
 have Ny727 := Aside0.mk hy727
 clear hy727
 have H' := Aside0.mk H
 clear H
 go_enter Tryd.func37, Tryd.ntmps37
 go_wp2_with (first | ((with_reducible refine gate_callee (f := 23) rfl ?_); refine goesL_ (some 14) rfl rfl Tryd.func23 dq23 rfl #[.slice A0 l0.length c0] rfl dq22 ?_; (with_reducible refine (spec_DocOk.calls k _ _ l0 true _ ?side1 ?side2 A2.out).mono ?_); (case side1 => exact dq5); (case side2 => exact HC0.out); rintro e w4 ⟨rfl, hb⟩; refine ⟨_, rfl, ?_⟩; have n0_ := Aside0.mk (below_step dq24 hb); clear HB; have HB := n0_; clear n0_; (try clear hb); (try clear hb2); (try clear hk); (try clear hi)) | ((with_reducible refine gate_dst (N := 16) rfl ?_); refine Kd.R_lit k56 _ 56 ?hg (N := 16) ?hd (xs := ([] : List (S56))) (inner := []) (ok := fun _ => True) (okp := fun _ => True) ?hr ?hp (fun _ hk => hk) trivial (Below.refl _ _) (Nat.le_refl _) dq21 ?_; (case hd => rfl); (case hg => rfl); (case hr => exact dq1); (case hp => exact (Reps.none _ _)); intro v728 w5 ho6 hb hg_ hnew_; clear hg_ hnew_; (first | rw [← Ny727.out] at ho6 | (simp only [Int.reduceToNat] at ho6; rw [← Ny727.out] at ho6)); have n0_ := Aside0.mk (Kd.R_lower ho6 (below_size dq24)); have n1_ := Aside0.mk (below_step dq24 hb); clear HB; have HO729 := n0_; have HB := n1_; clear n0_ n1_; clear hb ho6))
 go_loopg [4, 5] k (fun kq v4 v5 w' => ∃ (x4_1 : List (S56)) (x5_1 : Int), v5 = .int .i64 x5_1 ∧ Aside0 (spec_NamesOf.l0 kq l0 x4_1 x5_1 = some (r1, r2)) ∧ Aside0 (kq ≤ k) ∧ Aside0 (Kd.R k56 56 w' w.heap.size (fun _ => True) v4 x4_1) ∧ Aside0 (Below w.heap.size w w'))
 case atStart => exact ⟨(y727), (0), dq18, H', ⟨Nat.le_refl _⟩, ⟨by (with_reducible repeat (first | apply Kd.R_alloc | apply Kd.R_drewN | apply Kd.R_drew)); exact HO729.out⟩, ⟨dq24⟩⟩
 clear H'
 obtain ⟨x4_1, x5_1, rfl, HA, HK1, HO_4, HB⟩ := hrel
 cases gk with
 | zero => exact absurd HA.out (by simp [spec_NamesOf.l0])
 | succ k1 =>
  have H := HA.out
  clear HA
  simp only [spec_NamesOf.l0] at H
  by_cases c7 : x5_1 < (l0.length : Int)
  rotate_left
  ·rw [if_neg c7] at H
   have c7b0 := decide_eq_false c7
   clear c7
   simp only [Option.some.injEq, Prod.mk.injEq] at H
   obtain ⟨rfl, rfl⟩ := H
   go_wp2
   go_ret2
   exact ⟨_, dq26, dq46, dq24⟩
  rw [if_pos c7] at H
  have c7b0 := decide_eq_true c7
  clear c7
  by_cases c8 : 0 ≤ x5_1
  rotate_left
  ·rw [if_neg c8] at H
   exact absurd H dq21
  rw [if_pos c8] at H
  have c8b0 := decide_eq_true c8
  clear c8
  by_cases c9 : ((rd_T39 l0 x5_1).f1).toList = ([] : List UInt8)
  ·rw [if_pos c9] at H
   have c9b0 := beq_iff_eq.mpr c9
   have c9b1 := bne_eq_false_iff_eq.mpr c9
   clear c9
   by_cases c10 : x4_1.length < 4398046511104
   rotate_left
   ·rw [if_neg c10] at H
    exact absurd H dq21
   rw [if_pos c10] at H
   have LMc10 := Aside0.mk c10
   clear c10
   obtain ⟨y731, hy731⟩ : ∃ y_ : List (S56), y_ = (x4_1 ++ [(⟨(⟨#[]⟩ : ByteArray), (⟨#[]⟩ : ByteArray)⟩ : S56)]) := ⟨_, rfl⟩
   replace H : (spec_NamesOf.l0 k1 l0 y731 (wrap64 (x5_1 + 1))) = some (r1, r2) := by first | (rw [hy731]; with_reducible exact H) | (have H2_ := (Option.bind_some _ _).symm.trans H; rw [hy731]; with_reducible exact H2_) | (have H2_ := (Option.bind_some _ _).symm.trans H; with_reducible exact H2_) | with_reducible exact H | (rw [hy731]; exact H) | exact H
   have Ny731 := Aside0.mk hy731
   clear hy731
   have H' := Aside0.mk H
   clear H
   have p730 : 0 ≤ (x5_1 : Int) := of_decide_eq_true dq19
   have q730 : x5_1 < (l0.length : Int) := of_decide_eq_true dq19
   obtain ⟨ad730, A730_3, c730_3, e730, hx730_0, hx730_1, hx730_2, hx730_3, hl730_3, hi730_3⟩ := at_T39 HR0.out x5_1 p730 q730
   cases e730
   replace hx730_0 := (HB.out.cell (World.block_lt_of_cell? w _ hx730_0)).trans hx730_0
   replace hx730_1 := (HB.out.cell (World.block_lt_of_cell? w _ hx730_1)).trans hx730_1
   replace hx730_2 := (HB.out.cell (World.block_lt_of_cell? w _ hx730_2)).trans hx730_2
   replace hx730_3 := (HB.out.cell (World.block_lt_of_cell? w _ hx730_3)).trans hx730_3
   have HR730_3 := Aside0.mk hi730_3
   have HC730_3 := Aside0.mk hl730_3
   clear hi730_3 hl730_3
   replace p730 := eq_true p730
   replace q730 := eq_true q730
   go_wp2_with (first | ((with_reducible refine gate_builtin (b := .append) (xs := #[.tmp 29, .tmp 31]) rfl ?_); at_builtin; refine Kd.R_append k56 (w0 := w) w.heap.size rfl (.tmp 29) (.tmp 31) 52 56 (.agg #[(.string ⟨#[]⟩), (.string ⟨#[]⟩)]) 32 rfl Tryd.underlying52 info56 rfl dq52 dq37 u4 x4_1 (⟨(⟨#[]⟩ : ByteArray), (⟨#[]⟩ : ByteArray)⟩ : S56) [.string (⟨#[]⟩ : ByteArray), .string (⟨#[]⟩ : ByteArray)] (fun _ => True) (fun _ => False) rfl rfl ?aP (fun _ hk => hk.elim) ?aF ?aO ?aB ?aS ?aL ?_; (case aP => exact k56_mkM _ _ _ (⟨(⟨#[]⟩ : ByteArray), (⟨#[]⟩ : ByteArray)⟩ : S56)); (case aB => exact dq24); (case aF => exact (fun _ _ => trivial)); (case aO => exact dq46); (case aS => exact (below_size dq24)); (case aL => have := LMc10.out; omega); intro v732 w11 ho hb hg hat; rw [← Ny731.out] at ho; have n0_ := Aside0.mk (hb); have n1_ := Aside0.mk (ho); clear HB; clear HO_4; have HB := n0_; have HO733 := n1_; clear n0_ n1_; clear ho hb hg hat))
   go_roundg k1
   case measure => have := HK1.out; omega
   case rel => exact ⟨(y731), (wrap64 (x5_1 + 1)), dq18, H', ⟨dq20⟩, ⟨by (with_reducible repeat (first | apply Kd.R_alloc | apply Kd.R_drewN | apply Kd.R_drew)); exact HO733.out⟩, ⟨dq24⟩⟩
  rw [if_neg c9] at H
  have c9b0 := beq_eq_false_iff_ne.mpr c9
  have c9b1 := bne_iff_ne.mpr c9
  replace H := Option.bind_eq_some_iff.mp H
  obtain ⟨⟨t735, t736, t737⟩, A120, H⟩ := H
  replace H : ((spec_l3Bound.f k1 l0 x5_1 t735).bind fun bt738 => ((spec_l3Attrs.f k1 l0 x5_1).bind fun bt740 => (if bt738.2 = true then (if bt740.2 = true then (if x4_1.length < 4398046511104 then (spec_NamesOf.l0 k1 l0 (x4_1 ++ [(⟨bt738.1, t736⟩ : S56)]) (wrap64 (x5_1 + 1))) else (none)) else (some (([] : List (S56)), false))) else (some (([] : List (S56)), false))))) = some (r1, r2) := H
  have A12 := Aside0.mk A120
  clear A120
  replace H := Option.bind_eq_some_iff.mp H
  obtain ⟨⟨t738, t739⟩, A130, H⟩ := H
  replace H : ((spec_l3Attrs.f k1 l0 x5_1).bind fun bt740 => (if t739 = true then (if bt740.2 = true then (if x4_1.length < 4398046511104 then (spec_NamesOf.l0 k1 l0 (x4_1 ++ [(⟨t738, t736⟩ : S56)]) (wrap64 (x5_1 + 1))) else (none)) else (some (([] : List (S56)), false))) else (some (([] : List (S56)), false)))) = some (r1, r2) := H
  have A13 := Aside0.mk A130
  clear A130
  replace H := Option.bind_eq_some_iff.mp H
  obtain ⟨⟨t740, t741⟩, A140, H⟩ := H
  replace H : (if t739 = true then (if t741 = true then (if x4_1.length < 4398046511104 then (spec_NamesOf.l0 k1 l0 (x4_1 ++ [(⟨t738, t736⟩ : S56)]) (wrap64 (x5_1 + 1))) else (none)) else (some (([] : List (S56)), false))) else (some (([] : List (S56)), false))) = some (r1, r2) := H
  have A14 := Aside0.mk A140
  clear A140
  by_cases c15 : t739 = true
  rotate_left
  ·replace c15 := Bool.eq_false_iff.mpr c15
   subst c15
   have H1 : (some (([] : List (S56)), false)) = some (r1, r2) := by rw [if_neg (show ¬ (false = true) by decide)] at H; exact H
   clear H
   have H := H1
   clear H1
   simp only [Option.some.injEq, Prod.mk.injEq] at H
   obtain ⟨rfl, rfl⟩ := H
   have p730 : 0 ≤ (x5_1 : Int) := of_decide_eq_true dq19
   have q730 : x5_1 < (l0.length : Int) := of_decide_eq_true dq19
   obtain ⟨ad730, A730_3, c730_3, e730, hx730_0, hx730_1, hx730_2, hx730_3, hl730_3, hi730_3⟩ := at_T39 HR0.out x5_1 p730 q730
   cases e730
   replace hx730_0 := (HB.out.cell (World.block_lt_of_cell? w _ hx730_0)).trans hx730_0
   replace hx730_1 := (HB.out.cell (World.block_lt_of_cell? w _ hx730_1)).trans hx730_1
   replace hx730_2 := (HB.out.cell (World.block_lt_of_cell? w _ hx730_2)).trans hx730_2
   replace hx730_3 := (HB.out.cell (World.block_lt_of_cell? w _ hx730_3)).trans hx730_3
   have HR730_3 := Aside0.mk hi730_3
   have HC730_3 := Aside0.mk hl730_3
   clear hi730_3 hl730_3
   replace p730 := eq_true p730
   replace q730 := eq_true q730
   have p734 : 0 ≤ (x5_1 : Int) := of_decide_eq_true dq19
   have q734 : x5_1 < (l0.length : Int) := of_decide_eq_true dq19
   obtain ⟨ad734, A734_3, c734_3, e734, hx734_0, hx734_1, hx734_2, hx734_3, hl734_3, hi734_3⟩ := at_T39 HR0.out x5_1 p734 q734
   obtain rfl : ad730 = ad734 := (by injection e734)
   replace hx734_0 := (HB.out.cell (World.block_lt_of_cell? w _ hx734_0)).trans hx734_0
   replace hx734_1 := (HB.out.cell (World.block_lt_of_cell? w _ hx734_1)).trans hx734_1
   replace hx734_2 := (HB.out.cell (World.block_lt_of_cell? w _ hx734_2)).trans hx734_2
   replace hx734_3 := (HB.out.cell (World.block_lt_of_cell? w _ hx734_3)).trans hx734_3
   have HR734_3 := Aside0.mk hi734_3
   have HC734_3 := Aside0.mk hl734_3
   clear hi734_3 hl734_3
   replace p734 := eq_true p734
   replace q734 := eq_true q734
   have ea_ := Option.some.inj (hx730_3.symm.trans hx734_3)
   injection ea_ with ea_ en_ ec_
   subst ea_
   subst ec_
   clear en_
   go_wp2_with (first | ((with_reducible refine gate_callee (f := 74) rfl ?_); refine goesL_ (some 39) rfl rfl Tryd.func74 dq23 rfl #[.string ((rd_T39 l0 x5_1).f1)] rfl dq22 ?_; (with_reducible refine (spec_Split.calls k1 ((rd_T39 l0 x5_1).f1) t735 t736 t737 _ A12.out).mono ?_); rintro e w' ⟨rfl, ⟨nd, rfl⟩⟩; refine ⟨_, rfl, ?_⟩) | ((with_reducible refine gate_callee (f := 66) rfl ?_); refine goesL_ (some 47) rfl rfl Tryd.func66 dq23 rfl #[.slice (some ad730) l0.length c0, .int .i64 x5_1, .string t735] rfl dq22 ?_; (with_reducible refine (spec_l3Bound.calls k1 _ _ l0 x5_1 t735 t738 false _ ?side1 ?side2 A13.out).mono ?_); (case side1 => repeat (first | exact (Kd.C_below HR0.out dq24) | (with_reducible refine Kd.C_alloc ?_ _) | (with_reducible refine Kd.C_drewN ?_ _) | (with_reducible refine Kd.C_drew ?_))); (case side2 => exact HC0.out); rintro e w' ⟨rfl, ⟨nd, rfl⟩⟩; refine ⟨_, rfl, ?_⟩) | ((with_reducible refine gate_callee (f := 75) rfl ?_); refine goesL_ (some 53) rfl rfl Tryd.func75 dq23 rfl #[.slice (some ad730) l0.length c0, .int .i64 x5_1] rfl dq22 ?_; (with_reducible refine (spec_l3Attrs.calls k1 _ _ l0 x5_1 t740 t741 _ ?side1 ?side2 A14.out).mono ?_); (case side1 => repeat (first | exact (Kd.C_below HR0.out dq24) | (with_reducible refine Kd.C_alloc ?_ _) | (with_reducible refine Kd.C_drewN ?_ _) | (with_reducible refine Kd.C_drew ?_))); (case side2 => exact HC0.out); rintro e w21 ⟨v742, rfl, ho0, hb⟩; refine ⟨_, rfl, ?_⟩; have n0_ := Aside0.mk (Kd.R_elder' dq46 (Kd.R_base ho0) hb); have n1_ := Aside0.mk (Kd.R_lower (Kd.R_new' ho0 (Kd.R_lt dq46)) (below_size dq24)); have n2_ := Aside0.mk (below_step dq24 hb); clear HO_4; clear HB; have HO_4 := n0_; have HO743 := n1_; have HB := n2_; clear n0_ n1_ n2_; (try clear hb); (try clear hb2); (try clear hk); (try clear hi); (try clear ho0)))
   go_ret2
   exact ⟨_, dq26, dq60, dq24⟩
  subst c15
  have H1 : (if t741 = true then (if x4_1.length < 4398046511104 then (spec_NamesOf.l0 k1 l0 (x4_1 ++ [(⟨t738, t736⟩ : S56)]) (wrap64 (x5_1 + 1))) else (none)) else (some (([] : List (S56)), false))) = some (r1, r2) := by rw [if_pos rfl] at H; exact H
  clear H
  have H := H1
  clear H1
  by_cases c16 : t741 = true
  rotate_left
  ·replace c16 := Bool.eq_false_iff.mpr c16
   subst c16
   have H1 : (some (([] : List (S56)), false)) = some (r1, r2) := by rw [if_neg (show ¬ (false = true) by decide)] at H; exact H
   clear H
   have H := H1
   clear H1
   simp only [Option.some.injEq, Prod.mk.injEq] at H
   obtain ⟨rfl, rfl⟩ := H
   have p730 : 0 ≤ (x5_1 : Int) := of_decide_eq_true dq19
   have q730 : x5_1 < (l0.length : Int) := of_decide_eq_true dq19
   obtain ⟨ad730, A730_3, c730_3, e730, hx730_0, hx730_1, hx730_2, hx730_3, hl730_3, hi730_3⟩ := at_T39 HR0.out x5_1 p730 q730
   cases e730
   replace hx730_0 := (HB.out.cell (World.block_lt_of_cell? w _ hx730_0)).trans hx730_0
   replace hx730_1 := (HB.out.cell (World.block_lt_of_cell? w _ hx730_1)).trans hx730_1
   replace hx730_2 := (HB.out.cell (World.block_lt_of_cell? w _ hx730_2)).trans hx730_2
   replace hx730_3 := (HB.out.cell (World.block_lt_of_cell? w _ hx730_3)).trans hx730_3
   have HR730_3 := Aside0.mk hi730_3
   have HC730_3 := Aside0.mk hl730_3
   clear hi730_3 hl730_3
   replace p730 := eq_true p730
   replace q730 := eq_true q730
   have p734 : 0 ≤ (x5_1 : Int) := of_decide_eq_true dq19
   have q734 : x5_1 < (l0.length : Int) := of_decide_eq_true dq19
   obtain ⟨ad734, A734_3, c734_3, e734, hx734_0, hx734_1, hx734_2, hx734_3, hl734_3, hi734_3⟩ := at_T39 HR0.out x5_1 p734 q734
   obtain rfl : ad730 = ad734 := (by injection e734)
   replace hx734_0 := (HB.out.cell (World.block_lt_of_cell? w _ hx734_0)).trans hx734_0
   replace hx734_1 := (HB.out.cell (World.block_lt_of_cell? w _ hx734_1)).trans hx734_1
   replace hx734_2 := (HB.out.cell (World.block_lt_of_cell? w _ hx734_2)).trans hx734_2
   replace hx734_3 := (HB.out.cell (World.block_lt_of_cell? w _ hx734_3)).trans hx734_3
   have HR734_3 := Aside0.mk hi734_3
   have HC734_3 := Aside0.mk hl734_3
   clear hi734_3 hl734_3
   replace p734 := eq_true p734
   replace q734 := eq_true q734
   have ea_ := Option.some.inj (hx730_3.symm.trans hx734_3)
   injection ea_ with ea_ en_ ec_
   subst ea_
   subst ec_
   clear en_
   go_wp2_with (first | ((with_reducible refine gate_callee (f := 74) rfl ?_); refine goesL_ (some 39) rfl rfl Tryd.func74 dq23 rfl #[.string ((rd_T39 l0 x5_1).f1)] rfl dq22 ?_; (with_reducible refine (spec_Split.calls k1 ((rd_T39 l0 x5_1).f1) t735 t736 t737 _ A12.out).mono ?_); rintro e w' ⟨rfl, ⟨nd, rfl⟩⟩; refine ⟨_, rfl, ?_⟩) | ((with_reducible refine gate_callee (f := 66) rfl ?_); refine goesL_ (some 47) rfl rfl Tryd.func66 dq23 rfl #[.slice (some ad730) l0.length c0, .int .i64 x5_1, .string t735] rfl dq22 ?_; (with_reducible refine (spec_l3Bound.calls k1 _ _ l0 x5_1 t735 t738 true _ ?side1 ?side2 A13.out).mono ?_); (case side1 => repeat (first | exact (Kd.C_below HR0.out dq24) | (with_reducible refine Kd.C_alloc ?_ _) | (with_reducible refine Kd.C_drewN ?_ _) | (with_reducible refine Kd.C_drew ?_))); (case side2 => exact HC0.out); rintro e w' ⟨rfl, ⟨nd, rfl⟩⟩; refine ⟨_, rfl, ?_⟩) | ((with_reducible refine gate_callee (f := 75) rfl ?_); refine goesL_ (some 53) rfl rfl Tryd.func75 dq23 rfl #[.slice (some ad730) l0.length c0, .int .i64 x5_1] rfl dq22 ?_; (with_reducible refine (spec_l3Attrs.calls k1 _ _ l0 x5_1 t740 false _ ?side1 ?side2 A14.out).mono ?_); (case side1 => repeat (first | exact (Kd.C_below HR0.out dq24) | (with_reducible refine Kd.C_alloc ?_ _) | (with_reducible refine Kd.C_drewN ?_ _) | (with_reducible refine Kd.C_drew ?_))); (case side2 => exact HC0.out); rintro e w20 ⟨v742, rfl, ho0, hb⟩; refine ⟨_, rfl, ?_⟩; have n0_ := Aside0.mk (Kd.R_elder' dq46 (Kd.R_base ho0) hb); have n1_ := Aside0.mk (Kd.R_lower (Kd.R_new' ho0 (Kd.R_lt dq46)) (below_size dq24)); have n2_ := Aside0.mk (below_step dq24 hb); clear HO_4; clear HB; have HO_4 := n0_; have HO743 := n1_; have HB := n2_; clear n0_ n1_ n2_; (try clear hb); (try clear hb2); (try clear hk); (try clear hi); (try clear ho0)))
   go_ret2
   exact ⟨_, dq26, dq60, dq24⟩
  subst c16
  have H1 : (if x4_1.length < 4398046511104 then (spec_NamesOf.l0 k1 l0 (x4_1 ++ [(⟨t738, t736⟩ : S56)]) (wrap64 (x5_1 + 1))) else (none)) = some (r1, r2) := by rw [if_pos rfl] at H; exact H
  clear H
  have H := H1
  clear H1
  by_cases c17 : x4_1.length < 4398046511104
  rotate_left
  ·rw [if_neg c17] at H
   exact absurd H dq21
  rw [if_pos c17] at H
  have LMc17 := Aside0.mk c17
  clear c17
  obtain ⟨y744, hy744⟩ : ∃ y_ : List (S56), y_ = (x4_1 ++ [(⟨t738, t736⟩ : S56)]) := ⟨_, rfl⟩
  replace H : (spec_NamesOf.l0 k1 l0 y744 (wrap64 (x5_1 + 1))) = some (r1, r2) := by first | (rw [hy744]; with_reducible exact H) | (have H2_ := (Option.bind_some _ _).symm.trans H; rw [hy744]; with_reducible exact H2_) | (have H2_ := (Option.bind_some _ _).symm.trans H; with_reducible exact H2_) | with_reducible exact H | (rw [hy744]; exact H) | exact H
  have Ny744 := Aside0.mk hy744
  clear hy744
  have H' := Aside0.mk H
  clear H
  have p730 : 0 ≤ (x5_1 : Int) := of_decide_eq_true dq19
  have q730 : x5_1 < (l0.length : Int) := of_decide_eq_true dq19
  obtain ⟨ad730, A730_3, c730_3, e730, hx730_0, hx730_1, hx730_2, hx730_3, hl730_3, hi730_3⟩ := at_T39 HR0.out x5_1 p730 q730
  cases e730
  replace hx730_0 := (HB.out.cell (World.block_lt_of_cell? w _ hx730_0)).trans hx730_0
  replace hx730_1 := (HB.out.cell (World.block_lt_of_cell? w _ hx730_1)).trans hx730_1
  replace hx730_2 := (HB.out.cell (World.block_lt_of_cell? w _ hx730_2)).trans hx730_2
  replace hx730_3 := (HB.out.cell (World.block_lt_of_cell? w _ hx730_3)).trans hx730_3
  have HR730_3 := Aside0.mk hi730_3
  have HC730_3 := Aside0.mk hl730_3
  clear hi730_3 hl730_3
  replace p730 := eq_true p730
  replace q730 := eq_true q730
  have p734 : 0 ≤ (x5_1 : Int) := of_decide_eq_true dq19
  have q734 : x5_1 < (l0.length : Int) := of_decide_eq_true dq19
  obtain ⟨ad734, A734_3, c734_3, e734, hx734_0, hx734_1, hx734_2, hx734_3, hl734_3, hi734_3⟩ := at_T39 HR0.out x5_1 p734 q734
  obtain rfl : ad730 = ad734 := (by injection e734)
  replace hx734_0 := (HB.out.cell (World.block_lt_of_cell? w _ hx734_0)).trans hx734_0
  replace hx734_1 := (HB.out.cell (World.block_lt_of_cell? w _ hx734_1)).trans hx734_1
  replace hx734_2 := (HB.out.cell (World.block_lt_of_cell? w _ hx734_2)).trans hx734_2
  replace hx734_3 := (HB.out.cell (World.block_lt_of_cell? w _ hx734_3)).trans hx734_3
  have HR734_3 := Aside0.mk hi734_3
  have HC734_3 := Aside0.mk hl734_3
  clear hi734_3 hl734_3
  replace p734 := eq_true p734
  replace q734 := eq_true q734
  have ea_ := Option.some.inj (hx730_3.symm.trans hx734_3)
  injection ea_ with ea_ en_ ec_
  subst ea_
  subst ec_
  clear en_
  go_wp2_with (first | ((with_reducible refine gate_callee (f := 74) rfl ?_); refine goesL_ (some 39) rfl rfl Tryd.func74 dq23 rfl #[.string ((rd_T39 l0 x5_1).f1)] rfl dq22 ?_; (with_reducible refine (spec_Split.calls k1 ((rd_T39 l0 x5_1).f1) t735 t736 t737 _ A12.out).mono ?_); rintro e w' ⟨rfl, ⟨nd, rfl⟩⟩; refine ⟨_, rfl, ?_⟩) | ((with_reducible refine gate_callee (f := 66) rfl ?_); refine goesL_ (some 47) rfl rfl Tryd.func66 dq23 rfl #[.slice (some ad730) l0.length c0, .int .i64 x5_1, .string t735] rfl dq22 ?_; (with_reducible refine (spec_l3Bound.calls k1 _ _ l0 x5_1 t735 t738 true _ ?side1 ?side2 A13.out).mono ?_); (case side1 => repeat (first | exact (Kd.C_below HR0.out dq24) | (with_reducible refine Kd.C_alloc ?_ _) | (with_reducible refine Kd.C_drewN ?_ _) | (with_reducible refine Kd.C_drew ?_))); (case side2 => exact HC0.out); rintro e w' ⟨rfl, ⟨nd, rfl⟩⟩; refine ⟨_, rfl, ?_⟩) | ((with_reducible refine gate_callee (f := 75) rfl ?_); refine goesL_ (some 53) rfl rfl Tryd.func75 dq23 rfl #[.slice (some ad730) l0.length c0, .int .i64 x5_1] rfl dq22 ?_; (with_reducible refine (spec_l3Attrs.calls k1 _ _ l0 x5_1 t740 true _ ?side1 ?side2 A14.out).mono ?_); (case side1 => repeat (first | exact (Kd.C_below HR0.out dq24) | (with_reducible refine Kd.C_alloc ?_ _) | (with_reducible refine Kd.C_drewN ?_ _) | (with_reducible refine Kd.C_drew ?_))); (case side2 => exact HC0.out); rintro e w18 ⟨v742, rfl, ho0, hb⟩; refine ⟨_, rfl, ?_⟩; have n0_ := Aside0.mk (Kd.R_elder' dq46 (Kd.R_base ho0) hb); have n1_ := Aside0.mk (Kd.R_lower (Kd.R_new' ho0 (Kd.R_lt dq46)) (below_size dq24)); have n2_ := Aside0.mk (below_step dq24 hb); clear HO_4; clear HB; have HO_4 := n0_; have HO743 := n1_; have HB := n2_; clear n0_ n1_ n2_; (try clear hb); (try clear hb2); (try clear hk); (try clear hi); (try clear ho0)) | ((with_reducible refine gate_builtin (b := .append) (xs := #[.tmp 62, .tmp 66]) rfl ?_); at_builtin; refine Kd.R_append k56 (w0 := w) w.heap.size rfl (.tmp 62) (.tmp 66) 52 56 (.agg #[(.string ⟨#[]⟩), (.string ⟨#[]⟩)]) 32 rfl Tryd.underlying52 info56 rfl dq52 dq37 u4 x4_1 (⟨t738, t736⟩ : S56) [.string t738, .string t736] (fun k_ => some k_ ≠ (v742 : Value).ownBlock) (fun _ => False) rfl rfl ?aP (fun _ hk => hk.elim) ?aF ?aO ?aB ?aS ?aL ?_; (case aP => exact k56_mkM _ _ _ (⟨t738, t736⟩ : S56)); (case aB => exact dq24); (case aF => exact (fun k_ hk => Kd.fresh' (Kd.R_lt (by (with_reducible repeat (first | apply Kd.R_alloc | apply Kd.R_drewN | apply Kd.R_drew)); exact HO743.out)) k_ hk)); (case aO => exact dq136); (case aS => exact (below_size dq24)); (case aL => have := LMc17.out; omega); intro v745 w19 ho hb hg hat; rw [← Ny744.out] at ho; have n0_ := Aside0.mk (Kd.R_after (ok := (fun _ => True)) (by (with_reducible repeat (first | apply Kd.R_alloc | apply Kd.R_drewN | apply Kd.R_drew)); exact HO743.out) hg hat); have n1_ := Aside0.mk (hb); have n2_ := Aside0.mk (ho); clear HO743; clear HB; clear HO_4; have HO743 := n0_; have HB := n1_; have HO746 := n2_; clear n0_ n1_ n2_; clear ho hb hg hat))
  go_roundg k1
  case measure => have := HK1.out; omega
  case rel => exact ⟨(y744), (wrap64 (x5_1 + 1)), dq18, H', ⟨dq20⟩, ⟨by (with_reducible repeat (first | apply Kd.R_alloc | apply Kd.R_drewN | apply Kd.R_drew)); exact Kd.R_mono HO746.out (fun _ hk => trivial)⟩, ⟨dq24⟩⟩

/-! ### impl_AttrNames: function 39 -/
def impl_AttrNames.f (k : Nat) (l0 : List (S39)) (a1 : Int) : Option ((List (S56)) × Bool) := (impl_has.f k l0 a1).bind fun t747 => (if t747 = true then ((impl_attrNames.f k l0 a1).bind fun bt748 => (some (bt748.1, bt748.2))) else (some (([] : List (S56)), false)))
set_option maxHeartbeats 8000000 in
set_option maxRecDepth 100000 in
theorem impl_AttrNames.calls (k : Nat) (A0 : Option Addr) (c0 : Nat) (l0 : List (S39)) (a1 : Int) (r1 : List (S56)) (r2 : Bool) (w : World) (hT : Gl w) (hr0 : Kd.C k39 w A0 l0.length l0) (hc0 : l0.length ≤ c0) (h : impl_AttrNames.f k l0 a1 = some (r1, r2)) :
  Calls Tryd.prog 39 #[.slice A0 l0.length c0, .int .i64 a1] w fun e w' => ∃ v0_ : Value, e = .returned (.tuple #[v0_, .bool r2]) ∧ Kd.R k56 56 w' w.heap.size (fun _ => True) v0_ r1 ∧ Below w.heap.size w w' := by
 have HR0 := Aside0.mk hr0
 have HC0 := Aside0.mk hc0
 clear hr0 hc0
 have HT := Aside0.mk hT
 clear hT
 have HB := Aside0.mk (Below.refl w.heap.size w)
 have H : ((impl_has.f k l0 a1).bind fun t747 => (if t747 = true then ((impl_attrNames.f k l0 a1).bind fun bt748 => (some (bt748.1, bt748.2))) else (some (([] : List (S56)), false)))) = some (r1, r2) := h
 clear h
 replace H := Option.bind_eq_some_iff.mp H
 obtain ⟨t747, A30, H⟩ := H
 replace H : (if t747 = true then ((impl_attrNames.f k l0 a1).bind fun bt748 => (some (bt748.1, bt748.2))) else (some (([] : List (S56)), false))) = some (r1, r2) := H
 have A3 := Aside0.mk A30
 clear A30
 by_cases c4 : t747 = true
 rotate_left
 ·replace c4 := Bool.eq_false_iff.mpr c4
  subst c4
  have H1 : (some (([] : List (S56)), false)) = some (r1, r2) := by rw [if_neg (show ¬ (false = true) by decide)] at H; exact H
  clear H
  have H := H1
  clear H1
  simp only [Option.some.injEq, Prod.mk.injEq] at H
  obtain ⟨rfl, rfl⟩ := H
  go_enter Tryd.func39, Tryd.ntmps39
  go_wp2_with (first | ((with_reducible refine gate_callee (f := 64) rfl ?_); refine goesL_ (some 8) rfl rfl Tryd.func64 dq23 rfl #[.slice A0 l0.length c0, .int .i64 a1] rfl dq22 ?_; (with_reducible refine (impl_has.calls k _ _ l0 a1 false _ ?side3 ?side1 ?side2 A3.out).mono ?_); (case side1 => exact dq5); (case side2 => exact HC0.out); (case side3 => exact dq0); rintro e w8 ⟨rfl, hb⟩; refine ⟨_, rfl, ?_⟩; have n0_ := Aside0.mk (below_step dq24 hb); clear HB; have HB := n0_; clear n0_; (try clear hb); (try clear hb2); (try clear hk); (try clear hi)))
  go_ret2
  exact ⟨_, dq26, dq60, dq24⟩
 subst c4
 have H1 : ((impl_attrNames.f k l0 a1).bind fun bt748 => (some (bt748.1, bt748.2))) = some (r1, r2) := by rw [if_pos rfl] at H; exact H
 clear H
 have H := H1
 clear H1
 replace H := Option.bind_eq_some_iff.mp H
 obtain ⟨⟨t748, t749⟩, A50, H⟩ := H
 replace H : (some (t748, t749)) = some (r1, r2) := H
 have A5 := Aside0.mk A50
 clear A50
 simp only [Option.some.injEq, Prod.mk.injEq] at H
 obtain ⟨rfl, rfl⟩ := H
 go_enter Tryd.func39, Tryd.ntmps39
 go_wp2_with (first | ((with_reducible refine gate_callee (f := 64) rfl ?_); refine goesL_ (some 8) rfl rfl Tryd.func64 dq23 rfl #[.slice A0 l0.length c0, .int .i64 a1] rfl dq22 ?_; (with_reducible refine (impl_has.calls k _ _ l0 a1 true _ ?side3 ?side1 ?side2 A3.out).mono ?_); (case side1 => exact dq5); (case side2 => exact HC0.out); (case side3 => exact dq0); rintro e w6 ⟨rfl, hb⟩; refine ⟨_, rfl, ?_⟩; have n0_ := Aside0.mk (below_step dq24 hb); clear HB; have HB := n0_; clear n0_; (try clear hb); (try clear hb2); (try clear hk); (try clear hi)) | ((with_reducible refine gate_callee (f := 73) rfl ?_); refine goesL_ (some 12) rfl rfl Tryd.func73 dq23 rfl #[.slice A0 l0.length c0, .int .i64 a1] rfl dq22 ?_; (with_reducible refine (impl_attrNames.calls k _ _ l0 a1 t748 t749 _ ?side1 ?side2 A5.out).mono ?_); (case side1 => exact dq6); (case side2 => exact HC0.out); rintro e w7 ⟨v750, rfl, ho0, hb⟩; refine ⟨_, rfl, ?_⟩; have n0_ := Aside0.mk (Kd.R_lower ho0 (below_size dq24)); have n1_ := Aside0.mk (below_step dq24 hb); clear HB; have HO751 := n0_; have HB := n1_; clear n0_ n1_; (try clear hb); (try clear hb2); (try clear hk); (try clear hi); (try clear ho0)))
 go_ret2
 exact ⟨_, dq26, by (with_reducible repeat (first | apply Kd.R_alloc | apply Kd.R_drewN | apply Kd.R_drew)); exact HO751.out, dq24⟩

end Go.Proofs.YtpmjpbaeecnpiaaDoor.L
