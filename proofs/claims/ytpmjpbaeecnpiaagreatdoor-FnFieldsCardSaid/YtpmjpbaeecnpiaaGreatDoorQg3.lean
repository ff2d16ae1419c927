/- Words and contracts for the row RowFnFields: what the Go functions answer that it calls; printed by programs of the kit and of this session, and merged. -/
import Derived.Test.YtpmjpbaeecnpiaaGreatDoorQg2
namespace Go.Proofs.YtpmjpbaeecnpiaaGreatDoor.L
open Go.RowKit Go.Proofs.YtpmjpbaeecnpiaaGreatDoorW.PrintWords Go.Proofs.YtpmjpbaeecnpiaaGreatDoorW.PrintLast Go.Proofs.YtpmjpbaeecnpiaaGreatDoorW.PrintMore
attribute [local go_sem] max2_int min2_int max_two min_two max_three min_three max_four min_four
set_option linter.unusedVariables false
set_option linter.unusedSimpArgs false

/-! ### spec_DocOk: function 43 -/
mutual
def spec_DocOk.j0 : Nat → List (S65) → Bool → Option (Bool)
 | 0, _, _ => none
 | k + 1, x0, x15 => if x15 = true then (some false) else (spec_DocOk.l0 k x0 0 0)
def spec_DocOk.l0 : Nat → List (S65) → Int → Int → Option (Bool)
 | 0, _, _, _ => none
 | k + 1, x0, x3, x4 => if x4 < (x0.length : Int) then (if 0 ≤ x4 then (spec_DocOk.l1 k x0 (wrap64 ((wrap64 (x3 + (((rd_T65 x0 x4).f1).size : Int))) + (((rd_T65 x0 x4).f2).size : Int))) x4 0 ((rd_T65 x0 x4).f0) ((rd_T65 x0 x4).f1) ((rd_T65 x0 x4).f2) ((rd_T65 x0 x4).f3)) else (none)) else (some true)
def spec_DocOk.j3 : Nat → List (S65) → Int → Int → Int → ByteArray → ByteArray → List (S67) → Option (Bool)
 | 0, _, _, _, _, _, _, _ => none
 | k + 1, x0, x3, x4, x141000, x141001, x141002, x141003 => if x3 > 2500 then (some false) else (if x4 = 0 then (if x141000 = (-1) then (if x141001.toList = ([] : List UInt8) then (some false) else (spec_DocOk.j4 k x0 x3 x4 x141000 x141001 x141002 x141003)) else (some false)) else ((spec_l1In.f x141000 0 (wrap64 (x4 - 1))).bind fun t143 => (if t143 = true then (if 0 ≤ x141000 then (if x141000 < (x0.length : Int) then (if ((rd_T65 x0 x141000).f1).toList = ([] : List UInt8) then (some false) else (spec_DocOk.j4 k x0 x3 x4 x141000 x141001 x141002 x141003)) else (none)) else (none)) else (some false))))
def spec_DocOk.j4 : Nat → List (S65) → Int → Int → Int → ByteArray → ByteArray → List (S67) → Option (Bool)
 | 0, _, _, _, _, _, _, _ => none
 | k + 1, x0, x3, x4, x141000, x141001, x141002, x141003 => if x4 > 0 then (spec_DocOk.l2 k x0 x3 x4 (wrap64 (x4 - 1)) x141000 x141001 x141002 x141003) else (spec_DocOk.j6 k x0 x3 x4 x141000 x141001 x141002 x141003)
def spec_DocOk.j6 : Nat → List (S65) → Int → Int → Int → ByteArray → ByteArray → List (S67) → Option (Bool)
 | 0, _, _, _, _, _, _, _ => none
 | k + 1, x0, x3, x4, x141000, x141001, x141002, x141003 => (spec_l2Deep.f k x0 x4).bind fun t146 => (if t146 ≥ 20 then (some false) else (if x141001.toList = ([] : List UInt8) then (if x141002.toList = ([] : List UInt8) then (spec_DocOk.j7 k x0 x3 x4 true x141000 x141001 x141002 x141003) else (if (x141003.length : Int) > 0 then (spec_DocOk.j7 k x0 x3 x4 true x141000 x141001 x141002 x141003) else ((spec_l1Text.f k x141002).bind fun t147 => (spec_DocOk.j7 k x0 x3 x4 (!t147) x141000 x141001 x141002 x141003)))) else (if x141002.toList = ([] : List UInt8) then ((spec_l1Qual.f k x141001).bind fun t150 => (if t150 = true then ((spec_l2Attrs.f k x141003).bind fun t151 => (if t151 = true then (spec_DocOk.l0 k x0 x3 (wrap64 (x4 + 1))) else (some false))) else (some false))) else (some false))))
def spec_DocOk.j7 : Nat → List (S65) → Int → Int → Bool → Int → ByteArray → ByteArray → List (S67) → Option (Bool)
 | 0, _, _, _, _, _, _, _, _ => none
 | k + 1, x0, x3, x4, x130, x141000, x141001, x141002, x141003 => if x130 = true then (some false) else (if 0 ≤ (wrap64 (x4 - 1)) then (if (wrap64 (x4 - 1)) < (x0.length : Int) then (if ((rd_T65 x0 (wrap64 (x4 - 1))).f1).toList = ([] : List UInt8) then (if ((rd_T65 x0 (wrap64 (x4 - 1))).f0) = x141000 then (some false) else (spec_DocOk.l0 k x0 x3 (wrap64 (x4 + 1)))) else (spec_DocOk.l0 k x0 x3 (wrap64 (x4 + 1)))) else (none)) else (none))
def spec_DocOk.l2 : Nat → List (S65) → Int → Int → Int → Int → ByteArray → ByteArray → List (S67) → Option (Bool)
 | 0, _, _, _, _, _, _, _, _ => none
 | k + 1, x0, x3, x4, x7, x141000, x141001, x141002, x141003 => if x7 ≥ 0 then (if x7 = x141000 then (if x7 < 0 then (some false) else (spec_DocOk.j6 k x0 x3 x4 x141000 x141001 x141002 x141003)) else (if 0 ≤ x7 then (if x7 < (x0.length : Int) then (spec_DocOk.l2 k x0 x3 x4 ((rd_T65 x0 x7).f0) x141000 x141001 x141002 x141003) else (none)) else (none))) else (if x7 < 0 then (some false) else (spec_DocOk.j6 k x0 x3 x4 x141000 x141001 x141002 x141003))
def spec_DocOk.l1 : Nat → List (S65) → Int → Int → Int → Int → ByteArray → ByteArray → List (S67) → Option (Bool)
 | 0, _, _, _, _, _, _, _, _ => none
 | k + 1, x0, x3, x4, x6, x141000, x141001, x141002, x141003 => if x6 < (x141003.length : Int) then (if x6 < 20 then (if 0 ≤ x6 then (spec_DocOk.l1 k x0 (wrap64 ((wrap64 (x3 + (((rd_T67 x141003 x6).f0).size : Int))) + (((rd_T67 x141003 x6).f1).size : Int))) x4 (wrap64 (x6 + 1)) x141000 x141001 x141002 x141003) else (none)) else (spec_DocOk.j3 k x0 x3 x4 x141000 x141001 x141002 x141003)) else (spec_DocOk.j3 k x0 x3 x4 x141000 x141001 x141002 x141003)
end
def spec_DocOk.f (k : Nat) (l0 : List (S65)) : Option (Bool) := if (l0.length : Int) < 1 then (spec_DocOk.j0 k l0 true) else (spec_DocOk.j0 k l0 (decide ((l0.length : Int) > 200)))
set_option maxHeartbeats 8000000 in
set_option maxRecDepth 100000 in
theorem spec_DocOk.calls (k : Nat) (A0 : Option Addr) (c0 : Nat) (l0 : List (S65)) (r : Bool) (w : World) (hr0 : Kd.C k65 w A0 l0.length l0) (hc0 : l0.length ≤ c0) (h : spec_DocOk.f k l0 = some r) :
  Calls Tryz.prog 43 #[.slice A0 l0.length c0] w fun e w' => e = .returned (.bool r) ∧ Below w.heap.size w w' := by
 have hu65 := Tryz.underlying65
 have HR0 := Aside0.mk hr0
 have HC0 := Aside0.mk hc0
 clear hr0 hc0
 have HB := Aside0.mk (Below.refl w.heap.size w)
 have H : (if (l0.length : Int) < 1 then (spec_DocOk.j0 k l0 true) else (spec_DocOk.j0 k l0 (decide ((l0.length : Int) > 200)))) = some r := h
 clear h
 have HC2 := Aside0.mk H
 clear H
 go_enter Tryz.func43, Tryz.ntmps43
 go_upto_region 1 with (fail)
 go_cut [15] (fun v15 wc => ∃ (kq : Nat) (x15_1 : Bool), v15 = .bool x15_1 ∧ Aside0 (spec_DocOk.j0 kq l0 x15_1 = some r) ∧ Aside0 (kq ≤ k) ∧ Aside0 (Below w.heap.size w wc))
 case first =>
  have H := HC2.out
  clear HC2
  by_cases c3 : (l0.length : Int) < 1
  ·rw [if_pos c3] at H
   have c3b0 := decide_eq_true c3
   have c3b1 : decide (l0.length < 1) = true := decide_eq_true dq23
   clear c3
   (first | rw [c3b0] | (simp only [i64_w, i32_w]; rw [c3b0]) | skip)
   have H' := Aside0.mk H
   clear H
   go_wp2
   go_meet
   case rel => exact ⟨_, (true), dq17, H', ⟨dq24⟩, ⟨dq25⟩⟩
  rw [if_neg c3] at H
  have c3b0 := decide_eq_false c3
  have c3b1 : decide (l0.length < 1) = false := decide_eq_false dq23
  clear c3
  (first | rw [c3b0] | (simp only [i64_w, i32_w]; rw [c3b0]) | skip)
  have H' := Aside0.mk H
  clear H
  go_wp2
  go_meet
  case rel => exact ⟨_, (decide ((l0.length : Int) > 200)), dq17, H', ⟨dq24⟩, ⟨dq25⟩⟩
 clear HC2
 obtain ⟨kq, x15_1, rfl, HA, HJ1, HB⟩ := hcut
 cases kq with
 | zero => exact absurd HA.out (by simp [spec_DocOk.j0])
 | succ kj1 =>
  have H := HA.out
  clear HA
  simp only [spec_DocOk.j0] at H
  by_cases c4 : x15_1 = true
  ·subst c4
   have H1 : (some false) = some r := by rw [if_pos rfl] at H; exact H
   clear H
   have H := H1
   clear H1
   obtain rfl := Option.some.inj H
   go_wp2
   go_ret
   exact ⟨dq27, dq25⟩
  replace c4 := Bool.eq_false_iff.mpr c4
  subst c4
  have H1 : (spec_DocOk.l0 kj1 l0 0 0) = some r := by rw [if_neg (show ¬ (false = true) by decide)] at H; exact H
  clear H
  have H := H1
  clear H1
  have H' := Aside0.mk H
  clear H
  go_wp2
  go_loopg [3, 4] kj1 (fun kq v3 v4 w' => ∃ (x3_2 : Int) (x4_2 : Int), v3 = .int .i64 x3_2 ∧ v4 = .int .i64 x4_2 ∧ Aside0 (spec_DocOk.l0 kq l0 x3_2 x4_2 = some r) ∧ Aside0 (kq ≤ kj1) ∧ Aside0 (Below w.heap.size w w'))
  case atStart => exact ⟨(0), (0), dq17, dq17, H', ⟨Nat.le_refl _⟩, ⟨dq25⟩⟩
  clear H'
  obtain ⟨x3_2, x4_2, rfl, rfl, HA, HK2, HB⟩ := hrel
  cases gk with
  | zero => exact absurd HA.out (by simp [spec_DocOk.l0])
  | succ k2 =>
   have H := HA.out
   clear HA
   simp only [spec_DocOk.l0] at H
   by_cases c5 : x4_2 < (l0.length : Int)
   rotate_left
   ·rw [if_neg c5] at H
    have c5b0 := decide_eq_false c5
    clear c5
    obtain rfl := Option.some.inj H
    go_wp2
    go_ret
    exact ⟨dq27, dq25⟩
   rw [if_pos c5] at H
   have c5b0 := decide_eq_true c5
   clear c5
   by_cases c6 : 0 ≤ x4_2
   rotate_left
   ·rw [if_neg c6] at H
    exact absurd H dq20
   rw [if_pos c6] at H
   have c6b0 := decide_eq_true c6
   clear c6
   have HC7 := Aside0.mk H
   clear H
   have p139 : 0 ≤ (x4_2 : Int) := of_decide_eq_true dq18
   have q139 : x4_2 < (l0.length : Int) := of_decide_eq_true dq18
   obtain ⟨ad139, A139_3, c139_3, e139, hx139_0, hx139_1, hx139_2, hx139_3, hl139_3, hi139_3⟩ := at_T65 HR0.out x4_2 p139 q139
   cases e139
   replace hx139_0 := (HB.out.cell (World.block_lt_of_cell? w _ hx139_0)).trans hx139_0
   replace hx139_1 := (HB.out.cell (World.block_lt_of_cell? w _ hx139_1)).trans hx139_1
   replace hx139_2 := (HB.out.cell (World.block_lt_of_cell? w _ hx139_2)).trans hx139_2
   replace hx139_3 := (HB.out.cell (World.block_lt_of_cell? w _ hx139_3)).trans hx139_3
   have HR139_3 := Aside0.mk hi139_3
   have HC139_3 := Aside0.mk hl139_3
   clear hi139_3 hl139_3
   replace p139 := eq_true p139
   replace q139 := eq_true q139
   go_upto_block 2 with (first | ((with_reducible refine gate_dst (N := 5) rfl ?_); (try (refine gate_guard (by rfl) ?_; dsimp only)); refine box_event ?hg (N := 5) ?hd (cs := #[.int .i64 0, .string (⟨#[]⟩ : ByteArray), .string (⟨#[]⟩ : ByteArray), .slice none 0 0]) (t := 65) ?hr ?_; (case hd => rfl); (case hg => rfl); (case hr => exact dq0); intro gb140 hg w8 hbox hb; have n0_ := Aside0.mk (below_step dq25 hb); have n1_ := Aside0.mk (hbox); have n2_ := Aside0.mk ((dq32 : w.heap.size ≤ gb140)); have n3_ := Aside0.mk ((dq32 : w.heap.size ≤ gb140)); clear HB; have HB := n0_; have BK140 := n1_; have GW140 := n2_; have GE140 := n3_; clear n0_ n1_ n2_ n3_; clear hb hbox hg; obtain ⟨⟨hcz9_0, hcz9_1, hcz9_2, hcz9_3⟩, hfz9_0, hfz9_1, hfz9_2, hfz9_3⟩ := blkC4 BK140.out))
   (try simp only [Act.put, List.setIfInBounds_toArray, List.set_cons_zero, List.set_cons_succ])
   go_cut [3] (fun v3 wc => ∃ (kq : Nat) (x3_6 : Int), v3 = .int .i64 x3_6 ∧ Aside0 (spec_DocOk.j3 kq l0 x3_6 x4_2 ((rd_T65 l0 x4_2).f0) ((rd_T65 l0 x4_2).f1) ((rd_T65 l0 x4_2).f2) ((rd_T65 l0 x4_2).f3) = some r) ∧ Aside0 (kq ≤ k2) ∧ Aside0 (wc.heap[gb140]? = some (.cells #[.int .i64 ((rd_T65 l0 x4_2).f0), .string ((rd_T65 l0 x4_2).f1), .string ((rd_T65 l0 x4_2).f2), (.slice A139_3 ((rd_T65 l0 x4_2).f3).length c139_3)] 65 (0, 0))) ∧ Aside0 (Below w.heap.size w wc))
   case first =>
    have H := HC7.out
    clear HC7
    have H' := Aside0.mk H
    clear H
    go_wp2
    go_loopg [3, 6] k2 (fun kq v3 v6 w' => ∃ (x3_3 : Int) (x6_3 : Int), v3 = .int .i64 x3_3 ∧ v6 = .int .i64 x6_3 ∧ Aside0 (spec_DocOk.l1 kq l0 x3_3 x4_2 x6_3 ((rd_T65 l0 x4_2).f0) ((rd_T65 l0 x4_2).f1) ((rd_T65 l0 x4_2).f2) ((rd_T65 l0 x4_2).f3) = some r) ∧ Aside0 (kq ≤ k2) ∧ Aside0 (w'.heap[gb140]? = some (.cells #[.int .i64 ((rd_T65 l0 x4_2).f0), .string ((rd_T65 l0 x4_2).f1), .string ((rd_T65 l0 x4_2).f2), (.slice A139_3 ((rd_T65 l0 x4_2).f3).length c139_3)] 65 (0, 0))) ∧ Aside0 (Below w.heap.size w w'))
    case atStart => exact ⟨(wrap64 ((wrap64 (x3_2 + (((rd_T65 l0 x4_2).f1).size : Int))) + (((rd_T65 l0 x4_2).f2).size : Int))), (0), dq17, dq17, H', ⟨Nat.le_refl _⟩, ⟨by refine blk_up ?_; refine blk_put (cs := #[.int .i64 ((rd_T65 l0 x4_2).f0), .string ((rd_T65 l0 x4_2).f1), .string ((rd_T65 l0 x4_2).f2), .slice none 0 0]) ?_ 3 _ rfl; refine blk_up ?_; refine blk_put (cs := #[.int .i64 ((rd_T65 l0 x4_2).f0), .string ((rd_T65 l0 x4_2).f1), .string (⟨#[]⟩ : ByteArray), .slice none 0 0]) ?_ 2 _ rfl; refine blk_up ?_; refine blk_put (cs := #[.int .i64 ((rd_T65 l0 x4_2).f0), .string (⟨#[]⟩ : ByteArray), .string (⟨#[]⟩ : ByteArray), .slice none 0 0]) ?_ 1 _ rfl; refine blk_up ?_; refine blk_put (cs := #[.int .i64 0, .string (⟨#[]⟩ : ByteArray), .string (⟨#[]⟩ : ByteArray), .slice none 0 0]) ?_ 0 _ rfl; refine blk_up ?_; exact BK140.out⟩, ⟨dq33⟩⟩
    clear H'
    try clear c5b0
    try clear c6b0
    try clear hcz9_0
    try clear hcz9_1
    try clear hcz9_2
    try clear hcz9_3
    try clear hfz9_0
    try clear hfz9_1
    try clear hfz9_2
    try clear hfz9_3
    try clear hx139_0
    try clear hx139_1
    try clear hx139_2
    try clear hx139_3
    try clear p139
    try clear q139
    obtain ⟨x3_3, x6_3, rfl, rfl, HA, HK3, BK140, HB⟩ := hrel
    cases gk with
    | zero => exact absurd HA.out (by simp [spec_DocOk.l1])
    | succ k3 =>
     have H := HA.out
     clear HA
     simp only [spec_DocOk.l1] at H
     by_cases c10 : x6_3 < (((rd_T65 l0 x4_2).f3).length : Int)
     rotate_left
     ·rw [if_neg c10] at H
      have c10b0 := decide_eq_false c10
      clear c10
      (first | rw [c10b0] | (simp only [i64_w, i32_w]; rw [c10b0]) | skip)
      have H' := Aside0.mk H
      clear H
      obtain ⟨⟨hcz15_0, hcz15_1, hcz15_2, hcz15_3⟩, hfz15_0, hfz15_1, hfz15_2, hfz15_3⟩ := blkC4 BK140.out
      go_wp2
      go_meet
      case rel => exact ⟨_, (x3_3), dq17, H', ⟨dq35⟩, ⟨dq34⟩, ⟨dq33⟩⟩
     rw [if_pos c10] at H
     have c10b0 := decide_eq_true c10
     clear c10
     (first | rw [c10b0] | (simp only [i64_w, i32_w]; rw [c10b0]) | skip)
     by_cases c11 : x6_3 < 20
     rotate_left
     ·rw [if_neg c11] at H
      have c11b0 := decide_eq_false c11
      clear c11
      have H' := Aside0.mk H
      clear H
      obtain ⟨⟨hcz14_0, hcz14_1, hcz14_2, hcz14_3⟩, hfz14_0, hfz14_1, hfz14_2, hfz14_3⟩ := blkC4 BK140.out
      go_wp2
      go_meet
      case rel => exact ⟨_, (x3_3), dq17, H', ⟨dq35⟩, ⟨dq34⟩, ⟨dq33⟩⟩
     rw [if_pos c11] at H
     have c11b0 := decide_eq_true c11
     clear c11
     by_cases c12 : 0 ≤ x6_3
     rotate_left
     ·rw [if_neg c12] at H
      exact absurd H dq20
     rw [if_pos c12] at H
     have c12b0 := decide_eq_true c12
     clear c12
     have H' := Aside0.mk H
     clear H
     obtain ⟨⟨hcz13_0, hcz13_1, hcz13_2, hcz13_3⟩, hfz13_0, hfz13_1, hfz13_2, hfz13_3⟩ := blkC4 BK140.out
     have p141 : 0 ≤ (x6_3 : Int) := of_decide_eq_true dq18
     have q141 : x6_3 < (((rd_T65 l0 x4_2).f3).length : Int) := of_decide_eq_true dq18
     obtain ⟨ad141, e141, hx141_0, hx141_1⟩ := at_T67 HR139_3.out x6_3 p141 q141
     cases e141
     replace hx141_0 := (HB.out.cell (World.block_lt_of_cell? w _ hx141_0)).trans hx141_0
     replace hx141_1 := (HB.out.cell (World.block_lt_of_cell? w _ hx141_1)).trans hx141_1
     replace p141 := eq_true p141
     replace q141 := eq_true q141
     have p142 : 0 ≤ (x6_3 : Int) := of_decide_eq_true dq18
     have q142 : x6_3 < (((rd_T65 l0 x4_2).f3).length : Int) := of_decide_eq_true dq18
     obtain ⟨ad142, e142, hx142_0, hx142_1⟩ := at_T67 HR139_3.out x6_3 p142 q142
     obtain rfl : ad141 = ad142 := (by injection e142)
     replace hx142_0 := (HB.out.cell (World.block_lt_of_cell? w _ hx142_0)).trans hx142_0
     replace hx142_1 := (HB.out.cell (World.block_lt_of_cell? w _ hx142_1)).trans hx142_1
     replace p142 := eq_true p142
     replace q142 := eq_true q142
     go_wp2
     repeat (go_quiet (fail); try go_wp2)
     go_roundg k3
     case measure => have := HJ1.out; have := HK2.out; have := HK3.out; omega
     case rel => exact ⟨(wrap64 ((wrap64 (x3_3 + (((rd_T67 ((rd_T65 l0 x4_2).f3) x6_3).f0).size : Int))) + (((rd_T67 ((rd_T65 l0 x4_2).f3) x6_3).f1).size : Int))), (wrap64 (x6_3 + 1)), dq17, dq17, H', ⟨by have := HJ1.out; have := HK2.out; have := HK3.out; omega⟩, ⟨dq34⟩, ⟨dq33⟩⟩
   clear HC7
   try clear c5b0
   try clear c6b0
   try clear hcz9_0
   try clear hcz9_1
   try clear hcz9_2
   try clear hcz9_3
   try clear hfz9_0
   try clear hfz9_1
   try clear hfz9_2
   try clear hfz9_3
   try clear hx139_0
   try clear hx139_1
   try clear hx139_2
   try clear hx139_3
   try clear p139
   try clear q139
   obtain ⟨kq, x3_6, rfl, HA, HJ6, BK140, HB⟩ := hcut
   cases kq with
   | zero => exact absurd HA.out (by simp [spec_DocOk.j3])
   | succ kj6 =>
    have H := HA.out
    clear HA
    simp only [spec_DocOk.j3] at H
    by_cases c16 : x3_6 > 2500
    ·rw [if_pos c16] at H
     have c16b0 : decide (2500 < x3_6) = true := decide_eq_true c16
     clear c16
     obtain rfl := Option.some.inj H
     go_wp2
     go_ret
     exact ⟨dq27, dq33⟩
    rw [if_neg c16] at H
    have c16b0 : decide (2500 < x3_6) = false := decide_eq_false c16
    clear c16
    have HC17 := Aside0.mk H
    clear H
    go_upto_if 66 with (fail)
    go_cut [] (fun wc => ∃ (kq : Nat), Aside0 (spec_DocOk.j4 kq l0 x3_6 x4_2 ((rd_T65 l0 x4_2).f0) ((rd_T65 l0 x4_2).f1) ((rd_T65 l0 x4_2).f2) ((rd_T65 l0 x4_2).f3) = some r) ∧ Aside0 (kq ≤ kj6) ∧ Aside0 (wc.heap[gb140]? = some (.cells #[.int .i64 ((rd_T65 l0 x4_2).f0), .string ((rd_T65 l0 x4_2).f1), .string ((rd_T65 l0 x4_2).f2), (.slice A139_3 ((rd_T65 l0 x4_2).f3).length c139_3)] 65 (0, 0))) ∧ Aside0 (Below w.heap.size w wc))
    case first =>
     have H := HC17.out
     clear HC17
     by_cases c18 : x4_2 = 0
     ·rw [if_pos c18] at H
      have c18b0 := beq_iff_eq.mpr c18
      have c18b1 := bne_eq_false_iff_eq.mpr c18
      clear c18
      (first | rw [c18b0] | (simp only [i64_w, i32_w]; rw [c18b0]) | skip)
      by_cases c19 : ((rd_T65 l0 x4_2).f0) = (-1)
      rotate_left
      ·rw [if_neg c19] at H
       have c19b0 := beq_eq_false_iff_ne.mpr c19
       have c19b1 := bne_iff_ne.mpr c19
       obtain rfl := Option.some.inj H
       obtain ⟨⟨hcz23_0, hcz23_1, hcz23_2, hcz23_3⟩, hfz23_0, hfz23_1, hfz23_2, hfz23_3⟩ := blkC4 BK140.out
       go_wp2
       go_ret
       exact ⟨dq27, dq33⟩
      rw [if_pos c19] at H
      have c19b0 := beq_iff_eq.mpr c19
      have c19b1 := bne_eq_false_iff_eq.mpr c19
      clear c19
      by_cases c20 : ((rd_T65 l0 x4_2).f1).toList = ([] : List UInt8)
      ·rw [if_pos c20] at H
       have c20b0 := beq_iff_eq.mpr c20
       have c20b1 := bne_eq_false_iff_eq.mpr c20
       clear c20
       obtain rfl := Option.some.inj H
       obtain ⟨⟨hcz21_0, hcz21_1, hcz21_2, hcz21_3⟩, hfz21_0, hfz21_1, hfz21_2, hfz21_3⟩ := blkC4 BK140.out
       go_wp2
       go_ret
       exact ⟨dq27, dq33⟩
      rw [if_neg c20] at H
      have c20b0 := beq_eq_false_iff_ne.mpr c20
      have c20b1 := bne_iff_ne.mpr c20
      have H' := Aside0.mk H
      clear H
      obtain ⟨⟨hcz22_0, hcz22_1, hcz22_2, hcz22_3⟩, hfz22_0, hfz22_1, hfz22_2, hfz22_3⟩ := blkC4 BK140.out
      go_wp2
      go_meet
      case rel => exact ⟨_, H', ⟨by have := HJ1.out; have := HK2.out; have := HJ6.out; first | omega | exact Nat.le_refl _⟩, ⟨dq34⟩, ⟨dq33⟩⟩
     rw [if_neg c18] at H
     have c18b0 := beq_eq_false_iff_ne.mpr c18
     have c18b1 := bne_iff_ne.mpr c18
     (first | rw [c18b0] | (simp only [i64_w, i32_w]; rw [c18b0]) | skip)
     replace H := Option.bind_eq_some_iff.mp H
     obtain ⟨t143, A240, H⟩ := H
     replace H : (if t143 = true then (if 0 ≤ ((rd_T65 l0 x4_2).f0) then (if ((rd_T65 l0 x4_2).f0) < (l0.length : Int) then (if ((rd_T65 l0 ((rd_T65 l0 x4_2).f0)).f1).toList = ([] : List UInt8) then (some false) else (spec_DocOk.j4 kj6 l0 x3_6 x4_2 ((rd_T65 l0 x4_2).f0) ((rd_T65 l0 x4_2).f1) ((rd_T65 l0 x4_2).f2) ((rd_T65 l0 x4_2).f3))) else (none)) else (none)) else (some false)) = some r := H
     have A24 := Aside0.mk A240
     clear A240
     by_cases c25 : t143 = true
     rotate_left
     ·replace c25 := Bool.eq_false_iff.mpr c25
      subst c25
      have H1 : (some false) = some r := by rw [if_neg (show ¬ (false = true) by decide)] at H; exact H
      clear H
      have H := H1
      clear H1
      obtain rfl := Option.some.inj H
      obtain ⟨⟨hcz31_0, hcz31_1, hcz31_2, hcz31_3⟩, hfz31_0, hfz31_1, hfz31_2, hfz31_3⟩ := blkC4 BK140.out
      go_wp2_with (first | (go_at_call 47; (with_reducible refine (spec_l1In.calls ((rd_T65 l0 x4_2).f0) 0 (wrap64 (x4_2 - 1)) false _ A24.out).mono ?_); rintro e w' ⟨rfl, ⟨nd, rfl⟩⟩; (try first | exact ⟨rfl, _, World.drewN_drewN _ _ _⟩ | exact ⟨rfl, _, Eq.trans (World.drewN_drewN _ _ _) (congrArg (World.drewN _) (Nat.add_assoc _ _ _))⟩)))
      go_ret
      exact ⟨dq27, dq33⟩
     subst c25
     have H1 : (if 0 ≤ ((rd_T65 l0 x4_2).f0) then (if ((rd_T65 l0 x4_2).f0) < (l0.length : Int) then (if ((rd_T65 l0 ((rd_T65 l0 x4_2).f0)).f1).toList = ([] : List UInt8) then (some false) else (spec_DocOk.j4 kj6 l0 x3_6 x4_2 ((rd_T65 l0 x4_2).f0) ((rd_T65 l0 x4_2).f1) ((rd_T65 l0 x4_2).f2) ((rd_T65 l0 x4_2).f3))) else (none)) else (none)) = some r := by rw [if_pos rfl] at H; exact H
     clear H
     have H := H1
     clear H1
     by_cases c26 : 0 ≤ ((rd_T65 l0 x4_2).f0)
     rotate_left
     ·rw [if_neg c26] at H
      exact absurd H dq20
     rw [if_pos c26] at H
     have c26b0 := decide_eq_true c26
     clear c26
     by_cases c27 : ((rd_T65 l0 x4_2).f0) < (l0.length : Int)
     rotate_left
     ·rw [if_neg c27] at H
      exact absurd H dq20
     rw [if_pos c27] at H
     have c27b0 := decide_eq_true c27
     clear c27
     by_cases c28 : ((rd_T65 l0 ((rd_T65 l0 x4_2).f0)).f1).toList = ([] : List UInt8)
     ·rw [if_pos c28] at H
      have c28b0 := beq_iff_eq.mpr c28
      have c28b1 := bne_eq_false_iff_eq.mpr c28
      clear c28
      obtain rfl := Option.some.inj H
      obtain ⟨⟨hcz29_0, hcz29_1, hcz29_2, hcz29_3⟩, hfz29_0, hfz29_1, hfz29_2, hfz29_3⟩ := blkC4 BK140.out
      go_wp2_with (first | (go_at_call 47; (with_reducible refine (spec_l1In.calls ((rd_T65 l0 x4_2).f0) 0 (wrap64 (x4_2 - 1)) true _ A24.out).mono ?_); rintro e w' ⟨rfl, ⟨nd, rfl⟩⟩; (try first | exact ⟨rfl, _, World.drewN_drewN _ _ _⟩ | exact ⟨rfl, _, Eq.trans (World.drewN_drewN _ _ _) (congrArg (World.drewN _) (Nat.add_assoc _ _ _))⟩); have p144 : 0 ≤ (((rd_T65 l0 x4_2).f0) : Int) := of_decide_eq_true dq18; have q144 : ((rd_T65 l0 x4_2).f0) < (l0.length : Int) := of_decide_eq_true dq18; obtain ⟨ad144, A144_3, c144_3, e144, hx144_0, hx144_1, hx144_2, hx144_3, hl144_3, hi144_3⟩ := at_T65 HR0.out ((rd_T65 l0 x4_2).f0) p144 q144; obtain rfl : ad139 = ad144 := (by injection e144); replace hx144_0 := (HB.out.cell (World.block_lt_of_cell? w _ hx144_0)).trans hx144_0; replace hx144_1 := (HB.out.cell (World.block_lt_of_cell? w _ hx144_1)).trans hx144_1; replace hx144_2 := (HB.out.cell (World.block_lt_of_cell? w _ hx144_2)).trans hx144_2; replace hx144_3 := (HB.out.cell (World.block_lt_of_cell? w _ hx144_3)).trans hx144_3; have HR144_3 := Aside0.mk hi144_3; have HC144_3 := Aside0.mk hl144_3; clear hi144_3 hl144_3; replace p144 := eq_true p144; replace q144 := eq_true q144))
      go_ret
      exact ⟨dq27, dq33⟩
     rw [if_neg c28] at H
     have c28b0 := beq_eq_false_iff_ne.mpr c28
     have c28b1 := bne_iff_ne.mpr c28
     have H' := Aside0.mk H
     clear H
     obtain ⟨⟨hcz30_0, hcz30_1, hcz30_2, hcz30_3⟩, hfz30_0, hfz30_1, hfz30_2, hfz30_3⟩ := blkC4 BK140.out
     go_wp2_with (first | (go_at_call 47; (with_reducible refine (spec_l1In.calls ((rd_T65 l0 x4_2).f0) 0 (wrap64 (x4_2 - 1)) true _ A24.out).mono ?_); rintro e w' ⟨rfl, ⟨nd, rfl⟩⟩; (try first | exact ⟨rfl, _, World.drewN_drewN _ _ _⟩ | exact ⟨rfl, _, Eq.trans (World.drewN_drewN _ _ _) (congrArg (World.drewN _) (Nat.add_assoc _ _ _))⟩); have p144 : 0 ≤ (((rd_T65 l0 x4_2).f0) : Int) := of_decide_eq_true dq18; have q144 : ((rd_T65 l0 x4_2).f0) < (l0.length : Int) := of_decide_eq_true dq18; obtain ⟨ad144, A144_3, c144_3, e144, hx144_0, hx144_1, hx144_2, hx144_3, hl144_3, hi144_3⟩ := at_T65 HR0.out ((rd_T65 l0 x4_2).f0) p144 q144; obtain rfl : ad139 = ad144 := (by injection e144); replace hx144_0 := (HB.out.cell (World.block_lt_of_cell? w _ hx144_0)).trans hx144_0; replace hx144_1 := (HB.out.cell (World.block_lt_of_cell? w _ hx144_1)).trans hx144_1; replace hx144_2 := (HB.out.cell (World.block_lt_of_cell? w _ hx144_2)).trans hx144_2; replace hx144_3 := (HB.out.cell (World.block_lt_of_cell? w _ hx144_3)).trans hx144_3; have HR144_3 := Aside0.mk hi144_3; have HC144_3 := Aside0.mk hl144_3; clear hi144_3 hl144_3; replace p144 := eq_true p144; replace q144 := eq_true q144))
     go_meet
     case rel => exact ⟨_, H', ⟨by have := HJ1.out; have := HK2.out; have := HJ6.out; first | omega | exact Nat.le_refl _⟩, ⟨dq34⟩, ⟨dq33⟩⟩
    clear HC17
    try clear c16b0
    obtain ⟨kq, HA, HJ16, BK140, HB⟩ := hcut
    cases kq with
    | zero => exact absurd HA.out (by simp [spec_DocOk.j4])
    | succ kj16 =>
     have H := HA.out
     clear HA
     simp only [spec_DocOk.j4] at H
     have HC32 := Aside0.mk H
     clear H
     go_upto_if 91 with (fail)
     go_cut [] (fun wc => ∃ (kq : Nat), Aside0 (spec_DocOk.j6 kq l0 x3_6 x4_2 ((rd_T65 l0 x4_2).f0) ((rd_T65 l0 x4_2).f1) ((rd_T65 l0 x4_2).f2) ((rd_T65 l0 x4_2).f3) = some r) ∧ Aside0 (kq ≤ kj16) ∧ Aside0 (wc.heap[gb140]? = some (.cells #[.int .i64 ((rd_T65 l0 x4_2).f0), .string ((rd_T65 l0 x4_2).f1), .string ((rd_T65 l0 x4_2).f2), (.slice A139_3 ((rd_T65 l0 x4_2).f3).length c139_3)] 65 (0, 0))) ∧ Aside0 (Below w.heap.size w wc))
     case first =>
      have H := HC32.out
      clear HC32
      by_cases c33 : x4_2 > 0
      rotate_left
      ·rw [if_neg c33] at H
       have c33b0 : decide (0 < x4_2) = false := decide_eq_false c33
       clear c33
       (first | rw [c33b0] | (simp only [i64_w, i32_w]; rw [c33b0]) | skip)
       have H' := Aside0.mk H
       clear H
       go_wp2
       go_meet
       case rel => exact ⟨_, H', ⟨by have := HJ1.out; have := HK2.out; have := HJ6.out; have := HJ16.out; first | omega | exact Nat.le_refl _⟩, ⟨dq34⟩, ⟨dq33⟩⟩
      rw [if_pos c33] at H
      have c33b0 : decide (0 < x4_2) = true := decide_eq_true c33
      clear c33
      (first | rw [c33b0] | (simp only [i64_w, i32_w]; rw [c33b0]) | skip)
      have H' := Aside0.mk H
      clear H
      go_wp2
      go_loopg [7] kj16 (fun kq v7 w' => ∃ (x7_5 : Int), v7 = .int .i64 x7_5 ∧ Aside0 (spec_DocOk.l2 kq l0 x3_6 x4_2 x7_5 ((rd_T65 l0 x4_2).f0) ((rd_T65 l0 x4_2).f1) ((rd_T65 l0 x4_2).f2) ((rd_T65 l0 x4_2).f3) = some r) ∧ Aside0 (kq ≤ kj16) ∧ Aside0 (w'.heap[gb140]? = some (.cells #[.int .i64 ((rd_T65 l0 x4_2).f0), .string ((rd_T65 l0 x4_2).f1), .string ((rd_T65 l0 x4_2).f2), (.slice A139_3 ((rd_T65 l0 x4_2).f3).length c139_3)] 65 (0, 0))) ∧ Aside0 (Below w.heap.size w w'))
      case atStart => exact ⟨(wrap64 (x4_2 - 1)), dq17, H', ⟨Nat.le_refl _⟩, ⟨dq34⟩, ⟨dq33⟩⟩
      clear H'
      try clear c33b0
      obtain ⟨x7_5, rfl, HA, HK5, BK140, HB⟩ := hrel
      cases gk with
      | zero => exact absurd HA.out (by simp [spec_DocOk.l2])
      | succ k5 =>
       have H := HA.out
       clear HA
       simp only [spec_DocOk.l2] at H
       by_cases c34 : x7_5 ≥ 0
       rotate_left
       ·rw [if_neg c34] at H
        have c34b0 : decide (0 ≤ x7_5) = false := decide_eq_false c34
        clear c34
        by_cases c42 : x7_5 < 0
        ·rw [if_pos c42] at H
         have c42b0 := decide_eq_true c42
         clear c42
         obtain rfl := Option.some.inj H
         go_wp2
         go_ret
         exact ⟨dq27, dq33⟩
        rw [if_neg c42] at H
        have c42b0 := decide_eq_false c42
        clear c42
        have H' := Aside0.mk H
        clear H
        go_wp2
        go_meet
        case rel => exact ⟨_, H', ⟨by have := HJ1.out; have := HK2.out; have := HJ6.out; have := HJ16.out; have := HK5.out; first | omega | exact Nat.le_refl _⟩, ⟨dq34⟩, ⟨dq33⟩⟩
       rw [if_pos c34] at H
       have c34b0 : decide (0 ≤ x7_5) = true := decide_eq_true c34
       clear c34
       by_cases c35 : x7_5 = ((rd_T65 l0 x4_2).f0)
       ·rw [if_pos c35] at H
        have c35b0 := beq_iff_eq.mpr c35
        have c35b1 := bne_eq_false_iff_eq.mpr c35
        clear c35
        by_cases c36 : x7_5 < 0
        ·rw [if_pos c36] at H
         have c36b0 := decide_eq_true c36
         clear c36
         obtain rfl := Option.some.inj H
         obtain ⟨⟨hcz37_0, hcz37_1, hcz37_2, hcz37_3⟩, hfz37_0, hfz37_1, hfz37_2, hfz37_3⟩ := blkC4 BK140.out
         go_wp2
         go_ret
         exact ⟨dq27, dq33⟩
        rw [if_neg c36] at H
        have c36b0 := decide_eq_false c36
        clear c36
        have H' := Aside0.mk H
        clear H
        obtain ⟨⟨hcz38_0, hcz38_1, hcz38_2, hcz38_3⟩, hfz38_0, hfz38_1, hfz38_2, hfz38_3⟩ := blkC4 BK140.out
        go_wp2
        go_meet
        case rel => exact ⟨_, H', ⟨by have := HJ1.out; have := HK2.out; have := HJ6.out; have := HJ16.out; have := HK5.out; first | omega | exact Nat.le_refl _⟩, ⟨dq34⟩, ⟨dq33⟩⟩
       rw [if_neg c35] at H
       have c35b0 := beq_eq_false_iff_ne.mpr c35
       have c35b1 := bne_iff_ne.mpr c35
       by_cases c39 : 0 ≤ x7_5
       rotate_left
       ·rw [if_neg c39] at H
        exact absurd H dq20
       rw [if_pos c39] at H
       have c39b0 := decide_eq_true c39
       clear c39
       by_cases c40 : x7_5 < (l0.length : Int)
       rotate_left
       ·rw [if_neg c40] at H
        exact absurd H dq20
       rw [if_pos c40] at H
       have c40b0 := decide_eq_true c40
       clear c40
       have H' := Aside0.mk H
       clear H
       obtain ⟨⟨hcz41_0, hcz41_1, hcz41_2, hcz41_3⟩, hfz41_0, hfz41_1, hfz41_2, hfz41_3⟩ := blkC4 BK140.out
       have p145 : 0 ≤ (x7_5 : Int) := of_decide_eq_true dq18
       have q145 : x7_5 < (l0.length : Int) := of_decide_eq_true dq18
       obtain ⟨ad145, A145_3, c145_3, e145, hx145_0, hx145_1, hx145_2, hx145_3, hl145_3, hi145_3⟩ := at_T65 HR0.out x7_5 p145 q145
       obtain rfl : ad139 = ad145 := (by injection e145)
       replace hx145_0 := (HB.out.cell (World.block_lt_of_cell? w _ hx145_0)).trans hx145_0
       replace hx145_1 := (HB.out.cell (World.block_lt_of_cell? w _ hx145_1)).trans hx145_1
       replace hx145_2 := (HB.out.cell (World.block_lt_of_cell? w _ hx145_2)).trans hx145_2
       replace hx145_3 := (HB.out.cell (World.block_lt_of_cell? w _ hx145_3)).trans hx145_3
       have HR145_3 := Aside0.mk hi145_3
       have HC145_3 := Aside0.mk hl145_3
       clear hi145_3 hl145_3
       replace p145 := eq_true p145
       replace q145 := eq_true q145
       go_wp2
       go_roundg k5
       case measure => have := HJ1.out; have := HK2.out; have := HJ6.out; have := HJ16.out; have := HK5.out; omega
       case rel => exact ⟨((rd_T65 l0 x7_5).f0), dq17, H', ⟨by have := HJ1.out; have := HK2.out; have := HJ6.out; have := HJ16.out; have := HK5.out; omega⟩, ⟨dq34⟩, ⟨dq33⟩⟩
     clear HC32
     obtain ⟨kq, HA, HJ31, BK140, HB⟩ := hcut
     cases kq with
     | zero => exact absurd HA.out (by simp [spec_DocOk.j6])
     | succ kj31 =>
      have H := HA.out
      clear HA
      simp only [spec_DocOk.j6] at H
      replace H := Option.bind_eq_some_iff.mp H
      obtain ⟨t146, A430, H⟩ := H
      replace H : (if t146 ≥ 20 then (some false) else (if ((rd_T65 l0 x4_2).f1).toList = ([] : List UInt8) then (if ((rd_T65 l0 x4_2).f2).toList = ([] : List UInt8) then (spec_DocOk.j7 kj31 l0 x3_6 x4_2 true ((rd_T65 l0 x4_2).f0) ((rd_T65 l0 x4_2).f1) ((rd_T65 l0 x4_2).f2) ((rd_T65 l0 x4_2).f3)) else (if (((rd_T65 l0 x4_2).f3).length : Int) > 0 then (spec_DocOk.j7 kj31 l0 x3_6 x4_2 true ((rd_T65 l0 x4_2).f0) ((rd_T65 l0 x4_2).f1) ((rd_T65 l0 x4_2).f2) ((rd_T65 l0 x4_2).f3)) else ((spec_l1Text.f kj31 ((rd_T65 l0 x4_2).f2)).bind fun t147 => (spec_DocOk.j7 kj31 l0 x3_6 x4_2 (!t147) ((rd_T65 l0 x4_2).f0) ((rd_T65 l0 x4_2).f1) ((rd_T65 l0 x4_2).f2) ((rd_T65 l0 x4_2).f3))))) else (if ((rd_T65 l0 x4_2).f2).toList = ([] : List UInt8) then ((spec_l1Qual.f kj31 ((rd_T65 l0 x4_2).f1)).bind fun t150 => (if t150 = true then ((spec_l2Attrs.f kj31 ((rd_T65 l0 x4_2).f3)).bind fun t151 => (if t151 = true then (spec_DocOk.l0 kj31 l0 x3_6 (wrap64 (x4_2 + 1))) else (some false))) else (some false))) else (some false)))) = some r := H
      have A43 := Aside0.mk A430
      clear A430
      by_cases c44 : t146 ≥ 20
      ·rw [if_pos c44] at H
       have c44b0 : decide (20 ≤ t146) = true := decide_eq_true c44
       clear c44
       obtain rfl := Option.some.inj H
       go_wp2_with (first | (go_at_call 85; (with_reducible refine (spec_l2Deep.calls kj31 _ _ l0 x4_2 t146 _ ?side1 ?side2 A43.out).mono ?_); (case side1 => exact dq1); (case side2 => exact HC0.out); rintro e w' ⟨rfl, ⟨nd, rfl⟩⟩; (try first | exact ⟨rfl, _, World.drewN_drewN _ _ _⟩ | exact ⟨rfl, _, Eq.trans (World.drewN_drewN _ _ _) (congrArg (World.drewN _) (Nat.add_assoc _ _ _))⟩)))
       go_ret
       exact ⟨dq27, dq33⟩
      rw [if_neg c44] at H
      have c44b0 : decide (20 ≤ t146) = false := decide_eq_false c44
      clear c44
      by_cases c45 : ((rd_T65 l0 x4_2).f1).toList = ([] : List UInt8)
      rotate_left
      ·rw [if_neg c45] at H
       have c45b0 := beq_eq_false_iff_ne.mpr c45
       have c45b1 := bne_iff_ne.mpr c45
       by_cases c63 : ((rd_T65 l0 x4_2).f2).toList = ([] : List UInt8)
       rotate_left
       ·rw [if_neg c63] at H
        have c63b0 := beq_eq_false_iff_ne.mpr c63
        have c63b1 := bne_iff_ne.mpr c63
        obtain rfl := Option.some.inj H
        go_wp2_with (first | (go_at_call 85; (with_reducible refine (spec_l2Deep.calls kj31 _ _ l0 x4_2 t146 _ ?side1 ?side2 A43.out).mono ?_); (case side1 => exact dq1); (case side2 => exact HC0.out); rintro e w' ⟨rfl, ⟨nd, rfl⟩⟩; (try first | exact ⟨rfl, _, World.drewN_drewN _ _ _⟩ | exact ⟨rfl, _, Eq.trans (World.drewN_drewN _ _ _) (congrArg (World.drewN _) (Nat.add_assoc _ _ _))⟩); obtain ⟨⟨hcz73_0, hcz73_1, hcz73_2, hcz73_3⟩, hfz73_0, hfz73_1, hfz73_2, hfz73_3⟩ := blkC4 BK140.out))
        go_ret
        exact ⟨dq27, dq33⟩
       rw [if_pos c63] at H
       have c63b0 := beq_iff_eq.mpr c63
       have c63b1 := bne_eq_false_iff_eq.mpr c63
       clear c63
       replace H := Option.bind_eq_some_iff.mp H
       obtain ⟨t150, A640, H⟩ := H
       replace H : (if t150 = true then ((spec_l2Attrs.f kj31 ((rd_T65 l0 x4_2).f3)).bind fun t151 => (if t151 = true then (spec_DocOk.l0 kj31 l0 x3_6 (wrap64 (x4_2 + 1))) else (some false))) else (some false)) = some r := H
       have A64 := Aside0.mk A640
       clear A640
       by_cases c65 : t150 = true
       rotate_left
       ·replace c65 := Bool.eq_false_iff.mpr c65
        subst c65
        have H1 : (some false) = some r := by rw [if_neg (show ¬ (false = true) by decide)] at H; exact H
        clear H
        have H := H1
        clear H1
        obtain rfl := Option.some.inj H
        go_wp2_with (first | (go_at_call 85; (with_reducible refine (spec_l2Deep.calls kj31 _ _ l0 x4_2 t146 _ ?side1 ?side2 A43.out).mono ?_); (case side1 => exact dq1); (case side2 => exact HC0.out); rintro e w' ⟨rfl, ⟨nd, rfl⟩⟩; (try first | exact ⟨rfl, _, World.drewN_drewN _ _ _⟩ | exact ⟨rfl, _, Eq.trans (World.drewN_drewN _ _ _) (congrArg (World.drewN _) (Nat.add_assoc _ _ _))⟩); obtain ⟨⟨hcz72_0, hcz72_1, hcz72_2, hcz72_3⟩, hfz72_0, hfz72_1, hfz72_2, hfz72_3⟩ := blkC4 BK140.out) | (go_at_call 87; (with_reducible refine (spec_l1Qual.calls kj31 ((rd_T65 l0 x4_2).f1) false _ A64.out).mono ?_); rintro e w' ⟨rfl, ⟨nd, rfl⟩⟩; (try first | exact ⟨rfl, _, World.drewN_drewN _ _ _⟩ | exact ⟨rfl, _, Eq.trans (World.drewN_drewN _ _ _) (congrArg (World.drewN _) (Nat.add_assoc _ _ _))⟩)))
        go_ret
        exact ⟨dq27, dq33⟩
       subst c65
       have H1 : ((spec_l2Attrs.f kj31 ((rd_T65 l0 x4_2).f3)).bind fun t151 => (if t151 = true then (spec_DocOk.l0 kj31 l0 x3_6 (wrap64 (x4_2 + 1))) else (some false))) = some r := by rw [if_pos rfl] at H; exact H
       clear H
       have H := H1
       clear H1
       replace H := Option.bind_eq_some_iff.mp H
       obtain ⟨t151, A660, H⟩ := H
       replace H : (if t151 = true then (spec_DocOk.l0 kj31 l0 x3_6 (wrap64 (x4_2 + 1))) else (some false)) = some r := H
       have A66 := Aside0.mk A660
       clear A660
       by_cases c67 : t151 = true
       rotate_left
       ·replace c67 := Bool.eq_false_iff.mpr c67
        subst c67
        have H1 : (some false) = some r := by rw [if_neg (show ¬ (false = true) by decide)] at H; exact H
        clear H
        have H := H1
        clear H1
        obtain rfl := Option.some.inj H
        go_wp2_with (first | (go_at_call 85; (with_reducible refine (spec_l2Deep.calls kj31 _ _ l0 x4_2 t146 _ ?side1 ?side2 A43.out).mono ?_); (case side1 => exact dq1); (case side2 => exact HC0.out); rintro e w' ⟨rfl, ⟨nd, rfl⟩⟩; (try first | exact ⟨rfl, _, World.drewN_drewN _ _ _⟩ | exact ⟨rfl, _, Eq.trans (World.drewN_drewN _ _ _) (congrArg (World.drewN _) (Nat.add_assoc _ _ _))⟩); obtain ⟨⟨hcz70_0, hcz70_1, hcz70_2, hcz70_3⟩, hfz70_0, hfz70_1, hfz70_2, hfz70_3⟩ := blkC4 BK140.out) | (go_at_call 87; (with_reducible refine (spec_l1Qual.calls kj31 ((rd_T65 l0 x4_2).f1) true _ A64.out).mono ?_); rintro e w' ⟨rfl, ⟨nd, rfl⟩⟩; (try first | exact ⟨rfl, _, World.drewN_drewN _ _ _⟩ | exact ⟨rfl, _, Eq.trans (World.drewN_drewN _ _ _) (congrArg (World.drewN _) (Nat.add_assoc _ _ _))⟩)) | (go_at_call 88; (with_reducible refine (spec_l2Attrs.calls kj31 _ _ ((rd_T65 l0 x4_2).f3) false _ ?side1 ?side2 A66.out).mono ?_); (case side1 => repeat (first | exact (Kd.C_below HR139_3.out dq33) | (with_reducible refine Kd.C_alloc ?_ _) | (with_reducible refine Kd.C_drewN ?_ _) | (with_reducible refine Kd.C_drew ?_))); (case side2 => exact HC139_3.out); rintro e w71 ⟨rfl, hb⟩; have n0_ := Aside0.mk (blk_below (g := gb140) (o := .cells #[.int .i64 ((rd_T65 l0 x4_2).f0), .string ((rd_T65 l0 x4_2).f1), .string ((rd_T65 l0 x4_2).f2), .slice A139_3 ((rd_T65 l0 x4_2).f3).length c139_3] 65 (0, 0)) dq34 hb); have n1_ := Aside0.mk (below_step dq33 hb); clear BK140; clear HB; have BK140 := n0_; have HB := n1_; clear n0_ n1_; (try clear hb); (try clear hb2); (try clear hk); (try clear hi)))
        go_ret
        exact ⟨dq27, dq33⟩
       subst c67
       have H1 : (spec_DocOk.l0 kj31 l0 x3_6 (wrap64 (x4_2 + 1))) = some r := by rw [if_pos rfl] at H; exact H
       clear H
       have H := H1
       clear H1
       have H' := Aside0.mk H
       clear H
       go_wp2_with (first | (go_at_call 85; (with_reducible refine (spec_l2Deep.calls kj31 _ _ l0 x4_2 t146 _ ?side1 ?side2 A43.out).mono ?_); (case side1 => exact dq1); (case side2 => exact HC0.out); rintro e w' ⟨rfl, ⟨nd, rfl⟩⟩; (try first | exact ⟨rfl, _, World.drewN_drewN _ _ _⟩ | exact ⟨rfl, _, Eq.trans (World.drewN_drewN _ _ _) (congrArg (World.drewN _) (Nat.add_assoc _ _ _))⟩); obtain ⟨⟨hcz68_0, hcz68_1, hcz68_2, hcz68_3⟩, hfz68_0, hfz68_1, hfz68_2, hfz68_3⟩ := blkC4 BK140.out) | (go_at_call 87; (with_reducible refine (spec_l1Qual.calls kj31 ((rd_T65 l0 x4_2).f1) true _ A64.out).mono ?_); rintro e w' ⟨rfl, ⟨nd, rfl⟩⟩; (try first | exact ⟨rfl, _, World.drewN_drewN _ _ _⟩ | exact ⟨rfl, _, Eq.trans (World.drewN_drewN _ _ _) (congrArg (World.drewN _) (Nat.add_assoc _ _ _))⟩)) | (go_at_call 88; (with_reducible refine (spec_l2Attrs.calls kj31 _ _ ((rd_T65 l0 x4_2).f3) true _ ?side1 ?side2 A66.out).mono ?_); (case side1 => repeat (first | exact (Kd.C_below HR139_3.out dq33) | (with_reducible refine Kd.C_alloc ?_ _) | (with_reducible refine Kd.C_drewN ?_ _) | (with_reducible refine Kd.C_drew ?_))); (case side2 => exact HC139_3.out); rintro e w69 ⟨rfl, hb⟩; have n0_ := Aside0.mk (blk_below (g := gb140) (o := .cells #[.int .i64 ((rd_T65 l0 x4_2).f0), .string ((rd_T65 l0 x4_2).f1), .string ((rd_T65 l0 x4_2).f2), .slice A139_3 ((rd_T65 l0 x4_2).f3).length c139_3] 65 (0, 0)) dq34 hb); have n1_ := Aside0.mk (below_step dq33 hb); clear BK140; clear HB; have BK140 := n0_; have HB := n1_; clear n0_ n1_; (try clear hb); (try clear hb2); (try clear hk); (try clear hi)))
       go_roundg kj31
       case measure => have := HJ1.out; have := HK2.out; have := HJ6.out; have := HJ16.out; have := HJ31.out; omega
       case rel => exact ⟨(x3_6), (wrap64 (x4_2 + 1)), dq17, dq17, H', ⟨by have := HJ1.out; have := HK2.out; have := HJ6.out; have := HJ16.out; have := HJ31.out; omega⟩, ⟨dq33⟩⟩
      rw [if_pos c45] at H
      have c45b0 := beq_iff_eq.mpr c45
      have c45b1 := bne_eq_false_iff_eq.mpr c45
      clear c45
      have HC46 := Aside0.mk H
      clear H
      go_upto_region 29 with (first | (go_at_call 85; (with_reducible refine (spec_l2Deep.calls kj31 _ _ l0 x4_2 t146 _ ?side1 ?side2 A43.out).mono ?_); (case side1 => exact dq1); (case side2 => exact HC0.out); rintro e w' ⟨rfl, ⟨nd, rfl⟩⟩; (try first | exact ⟨rfl, _, World.drewN_drewN _ _ _⟩ | exact ⟨rfl, _, Eq.trans (World.drewN_drewN _ _ _) (congrArg (World.drewN _) (Nat.add_assoc _ _ _))⟩); obtain ⟨⟨hcz47_0, hcz47_1, hcz47_2, hcz47_3⟩, hfz47_0, hfz47_1, hfz47_2, hfz47_3⟩ := blkC4 BK140.out))
      (try simp only [Act.put, List.setIfInBounds_toArray, List.set_cons_zero, List.set_cons_succ])
      go_cut [130] (fun v130 wc => ∃ (kq : Nat) (x130_45 : Bool), v130 = .bool x130_45 ∧ Aside0 (spec_DocOk.j7 kq l0 x3_6 x4_2 x130_45 ((rd_T65 l0 x4_2).f0) ((rd_T65 l0 x4_2).f1) ((rd_T65 l0 x4_2).f2) ((rd_T65 l0 x4_2).f3) = some r) ∧ Aside0 (kq ≤ kj31) ∧ Aside0 (wc.heap[gb140]? = some (.cells #[.int .i64 ((rd_T65 l0 x4_2).f0), .string ((rd_T65 l0 x4_2).f1), .string ((rd_T65 l0 x4_2).f2), (.slice A139_3 ((rd_T65 l0 x4_2).f3).length c139_3)] 65 (0, 0))) ∧ Aside0 (Below w.heap.size w wc))
      case first =>
       have H := HC46.out
       clear HC46
       by_cases c48 : ((rd_T65 l0 x4_2).f2).toList = ([] : List UInt8)
       ·rw [if_pos c48] at H
        have c48b0 := beq_iff_eq.mpr c48
        have c48b1 := bne_eq_false_iff_eq.mpr c48
        clear c48
        (first | rw [c48b0] | (simp only [i64_w, i32_w]; rw [c48b0]) | skip)
        have H' := Aside0.mk H
        clear H
        obtain ⟨⟨hcz49_0, hcz49_1, hcz49_2, hcz49_3⟩, hfz49_0, hfz49_1, hfz49_2, hfz49_3⟩ := blkC4 BK140.out
        go_wp2
        go_meet
        case rel => exact ⟨_, (true), dq17, H', ⟨dq36⟩, ⟨dq34⟩, ⟨dq33⟩⟩
       rw [if_neg c48] at H
       have c48b0 := beq_eq_false_iff_ne.mpr c48
       have c48b1 := bne_iff_ne.mpr c48
       (first | rw [c48b0] | (simp only [i64_w, i32_w]; rw [c48b0]) | skip)
       by_cases c50 : (((rd_T65 l0 x4_2).f3).length : Int) > 0
       ·rw [if_pos c50] at H
        have c50b0 : decide (0 < (((rd_T65 l0 x4_2).f3).length : Int)) = true := decide_eq_true c50
        have c50b1 : decide (0 < ((rd_T65 l0 x4_2).f3).length) = true := decide_eq_true dq23
        clear c50
        have H' := Aside0.mk H
        clear H
        obtain ⟨⟨hcz51_0, hcz51_1, hcz51_2, hcz51_3⟩, hfz51_0, hfz51_1, hfz51_2, hfz51_3⟩ := blkC4 BK140.out
        go_wp2
        go_meet
        case rel => exact ⟨_, (true), dq17, H', ⟨dq36⟩, ⟨dq34⟩, ⟨dq33⟩⟩
       rw [if_neg c50] at H
       have c50b0 : decide (0 < (((rd_T65 l0 x4_2).f3).length : Int)) = false := decide_eq_false c50
       have c50b1 : decide (0 < ((rd_T65 l0 x4_2).f3).length) = false := decide_eq_false dq23
       clear c50
       replace H := Option.bind_eq_some_iff.mp H
       obtain ⟨t147, A520, H⟩ := H
       replace H : (spec_DocOk.j7 kj31 l0 x3_6 x4_2 (!t147) ((rd_T65 l0 x4_2).f0) ((rd_T65 l0 x4_2).f1) ((rd_T65 l0 x4_2).f2) ((rd_T65 l0 x4_2).f3)) = some r := H
       have A52 := Aside0.mk A520
       clear A520
       have H' := Aside0.mk H
       clear H
       obtain ⟨⟨hcz53_0, hcz53_1, hcz53_2, hcz53_3⟩, hfz53_0, hfz53_1, hfz53_2, hfz53_3⟩ := blkC4 BK140.out
       go_wp2_with (first | (go_at_call 86; (with_reducible refine (spec_l1Text.calls kj31 ((rd_T65 l0 x4_2).f2) t147 _ A52.out).mono ?_); rintro e w54 ⟨rfl, hb⟩; have n0_ := Aside0.mk (blk_below (g := gb140) (o := .cells #[.int .i64 ((rd_T65 l0 x4_2).f0), .string ((rd_T65 l0 x4_2).f1), .string ((rd_T65 l0 x4_2).f2), .slice A139_3 ((rd_T65 l0 x4_2).f3).length c139_3] 65 (0, 0)) dq34 hb); have n1_ := Aside0.mk (below_step dq33 hb); clear BK140; clear HB; have BK140 := n0_; have HB := n1_; clear n0_ n1_; (try clear hb); (try clear hb2); (try clear hk); (try clear hi)))
       go_meet
       case rel => exact ⟨_, (!t147), dq17, H', ⟨dq36⟩, ⟨dq34⟩, ⟨dq33⟩⟩
      clear HC46
      try clear c44b0
      try clear c45b0
      try clear c45b1
      try clear hcz47_0
      try clear hcz47_1
      try clear hcz47_2
      try clear hcz47_3
      try clear hfz47_0
      try clear hfz47_1
      try clear hfz47_2
      try clear hfz47_3
      obtain ⟨kq, x130_45, rfl, HA, HJ45, BK140, HB⟩ := hcut
      cases kq with
      | zero => exact absurd HA.out (by simp [spec_DocOk.j7])
      | succ kj45 =>
       have H := HA.out
       clear HA
       simp only [spec_DocOk.j7] at H
       by_cases c55 : x130_45 = true
       ·subst c55
        have H1 : (some false) = some r := by rw [if_pos rfl] at H; exact H
        clear H
        have H := H1
        clear H1
        obtain rfl := Option.some.inj H
        go_wp2
        go_ret
        exact ⟨dq27, dq33⟩
       replace c55 := Bool.eq_false_iff.mpr c55
       subst c55
       have H1 : (if 0 ≤ (wrap64 (x4_2 - 1)) then (if (wrap64 (x4_2 - 1)) < (l0.length : Int) then (if ((rd_T65 l0 (wrap64 (x4_2 - 1))).f1).toList = ([] : List UInt8) then (if ((rd_T65 l0 (wrap64 (x4_2 - 1))).f0) = ((rd_T65 l0 x4_2).f0) then (some false) else (spec_DocOk.l0 kj45 l0 x3_6 (wrap64 (x4_2 + 1)))) else (spec_DocOk.l0 kj45 l0 x3_6 (wrap64 (x4_2 + 1)))) else (none)) else (none)) = some r := by rw [if_neg (show ¬ (false = true) by decide)] at H; exact H
       clear H
       have H := H1
       clear H1
       obtain ⟨ji56, hji56⟩ : ∃ j_ : Int, (wrap64 (x4_2 - 1)) = j_ := ⟨_, rfl⟩
       replace H : (if 0 ≤ (ji56) then (if (ji56) < (l0.length : Int) then (if ((rd_T65 l0 (ji56)).f1).toList = ([] : List UInt8) then (if ((rd_T65 l0 (ji56)).f0) = ((rd_T65 l0 x4_2).f0) then (some false) else (spec_DocOk.l0 kj45 l0 x3_6 (wrap64 (x4_2 + 1)))) else (spec_DocOk.l0 kj45 l0 x3_6 (wrap64 (x4_2 + 1)))) else (none)) else (none)) = some r := by first | (rw [hji56] at H; exact H) | (simp only [hji56] at H ⊢; exact H)
       have hji56w : (IntKind.i64.wrap (x4_2 - 1)) = ji56 := (i64_w _).trans hji56
       by_cases c57 : 0 ≤ (ji56)
       rotate_left
       ·rw [if_neg c57] at H
        exact absurd H dq20
       rw [if_pos c57] at H
       have c57b0 := decide_eq_true c57
       clear c57
       by_cases c58 : (ji56) < (l0.length : Int)
       rotate_left
       ·rw [if_neg c58] at H
        exact absurd H dq20
       rw [if_pos c58] at H
       have c58b0 := decide_eq_true c58
       clear c58
       by_cases c59 : ((rd_T65 l0 (ji56)).f1).toList = ([] : List UInt8)
       rotate_left
       ·rw [if_neg c59] at H
        have c59b0 := beq_eq_false_iff_ne.mpr c59
        have c59b1 := bne_iff_ne.mpr c59
        have H' := Aside0.mk H
        clear H
        have p148 : 0 ≤ ((ji56) : Int) := of_decide_eq_true dq18
        have q148 : (ji56) < (l0.length : Int) := of_decide_eq_true dq18
        obtain ⟨ad148, A148_3, c148_3, e148, hx148_0, hx148_1, hx148_2, hx148_3, hl148_3, hi148_3⟩ := at_T65 HR0.out (ji56) p148 q148
        obtain rfl : ad139 = ad148 := (by injection e148)
        replace hx148_0 := (HB.out.cell (World.block_lt_of_cell? w _ hx148_0)).trans hx148_0
        replace hx148_1 := (HB.out.cell (World.block_lt_of_cell? w _ hx148_1)).trans hx148_1
        replace hx148_2 := (HB.out.cell (World.block_lt_of_cell? w _ hx148_2)).trans hx148_2
        replace hx148_3 := (HB.out.cell (World.block_lt_of_cell? w _ hx148_3)).trans hx148_3
        have HR148_3 := Aside0.mk hi148_3
        have HC148_3 := Aside0.mk hl148_3
        clear hi148_3 hl148_3
        replace p148 := eq_true p148
        replace q148 := eq_true q148
        go_wp2
        repeat (go_quiet (fail); try go_wp2)
        go_roundg kj45
        case measure => have := HJ1.out; have := HK2.out; have := HJ6.out; have := HJ16.out; have := HJ31.out; have := HJ45.out; omega
        case rel => exact ⟨(x3_6), (wrap64 (x4_2 + 1)), dq17, dq17, H', ⟨by have := HJ1.out; have := HK2.out; have := HJ6.out; have := HJ16.out; have := HJ31.out; have := HJ45.out; omega⟩, ⟨dq33⟩⟩
       rw [if_pos c59] at H
       have c59b0 := beq_iff_eq.mpr c59
       have c59b1 := bne_eq_false_iff_eq.mpr c59
       clear c59
       by_cases c60 : ((rd_T65 l0 (ji56)).f0) = ((rd_T65 l0 x4_2).f0)
       ·rw [if_pos c60] at H
        have c60b0 := beq_iff_eq.mpr c60
        have c60b1 := bne_eq_false_iff_eq.mpr c60
        clear c60
        obtain rfl := Option.some.inj H
        have p148 : 0 ≤ ((ji56) : Int) := of_decide_eq_true dq18
        have q148 : (ji56) < (l0.length : Int) := of_decide_eq_true dq18
        obtain ⟨ad148, A148_3, c148_3, e148, hx148_0, hx148_1, hx148_2, hx148_3, hl148_3, hi148_3⟩ := at_T65 HR0.out (ji56) p148 q148
        obtain rfl : ad139 = ad148 := (by injection e148)
        replace hx148_0 := (HB.out.cell (World.block_lt_of_cell? w _ hx148_0)).trans hx148_0
        replace hx148_1 := (HB.out.cell (World.block_lt_of_cell? w _ hx148_1)).trans hx148_1
        replace hx148_2 := (HB.out.cell (World.block_lt_of_cell? w _ hx148_2)).trans hx148_2
        replace hx148_3 := (HB.out.cell (World.block_lt_of_cell? w _ hx148_3)).trans hx148_3
        have HR148_3 := Aside0.mk hi148_3
        have HC148_3 := Aside0.mk hl148_3
        clear hi148_3 hl148_3
        replace p148 := eq_true p148
        replace q148 := eq_true q148
        have p149 : 0 ≤ ((ji56) : Int) := of_decide_eq_true dq18
        have q149 : (ji56) < (l0.length : Int) := of_decide_eq_true dq18
        obtain ⟨ad149, A149_3, c149_3, e149, hx149_0, hx149_1, hx149_2, hx149_3, hl149_3, hi149_3⟩ := at_T65 HR0.out (ji56) p149 q149
        obtain rfl : ad139 = ad149 := (by injection e149)
        replace hx149_0 := (HB.out.cell (World.block_lt_of_cell? w _ hx149_0)).trans hx149_0
        replace hx149_1 := (HB.out.cell (World.block_lt_of_cell? w _ hx149_1)).trans hx149_1
        replace hx149_2 := (HB.out.cell (World.block_lt_of_cell? w _ hx149_2)).trans hx149_2
        replace hx149_3 := (HB.out.cell (World.block_lt_of_cell? w _ hx149_3)).trans hx149_3
        have HR149_3 := Aside0.mk hi149_3
        have HC149_3 := Aside0.mk hl149_3
        clear hi149_3 hl149_3
        replace p149 := eq_true p149
        replace q149 := eq_true q149
        have ea_ := Option.some.inj (hx148_3.symm.trans hx149_3)
        injection ea_ with ea_ en_ ec_
        subst ea_
        subst ec_
        clear en_
        obtain ⟨⟨hcz61_0, hcz61_1, hcz61_2, hcz61_3⟩, hfz61_0, hfz61_1, hfz61_2, hfz61_3⟩ := blkC4 BK140.out
        go_wp2
        repeat (go_quiet (fail); try go_wp2)
        go_ret
        exact ⟨by first | rfl | (simp [errW_none, errW_some] <;> rfl) | (simp only [← hji56]; first | rfl | (simp [errW_none, errW_some] <;> rfl)) | (simp [*, errW_none, errW_some] <;> rfl), dq33⟩
       rw [if_neg c60] at H
       have c60b0 := beq_eq_false_iff_ne.mpr c60
       have c60b1 := bne_iff_ne.mpr c60
       have H' := Aside0.mk H
       clear H
       have p148 : 0 ≤ ((ji56) : Int) := of_decide_eq_true dq18
       have q148 : (ji56) < (l0.length : Int) := of_decide_eq_true dq18
       obtain ⟨ad148, A148_3, c148_3, e148, hx148_0, hx148_1, hx148_2, hx148_3, hl148_3, hi148_3⟩ := at_T65 HR0.out (ji56) p148 q148
       obtain rfl : ad139 = ad148 := (by injection e148)
       replace hx148_0 := (HB.out.cell (World.block_lt_of_cell? w _ hx148_0)).trans hx148_0
       replace hx148_1 := (HB.out.cell (World.block_lt_of_cell? w _ hx148_1)).trans hx148_1
       replace hx148_2 := (HB.out.cell (World.block_lt_of_cell? w _ hx148_2)).trans hx148_2
       replace hx148_3 := (HB.out.cell (World.block_lt_of_cell? w _ hx148_3)).trans hx148_3
       have HR148_3 := Aside0.mk hi148_3
       have HC148_3 := Aside0.mk hl148_3
       clear hi148_3 hl148_3
       replace p148 := eq_true p148
       replace q148 := eq_true q148
       have p149 : 0 ≤ ((ji56) : Int) := of_decide_eq_true dq18
       have q149 : (ji56) < (l0.length : Int) := of_decide_eq_true dq18
       obtain ⟨ad149, A149_3, c149_3, e149, hx149_0, hx149_1, hx149_2, hx149_3, hl149_3, hi149_3⟩ := at_T65 HR0.out (ji56) p149 q149
       obtain rfl : ad139 = ad149 := (by injection e149)
       replace hx149_0 := (HB.out.cell (World.block_lt_of_cell? w _ hx149_0)).trans hx149_0
       replace hx149_1 := (HB.out.cell (World.block_lt_of_cell? w _ hx149_1)).trans hx149_1
       replace hx149_2 := (HB.out.cell (World.block_lt_of_cell? w _ hx149_2)).trans hx149_2
       replace hx149_3 := (HB.out.cell (World.block_lt_of_cell? w _ hx149_3)).trans hx149_3
       have HR149_3 := Aside0.mk hi149_3
       have HC149_3 := Aside0.mk hl149_3
       clear hi149_3 hl149_3
       replace p149 := eq_true p149
       replace q149 := eq_true q149
       have ea_ := Option.some.inj (hx148_3.symm.trans hx149_3)
       injection ea_ with ea_ en_ ec_
       subst ea_
       subst ec_
       clear en_
       obtain ⟨⟨hcz62_0, hcz62_1, hcz62_2, hcz62_3⟩, hfz62_0, hfz62_1, hfz62_2, hfz62_3⟩ := blkC4 BK140.out
       go_wp2
       repeat (go_quiet (fail); try go_wp2)
       go_roundg kj45
       case measure => have := HJ1.out; have := HK2.out; have := HJ6.out; have := HJ16.out; have := HJ31.out; have := HJ45.out; omega
       case rel => exact ⟨(x3_6), (wrap64 (x4_2 + 1)), dq17, dq17, H', ⟨by have := HJ1.out; have := HK2.out; have := HJ6.out; have := HJ16.out; have := HJ31.out; have := HJ45.out; omega⟩, ⟨dq33⟩⟩

/-! ### spec_l11Steps: function 90 -/
mutual
def spec_l11Steps.j0 : Nat → ByteArray → Bool → Option (List ByteArray × Bool × Bool)
 | 0, _, _ => none
 | k + 1, x0, x5 => if x5 = true then (if 2 ≤ (x0.size : Int) then (spec_l11Steps.j1 k (x0.extract 2 x0.size) x5) else (none)) else (spec_l11Steps.j1 k x0 x5)
def spec_l11Steps.j1 : Nat → ByteArray → Bool → Option (List ByteArray × Bool × Bool)
 | 0, _, _ => none
 | k + 1, x0, x5 => spec_l11Steps.l0 k x0 x5 (([] : List ByteArray)) (⟨#[]⟩ : ByteArray) 0
def spec_l11Steps.l0 : Nat → ByteArray → Bool → List ByteArray → ByteArray → Int → Option (List ByteArray × Bool × Bool)
 | 0, _, _, _, _, _ => none
 | k + 1, x0, x5, x6, x7, x8 => if x8 ≤ (x0.size : Int) then (if x8 < (x0.size : Int) then (if 0 ≤ x8 then (spec_l11Steps.j3 k x0 x5 x6 x7 x8 ((bt x0 x8) != 47)) else (none)) else (spec_l11Steps.j3 k x0 x5 x6 x7 x8 false)) else (some (x6, x5, decide ((x6.length : Int) ≤ 6)))
def spec_l11Steps.j3 : Nat → ByteArray → Bool → List ByteArray → ByteArray → Int → Bool → Option (List ByteArray × Bool × Bool)
 | 0, _, _, _, _, _, _ => none
 | k + 1, x0, x5, x6, x7, x8, x36 => if x36 = true then (if 0 ≤ x8 then (if x8 ≤ (wrap64 (x8 + 1)) then (if (wrap64 (x8 + 1)) ≤ (x0.size : Int) then (if x7.size + (x0.extract (x8 : Int).toNat ((wrap64 (x8 + 1)) : Int).toNat).size ≤ 9223372036854775807 then (spec_l11Steps.l0 k x0 x5 x6 (x7 ++ (x0.extract (x8 : Int).toNat ((wrap64 (x8 + 1)) : Int).toNat)) (wrap64 (x8 + 1))) else (none)) else (none)) else (none)) else (none)) else ((spec_NameOk.f k x7).bind fun t155 => (if t155 = true then (if x6.length < 8796093022208 then (spec_l11Steps.l0 k x0 x5 (x6 ++ [x7]) (⟨#[]⟩ : ByteArray) (wrap64 (x8 + 1))) else (none)) else (some (([] : List ByteArray), false, false))))
end
def spec_l11Steps.f (k : Nat) (a0 : ByteArray) : Option (List ByteArray × Bool × Bool) := if (a0.size : Int) > 2 then (if 0 ≤ 2 then (if 2 ≤ (a0.size : Int) then (spec_l11Steps.j0 k a0 ((a0.extract 0 2).toList == ([47, 47] : List UInt8))) else (none)) else (none)) else (spec_l11Steps.j0 k a0 false)
set_option maxHeartbeats 8000000 in
set_option maxRecDepth 100000 in
theorem spec_l11Steps.calls (k : Nat) (a0 : ByteArray) (r1 : List ByteArray) (r2 : Bool) (r3 : Bool) (w : World) (h : spec_l11Steps.f k a0 = some (r1, r2, r3)) :
  Calls Tryz.prog 90 #[.string a0] w fun e w' => ∃ v0_ : Value, e = .returned (.tuple #[v0_, .bool r2, .bool r3]) ∧ Kd.R Kd.string 9 w' w.heap.size (fun _ => True) v0_ r1 ∧ Below w.heap.size w w' := by
 have HB := Aside0.mk (Below.refl w.heap.size w)
 have H : (if (a0.size : Int) > 2 then (if 0 ≤ 2 then (if 2 ≤ (a0.size : Int) then (spec_l11Steps.j0 k a0 ((a0.extract 0 2).toList == ([47, 47] : List UInt8))) else (none)) else (none)) else (spec_l11Steps.j0 k a0 false)) = some (r1, r2, r3) := h
 clear h
 have HC2 := Aside0.mk H
 clear H
 go_enter Tryz.func90, Tryz.ntmps90
 go_upto_region 1 with (fail)
 go_cut [5] (fun v5 wc => ∃ (kq : Nat) (x5_1 : Bool), v5 = .bool x5_1 ∧ Aside0 (spec_l11Steps.j0 kq a0 x5_1 = some (r1, r2, r3)) ∧ Aside0 (kq ≤ k) ∧ Aside0 (Below w.heap.size w wc))
 case first =>
  have H := HC2.out
  clear HC2
  by_cases c3 : (a0.size : Int) > 2
  rotate_left
  ·rw [if_neg c3] at H
   have c3b0 : decide (2 < (a0.size : Int)) = false := decide_eq_false c3
   have c3b1 : decide (2 < a0.size) = false := decide_eq_false dq23
   clear c3
   (first | rw [c3b0] | (simp only [i64_w, i32_w]; rw [c3b0]) | skip)
   have H' := Aside0.mk H
   clear H
   go_wp2
   go_meet
   case rel => exact ⟨_, (false), dq17, H', ⟨dq24⟩, ⟨dq25⟩⟩
  rw [if_pos c3] at H
  have c3b0 : decide (2 < (a0.size : Int)) = true := decide_eq_true c3
  have c3b1 : decide (2 < a0.size) = true := decide_eq_true dq23
  clear c3
  (first | rw [c3b0] | (simp only [i64_w, i32_w]; rw [c3b0]) | skip)
  by_cases c4 : 0 ≤ 2
  rotate_left
  ·rw [if_neg c4] at H
   exact absurd H dq20
  rw [if_pos c4] at H
  have c4b0 := eq_true c4
  have c4b1 := decide_eq_true c4
  clear c4
  by_cases c5 : 2 ≤ (a0.size : Int)
  rotate_left
  ·rw [if_neg c5] at H
   exact absurd H dq20
  rw [if_pos c5] at H
  have c5b0 := eq_true c5
  have c5b1 := decide_eq_true c5
  clear c5
  have H' := Aside0.mk H
  clear H
  go_wp2
  go_meet
  case rel => exact ⟨_, (((a0.extract 0 2).toList == ([47, 47] : List UInt8))), dq17, H', ⟨dq24⟩, ⟨dq25⟩⟩
 clear HC2
 obtain ⟨kq, x5_1, rfl, HA, HJ1, HB⟩ := hcut
 cases kq with
 | zero => exact absurd HA.out (by simp [spec_l11Steps.j0])
 | succ kj1 =>
  have H := HA.out
  clear HA
  simp only [spec_l11Steps.j0] at H
  have HC6 := Aside0.mk H
  clear H
  go_upto_if 17 with (fail)
  go_cut [0] (fun v0 wc => ∃ (kq : Nat) (x0_5 : ByteArray), v0 = .string x0_5 ∧ Aside0 (spec_l11Steps.j1 kq x0_5 x5_1 = some (r1, r2, r3)) ∧ Aside0 (kq ≤ kj1) ∧ Aside0 (Below w.heap.size w wc))
  case first =>
   have H := HC6.out
   clear HC6
   by_cases c7 : x5_1 = true
   rotate_left
   ·replace c7 := Bool.eq_false_iff.mpr c7
    subst c7
    have H1 : (spec_l11Steps.j1 kj1 a0 false) = some (r1, r2, r3) := by rw [if_neg (show ¬ (false = true) by decide)] at H; exact H
    clear H
    have H := H1
    clear H1
    have H' := Aside0.mk H
    clear H
    go_wp2
    go_meet
    case rel => exact ⟨_, (a0), dq17, H', ⟨by have := HJ1.out; first | omega | exact Nat.le_refl _⟩, ⟨dq25⟩⟩
   subst c7
   have H1 : (if 2 ≤ (a0.size : Int) then (spec_l11Steps.j1 kj1 (a0.extract 2 a0.size) true) else (none)) = some (r1, r2, r3) := by rw [if_pos rfl] at H; exact H
   clear H
   have H := H1
   clear H1
   by_cases c8 : 2 ≤ (a0.size : Int)
   rotate_left
   ·rw [if_neg c8] at H
    exact absurd H dq20
   rw [if_pos c8] at H
   have c8b0 := eq_true c8
   have c8b1 := decide_eq_true c8
   clear c8
   have H' := Aside0.mk H
   clear H
   go_wp2
   go_meet
   case rel => exact ⟨_, (a0.extract 2 a0.size), dq17, H', ⟨by have := HJ1.out; first | omega | exact Nat.le_refl _⟩, ⟨dq25⟩⟩
  clear HC6
  obtain ⟨kq, x0_5, rfl, HA, HJ5, HB⟩ := hcut
  cases kq with
  | zero => exact absurd HA.out (by simp [spec_l11Steps.j1])
  | succ kj5 =>
   have H := HA.out
   clear HA
   simp only [spec_l11Steps.j1] at H
   obtain ⟨y152, hy152⟩ : ∃ y_ : List ByteArray, y_ = (([] : List ByteArray)) := ⟨_, rfl⟩
   replace H : (spec_l11Steps.l0 kj5 x0_5 x5_1 y152 (⟨#[]⟩ : ByteArray) 0) = some (r1, r2, r3) := by first | (rw [hy152]; with_reducible exact H) | (have H2_ := (Option.bind_some _ _).symm.trans H; rw [hy152]; with_reducible exact H2_) | (have H2_ := (Option.bind_some _ _).symm.trans H; with_reducible exact H2_) | with_reducible exact H | (rw [hy152]; exact H) | exact H
   have Ny152 := Aside0.mk hy152
   clear hy152
   have H' := Aside0.mk H
   clear H
   go_wp2_with (first | ((with_reducible refine gate_dst (N := 20) rfl ?_); refine Kd.R_lit Kd.string _ 9 ?hg (N := 20) ?hd (xs := ([] : List ByteArray)) (inner := []) (ok := fun _ => True) (okp := fun _ => True) ?hr ?hp (fun _ hk => hk) trivial (Below.refl _ _) (Nat.le_refl _) dq20 ?_; (case hd => rfl); (case hg => rfl); (case hr => exact dq0); (case hp => exact (Reps.none _ _)); intro v153 w9 ho10 hb hg_ hnew_; clear hg_ hnew_; (first | rw [← Ny152.out] at ho10 | (simp only [Int.reduceToNat] at ho10; rw [← Ny152.out] at ho10)); have n0_ := Aside0.mk (Kd.R_lower ho10 (below_size dq25)); have n1_ := Aside0.mk (below_step dq25 hb); clear HB; have HO154 := n0_; have HB := n1_; clear n0_ n1_; clear hb ho10))
   go_loopg [6, 7, 8] kj5 (fun kq v6 v7 v8 w' => ∃ (x6_3 : List ByteArray) (x7_3 : ByteArray) (x8_3 : Int), v7 = .string x7_3 ∧ v8 = .int .i64 x8_3 ∧ Aside0 (spec_l11Steps.l0 kq x0_5 x5_1 x6_3 x7_3 x8_3 = some (r1, r2, r3)) ∧ Aside0 (kq ≤ kj5) ∧ Aside0 (Kd.R Kd.string 9 w' w.heap.size (fun _ => True) v6 x6_3) ∧ Aside0 (Below w.heap.size w w'))
   case atStart => exact ⟨(y152), ((⟨#[]⟩ : ByteArray)), (0), dq17, dq17, H', ⟨Nat.le_refl _⟩, ⟨by (with_reducible repeat (first | apply Kd.R_alloc | apply Kd.R_drewN | apply Kd.R_drew)); exact HO154.out⟩, ⟨dq25⟩⟩
   clear H'
   obtain ⟨x6_3, x7_3, x8_3, rfl, rfl, HA, HK3, HO_6, HB⟩ := hrel
   cases gk with
   | zero => exact absurd HA.out (by simp [spec_l11Steps.l0])
   | succ k3 =>
    have H := HA.out
    clear HA
    simp only [spec_l11Steps.l0] at H
    by_cases c11 : x8_3 ≤ (x0_5.size : Int)
    rotate_left
    ·rw [if_neg c11] at H
     have c11b0 := decide_eq_false c11
     clear c11
     simp only [Option.some.injEq, Prod.mk.injEq] at H
     obtain ⟨rfl, rfl, rfl⟩ := H
     obtain ⟨Ao25, co25, eo25⟩ := Kd.R_slice HO_6.out
     subst eo25
     go_wp2
     go_ret3
     exact ⟨_, dq27, dq37, dq25⟩
    rw [if_pos c11] at H
    have c11b0 := decide_eq_true c11
    clear c11
    have HC12 := Aside0.mk H
    clear H
    go_upto_region 9 with (fail)
    go_cut [36] (fun v36 wc => ∃ (kq : Nat) (x36_11 : Bool), v36 = .bool x36_11 ∧ Aside0 (spec_l11Steps.j3 kq x0_5 x5_1 x6_3 x7_3 x8_3 x36_11 = some (r1, r2, r3)) ∧ Aside0 (kq ≤ k3) ∧ Aside0 (Kd.R Kd.string 9 wc w.heap.size (fun _ => True) u6 x6_3) ∧ Aside0 (Below w.heap.size w wc))
    case first =>
     have H := HC12.out
     clear HC12
     by_cases c13 : x8_3 < (x0_5.size : Int)
     rotate_left
     ·rw [if_neg c13] at H
      have c13b0 := decide_eq_false c13
      clear c13
      (first | rw [c13b0] | (simp only [i64_w, i32_w]; rw [c13b0]) | skip)
      have H' := Aside0.mk H
      clear H
      go_wp2
      go_meet
      case rel => exact ⟨_, (false), dq17, H', ⟨by have := HJ1.out; have := HJ5.out; have := HK3.out; first | omega | exact Nat.le_refl _⟩, ⟨dq37⟩, ⟨dq25⟩⟩
     rw [if_pos c13] at H
     have c13b0 := decide_eq_true c13
     clear c13
     (first | rw [c13b0] | (simp only [i64_w, i32_w]; rw [c13b0]) | skip)
     by_cases c14 : 0 ≤ x8_3
     rotate_left
     ·rw [if_neg c14] at H
      exact absurd H dq20
     rw [if_pos c14] at H
     have c14b0 := decide_eq_true c14
     clear c14
     have H' := Aside0.mk H
     clear H
     have p15 : 0 ≤ (x8_3 : Int) := of_decide_eq_true dq18
     have q15 : x8_3 < (x0_5.size : Int) := of_decide_eq_true dq18
     have hx15 := bt_at x0_5 x8_3
     replace p15 := eq_true p15
     replace q15 := eq_true q15
     go_wp2
     go_meet
     case rel => exact ⟨_, (((bt x0_5 x8_3) != 47)), dq17, H', ⟨by have := HJ1.out; have := HJ5.out; have := HK3.out; first | omega | exact Nat.le_refl _⟩, ⟨dq37⟩, ⟨dq25⟩⟩
    clear HC12
    try clear c11b0
    obtain ⟨kq, x36_11, rfl, HA, HJ11, HO_6, HB⟩ := hcut
    cases kq with
    | zero => exact absurd HA.out (by simp [spec_l11Steps.j3])
    | succ kj11 =>
     have H := HA.out
     clear HA
     simp only [spec_l11Steps.j3] at H
     by_cases c16 : x36_11 = true
     ·subst c16
      have H1 : (if 0 ≤ x8_3 then (if x8_3 ≤ (wrap64 (x8_3 + 1)) then (if (wrap64 (x8_3 + 1)) ≤ (x0_5.size : Int) then (if x7_3.size + (x0_5.extract (x8_3 : Int).toNat ((wrap64 (x8_3 + 1)) : Int).toNat).size ≤ 9223372036854775807 then (spec_l11Steps.l0 kj11 x0_5 x5_1 x6_3 (x7_3 ++ (x0_5.extract (x8_3 : Int).toNat ((wrap64 (x8_3 + 1)) : Int).toNat)) (wrap64 (x8_3 + 1))) else (none)) else (none)) else (none)) else (none)) = some (r1, r2, r3) := by rw [if_pos rfl] at H; exact H
      clear H
      have H := H1
      clear H1
      by_cases c17 : 0 ≤ x8_3
      rotate_left
      ·rw [if_neg c17] at H
       exact absurd H dq20
      rw [if_pos c17] at H
      have c17b0 := eq_true c17
      have c17b1 := decide_eq_true c17
      clear c17
      by_cases c18 : x8_3 ≤ (wrap64 (x8_3 + 1))
      rotate_left
      ·rw [if_neg c18] at H
       exact absurd H dq20
      rw [if_pos c18] at H
      have c18b0 := eq_true c18
      have c18b1 := decide_eq_true c18
      by_cases c19 : (wrap64 (x8_3 + 1)) ≤ (x0_5.size : Int)
      rotate_left
      ·rw [if_neg c19] at H
       exact absurd H dq20
      rw [if_pos c19] at H
      have c19b0 := eq_true c19
      have c19b1 := decide_eq_true c19
      by_cases c20 : x7_3.size + (x0_5.extract (x8_3 : Int).toNat ((wrap64 (x8_3 + 1)) : Int).toNat).size ≤ 9223372036854775807
      rotate_left
      ·rw [if_neg c20] at H
       exact absurd H dq20
      rw [if_pos c20] at H
      have c20b0 := eq_true c20
      have c20b1 := decide_eq_true c20
      try have c20b2 : (9223372036854775807 < x7_3.size + (x0_5.extract (x8_3 : Int).toNat ((wrap64 (x8_3 + 1)) : Int).toNat).size) = False := eq_false (Nat.not_lt.2 c20)
      have H' := Aside0.mk H
      clear H
      go_wp2
      go_roundg kj11
      case measure => have := HJ1.out; have := HJ5.out; have := HK3.out; have := HJ11.out; omega
      case rel => exact ⟨(x6_3), (x7_3 ++ (x0_5.extract (x8_3 : Int).toNat ((wrap64 (x8_3 + 1)) : Int).toNat)), (wrap64 (x8_3 + 1)), dq17, dq17, H', ⟨by have := HJ1.out; have := HJ5.out; have := HK3.out; have := HJ11.out; omega⟩, ⟨dq37⟩, ⟨dq25⟩⟩
     replace c16 := Bool.eq_false_iff.mpr c16
     subst c16
     have H1 : ((spec_NameOk.f kj11 x7_3).bind fun t155 => (if t155 = true then (if x6_3.length < 8796093022208 then (spec_l11Steps.l0 kj11 x0_5 x5_1 (x6_3 ++ [x7_3]) (⟨#[]⟩ : ByteArray) (wrap64 (x8_3 + 1))) else (none)) else (some (([] : List ByteArray), false, false)))) = some (r1, r2, r3) := by rw [if_neg (show ¬ (false = true) by decide)] at H; exact H
     clear H
     have H := H1
     clear H1
     replace H := Option.bind_eq_some_iff.mp H
     obtain ⟨t155, A210, H⟩ := H
     replace H : (if t155 = true then (if x6_3.length < 8796093022208 then (spec_l11Steps.l0 kj11 x0_5 x5_1 (x6_3 ++ [x7_3]) (⟨#[]⟩ : ByteArray) (wrap64 (x8_3 + 1))) else (none)) else (some (([] : List ByteArray), false, false))) = some (r1, r2, r3) := H
     have A21 := Aside0.mk A210
     clear A210
     by_cases c22 : t155 = true
     rotate_left
     ·replace c22 := Bool.eq_false_iff.mpr c22
      subst c22
      have H1 : (some (([] : List ByteArray), false, false)) = some (r1, r2, r3) := by rw [if_neg (show ¬ (false = true) by decide)] at H; exact H
      clear H
      have H := H1
      clear H1
      simp only [Option.some.injEq, Prod.mk.injEq] at H
      obtain ⟨rfl, rfl, rfl⟩ := H
      go_wp2_with (first | ((with_reducible refine gate_callee (f := 83) rfl ?_); refine goesL_ (some 45) rfl rfl Tryz.func83 dq22 rfl #[.string x7_3] rfl dq21 ?_; (with_reducible refine (spec_NameOk.calls kj11 x7_3 false _ A21.out).mono ?_); rintro e w' ⟨rfl, ⟨nd, rfl⟩⟩; refine ⟨_, rfl, ?_⟩))
      go_ret3
      exact ⟨_, dq27, dq26, dq25⟩
     subst c22
     have H1 : (if x6_3.length < 8796093022208 then (spec_l11Steps.l0 kj11 x0_5 x5_1 (x6_3 ++ [x7_3]) (⟨#[]⟩ : ByteArray) (wrap64 (x8_3 + 1))) else (none)) = some (r1, r2, r3) := by rw [if_pos rfl] at H; exact H
     clear H
     have H := H1
     clear H1
     by_cases c23 : x6_3.length < 8796093022208
     rotate_left
     ·rw [if_neg c23] at H
      exact absurd H dq20
     rw [if_pos c23] at H
     have LMc23 := Aside0.mk c23
     clear c23
     obtain ⟨y156, hy156⟩ : ∃ y_ : List ByteArray, y_ = (x6_3 ++ [x7_3]) := ⟨_, rfl⟩
     replace H : (spec_l11Steps.l0 kj11 x0_5 x5_1 y156 (⟨#[]⟩ : ByteArray) (wrap64 (x8_3 + 1))) = some (r1, r2, r3) := by first | (rw [hy156]; with_reducible exact H) | (have H2_ := (Option.bind_some _ _).symm.trans H; rw [hy156]; with_reducible exact H2_) | (have H2_ := (Option.bind_some _ _).symm.trans H; with_reducible exact H2_) | with_reducible exact H | (rw [hy156]; exact H) | exact H
     have Ny156 := Aside0.mk hy156
     clear hy156
     have H' := Aside0.mk H
     clear H
     go_wp2_with (first | ((with_reducible refine gate_callee (f := 83) rfl ?_); refine goesL_ (some 45) rfl rfl Tryz.func83 dq22 rfl #[.string x7_3] rfl dq21 ?_; (with_reducible refine (spec_NameOk.calls kj11 x7_3 true _ A21.out).mono ?_); rintro e w' ⟨rfl, ⟨nd, rfl⟩⟩; refine ⟨_, rfl, ?_⟩) | ((with_reducible refine gate_builtin (b := .append) (xs := #[.tmp 47, .tmp 49]) rfl ?_); at_builtin; refine Kd.R_append Kd.string (w0 := w) w.heap.size rfl (.tmp 47) (.tmp 49) 30 9 (.string ⟨#[]⟩) 16 rfl Tryz.underlying30 info9 rfl dq29 dq23 u6 x6_3 x7_3 [.string x7_3] (fun _ => True) (fun _ => False) rfl rfl ?aP (fun _ hk => hk.elim) ?aF ?aO ?aB ?aS ?aL ?_; (case aP => exact rfl); (case aB => exact dq25); (case aF => exact (fun _ _ => trivial)); (case aO => exact dq37); (case aS => exact (below_size dq25)); (case aL => have := LMc23.out; omega); intro v157 w24 ho hb hg hat; rw [← Ny156.out] at ho; have n0_ := Aside0.mk (hb); have n1_ := Aside0.mk (ho); clear HB; clear HO_6; have HB := n0_; have HO158 := n1_; clear n0_ n1_; clear ho hb hg hat))
     go_roundg kj11
     case measure => have := HJ1.out; have := HJ5.out; have := HK3.out; have := HJ11.out; omega
     case rel => exact ⟨(y156), ((⟨#[]⟩ : ByteArray)), (wrap64 (x8_3 + 1)), dq17, dq17, H', ⟨by have := HJ1.out; have := HJ5.out; have := HK3.out; have := HJ11.out; omega⟩, ⟨by (with_reducible repeat (first | apply Kd.R_alloc | apply Kd.R_drewN | apply Kd.R_drew)); exact HO158.out⟩, ⟨dq25⟩⟩

/-! ### spec_l11Field: function 46 -/
def spec_l11Field.l0 : Nat → ByteArray → Int → Int → Option (ByteArray × ByteArray × Bool)
 | 0, _, _, _ => none
 | k + 1, x0, x5, x6 => if x6 < (x0.size : Int) then (if 0 ≤ x6 then (if (bt x0 x6) = 64 then (spec_l11Field.l0 k x0 x6 (wrap64 (x6 + 1))) else (spec_l11Field.l0 k x0 x5 (wrap64 (x6 + 1)))) else (none)) else (if x5 < 0 then ((spec_l11Steps.f k x0).bind fun bt159 => (if bt159.2.2 = true then (some (x0, (⟨#[]⟩ : ByteArray), !bt159.2.1)) else (some (x0, (⟨#[]⟩ : ByteArray), false)))) else (if 0 ≤ (wrap64 (x5 + 1)) then (if (wrap64 (x5 + 1)) ≤ (x0.size : Int) then ((spec_NameOk.f k (x0.extract ((wrap64 (x5 + 1)) : Int).toNat x0.size)).bind fun t164 => (if t164 = true then (if x5 = 0 then (some ((⟨#[]⟩ : ByteArray), x0.extract ((wrap64 (x5 + 1)) : Int).toNat x0.size, true)) else (if 0 ≤ (wrap64 (x5 - 1)) then (if (wrap64 (x5 - 1)) < (x0.size : Int) then (if (bt x0 (wrap64 (x5 - 1))) = 47 then (if (wrap64 (x5 - 1)) ≤ (x0.size : Int) then ((spec_l11Steps.f k (x0.extract 0 ((wrap64 (x5 - 1)) : Int).toNat)).bind fun bt165 => (if bt165.2.2 = true then (some (x0.extract 0 ((wrap64 (x5 - 1)) : Int).toNat, x0.extract ((wrap64 (x5 + 1)) : Int).toNat x0.size, !bt165.2.1)) else (some (x0.extract 0 ((wrap64 (x5 - 1)) : Int).toNat, x0.extract ((wrap64 (x5 + 1)) : Int).toNat x0.size, false)))) else (none)) else (some ((⟨#[]⟩ : ByteArray), (⟨#[]⟩ : ByteArray), false))) else (none)) else (none))) else (some ((⟨#[]⟩ : ByteArray), (⟨#[]⟩ : ByteArray), false)))) else (none)) else (none)))
def spec_l11Field.f (k : Nat) (a0 : ByteArray) : Option (ByteArray × ByteArray × Bool) := if a0.toList = ([46] : List UInt8) then (some ((⟨#[]⟩ : ByteArray), (⟨#[]⟩ : ByteArray), true)) else (spec_l11Field.l0 k a0 (-1) 0)
set_option maxHeartbeats 8000000 in
set_option maxRecDepth 100000 in
theorem spec_l11Field.calls (k : Nat) (a0 : ByteArray) (r1 : ByteArray) (r2 : ByteArray) (r3 : Bool) (w : World) (h : spec_l11Field.f k a0 = some (r1, r2, r3)) :
  Calls Tryz.prog 46 #[.string a0] w fun e w' => e = .returned (.tuple #[.string r1, .string r2, .bool r3]) ∧ Below w.heap.size w w' := by
 have HB := Aside0.mk (Below.refl w.heap.size w)
 have H : (if a0.toList = ([46] : List UInt8) then (some ((⟨#[]⟩ : ByteArray), (⟨#[]⟩ : ByteArray), true)) else (spec_l11Field.l0 k a0 (-1) 0)) = some (r1, r2, r3) := h
 clear h
 by_cases c2 : a0.toList = ([46] : List UInt8)
 ·rw [if_pos c2] at H
  have c2b0 := beq_iff_eq.mpr c2
  have c2b1 := bne_eq_false_iff_eq.mpr c2
  clear c2
  simp only [Option.some.injEq, Prod.mk.injEq] at H
  obtain ⟨rfl, rfl, rfl⟩ := H
  go_enter Tryz.func46, Tryz.ntmps46
  go_wp2
  go_ret3
  exact ⟨dq27, dq25⟩
 rw [if_neg c2] at H
 have c2b0 := beq_eq_false_iff_ne.mpr c2
 have c2b1 := bne_iff_ne.mpr c2
 have H' := Aside0.mk H
 clear H
 go_enter Tryz.func46, Tryz.ntmps46
 go_wp2
 go_loopg [5, 6] k (fun kq v5 v6 w' => ∃ (x5_1 : Int) (x6_1 : Int), v5 = .int .i64 x5_1 ∧ v6 = .int .i64 x6_1 ∧ Aside0 (spec_l11Field.l0 kq a0 x5_1 x6_1 = some (r1, r2, r3)) ∧ Aside0 (kq ≤ k) ∧ Aside0 (Below w.heap.size w w'))
 case atStart => exact ⟨((-1)), (0), dq17, dq17, H', ⟨Nat.le_refl _⟩, ⟨dq25⟩⟩
 clear H'
 try clear c2
 try clear c2b0
 try clear c2b1
 obtain ⟨x5_1, x6_1, rfl, rfl, HA, HK1, HB⟩ := hrel
 cases gk with
 | zero => exact absurd HA.out (by simp [spec_l11Field.l0])
 | succ k1 =>
  have H := HA.out
  clear HA
  simp only [spec_l11Field.l0] at H
  by_cases c3 : x6_1 < (a0.size : Int)
  ·rw [if_pos c3] at H
   have c3b0 := decide_eq_true c3
   clear c3
   by_cases c4 : 0 ≤ x6_1
   rotate_left
   ·rw [if_neg c4] at H
    exact absurd H dq20
   rw [if_pos c4] at H
   have c4b0 := decide_eq_true c4
   clear c4
   by_cases c6 : (bt a0 x6_1) = 64
   rotate_left
   ·rw [if_neg c6] at H
    have c6b0 := beq_eq_false_iff_ne.mpr c6
    have c6b1 := bne_iff_ne.mpr c6
    have H' := Aside0.mk H
    clear H
    have p5 : 0 ≤ (x6_1 : Int) := of_decide_eq_true dq18
    have q5 : x6_1 < (a0.size : Int) := of_decide_eq_true dq18
    have hx5 := bt_at a0 x6_1
    replace p5 := eq_true p5
    replace q5 := eq_true q5
    go_wp2
    go_roundg k1
    case measure => have := HK1.out; omega
    case rel => exact ⟨(x5_1), (wrap64 (x6_1 + 1)), dq17, dq17, H', ⟨dq19⟩, ⟨dq25⟩⟩
   rw [if_pos c6] at H
   have c6b0 := beq_iff_eq.mpr c6
   have c6b1 := bne_eq_false_iff_eq.mpr c6
   clear c6
   have H' := Aside0.mk H
   clear H
   have p5 : 0 ≤ (x6_1 : Int) := of_decide_eq_true dq18
   have q5 : x6_1 < (a0.size : Int) := of_decide_eq_true dq18
   have hx5 := bt_at a0 x6_1
   replace p5 := eq_true p5
   replace q5 := eq_true q5
   go_wp2
   go_roundg k1
   case measure => have := HK1.out; omega
   case rel => exact ⟨(x6_1), (wrap64 (x6_1 + 1)), dq17, dq17, H', ⟨dq19⟩, ⟨dq25⟩⟩
  rw [if_neg c3] at H
  have c3b0 := decide_eq_false c3
  clear c3
  by_cases c7 : x5_1 < 0
  ·rw [if_pos c7] at H
   have c7b0 := decide_eq_true c7
   clear c7
   replace H := Option.bind_eq_some_iff.mp H
   obtain ⟨⟨t159, t160, t161⟩, A80, H⟩ := H
   replace H : (if t161 = true then (some (a0, (⟨#[]⟩ : ByteArray), !t160)) else (some (a0, (⟨#[]⟩ : ByteArray), false))) = some (r1, r2, r3) := H
   have A8 := Aside0.mk A80
   clear A80
   by_cases c9 : t161 = true
   ·subst c9
    have H1 : (some (a0, (⟨#[]⟩ : ByteArray), !t160)) = some (r1, r2, r3) := by rw [if_pos rfl] at H; exact H
    clear H
    have H := H1
    clear H1
    simp only [Option.some.injEq, Prod.mk.injEq] at H
    obtain ⟨rfl, rfl, rfl⟩ := H
    go_wp2_with (first | ((with_reducible refine gate_callee (f := 90) rfl ?_); refine goesL_ (some 31) rfl rfl Tryz.func90 dq22 rfl #[.string a0] rfl dq21 ?_; (with_reducible refine (spec_l11Steps.calls k1 a0 t159 t160 true _ A8.out).mono ?_); rintro e w10 ⟨v162, rfl, ho0, hb⟩; refine ⟨_, rfl, ?_⟩; have n0_ := Aside0.mk (Kd.R_lower ho0 (below_size dq25)); have n1_ := Aside0.mk (below_step dq25 hb); clear HB; have HO163 := n0_; have HB := n1_; clear n0_ n1_; (try clear hb); (try clear hb2); (try clear hk); (try clear hi); (try clear ho0)))
    go_ret3
    exact ⟨dq27, dq25⟩
   replace c9 := Bool.eq_false_iff.mpr c9
   subst c9
   have H1 : (some (a0, (⟨#[]⟩ : ByteArray), false)) = some (r1, r2, r3) := by rw [if_neg (show ¬ (false = true) by decide)] at H; exact H
   clear H
   have H := H1
   clear H1
   simp only [Option.some.injEq, Prod.mk.injEq] at H
   obtain ⟨rfl, rfl, rfl⟩ := H
   go_wp2_with (first | ((with_reducible refine gate_callee (f := 90) rfl ?_); refine goesL_ (some 31) rfl rfl Tryz.func90 dq22 rfl #[.string a0] rfl dq21 ?_; (with_reducible refine (spec_l11Steps.calls k1 a0 t159 t160 false _ A8.out).mono ?_); rintro e w11 ⟨v162, rfl, ho0, hb⟩; refine ⟨_, rfl, ?_⟩; have n0_ := Aside0.mk (Kd.R_lower ho0 (below_size dq25)); have n1_ := Aside0.mk (below_step dq25 hb); clear HB; have HO163 := n0_; have HB := n1_; clear n0_ n1_; (try clear hb); (try clear hb2); (try clear hk); (try clear hi); (try clear ho0)))
   go_ret3
   exact ⟨dq27, dq25⟩
  rw [if_neg c7] at H
  have c7b0 := decide_eq_false c7
  clear c7
  obtain ⟨ji12, hji12⟩ : ∃ j_ : Int, (wrap64 (x5_1 + 1)) = j_ := ⟨_, rfl⟩
  replace H : (if 0 ≤ (ji12) then (if (ji12) ≤ (a0.size : Int) then ((spec_NameOk.f k1 (a0.extract ((ji12) : Int).toNat a0.size)).bind fun t164 => (if t164 = true then (if x5_1 = 0 then (some ((⟨#[]⟩ : ByteArray), a0.extract ((ji12) : Int).toNat a0.size, true)) else (if 0 ≤ (wrap64 (x5_1 - 1)) then (if (wrap64 (x5_1 - 1)) < (a0.size : Int) then (if (bt a0 (wrap64 (x5_1 - 1))) = 47 then (if (wrap64 (x5_1 - 1)) ≤ (a0.size : Int) then ((spec_l11Steps.f k1 (a0.extract 0 ((wrap64 (x5_1 - 1)) : Int).toNat)).bind fun bt165 => (if bt165.2.2 = true then (some (a0.extract 0 ((wrap64 (x5_1 - 1)) : Int).toNat, a0.extract ((ji12) : Int).toNat a0.size, !bt165.2.1)) else (some (a0.extract 0 ((wrap64 (x5_1 - 1)) : Int).toNat, a0.extract ((ji12) : Int).toNat a0.size, false)))) else (none)) else (some ((⟨#[]⟩ : ByteArray), (⟨#[]⟩ : ByteArray), false))) else (none)) else (none))) else (some ((⟨#[]⟩ : ByteArray), (⟨#[]⟩ : ByteArray), false)))) else (none)) else (none)) = some (r1, r2, r3) := by first | (rw [hji12] at H; exact H) | (simp only [hji12] at H ⊢; exact H)
  have hji12w : (IntKind.i64.wrap (x5_1 + 1)) = ji12 := (i64_w _).trans hji12
  by_cases c13 : 0 ≤ (ji12)
  rotate_left
  ·rw [if_neg c13] at H
   exact absurd H dq20
  rw [if_pos c13] at H
  have c13b0 := eq_true c13
  have c13b1 := decide_eq_true c13
  clear c13
  by_cases c14 : (ji12) ≤ (a0.size : Int)
  rotate_left
  ·rw [if_neg c14] at H
   exact absurd H dq20
  rw [if_pos c14] at H
  have c14b0 := eq_true c14
  have c14b1 := decide_eq_true c14
  clear c14
  replace H := Option.bind_eq_some_iff.mp H
  obtain ⟨t164, A150, H⟩ := H
  replace H : (if t164 = true then (if x5_1 = 0 then (some ((⟨#[]⟩ : ByteArray), a0.extract ((ji12) : Int).toNat a0.size, true)) else (if 0 ≤ (wrap64 (x5_1 - 1)) then (if (wrap64 (x5_1 - 1)) < (a0.size : Int) then (if (bt a0 (wrap64 (x5_1 - 1))) = 47 then (if (wrap64 (x5_1 - 1)) ≤ (a0.size : Int) then ((spec_l11Steps.f k1 (a0.extract 0 ((wrap64 (x5_1 - 1)) : Int).toNat)).bind fun bt165 => (if bt165.2.2 = true then (some (a0.extract 0 ((wrap64 (x5_1 - 1)) : Int).toNat, a0.extract ((ji12) : Int).toNat a0.size, !bt165.2.1)) else (some (a0.extract 0 ((wrap64 (x5_1 - 1)) : Int).toNat, a0.extract ((ji12) : Int).toNat a0.size, false)))) else (none)) else (some ((⟨#[]⟩ : ByteArray), (⟨#[]⟩ : ByteArray), false))) else (none)) else (none))) else (some ((⟨#[]⟩ : ByteArray), (⟨#[]⟩ : ByteArray), false))) = some (r1, r2, r3) := H
  have A15 := Aside0.mk A150
  clear A150
  by_cases c16 : t164 = true
  rotate_left
  ·replace c16 := Bool.eq_false_iff.mpr c16
   subst c16
   have H1 : (some ((⟨#[]⟩ : ByteArray), (⟨#[]⟩ : ByteArray), false)) = some (r1, r2, r3) := by rw [if_neg (show ¬ (false = true) by decide)] at H; exact H
   clear H
   have H := H1
   clear H1
   simp only [Option.some.injEq, Prod.mk.injEq] at H
   obtain ⟨rfl, rfl, rfl⟩ := H
   go_wp2_with (first | ((with_reducible refine gate_callee (f := 83) rfl ?_); refine goesL_ (some 46) rfl rfl Tryz.func83 dq22 rfl #[.string (a0.extract ((ji12) : Int).toNat a0.size)] rfl dq38 ?_; (with_reducible refine (spec_NameOk.calls k1 (a0.extract ((ji12) : Int).toNat a0.size) false _ A15.out).mono ?_); rintro e w' ⟨rfl, ⟨nd, rfl⟩⟩; refine ⟨_, rfl, ?_⟩))
   go_ret3
   exact ⟨dq39, dq25⟩
  subst c16
  have H1 : (if x5_1 = 0 then (some ((⟨#[]⟩ : ByteArray), a0.extract ((ji12) : Int).toNat a0.size, true)) else (if 0 ≤ (wrap64 (x5_1 - 1)) then (if (wrap64 (x5_1 - 1)) < (a0.size : Int) then (if (bt a0 (wrap64 (x5_1 - 1))) = 47 then (if (wrap64 (x5_1 - 1)) ≤ (a0.size : Int) then ((spec_l11Steps.f k1 (a0.extract 0 ((wrap64 (x5_1 - 1)) : Int).toNat)).bind fun bt165 => (if bt165.2.2 = true then (some (a0.extract 0 ((wrap64 (x5_1 - 1)) : Int).toNat, a0.extract ((ji12) : Int).toNat a0.size, !bt165.2.1)) else (some (a0.extract 0 ((wrap64 (x5_1 - 1)) : Int).toNat, a0.extract ((ji12) : Int).toNat a0.size, false)))) else (none)) else (some ((⟨#[]⟩ : ByteArray), (⟨#[]⟩ : ByteArray), false))) else (none)) else (none))) = some (r1, r2, r3) := by rw [if_pos rfl] at H; exact H
  clear H
  have H := H1
  clear H1
  by_cases c17 : x5_1 = 0
  ·rw [if_pos c17] at H
   have c17b0 := beq_iff_eq.mpr c17
   have c17b1 := bne_eq_false_iff_eq.mpr c17
   clear c17
   simp only [Option.some.injEq, Prod.mk.injEq] at H
   obtain ⟨rfl, rfl, rfl⟩ := H
   go_wp2_with (first | ((with_reducible refine gate_callee (f := 83) rfl ?_); refine goesL_ (some 46) rfl rfl Tryz.func83 dq22 rfl #[.string (a0.extract ((ji12) : Int).toNat a0.size)] rfl dq38 ?_; (with_reducible refine (spec_NameOk.calls k1 (a0.extract ((ji12) : Int).toNat a0.size) true _ A15.out).mono ?_); rintro e w' ⟨rfl, ⟨nd, rfl⟩⟩; refine ⟨_, rfl, ?_⟩))
   go_ret3
   exact ⟨dq39, dq25⟩
  rw [if_neg c17] at H
  have c17b0 := beq_eq_false_iff_ne.mpr c17
  have c17b1 := bne_iff_ne.mpr c17
  obtain ⟨ji18, hji18⟩ : ∃ j_ : Int, (wrap64 (x5_1 - 1)) = j_ := ⟨_, rfl⟩
  replace H : (if 0 ≤ (ji18) then (if (ji18) < (a0.size : Int) then (if (bt a0 (ji18)) = 47 then (if (ji18) ≤ (a0.size : Int) then ((spec_l11Steps.f k1 (a0.extract 0 ((ji18) : Int).toNat)).bind fun bt165 => (if bt165.2.2 = true then (some (a0.extract 0 ((ji18) : Int).toNat, a0.extract ((ji12) : Int).toNat a0.size, !bt165.2.1)) else (some (a0.extract 0 ((ji18) : Int).toNat, a0.extract ((ji12) : Int).toNat a0.size, false)))) else (none)) else (some ((⟨#[]⟩ : ByteArray), (⟨#[]⟩ : ByteArray), false))) else (none)) else (none)) = some (r1, r2, r3) := by first | (rw [hji18] at H; exact H) | (simp only [hji18] at H ⊢; exact H)
  (try rw [hji18] at A15)
  have hji18w : (IntKind.i64.wrap (x5_1 - 1)) = ji18 := (i64_w _).trans hji18
  by_cases c19 : 0 ≤ (ji18)
  rotate_left
  ·rw [if_neg c19] at H
   exact absurd H dq20
  rw [if_pos c19] at H
  have c19b0 := decide_eq_true c19
  clear c19
  by_cases c20 : (ji18) < (a0.size : Int)
  rotate_left
  ·rw [if_neg c20] at H
   exact absurd H dq20
  rw [if_pos c20] at H
  have c20b0 := decide_eq_true c20
  clear c20
  by_cases c22 : (bt a0 (ji18)) = 47
  rotate_left
  ·rw [if_neg c22] at H
   have c22b0 := beq_eq_false_iff_ne.mpr c22
   have c22b1 := bne_iff_ne.mpr c22
   simp only [Option.some.injEq, Prod.mk.injEq] at H
   obtain ⟨rfl, rfl, rfl⟩ := H
   go_wp2_with (first | ((with_reducible refine gate_callee (f := 83) rfl ?_); refine goesL_ (some 46) rfl rfl Tryz.func83 dq22 rfl #[.string (a0.extract ((ji12) : Int).toNat a0.size)] rfl dq38 ?_; (with_reducible refine (spec_NameOk.calls k1 (a0.extract ((ji12) : Int).toNat a0.size) true _ A15.out).mono ?_); rintro e w' ⟨rfl, ⟨nd, rfl⟩⟩; refine ⟨_, rfl, ?_⟩; have p21 : 0 ≤ ((ji18) : Int) := of_decide_eq_true dq18; have q21 : (ji18) < (a0.size : Int) := of_decide_eq_true dq18; have hx21 := bt_at a0 (ji18); replace p21 := eq_true p21; replace q21 := eq_true q21))
   go_ret3
   exact ⟨dq41, dq25⟩
  rw [if_pos c22] at H
  have c22b0 := beq_iff_eq.mpr c22
  have c22b1 := bne_eq_false_iff_eq.mpr c22
  clear c22
  have c23b0 := eq_true (of_decide_eq_true dq18 : 0 ≤ (ji18))
  by_cases c24 : (ji18) ≤ (a0.size : Int)
  rotate_left
  ·rw [if_neg c24] at H
   exact absurd H dq20
  rw [if_pos c24] at H
  have c24b0 := eq_true c24
  have c24b1 := decide_eq_true c24
  clear c24
  replace H := Option.bind_eq_some_iff.mp H
  obtain ⟨⟨t165, t166, t167⟩, A250, H⟩ := H
  replace H : (if t167 = true then (some (a0.extract 0 ((ji18) : Int).toNat, a0.extract ((ji12) : Int).toNat a0.size, !t166)) else (some (a0.extract 0 ((ji18) : Int).toNat, a0.extract ((ji12) : Int).toNat a0.size, false))) = some (r1, r2, r3) := H
  have A25 := Aside0.mk A250
  clear A250
  have c26b0 := eq_true (of_decide_eq_true dq18 : 0 ≤ (ji18))
  have c27b0 := eq_true (of_decide_eq_true dq18 : (ji18) ≤ (a0.size : Int))
  by_cases c28 : t167 = true
  ·subst c28
   have H1 : (some (a0.extract 0 ((ji18) : Int).toNat, a0.extract ((ji12) : Int).toNat a0.size, !t166)) = some (r1, r2, r3) := by rw [if_pos rfl] at H; exact H
   clear H
   have H := H1
   clear H1
   simp only [Option.some.injEq, Prod.mk.injEq] at H
   obtain ⟨rfl, rfl, rfl⟩ := H
   go_wp2_with (first | ((with_reducible refine gate_callee (f := 83) rfl ?_); refine goesL_ (some 46) rfl rfl Tryz.func83 dq22 rfl #[.string (a0.extract ((ji12) : Int).toNat a0.size)] rfl dq38 ?_; (with_reducible refine (spec_NameOk.calls k1 (a0.extract ((ji12) : Int).toNat a0.size) true _ A15.out).mono ?_); rintro e w' ⟨rfl, ⟨nd, rfl⟩⟩; refine ⟨_, rfl, ?_⟩; have p21 : 0 ≤ ((ji18) : Int) := of_decide_eq_true dq18; have q21 : (ji18) < (a0.size : Int) := of_decide_eq_true dq18; have hx21 := bt_at a0 (ji18); replace p21 := eq_true p21; replace q21 := eq_true q21) | ((with_reducible refine gate_callee (f := 90) rfl ?_); refine goesL_ (some 61) rfl rfl Tryz.func90 dq22 rfl #[.string (a0.extract 0 ((ji18) : Int).toNat)] rfl dq40 ?_; (with_reducible refine (spec_l11Steps.calls k1 (a0.extract 0 ((ji18) : Int).toNat) t165 t166 true _ A25.out).mono ?_); rintro e w29 ⟨v168, rfl, ho0, hb⟩; refine ⟨_, rfl, ?_⟩; have n0_ := Aside0.mk (Kd.R_lower ho0 (below_size dq25)); have n1_ := Aside0.mk (below_step dq25 hb); clear HB; have HO169 := n0_; have HB := n1_; clear n0_ n1_; (try clear hb); (try clear hb2); (try clear hk); (try clear hi); (try clear ho0)))
   go_ret3
   exact ⟨dq41, dq25⟩
  replace c28 := Bool.eq_false_iff.mpr c28
  subst c28
  have H1 : (some (a0.extract 0 ((ji18) : Int).toNat, a0.extract ((ji12) : Int).toNat a0.size, false)) = some (r1, r2, r3) := by rw [if_neg (show ¬ (false = true) by decide)] at H; exact H
  clear H
  have H := H1
  clear H1
  simp only [Option.some.injEq, Prod.mk.injEq] at H
  obtain ⟨rfl, rfl, rfl⟩ := H
  go_wp2_with (first | ((with_reducible refine gate_callee (f := 83) rfl ?_); refine goesL_ (some 46) rfl rfl Tryz.func83 dq22 rfl #[.string (a0.extract ((ji12) : Int).toNat a0.size)] rfl dq38 ?_; (with_reducible refine (spec_NameOk.calls k1 (a0.extract ((ji12) : Int).toNat a0.size) true _ A15.out).mono ?_); rintro e w' ⟨rfl, ⟨nd, rfl⟩⟩; refine ⟨_, rfl, ?_⟩; have p21 : 0 ≤ ((ji18) : Int) := of_decide_eq_true dq18; have q21 : (ji18) < (a0.size : Int) := of_decide_eq_true dq18; have hx21 := bt_at a0 (ji18); replace p21 := eq_true p21; replace q21 := eq_true q21) | ((with_reducible refine gate_callee (f := 90) rfl ?_); refine goesL_ (some 61) rfl rfl Tryz.func90 dq22 rfl #[.string (a0.extract 0 ((ji18) : Int).toNat)] rfl dq40 ?_; (with_reducible refine (spec_l11Steps.calls k1 (a0.extract 0 ((ji18) : Int).toNat) t165 t166 false _ A25.out).mono ?_); rintro e w30 ⟨v168, rfl, ho0, hb⟩; refine ⟨_, rfl, ?_⟩; have n0_ := Aside0.mk (Kd.R_lower ho0 (below_size dq25)); have n1_ := Aside0.mk (below_step dq25 hb); clear HB; have HO169 := n0_; have HB := n1_; clear n0_ n1_; (try clear hb); (try clear hb2); (try clear hk); (try clear hi); (try clear ho0)))
  go_ret3
  exact ⟨dq41, dq25⟩

/-! ### spec_l2Kids: function 131 -/
def spec_l2Kids.l0 : Nat → List (S65) → Int → List Int → Int → Option (List Int)
 | 0, _, _, _, _ => none
 | k + 1, x0, x1, x5, x6 => if x6 < (x0.length : Int) then (if 0 ≤ x6 then (if ((rd_T65 x0 x6).f0) = x1 then (if x5.length < 17592186044416 then (spec_l2Kids.l0 k x0 x1 (x5 ++ [x6]) (wrap64 (x6 + 1))) else (none)) else (spec_l2Kids.l0 k x0 x1 x5 (wrap64 (x6 + 1)))) else (none)) else (some x5)
def spec_l2Kids.f (k : Nat) (l0 : List (S65)) (a1 : Int) : Option (List Int) := spec_l2Kids.l0 k l0 a1 (([] : List Int)) (wrap64 (a1 + 1))
set_option maxHeartbeats 8000000 in
set_option maxRecDepth 100000 in
theorem spec_l2Kids.calls (k : Nat) (A0 : Option Addr) (c0 : Nat) (l0 : List (S65)) (a1 : Int) (r : List Int) (w : World) (hr0 : Kd.C k65 w A0 l0.length l0) (hc0 : l0.length ≤ c0) (h : spec_l2Kids.f k l0 a1 = some r) :
  Calls Tryz.prog 131 #[.slice A0 l0.length c0, .int .i64 a1] w fun e w' => ∃ v0_ : Value, e = .returned (v0_) ∧ Kd.R (Kd.int .i64) 2 w' w.heap.size (fun _ => True) v0_ r ∧ Below w.heap.size w w' := by
 have HR0 := Aside0.mk hr0
 have HC0 := Aside0.mk hc0
 clear hr0 hc0
 have HB := Aside0.mk (Below.refl w.heap.size w)
 have H : (spec_l2Kids.l0 k l0 a1 (([] : List Int)) (wrap64 (a1 + 1))) = some r := h
 clear h
 obtain ⟨y170, hy170⟩ : ∃ y_ : List Int, y_ = (([] : List Int)) := ⟨_, rfl⟩
 replace H : (spec_l2Kids.l0 k l0 a1 y170 (wrap64 (a1 + 1))) = some r := by first | (rw [hy170]; with_reducible exact H) | (have H2_ := (Option.bind_some _ _).symm.trans H; rw [hy170]; with_reducible exact H2_) | (have H2_ := (Option.bind_some _ _).symm.trans H; with_reducible exact H2_) | with_reducible exact H | (rw [hy170]; exact H) | exact H
 have Ny170 := Aside0.mk hy170
 clear hy170
 have H' := Aside0.mk H
 clear H
 go_enter Tryz.func131, Tryz.ntmps131
 go_wp2_with (first | ((with_reducible refine gate_dst (N := 7) rfl ?_); refine Kd.R_lit (Kd.int .i64) _ 2 ?hg (N := 7) ?hd (xs := ([] : List Int)) (inner := []) (ok := fun _ => True) (okp := fun _ => True) ?hr ?hp (fun _ hk => hk) trivial (Below.refl _ _) (Nat.le_refl _) dq20 ?_; (case hd => rfl); (case hg => rfl); (case hr => exact dq0); (case hp => exact (Reps.none _ _)); intro v171 w3 ho4 hb hg_ hnew_; clear hg_ hnew_; (first | rw [← Ny170.out] at ho4 | (simp only [Int.reduceToNat] at ho4; rw [← Ny170.out] at ho4)); have n0_ := Aside0.mk (Kd.R_lower ho4 (below_size dq25)); have n1_ := Aside0.mk (below_step dq25 hb); clear HB; have HO172 := n0_; have HB := n1_; clear n0_ n1_; clear hb ho4))
 go_loopg [5, 6] k (fun kq v5 v6 w' => ∃ (x5_1 : List Int) (x6_1 : Int), v6 = .int .i64 x6_1 ∧ Aside0 (spec_l2Kids.l0 kq l0 a1 x5_1 x6_1 = some r) ∧ Aside0 (kq ≤ k) ∧ Aside0 (Kd.R (Kd.int .i64) 2 w' w.heap.size (fun _ => True) v5 x5_1) ∧ Aside0 (Below w.heap.size w w'))
 case atStart => exact ⟨(y170), (wrap64 (a1 + 1)), dq17, H', ⟨Nat.le_refl _⟩, ⟨by (with_reducible repeat (first | apply Kd.R_alloc | apply Kd.R_drewN | apply Kd.R_drew)); exact HO172.out⟩, ⟨dq25⟩⟩
 clear H'
 obtain ⟨x5_1, x6_1, rfl, HA, HK1, HO_5, HB⟩ := hrel
 cases gk with
 | zero => exact absurd HA.out (by simp [spec_l2Kids.l0])
 | succ k1 =>
  have H := HA.out
  clear HA
  simp only [spec_l2Kids.l0] at H
  by_cases c5 : x6_1 < (l0.length : Int)
  rotate_left
  ·rw [if_neg c5] at H
   have c5b0 := decide_eq_false c5
   clear c5
   obtain rfl := Option.some.inj H
   go_wp2
   go_ret
   exact ⟨_, dq27, dq42, dq25⟩
  rw [if_pos c5] at H
  have c5b0 := decide_eq_true c5
  clear c5
  by_cases c6 : 0 ≤ x6_1
  rotate_left
  ·rw [if_neg c6] at H
   exact absurd H dq20
  rw [if_pos c6] at H
  have c6b0 := decide_eq_true c6
  clear c6
  by_cases c7 : ((rd_T65 l0 x6_1).f0) = a1
  rotate_left
  ·rw [if_neg c7] at H
   have c7b0 := beq_eq_false_iff_ne.mpr c7
   have c7b1 := bne_iff_ne.mpr c7
   have H' := Aside0.mk H
   clear H
   have p173 : 0 ≤ (x6_1 : Int) := of_decide_eq_true dq18
   have q173 : x6_1 < (l0.length : Int) := of_decide_eq_true dq18
   obtain ⟨ad173, A173_3, c173_3, e173, hx173_0, hx173_1, hx173_2, hx173_3, hl173_3, hi173_3⟩ := at_T65 HR0.out x6_1 p173 q173
   cases e173
   replace hx173_0 := (HB.out.cell (World.block_lt_of_cell? w _ hx173_0)).trans hx173_0
   replace hx173_1 := (HB.out.cell (World.block_lt_of_cell? w _ hx173_1)).trans hx173_1
   replace hx173_2 := (HB.out.cell (World.block_lt_of_cell? w _ hx173_2)).trans hx173_2
   replace hx173_3 := (HB.out.cell (World.block_lt_of_cell? w _ hx173_3)).trans hx173_3
   have HR173_3 := Aside0.mk hi173_3
   have HC173_3 := Aside0.mk hl173_3
   clear hi173_3 hl173_3
   replace p173 := eq_true p173
   replace q173 := eq_true q173
   go_wp2
   go_roundg k1
   case measure => have := HK1.out; omega
   case rel => exact ⟨(x5_1), (wrap64 (x6_1 + 1)), dq17, H', ⟨dq19⟩, ⟨dq42⟩, ⟨dq25⟩⟩
  rw [if_pos c7] at H
  have c7b0 := beq_iff_eq.mpr c7
  have c7b1 := bne_eq_false_iff_eq.mpr c7
  clear c7
  by_cases c8 : x5_1.length < 17592186044416
  rotate_left
  ·rw [if_neg c8] at H
   exact absurd H dq20
  rw [if_pos c8] at H
  have LMc8 := Aside0.mk c8
  clear c8
  obtain ⟨y174, hy174⟩ : ∃ y_ : List Int, y_ = (x5_1 ++ [x6_1]) := ⟨_, rfl⟩
  replace H : (spec_l2Kids.l0 k1 l0 a1 y174 (wrap64 (x6_1 + 1))) = some r := by first | (rw [hy174]; with_reducible exact H) | (have H2_ := (Option.bind_some _ _).symm.trans H; rw [hy174]; with_reducible exact H2_) | (have H2_ := (Option.bind_some _ _).symm.trans H; with_reducible exact H2_) | with_reducible exact H | (rw [hy174]; exact H) | exact H
  have Ny174 := Aside0.mk hy174
  clear hy174
  have H' := Aside0.mk H
  clear H
  have p173 : 0 ≤ (x6_1 : Int) := of_decide_eq_true dq18
  have q173 : x6_1 < (l0.length : Int) := of_decide_eq_true dq18
  obtain ⟨ad173, A173_3, c173_3, e173, hx173_0, hx173_1, hx173_2, hx173_3, hl173_3, hi173_3⟩ := at_T65 HR0.out x6_1 p173 q173
  cases e173
  replace hx173_0 := (HB.out.cell (World.block_lt_of_cell? w _ hx173_0)).trans hx173_0
  replace hx173_1 := (HB.out.cell (World.block_lt_of_cell? w _ hx173_1)).trans hx173_1
  replace hx173_2 := (HB.out.cell (World.block_lt_of_cell? w _ hx173_2)).trans hx173_2
  replace hx173_3 := (HB.out.cell (World.block_lt_of_cell? w _ hx173_3)).trans hx173_3
  have HR173_3 := Aside0.mk hi173_3
  have HC173_3 := Aside0.mk hl173_3
  clear hi173_3 hl173_3
  replace p173 := eq_true p173
  replace q173 := eq_true q173
  go_wp2_with (first | ((with_reducible refine gate_builtin (b := .append) (xs := #[.tmp 23, .tmp 25]) rfl ?_); at_builtin; refine Kd.R_append (Kd.int .i64) (w0 := w) w.heap.size rfl (.tmp 23) (.tmp 25) 47 2 (.int .i64 0) 8 rfl Tryz.underlying47 info2 rfl dq29 dq23 u5 x5_1 x6_1 [.int .i64 x6_1] (fun _ => True) (fun _ => False) rfl rfl ?aP (fun _ hk => hk.elim) ?aF ?aO ?aB ?aS ?aL ?_; (case aP => exact rfl); (case aB => exact dq25); (case aF => exact (fun _ _ => trivial)); (case aO => exact dq42); (case aS => exact (below_size dq25)); (case aL => have := LMc8.out; omega); intro v175 w9 ho hb hg hat; rw [← Ny174.out] at ho; have n0_ := Aside0.mk (hb); have n1_ := Aside0.mk (ho); clear HB; clear HO_5; have HB := n0_; have HO176 := n1_; clear n0_ n1_; clear ho hb hg hat))
  go_roundg k1
  case measure => have := HK1.out; omega
  case rel => exact ⟨(y174), (wrap64 (x6_1 + 1)), dq17, H', ⟨dq19⟩, ⟨by (with_reducible repeat (first | apply Kd.R_alloc | apply Kd.R_drewN | apply Kd.R_drew)); exact HO176.out⟩, ⟨dq25⟩⟩

/-! ### spec_l8Sorted: function 132 -/
mutual
def spec_l8Sorted.l0 : Nat → List Int → List Int → Int → Option (List Int)
 | 0, _, _, _ => none
 | k + 1, x0, x3, x4 => if x4 < (x0.length : Int) then (spec_l8Sorted.l1 k x0 x3 x4 0) else (some x3)
def spec_l8Sorted.l1 : Nat → List Int → List Int → Int → Int → Option (List Int)
 | 0, _, _, _, _ => none
 | k + 1, x0, x3, x4, x5 => if x5 < (x3.length : Int) then (if 0 ≤ x5 then (if 0 ≤ x4 then (if x4 < (x0.length : Int) then (if (rd x3 x5) < (rd x0 x4) then (spec_l8Sorted.l1 k x0 x3 x4 (wrap64 (x5 + 1))) else (if (rd x3 x5) = (rd x0 x4) then (spec_l8Sorted.l0 k x0 x3 (wrap64 (x4 + 1))) else ((some (([] : List Int) : List Int)).bind fun y184 => (if x5 ≤ (x3.length : Int) then ((some (x3.take (x5 : Int).toNat : List Int)).bind fun y187 => (if y184.length + y187.length < 17592186044416 then ((some (y184 ++ y187 : List Int)).bind fun y191 => (if y191.length < 17592186044416 then ((some (y191 ++ [rd x0 x4] : List Int)).bind fun y195 => ((some (x3.drop (x5 : Int).toNat : List Int)).bind fun y198 => (if y195.length + y198.length < 17592186044416 then (spec_l8Sorted.l0 k x0 (y195 ++ y198) (wrap64 (x4 + 1))) else (none)))) else (none))) else (none))) else (none))))) else (none)) else (none)) else (none)) else ((some (([] : List Int) : List Int)).bind fun y205 => (if 0 ≤ x5 then (if x5 ≤ (x3.length : Int) then ((some (x3.take (x5 : Int).toNat : List Int)).bind fun y208 => (if y205.length + y208.length < 17592186044416 then ((some (y205 ++ y208 : List Int)).bind fun y212 => (if 0 ≤ x4 then (if x4 < (x0.length : Int) then (if y212.length < 17592186044416 then ((some (y212 ++ [rd x0 x4] : List Int)).bind fun y216 => ((some (x3.drop (x5 : Int).toNat : List Int)).bind fun y219 => (if y216.length + y219.length < 17592186044416 then (spec_l8Sorted.l0 k x0 (y216 ++ y219) (wrap64 (x4 + 1))) else (none)))) else (none)) else (none)) else (none))) else (none))) else (none)) else (none)))
end
def spec_l8Sorted.f (k : Nat) (l0 : List Int) : Option (List Int) := spec_l8Sorted.l0 k l0 (([] : List Int)) 0
set_option maxHeartbeats 8000000 in
set_option maxRecDepth 100000 in
theorem spec_l8Sorted.calls (k : Nat) (A0 : Option Addr) (c0 : Nat) (l0 : List Int) (r : List Int) (w : World) (hr0 : Kd.C (Kd.int .i64) w A0 l0.length l0) (hc0 : l0.length ≤ c0) (h : spec_l8Sorted.f k l0 = some r) :
  Calls Tryz.prog 132 #[.slice A0 l0.length c0] w fun e w' => ∃ v0_ : Value, e = .returned (v0_) ∧ Kd.R (Kd.int .i64) 2 w' w.heap.size (fun _ => True) v0_ r ∧ Below w.heap.size w w' := by
 have HR0 := Aside0.mk hr0
 have HC0 := Aside0.mk hc0
 clear hr0 hc0
 have HB := Aside0.mk (Below.refl w.heap.size w)
 have H : (spec_l8Sorted.l0 k l0 (([] : List Int)) 0) = some r := h
 clear h
 obtain ⟨y177, hy177⟩ : ∃ y_ : List Int, y_ = (([] : List Int)) := ⟨_, rfl⟩
 replace H : (spec_l8Sorted.l0 k l0 y177 0) = some r := by first | (rw [hy177]; with_reducible exact H) | (have H2_ := (Option.bind_some _ _).symm.trans H; rw [hy177]; with_reducible exact H2_) | (have H2_ := (Option.bind_some _ _).symm.trans H; with_reducible exact H2_) | with_reducible exact H | (rw [hy177]; exact H) | exact H
 have Ny177 := Aside0.mk hy177
 clear hy177
 have H' := Aside0.mk H
 clear H
 go_enter Tryz.func132, Tryz.ntmps132
 go_wp2_with (first | ((with_reducible refine gate_dst (N := 7) rfl ?_); refine Kd.R_lit (Kd.int .i64) _ 2 ?hg (N := 7) ?hd (xs := ([] : List Int)) (inner := []) (ok := fun _ => True) (okp := fun _ => True) ?hr ?hp (fun _ hk => hk) trivial (Below.refl _ _) (Nat.le_refl _) dq20 ?_; (case hd => rfl); (case hg => rfl); (case hr => exact dq0); (case hp => exact (Reps.none _ _)); intro v178 w2 ho3 hb hg_ hnew_; clear hg_ hnew_; (first | rw [← Ny177.out] at ho3 | (simp only [Int.reduceToNat] at ho3; rw [← Ny177.out] at ho3)); have n0_ := Aside0.mk (Kd.R_lower ho3 (below_size dq25)); have n1_ := Aside0.mk (below_step dq25 hb); clear HB; have HO179 := n0_; have HB := n1_; clear n0_ n1_; clear hb ho3))
 go_loopg [3, 4] k (fun kq v3 v4 w' => ∃ (x3_1 : List Int) (x4_1 : Int), v4 = .int .i64 x4_1 ∧ Aside0 (spec_l8Sorted.l0 kq l0 x3_1 x4_1 = some r) ∧ Aside0 (kq ≤ k) ∧ Aside0 (Kd.R (Kd.int .i64) 2 w' w.heap.size (fun _ => True) v3 x3_1) ∧ Aside0 (Below w.heap.size w w'))
 case atStart => exact ⟨(y177), (0), dq17, H', ⟨Nat.le_refl _⟩, ⟨by (with_reducible repeat (first | apply Kd.R_alloc | apply Kd.R_drewN | apply Kd.R_drew)); exact HO179.out⟩, ⟨dq25⟩⟩
 clear H'
 obtain ⟨x3_1, x4_1, rfl, HA, HK1, HO_3, HB⟩ := hrel
 cases gk with
 | zero => exact absurd HA.out (by simp [spec_l8Sorted.l0])
 | succ k1 =>
  have H := HA.out
  clear HA
  simp only [spec_l8Sorted.l0] at H
  by_cases c4 : x4_1 < (l0.length : Int)
  rotate_left
  ·rw [if_neg c4] at H
   have c4b0 := decide_eq_false c4
   clear c4
   obtain rfl := Option.some.inj H
   go_wp2
   go_ret
   exact ⟨_, dq27, dq30, dq25⟩
  rw [if_pos c4] at H
  have c4b0 := decide_eq_true c4
  clear c4
  have H' := Aside0.mk H
  clear H
  go_wp2
  go_loopg [5] k1 (fun kq v5 w' => ∃ (x5_2 : Int), v5 = .int .i64 x5_2 ∧ Aside0 (spec_l8Sorted.l1 kq l0 x3_1 x4_1 x5_2 = some r) ∧ Aside0 (kq ≤ k1) ∧ Aside0 (Kd.R (Kd.int .i64) 2 w' w.heap.size (fun _ => True) u3 x3_1) ∧ Aside0 (Below w.heap.size w w'))
  case atStart => exact ⟨(0), dq17, H', ⟨Nat.le_refl _⟩, ⟨dq30⟩, ⟨dq25⟩⟩
  clear H'
  try clear c4b0
  obtain ⟨x5_2, rfl, HA, HK2, HO_3, HB⟩ := hrel
  cases gk with
  | zero => exact absurd HA.out (by simp [spec_l8Sorted.l1])
  | succ k2 =>
   have H := HA.out
   clear HA
   simp only [spec_l8Sorted.l1] at H
   by_cases c5 : x5_2 < (x3_1.length : Int)
   rotate_left
   ·rw [if_neg c5] at H
    have c5b0 := decide_eq_false c5
    clear c5
    obtain ⟨y205, hy205⟩ : ∃ y_ : List Int, y_ = (([] : List Int)) := ⟨_, rfl⟩
    replace H : (if 0 ≤ x5_2 then (if x5_2 ≤ (x3_1.length : Int) then ((some (x3_1.take (x5_2 : Int).toNat : List Int)).bind fun y208 => (if y205.length + y208.length < 17592186044416 then ((some (y205 ++ y208 : List Int)).bind fun y212 => (if 0 ≤ x4_1 then (if x4_1 < (l0.length : Int) then (if y212.length < 17592186044416 then ((some (y212 ++ [rd l0 x4_1] : List Int)).bind fun y216 => ((some (x3_1.drop (x5_2 : Int).toNat : List Int)).bind fun y219 => (if y216.length + y219.length < 17592186044416 then (spec_l8Sorted.l0 k2 l0 (y216 ++ y219) (wrap64 (x4_1 + 1))) else (none)))) else (none)) else (none)) else (none))) else (none))) else (none)) else (none)) = some r := by first | (rw [hy205]; with_reducible exact H) | (have H2_ := (Option.bind_some _ _).symm.trans H; rw [hy205]; with_reducible exact H2_) | (have H2_ := (Option.bind_some _ _).symm.trans H; with_reducible exact H2_) | with_reducible exact H | (rw [hy205]; exact H) | exact H
    have Ny205 := Aside0.mk hy205
    clear hy205
    by_cases c28 : 0 ≤ x5_2
    rotate_left
    ·rw [if_neg c28] at H
     exact absurd H dq20
    rw [if_pos c28] at H
    have c28b0 := eq_true c28
    have c28b1 := decide_eq_true c28
    clear c28
    by_cases c29 : x5_2 ≤ (x3_1.length : Int)
    rotate_left
    ·rw [if_neg c29] at H
     exact absurd H dq20
    rw [if_pos c29] at H
    have c29b0 := eq_true c29
    have c29b1 := decide_eq_true c29
    clear c29
    obtain ⟨y208, hy208⟩ : ∃ y_ : List Int, y_ = (x3_1.take (x5_2 : Int).toNat) := ⟨_, rfl⟩
    replace H : (if y205.length + y208.length < 17592186044416 then ((some (y205 ++ y208 : List Int)).bind fun y212 => (if 0 ≤ x4_1 then (if x4_1 < (l0.length : Int) then (if y212.length < 17592186044416 then ((some (y212 ++ [rd l0 x4_1] : List Int)).bind fun y216 => ((some (x3_1.drop (x5_2 : Int).toNat : List Int)).bind fun y219 => (if y216.length + y219.length < 17592186044416 then (spec_l8Sorted.l0 k2 l0 (y216 ++ y219) (wrap64 (x4_1 + 1))) else (none)))) else (none)) else (none)) else (none))) else (none)) = some r := by first | (rw [hy208]; with_reducible exact H) | (have H2_ := (Option.bind_some _ _).symm.trans H; rw [hy208]; with_reducible exact H2_) | (have H2_ := (Option.bind_some _ _).symm.trans H; with_reducible exact H2_) | with_reducible exact H | (rw [hy208]; exact H) | exact H
    have Ny208 := Aside0.mk hy208
    clear hy208
    by_cases c30 : y205.length + y208.length < 17592186044416
    rotate_left
    ·rw [if_neg c30] at H
     exact absurd H dq20
    rw [if_pos c30] at H
    have LMc30 := Aside0.mk c30
    clear c30
    obtain ⟨y212, hy212⟩ : ∃ y_ : List Int, y_ = (y205 ++ y208) := ⟨_, rfl⟩
    replace H : (if 0 ≤ x4_1 then (if x4_1 < (l0.length : Int) then (if y212.length < 17592186044416 then ((some (y212 ++ [rd l0 x4_1] : List Int)).bind fun y216 => ((some (x3_1.drop (x5_2 : Int).toNat : List Int)).bind fun y219 => (if y216.length + y219.length < 17592186044416 then (spec_l8Sorted.l0 k2 l0 (y216 ++ y219) (wrap64 (x4_1 + 1))) else (none)))) else (none)) else (none)) else (none)) = some r := by first | (rw [hy212]; with_reducible exact H) | (have H2_ := (Option.bind_some _ _).symm.trans H; rw [hy212]; with_reducible exact H2_) | (have H2_ := (Option.bind_some _ _).symm.trans H; with_reducible exact H2_) | with_reducible exact H | (rw [hy212]; exact H) | exact H
    have Ny212 := Aside0.mk hy212
    clear hy212
    by_cases c31 : 0 ≤ x4_1
    rotate_left
    ·rw [if_neg c31] at H
     exact absurd H dq20
    rw [if_pos c31] at H
    have c31b0 := decide_eq_true c31
    clear c31
    by_cases c32 : x4_1 < (l0.length : Int)
    rotate_left
    ·rw [if_neg c32] at H
     exact absurd H dq20
    rw [if_pos c32] at H
    have c32b0 := decide_eq_true c32
    clear c32
    by_cases c33 : y212.length < 17592186044416
    rotate_left
    ·rw [if_neg c33] at H
     exact absurd H dq20
    rw [if_pos c33] at H
    have LMc33 := Aside0.mk c33
    clear c33
    obtain ⟨y216, hy216⟩ : ∃ y_ : List Int, y_ = (y212 ++ [rd l0 x4_1]) := ⟨_, rfl⟩
    replace H : ((some (x3_1.drop (x5_2 : Int).toNat : List Int)).bind fun y219 => (if y216.length + y219.length < 17592186044416 then (spec_l8Sorted.l0 k2 l0 (y216 ++ y219) (wrap64 (x4_1 + 1))) else (none))) = some r := by first | (rw [hy216]; with_reducible exact H) | (have H2_ := (Option.bind_some _ _).symm.trans H; rw [hy216]; with_reducible exact H2_) | (have H2_ := (Option.bind_some _ _).symm.trans H; with_reducible exact H2_) | with_reducible exact H | (rw [hy216]; exact H) | exact H
    have Ny216 := Aside0.mk hy216
    clear hy216
    have c34b0 := eq_true (of_decide_eq_true dq18 : 0 ≤ x5_2)
    have c35b0 := eq_true (of_decide_eq_true dq18 : x5_2 ≤ (x3_1.length : Int))
    obtain ⟨y219, hy219⟩ : ∃ y_ : List Int, y_ = (x3_1.drop (x5_2 : Int).toNat) := ⟨_, rfl⟩
    replace H : (if y216.length + y219.length < 17592186044416 then (spec_l8Sorted.l0 k2 l0 (y216 ++ y219) (wrap64 (x4_1 + 1))) else (none)) = some r := by first | (rw [hy219]; with_reducible exact H) | (have H2_ := (Option.bind_some _ _).symm.trans H; rw [hy219]; with_reducible exact H2_) | (have H2_ := (Option.bind_some _ _).symm.trans H; with_reducible exact H2_) | with_reducible exact H | (rw [hy219]; exact H) | exact H
    have Ny219 := Aside0.mk hy219
    clear hy219
    by_cases c36 : y216.length + y219.length < 17592186044416
    rotate_left
    ·rw [if_neg c36] at H
     exact absurd H dq20
    rw [if_pos c36] at H
    have LMc36 := Aside0.mk c36
    clear c36
    obtain ⟨y223, hy223⟩ : ∃ y_ : List Int, y_ = (y216 ++ y219) := ⟨_, rfl⟩
    replace H : (spec_l8Sorted.l0 k2 l0 y223 (wrap64 (x4_1 + 1))) = some r := by first | (rw [hy223]; with_reducible exact H) | (have H2_ := (Option.bind_some _ _).symm.trans H; rw [hy223]; with_reducible exact H2_) | (have H2_ := (Option.bind_some _ _).symm.trans H; with_reducible exact H2_) | with_reducible exact H | (rw [hy223]; exact H) | exact H
    have Ny223 := Aside0.mk hy223
    clear hy223
    have H' := Aside0.mk H
    clear H
    obtain ⟨Ao37, co37, eo37⟩ := Kd.R_slice HO_3.out
    subst eo37
    go_wp2_with (fail)
    repeat (go_quiet (fail); try go_wp2_with (first | ((with_reducible refine gate_dst (N := 46) rfl ?_); refine Kd.R_lit (Kd.int .i64) _ 2 ?hg (N := 46) ?hd (xs := ([] : List Int)) (inner := []) (ok := fun _ => True) (okp := fun _ => True) ?hr ?hp (fun _ hk => hk) trivial (Below.refl _ _) (Nat.le_refl _) dq20 ?_; (case hd => rfl); (case hg => rfl); (case hr => exact dq0); (case hp => exact (Reps.none _ _)); intro v206 w38 ho39 hb hg_ hnew_; clear hg_ hnew_; (first | rw [← Ny205.out] at ho39 | (simp only [Int.reduceToNat] at ho39; rw [← Ny205.out] at ho39)); have n0_ := Aside0.mk (Kd.R_elder' dq30 (Kd.R_base ho39) hb); have n1_ := Aside0.mk (Kd.R_lower (Kd.R_new' ho39 (Kd.R_lt dq30)) (below_size dq25)); have n2_ := Aside0.mk (below_step dq25 hb); clear HO_3; clear HB; have HO_3 := n0_; have HO207 := n1_; have HB := n2_; clear n0_ n1_ n2_; clear hb ho39; have q40 : (x5_2 : Int) ≤ ((x3_1.length : Int) : Int) := of_decide_eq_true dq18; obtain ⟨i040, hi040, _, hsz40, _⟩ := info_parts info2; have hroom40 : x3_1.length ≤ co37 := (Kd.R_reads' HO_3.out).2.1; have hC40 : Kd.C (Kd.int .i64) _ Ao37 x3_1.length x3_1 := (Kd.R_reads' HO_3.out).2.2; have hcut40 := cut_to (P := Tryz.prog) 47 2 .i64 Tryz.underlying47 hi040 Ao37 x3_1.length co37 x5_2 (of_decide_eq_true dq18) q40 hroom40; have hr40 := Kd.C_take (m := (x5_2 : Int).toNat) hC40 dq23; have hy40 : y208.length = (x5_2 : Int).toNat := (by rw [Ny208.out, List.length_take]; omega); rw [← Ny208.out] at hr40; rw [← hy40] at hcut40; have HR211 := Aside0.mk hr40; have HC211 := Aside0.mk (show y208.length ≤ co37 from by omega); clear hr40 hC40 hroom40 hi040 hsz40; have KY40 := Aside0.mk hy40; clear hy40; have KL40 := Aside0.mk (show (x5_2 : Int).toNat ≤ x3_1.length from by omega); replace q40 := eq_true q40) | ((with_reducible refine gate_builtin (b := .append) (xs := #[.tmp 46, .tmp 49]) rfl ?_); at_builtin; refine Kd.R_append_rows (Kd.int .i64) (w0 := w) w.heap.size rfl (.tmp 46) (.tmp 49) 47 2 (.int .i64 0) 8 rfl Tryz.underlying47 info2 rfl dq29 dq23 v206 y205 y208 _ _ _ (fun k_ => some k_ ≠ (.slice Ao37 x3_1.length co37 : Value).ownBlock) (fun _ => False) rfl rfl ?aO ?aR (fun _ _ h => h) (fun _ h => h.elim) ?aF ?aB ?aS ?aL ?_; (case aR => repeat (first | exact (by repeat (first | (with_reducible exact HR211.out) | (with_reducible refine Kd.C_alloc ?_ _) | (with_reducible refine Kd.C_drewN ?_ _) | (with_reducible refine Kd.C_drew ?_) | exact HR211.out)) | (with_reducible refine Kd.C_alloc ?_ _) | (with_reducible refine Kd.C_drewN ?_ _) | (with_reducible refine Kd.C_drew ?_))); (case aB => exact dq25); (case aF => exact (fun k_ hk => Kd.fresh' (Kd.R_lt dq30) k_ hk)); (case aO => exact (by (with_reducible repeat (first | apply Kd.R_alloc | apply Kd.R_drewN | apply Kd.R_drew)); exact Kd.R_mono HO207.out (fun _ hk => hk.2))); (case aS => exact (below_size dq25)); (case aL => have := LMc30.out; omega); intro v213 w41 ho hb hg hat; rw [← Ny212.out] at ho; have n0_ := Aside0.mk (Kd.R_after (ok := (fun _ => True)) dq30 hg hat); have n1_ := Aside0.mk (hb); have n2_ := Aside0.mk ((show Kd.C (Kd.int .i64) w41 Ao37 y208.length y208 from by rw [Ny208.out]; exact Kd.C_take (m := (x5_2 : Int).toNat) ((Kd.R_reads' (Kd.R_after (ok := (fun _ => True)) dq30 hg hat)).2.2) KL40.out)); have n3_ := Aside0.mk (ho); clear HO_3; clear HB; clear HR211; clear HO207; have HO_3 := n0_; have HB := n1_; have HR211 := n2_; have HO214 := n3_; clear n0_ n1_ n2_ n3_; clear ho hb hg hat; have p215 : 0 ≤ (x4_1 : Int) := of_decide_eq_true dq18; have q215 : x4_1 < (l0.length : Int) := of_decide_eq_true dq18; obtain ⟨ad215, e215, hx215_0⟩ := Kd.at_int HR0.out x4_1 p215 q215; cases e215; replace hx215_0 := (HB.out.cell (World.block_lt_of_cell? w _ hx215_0)).trans hx215_0; replace p215 := eq_true p215; replace q215 := eq_true q215) | ((with_reducible refine gate_builtin (b := .append) (xs := #[.tmp 51, .tmp 56]) rfl ?_); at_builtin; refine Kd.R_append (Kd.int .i64) (w0 := w) w.heap.size rfl (.tmp 51) (.tmp 56) 47 2 (.int .i64 0) 8 rfl Tryz.underlying47 info2 rfl dq29 dq23 v213 y212 (rd l0 x4_1) [.int .i64 (rd l0 x4_1)] (fun k_ => some k_ ≠ (.slice Ao37 x3_1.length co37 : Value).ownBlock) (fun _ => False) rfl rfl ?aP (fun _ hk => hk.elim) ?aF ?aO ?aB ?aS ?aL ?_; (case aP => exact rfl); (case aB => exact dq25); (case aF => exact (fun k_ hk => Kd.fresh' (Kd.R_lt dq30) k_ hk)); (case aO => exact (by (with_reducible repeat (first | apply Kd.R_alloc | apply Kd.R_drewN | apply Kd.R_drew)); exact HO214.out)); (case aS => exact (below_size dq25)); (case aL => have := LMc33.out; omega); intro v217 w42 ho hb hg hat; rw [← Ny216.out] at ho; have n0_ := Aside0.mk (Kd.R_after (ok := (fun _ => True)) dq30 hg hat); have n1_ := Aside0.mk (hb); have n2_ := Aside0.mk ((show Kd.C (Kd.int .i64) w42 Ao37 y208.length y208 from by rw [Ny208.out]; exact Kd.C_take (m := (x5_2 : Int).toNat) ((Kd.R_reads' (Kd.R_after (ok := (fun _ => True)) dq30 hg hat)).2.2) KL40.out)); have n3_ := Aside0.mk (ho); clear HO_3; clear HB; clear HR211; clear HO214; have HO_3 := n0_; have HB := n1_; have HR211 := n2_; have HO218 := n3_; clear n0_ n1_ n2_ n3_; clear ho hb hg hat; have q43 : (x5_2 : Int) ≤ ((x3_1.length : Int) : Int) := of_decide_eq_true dq18; obtain ⟨i043, hi043, _, hsz43, _⟩ := info_parts info2; have hroom43 : x3_1.length ≤ co37 := (Kd.R_reads' HO_3.out).2.1; have hC43 : Kd.C (Kd.int .i64) _ Ao37 x3_1.length x3_1 := (Kd.R_reads' HO_3.out).2.2; have q043 : (0 : Int) ≤ (x5_2 : Int) := of_decide_eq_true dq18; have hcut43 := cut_from (P := Tryz.prog) 47 2 .i64 Tryz.underlying47 hi043 1 hsz43 Ao37 x3_1.length co37 x5_2 q043 q43; have hr43 := Kd.C_drop (m := (x5_2 : Int).toNat) (c := co37) hC43 dq23 hroom43; obtain ⟨A43, hA43⟩ : ∃ A1, A1 = (if co37 = (x5_2 : Int).toNat then Ao37 else (Ao37 : Option Addr).map (·.add ((x5_2 : Int).toNat * 1))) := ⟨_, rfl⟩; obtain ⟨c43, hc43⟩ : ∃ c1, c1 = co37 - (x5_2 : Int).toNat := ⟨_, rfl⟩; have hy43 : y219.length = x3_1.length - (x5_2 : Int).toNat := (by rw [Ny219.out, List.length_drop] <;> omega); rw [show (x3_1).drop (x5_2 : Int).toNat = y219 from Ny219.out.symm] at hr43; replace hr43 : Kd.C (Kd.int .i64) _ A43 y219.length y219 := (by rw [hA43]; exact hr43); rw [← hy43, ← hA43, ← hc43] at hcut43; have HR222 := Aside0.mk hr43; have HC222 := Aside0.mk (show y219.length ≤ c43 from by rw [hy43, hc43]; exact Nat.sub_le_sub_right hroom43 _); clear hr43 hC43 hroom43 hi043 hsz43 hc43; have KY43 := Aside0.mk hy43; have KA43 := Aside0.mk hA43; clear hy43 hA43; have KL43 := Aside0.mk (show (x5_2 : Int).toNat ≤ x3_1.length from by omega); replace q43 := eq_true q43) | ((with_reducible refine gate_builtin (b := .append) (xs := #[.tmp 58, .tmp 61]) rfl ?_); at_builtin; refine Kd.R_append_rows (Kd.int .i64) (w0 := w) w.heap.size rfl (.tmp 58) (.tmp 61) 47 2 (.int .i64 0) 8 rfl Tryz.underlying47 info2 rfl dq29 dq23 v217 y216 y219 _ _ _ (fun k_ => some k_ ≠ (.slice Ao37 x3_1.length co37 : Value).ownBlock) (fun _ => False) rfl rfl ?aO ?aR (fun _ _ h => h) (fun _ h => h.elim) ?aF ?aB ?aS ?aL ?_; (case aR => repeat (first | exact (by repeat (first | (with_reducible exact HR222.out) | (with_reducible refine Kd.C_alloc ?_ _) | (with_reducible refine Kd.C_drewN ?_ _) | (with_reducible refine Kd.C_drew ?_) | exact HR222.out)) | (with_reducible refine Kd.C_alloc ?_ _) | (with_reducible refine Kd.C_drewN ?_ _) | (with_reducible refine Kd.C_drew ?_))); (case aB => exact dq25); (case aF => exact (fun k_ hk => Kd.fresh' (Kd.R_lt dq30) k_ hk)); (case aO => exact (by (with_reducible repeat (first | apply Kd.R_alloc | apply Kd.R_drewN | apply Kd.R_drew)); exact HO218.out)); (case aS => exact (below_size dq25)); (case aL => have := LMc36.out; omega); intro v224 w44 ho hb hg hat; rw [← Ny223.out] at ho; have n0_ := Aside0.mk (Kd.R_after (ok := (fun _ => True)) dq30 hg hat); have n1_ := Aside0.mk (hb); have n2_ := Aside0.mk ((show Kd.C (Kd.int .i64) w44 Ao37 y208.length y208 from by rw [Ny208.out]; exact Kd.C_take (m := (x5_2 : Int).toNat) ((Kd.R_reads' (Kd.R_after (ok := (fun _ => True)) dq30 hg hat)).2.2) KL40.out)); have n3_ := Aside0.mk ((show Kd.C (Kd.int .i64) w44 A43 y219.length y219 from by rw [Ny219.out, KA43.out]; exact Kd.C_drop (m := (x5_2 : Int).toNat) (c := co37) ((Kd.R_reads' (Kd.R_after (ok := (fun _ => True)) dq30 hg hat)).2.2) KL43.out ((Kd.R_reads' (Kd.R_after (ok := (fun _ => True)) dq30 hg hat)).2.1))); have n4_ := Aside0.mk (ho); clear HO_3; clear HB; clear HR211; clear HR222; clear HO218; have HO_3 := n0_; have HB := n1_; have HR211 := n2_; have HR222 := n3_; have HO225 := n4_; clear n0_ n1_ n2_ n3_ n4_; clear ho hb hg hat)))
    go_roundg k2
    case measure => have := HK1.out; have := HK2.out; omega
    case rel => exact ⟨(y223), (wrap64 (x4_1 + 1)), dq17, H', ⟨dq43⟩, ⟨by (with_reducible repeat (first | apply Kd.R_alloc | apply Kd.R_drewN | apply Kd.R_drew)); exact Kd.R_mono HO225.out (fun _ hk => trivial)⟩, ⟨dq25⟩⟩
   rw [if_pos c5] at H
   have c5b0 := decide_eq_true c5
   clear c5
   by_cases c6 : 0 ≤ x5_2
   rotate_left
   ·rw [if_neg c6] at H
    exact absurd H dq20
   rw [if_pos c6] at H
   have c6b0 := decide_eq_true c6
   clear c6
   by_cases c7 : 0 ≤ x4_1
   rotate_left
   ·rw [if_neg c7] at H
    exact absurd H dq20
   rw [if_pos c7] at H
   have c7b0 := decide_eq_true c7
   clear c7
   by_cases c8 : x4_1 < (l0.length : Int)
   rotate_left
   ·rw [if_neg c8] at H
    exact absurd H dq20
   rw [if_pos c8] at H
   have c8b0 := decide_eq_true c8
   clear c8
   by_cases c9 : (rd x3_1 x5_2) < (rd l0 x4_1)
   ·rw [if_pos c9] at H
    have c9b0 := decide_eq_true c9
    clear c9
    have H' := Aside0.mk H
    clear H
    obtain ⟨Ao10, co10, eo10⟩ := Kd.R_slice HO_3.out
    subst eo10
    have p180 : 0 ≤ (x5_2 : Int) := of_decide_eq_true dq18
    have q180 : x5_2 < (x3_1.length : Int) := of_decide_eq_true dq18
    obtain ⟨ad180, e180, hx180_0⟩ := Kd.at_int (Kd.R_reads' HO_3.out).2.2 x5_2 p180 q180
    cases e180
    replace p180 := eq_true p180
    replace q180 := eq_true q180
    have p181 : 0 ≤ (x4_1 : Int) := of_decide_eq_true dq18
    have q181 : x4_1 < (l0.length : Int) := of_decide_eq_true dq18
    obtain ⟨ad181, e181, hx181_0⟩ := Kd.at_int HR0.out x4_1 p181 q181
    cases e181
    replace hx181_0 := (HB.out.cell (World.block_lt_of_cell? w _ hx181_0)).trans hx181_0
    replace p181 := eq_true p181
    replace q181 := eq_true q181
    go_wp2
    repeat (go_quiet (fail); try go_wp2)
    go_roundg k2
    case measure => have := HK1.out; have := HK2.out; omega
    case rel => exact ⟨(wrap64 (x5_2 + 1)), dq17, H', ⟨dq43⟩, ⟨dq30⟩, ⟨dq25⟩⟩
   rw [if_neg c9] at H
   have c9b0 := decide_eq_false c9
   clear c9
   by_cases c11 : (rd x3_1 x5_2) = (rd l0 x4_1)
   ·rw [if_pos c11] at H
    have c11b0 := beq_iff_eq.mpr c11
    have c11b1 := bne_eq_false_iff_eq.mpr c11
    clear c11
    have H' := Aside0.mk H
    clear H
    obtain ⟨Ao12, co12, eo12⟩ := Kd.R_slice HO_3.out
    subst eo12
    have p180 : 0 ≤ (x5_2 : Int) := of_decide_eq_true dq18
    have q180 : x5_2 < (x3_1.length : Int) := of_decide_eq_true dq18
    obtain ⟨ad180, e180, hx180_0⟩ := Kd.at_int (Kd.R_reads' HO_3.out).2.2 x5_2 p180 q180
    cases e180
    replace p180 := eq_true p180
    replace q180 := eq_true q180
    have p181 : 0 ≤ (x4_1 : Int) := of_decide_eq_true dq18
    have q181 : x4_1 < (l0.length : Int) := of_decide_eq_true dq18
    obtain ⟨ad181, e181, hx181_0⟩ := Kd.at_int HR0.out x4_1 p181 q181
    cases e181
    replace hx181_0 := (HB.out.cell (World.block_lt_of_cell? w _ hx181_0)).trans hx181_0
    replace p181 := eq_true p181
    replace q181 := eq_true q181
    have p182 : 0 ≤ (x5_2 : Int) := of_decide_eq_true dq18
    have q182 : x5_2 < (x3_1.length : Int) := of_decide_eq_true dq18
    obtain ⟨ad182, e182, hx182_0⟩ := Kd.at_int (Kd.R_reads' HO_3.out).2.2 x5_2 p182 q182
    obtain rfl : ad180 = ad182 := (by injection e182)
    replace p182 := eq_true p182
    replace q182 := eq_true q182
    have p183 : 0 ≤ (x4_1 : Int) := of_decide_eq_true dq18
    have q183 : x4_1 < (l0.length : Int) := of_decide_eq_true dq18
    obtain ⟨ad183, e183, hx183_0⟩ := Kd.at_int HR0.out x4_1 p183 q183
    obtain rfl : ad181 = ad183 := (by injection e183)
    replace hx183_0 := (HB.out.cell (World.block_lt_of_cell? w _ hx183_0)).trans hx183_0
    replace p183 := eq_true p183
    replace q183 := eq_true q183
    go_wp2
    repeat (go_quiet (fail); try go_wp2)
    go_roundg k2
    case measure => have := HK1.out; have := HK2.out; omega
    case rel => exact ⟨(x3_1), (wrap64 (x4_1 + 1)), dq17, H', ⟨dq43⟩, ⟨dq30⟩, ⟨dq25⟩⟩
   rw [if_neg c11] at H
   have c11b0 := beq_eq_false_iff_ne.mpr c11
   have c11b1 := bne_iff_ne.mpr c11
   obtain ⟨y184, hy184⟩ : ∃ y_ : List Int, y_ = (([] : List Int)) := ⟨_, rfl⟩
   replace H : (if x5_2 ≤ (x3_1.length : Int) then ((some (x3_1.take (x5_2 : Int).toNat : List Int)).bind fun y187 => (if y184.length + y187.length < 17592186044416 then ((some (y184 ++ y187 : List Int)).bind fun y191 => (if y191.length < 17592186044416 then ((some (y191 ++ [rd l0 x4_1] : List Int)).bind fun y195 => ((some (x3_1.drop (x5_2 : Int).toNat : List Int)).bind fun y198 => (if y195.length + y198.length < 17592186044416 then (spec_l8Sorted.l0 k2 l0 (y195 ++ y198) (wrap64 (x4_1 + 1))) else (none)))) else (none))) else (none))) else (none)) = some r := by first | (rw [hy184]; with_reducible exact H) | (have H2_ := (Option.bind_some _ _).symm.trans H; rw [hy184]; with_reducible exact H2_) | (have H2_ := (Option.bind_some _ _).symm.trans H; with_reducible exact H2_) | with_reducible exact H | (rw [hy184]; exact H) | exact H
   have Ny184 := Aside0.mk hy184
   clear hy184
   have c13b0 := eq_true (of_decide_eq_true dq18 : 0 ≤ x5_2)
   by_cases c14 : x5_2 ≤ (x3_1.length : Int)
   rotate_left
   ·rw [if_neg c14] at H
    exact absurd H dq20
   rw [if_pos c14] at H
   have c14b0 := eq_true c14
   have c14b1 := decide_eq_true c14
   clear c14
   obtain ⟨y187, hy187⟩ : ∃ y_ : List Int, y_ = (x3_1.take (x5_2 : Int).toNat) := ⟨_, rfl⟩
   replace H : (if y184.length + y187.length < 17592186044416 then ((some (y184 ++ y187 : List Int)).bind fun y191 => (if y191.length < 17592186044416 then ((some (y191 ++ [rd l0 x4_1] : List Int)).bind fun y195 => ((some (x3_1.drop (x5_2 : Int).toNat : List Int)).bind fun y198 => (if y195.length + y198.length < 17592186044416 then (spec_l8Sorted.l0 k2 l0 (y195 ++ y198) (wrap64 (x4_1 + 1))) else (none)))) else (none))) else (none)) = some r := by first | (rw [hy187]; with_reducible exact H) | (have H2_ := (Option.bind_some _ _).symm.trans H; rw [hy187]; with_reducible exact H2_) | (have H2_ := (Option.bind_some _ _).symm.trans H; with_reducible exact H2_) | with_reducible exact H | (rw [hy187]; exact H) | exact H
   have Ny187 := Aside0.mk hy187
   clear hy187
   by_cases c15 : y184.length + y187.length < 17592186044416
   rotate_left
   ·rw [if_neg c15] at H
    exact absurd H dq20
   rw [if_pos c15] at H
   have LMc15 := Aside0.mk c15
   clear c15
   obtain ⟨y191, hy191⟩ : ∃ y_ : List Int, y_ = (y184 ++ y187) := ⟨_, rfl⟩
   replace H : (if y191.length < 17592186044416 then ((some (y191 ++ [rd l0 x4_1] : List Int)).bind fun y195 => ((some (x3_1.drop (x5_2 : Int).toNat : List Int)).bind fun y198 => (if y195.length + y198.length < 17592186044416 then (spec_l8Sorted.l0 k2 l0 (y195 ++ y198) (wrap64 (x4_1 + 1))) else (none)))) else (none)) = some r := by first | (rw [hy191]; with_reducible exact H) | (have H2_ := (Option.bind_some _ _).symm.trans H; rw [hy191]; with_reducible exact H2_) | (have H2_ := (Option.bind_some _ _).symm.trans H; with_reducible exact H2_) | with_reducible exact H | (rw [hy191]; exact H) | exact H
   have Ny191 := Aside0.mk hy191
   clear hy191
   by_cases c16 : y191.length < 17592186044416
   rotate_left
   ·rw [if_neg c16] at H
    exact absurd H dq20
   rw [if_pos c16] at H
   have LMc16 := Aside0.mk c16
   clear c16
   obtain ⟨y195, hy195⟩ : ∃ y_ : List Int, y_ = (y191 ++ [rd l0 x4_1]) := ⟨_, rfl⟩
   replace H : ((some (x3_1.drop (x5_2 : Int).toNat : List Int)).bind fun y198 => (if y195.length + y198.length < 17592186044416 then (spec_l8Sorted.l0 k2 l0 (y195 ++ y198) (wrap64 (x4_1 + 1))) else (none))) = some r := by first | (rw [hy195]; with_reducible exact H) | (have H2_ := (Option.bind_some _ _).symm.trans H; rw [hy195]; with_reducible exact H2_) | (have H2_ := (Option.bind_some _ _).symm.trans H; with_reducible exact H2_) | with_reducible exact H | (rw [hy195]; exact H) | exact H
   have Ny195 := Aside0.mk hy195
   clear hy195
   have c17b0 := eq_true (of_decide_eq_true dq18 : 0 ≤ x5_2)
   have c18b0 := eq_true (of_decide_eq_true dq18 : x5_2 ≤ (x3_1.length : Int))
   obtain ⟨y198, hy198⟩ : ∃ y_ : List Int, y_ = (x3_1.drop (x5_2 : Int).toNat) := ⟨_, rfl⟩
   replace H : (if y195.length + y198.length < 17592186044416 then (spec_l8Sorted.l0 k2 l0 (y195 ++ y198) (wrap64 (x4_1 + 1))) else (none)) = some r := by first | (rw [hy198]; with_reducible exact H) | (have H2_ := (Option.bind_some _ _).symm.trans H; rw [hy198]; with_reducible exact H2_) | (have H2_ := (Option.bind_some _ _).symm.trans H; with_reducible exact H2_) | with_reducible exact H | (rw [hy198]; exact H) | exact H
   have Ny198 := Aside0.mk hy198
   clear hy198
   by_cases c19 : y195.length + y198.length < 17592186044416
   rotate_left
   ·rw [if_neg c19] at H
    exact absurd H dq20
   rw [if_pos c19] at H
   have LMc19 := Aside0.mk c19
   clear c19
   obtain ⟨y202, hy202⟩ : ∃ y_ : List Int, y_ = (y195 ++ y198) := ⟨_, rfl⟩
   replace H : (spec_l8Sorted.l0 k2 l0 y202 (wrap64 (x4_1 + 1))) = some r := by first | (rw [hy202]; with_reducible exact H) | (have H2_ := (Option.bind_some _ _).symm.trans H; rw [hy202]; with_reducible exact H2_) | (have H2_ := (Option.bind_some _ _).symm.trans H; with_reducible exact H2_) | with_reducible exact H | (rw [hy202]; exact H) | exact H
   have Ny202 := Aside0.mk hy202
   clear hy202
   have H' := Aside0.mk H
   clear H
   obtain ⟨Ao20, co20, eo20⟩ := Kd.R_slice HO_3.out
   subst eo20
   have p180 : 0 ≤ (x5_2 : Int) := of_decide_eq_true dq18
   have q180 : x5_2 < (x3_1.length : Int) := of_decide_eq_true dq18
   obtain ⟨ad180, e180, hx180_0⟩ := Kd.at_int (Kd.R_reads' HO_3.out).2.2 x5_2 p180 q180
   cases e180
   replace p180 := eq_true p180
   replace q180 := eq_true q180
   have p181 : 0 ≤ (x4_1 : Int) := of_decide_eq_true dq18
   have q181 : x4_1 < (l0.length : Int) := of_decide_eq_true dq18
   obtain ⟨ad181, e181, hx181_0⟩ := Kd.at_int HR0.out x4_1 p181 q181
   cases e181
   replace hx181_0 := (HB.out.cell (World.block_lt_of_cell? w _ hx181_0)).trans hx181_0
   replace p181 := eq_true p181
   replace q181 := eq_true q181
   have p182 : 0 ≤ (x5_2 : Int) := of_decide_eq_true dq18
   have q182 : x5_2 < (x3_1.length : Int) := of_decide_eq_true dq18
   obtain ⟨ad182, e182, hx182_0⟩ := Kd.at_int (Kd.R_reads' HO_3.out).2.2 x5_2 p182 q182
   obtain rfl : ad180 = ad182 := (by injection e182)
   replace p182 := eq_true p182
   replace q182 := eq_true q182
   have p183 : 0 ≤ (x4_1 : Int) := of_decide_eq_true dq18
   have q183 : x4_1 < (l0.length : Int) := of_decide_eq_true dq18
   obtain ⟨ad183, e183, hx183_0⟩ := Kd.at_int HR0.out x4_1 p183 q183
   obtain rfl : ad181 = ad183 := (by injection e183)
   replace hx183_0 := (HB.out.cell (World.block_lt_of_cell? w _ hx183_0)).trans hx183_0
   replace p183 := eq_true p183
   replace q183 := eq_true q183
   go_wp2_with (fail)
   repeat (go_quiet (fail); try go_wp2_with (first | ((with_reducible refine gate_dst (N := 46) rfl ?_); refine Kd.R_lit (Kd.int .i64) _ 2 ?hg (N := 46) ?hd (xs := ([] : List Int)) (inner := []) (ok := fun _ => True) (okp := fun _ => True) ?hr ?hp (fun _ hk => hk) trivial (Below.refl _ _) (Nat.le_refl _) dq20 ?_; (case hd => rfl); (case hg => rfl); (case hr => exact dq0); (case hp => exact (Reps.none _ _)); intro v185 w21 ho22 hb hg_ hnew_; clear hg_ hnew_; (first | rw [← Ny184.out] at ho22 | (simp only [Int.reduceToNat] at ho22; rw [← Ny184.out] at ho22)); have n0_ := Aside0.mk (Kd.R_elder' dq30 (Kd.R_base ho22) hb); have n1_ := Aside0.mk (Kd.R_lower (Kd.R_new' ho22 (Kd.R_lt dq30)) (below_size dq25)); have n2_ := Aside0.mk (below_step dq25 hb); clear HO_3; clear HB; have HO_3 := n0_; have HO186 := n1_; have HB := n2_; clear n0_ n1_ n2_; clear hb ho22; have q23 : (x5_2 : Int) ≤ ((x3_1.length : Int) : Int) := of_decide_eq_true dq18; obtain ⟨i023, hi023, _, hsz23, _⟩ := info_parts info2; have hroom23 : x3_1.length ≤ co20 := (Kd.R_reads' HO_3.out).2.1; have hC23 : Kd.C (Kd.int .i64) _ (some ad180) x3_1.length x3_1 := (Kd.R_reads' HO_3.out).2.2; have hcut23 := cut_to (P := Tryz.prog) 47 2 .i64 Tryz.underlying47 hi023 (some ad180) x3_1.length co20 x5_2 (of_decide_eq_true dq18) q23 hroom23; have hr23 := Kd.C_take (m := (x5_2 : Int).toNat) hC23 dq23; have hy23 : y187.length = (x5_2 : Int).toNat := (by rw [Ny187.out, List.length_take]; omega); rw [← Ny187.out] at hr23; rw [← hy23] at hcut23; have HR190 := Aside0.mk hr23; have HC190 := Aside0.mk (show y187.length ≤ co20 from by omega); clear hr23 hC23 hroom23 hi023 hsz23; have KY23 := Aside0.mk hy23; clear hy23; have KL23 := Aside0.mk (show (x5_2 : Int).toNat ≤ x3_1.length from by omega); replace q23 := eq_true q23) | ((with_reducible refine gate_builtin (b := .append) (xs := #[.tmp 46, .tmp 49]) rfl ?_); at_builtin; refine Kd.R_append_rows (Kd.int .i64) (w0 := w) w.heap.size rfl (.tmp 46) (.tmp 49) 47 2 (.int .i64 0) 8 rfl Tryz.underlying47 info2 rfl dq29 dq23 v185 y184 y187 _ _ _ (fun k_ => some k_ ≠ (.slice (some ad180) x3_1.length co20 : Value).ownBlock) (fun _ => False) rfl rfl ?aO ?aR (fun _ _ h => h) (fun _ h => h.elim) ?aF ?aB ?aS ?aL ?_; (case aR => repeat (first | exact (by repeat (first | (with_reducible exact HR190.out) | (with_reducible refine Kd.C_alloc ?_ _) | (with_reducible refine Kd.C_drewN ?_ _) | (with_reducible refine Kd.C_drew ?_) | exact HR190.out)) | (with_reducible refine Kd.C_alloc ?_ _) | (with_reducible refine Kd.C_drewN ?_ _) | (with_reducible refine Kd.C_drew ?_))); (case aB => exact dq25); (case aF => exact (fun k_ hk => Kd.fresh' (Kd.R_lt dq30) k_ hk)); (case aO => exact (by (with_reducible repeat (first | apply Kd.R_alloc | apply Kd.R_drewN | apply Kd.R_drew)); exact Kd.R_mono HO186.out (fun _ hk => hk.2))); (case aS => exact (below_size dq25)); (case aL => have := LMc15.out; omega); intro v192 w24 ho hb hg hat; rw [← Ny191.out] at ho; have n0_ := Aside0.mk (Kd.R_after (ok := (fun _ => True)) dq30 hg hat); have n1_ := Aside0.mk (hb); have n2_ := Aside0.mk ((show Kd.C (Kd.int .i64) w24 (some ad180) y187.length y187 from by rw [Ny187.out]; exact Kd.C_take (m := (x5_2 : Int).toNat) ((Kd.R_reads' (Kd.R_after (ok := (fun _ => True)) dq30 hg hat)).2.2) KL23.out)); have n3_ := Aside0.mk (ho); clear HO_3; clear HB; clear HR190; clear HO186; have HO_3 := n0_; have HB := n1_; have HR190 := n2_; have HO193 := n3_; clear n0_ n1_ n2_ n3_; clear ho hb hg hat; have p194 : 0 ≤ (x4_1 : Int) := of_decide_eq_true dq18; have q194 : x4_1 < (l0.length : Int) := of_decide_eq_true dq18; obtain ⟨ad194, e194, hx194_0⟩ := Kd.at_int HR0.out x4_1 p194 q194; obtain rfl : ad181 = ad194 := (by injection e194); replace hx194_0 := (HB.out.cell (World.block_lt_of_cell? w _ hx194_0)).trans hx194_0; replace p194 := eq_true p194; replace q194 := eq_true q194) | ((with_reducible refine gate_builtin (b := .append) (xs := #[.tmp 51, .tmp 56]) rfl ?_); at_builtin; refine Kd.R_append (Kd.int .i64) (w0 := w) w.heap.size rfl (.tmp 51) (.tmp 56) 47 2 (.int .i64 0) 8 rfl Tryz.underlying47 info2 rfl dq29 dq23 v192 y191 (rd l0 x4_1) [.int .i64 (rd l0 x4_1)] (fun k_ => some k_ ≠ (.slice (some ad180) x3_1.length co20 : Value).ownBlock) (fun _ => False) rfl rfl ?aP (fun _ hk => hk.elim) ?aF ?aO ?aB ?aS ?aL ?_; (case aP => exact rfl); (case aB => exact dq25); (case aF => exact (fun k_ hk => Kd.fresh' (Kd.R_lt dq30) k_ hk)); (case aO => exact (by (with_reducible repeat (first | apply Kd.R_alloc | apply Kd.R_drewN | apply Kd.R_drew)); exact HO193.out)); (case aS => exact (below_size dq25)); (case aL => have := LMc16.out; omega); intro v196 w25 ho hb hg hat; rw [← Ny195.out] at ho; have n0_ := Aside0.mk (Kd.R_after (ok := (fun _ => True)) dq30 hg hat); have n1_ := Aside0.mk (hb); have n2_ := Aside0.mk ((show Kd.C (Kd.int .i64) w25 (some ad180) y187.length y187 from by rw [Ny187.out]; exact Kd.C_take (m := (x5_2 : Int).toNat) ((Kd.R_reads' (Kd.R_after (ok := (fun _ => True)) dq30 hg hat)).2.2) KL23.out)); have n3_ := Aside0.mk (ho); clear HO_3; clear HB; clear HR190; clear HO193; have HO_3 := n0_; have HB := n1_; have HR190 := n2_; have HO197 := n3_; clear n0_ n1_ n2_ n3_; clear ho hb hg hat; have q26 : (x5_2 : Int) ≤ ((x3_1.length : Int) : Int) := of_decide_eq_true dq18; obtain ⟨i026, hi026, _, hsz26, _⟩ := info_parts info2; have hroom26 : x3_1.length ≤ co20 := (Kd.R_reads' HO_3.out).2.1; have hC26 : Kd.C (Kd.int .i64) _ (some ad180) x3_1.length x3_1 := (Kd.R_reads' HO_3.out).2.2; have q026 : (0 : Int) ≤ (x5_2 : Int) := of_decide_eq_true dq18; have hcut26 := cut_from (P := Tryz.prog) 47 2 .i64 Tryz.underlying47 hi026 1 hsz26 (some ad180) x3_1.length co20 x5_2 q026 q26; have hr26 := Kd.C_drop (m := (x5_2 : Int).toNat) (c := co20) hC26 dq23 hroom26; obtain ⟨A26, hA26⟩ : ∃ A1, A1 = (if co20 = (x5_2 : Int).toNat then (some ad180) else ((some ad180) : Option Addr).map (·.add ((x5_2 : Int).toNat * 1))) := ⟨_, rfl⟩; obtain ⟨c26, hc26⟩ : ∃ c1, c1 = co20 - (x5_2 : Int).toNat := ⟨_, rfl⟩; have hy26 : y198.length = x3_1.length - (x5_2 : Int).toNat := (by rw [Ny198.out, List.length_drop] <;> omega); rw [show (x3_1).drop (x5_2 : Int).toNat = y198 from Ny198.out.symm] at hr26; replace hr26 : Kd.C (Kd.int .i64) _ A26 y198.length y198 := (by rw [hA26]; exact hr26); rw [← hy26, ← hA26, ← hc26] at hcut26; have HR201 := Aside0.mk hr26; have HC201 := Aside0.mk (show y198.length ≤ c26 from by rw [hy26, hc26]; exact Nat.sub_le_sub_right hroom26 _); clear hr26 hC26 hroom26 hi026 hsz26 hc26; have KY26 := Aside0.mk hy26; have KA26 := Aside0.mk hA26; clear hy26 hA26; have KL26 := Aside0.mk (show (x5_2 : Int).toNat ≤ x3_1.length from by omega); replace q26 := eq_true q26) | ((with_reducible refine gate_builtin (b := .append) (xs := #[.tmp 58, .tmp 61]) rfl ?_); at_builtin; refine Kd.R_append_rows (Kd.int .i64) (w0 := w) w.heap.size rfl (.tmp 58) (.tmp 61) 47 2 (.int .i64 0) 8 rfl Tryz.underlying47 info2 rfl dq29 dq23 v196 y195 y198 _ _ _ (fun k_ => some k_ ≠ (.slice (some ad180) x3_1.length co20 : Value).ownBlock) (fun _ => False) rfl rfl ?aO ?aR (fun _ _ h => h) (fun _ h => h.elim) ?aF ?aB ?aS ?aL ?_; (case aR => repeat (first | exact (by repeat (first | (with_reducible exact HR201.out) | (with_reducible refine Kd.C_alloc ?_ _) | (with_reducible refine Kd.C_drewN ?_ _) | (with_reducible refine Kd.C_drew ?_) | exact HR201.out)) | (with_reducible refine Kd.C_alloc ?_ _) | (with_reducible refine Kd.C_drewN ?_ _) | (with_reducible refine Kd.C_drew ?_))); (case aB => exact dq25); (case aF => exact (fun k_ hk => Kd.fresh' (Kd.R_lt dq30) k_ hk)); (case aO => exact (by (with_reducible repeat (first | apply Kd.R_alloc | apply Kd.R_drewN | apply Kd.R_drew)); exact HO197.out)); (case aS => exact (below_size dq25)); (case aL => have := LMc19.out; omega); intro v203 w27 ho hb hg hat; rw [← Ny202.out] at ho; have n0_ := Aside0.mk (Kd.R_after (ok := (fun _ => True)) dq30 hg hat); have n1_ := Aside0.mk (hb); have n2_ := Aside0.mk ((show Kd.C (Kd.int .i64) w27 (some ad180) y187.length y187 from by rw [Ny187.out]; exact Kd.C_take (m := (x5_2 : Int).toNat) ((Kd.R_reads' (Kd.R_after (ok := (fun _ => True)) dq30 hg hat)).2.2) KL23.out)); have n3_ := Aside0.mk ((show Kd.C (Kd.int .i64) w27 A26 y198.length y198 from by rw [Ny198.out, KA26.out]; exact Kd.C_drop (m := (x5_2 : Int).toNat) (c := co20) ((Kd.R_reads' (Kd.R_after (ok := (fun _ => True)) dq30 hg hat)).2.2) KL26.out ((Kd.R_reads' (Kd.R_after (ok := (fun _ => True)) dq30 hg hat)).2.1))); have n4_ := Aside0.mk (ho); clear HO_3; clear HB; clear HR190; clear HR201; clear HO197; have HO_3 := n0_; have HB := n1_; have HR190 := n2_; have HR201 := n3_; have HO204 := n4_; clear n0_ n1_ n2_ n3_ n4_; clear ho hb hg hat)))
   go_roundg k2
   case measure => have := HK1.out; have := HK2.out; omega
   case rel => exact ⟨(y202), (wrap64 (x4_1 + 1)), dq17, H', ⟨dq43⟩, ⟨by (with_reducible repeat (first | apply Kd.R_alloc | apply Kd.R_drewN | apply Kd.R_drew)); exact Kd.R_mono HO204.out (fun _ hk => trivial)⟩, ⟨dq25⟩⟩

end Go.Proofs.YtpmjpbaeecnpiaaGreatDoor.L
