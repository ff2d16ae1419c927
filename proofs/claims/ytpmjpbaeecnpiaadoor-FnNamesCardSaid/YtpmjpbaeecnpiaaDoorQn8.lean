/- Words and contracts for the row RowFnNames: what the Go functions answer that it calls; printed by programs of the kit and of this session, and merged. -/
import Derived.Test.YtpmjpbaeecnpiaaDoorQn7
namespace Go.Proofs.YtpmjpbaeecnpiaaDoor.L
open Go.RowKit Go.Proofs.YtpmjpbaeecnpiaaDoorW.PrintWords Go.Proofs.YtpmjpbaeecnpiaaDoorW.PrintLast Go.Proofs.YtpmjpbaeecnpiaaDoorW.PrintMore
attribute [local go_sem] max2_int min2_int max_two min_two max_three min_three max_four min_four
set_option linter.unusedVariables false
set_option linter.unusedSimpArgs false

theorem bne_nilE65 (l : List UInt8) : (l != ([] : List UInt8)) = !l.isEmpty := by cases l <;> rfl
/-! ### impl_isBinding: function 98 -/
def impl_isBinding.f (k : Nat) (a0 : ByteArray) : Option (Bool) := (impl_Split.f k a0).bind fun bt654 => (if bt654.1.toList = ([120, 109, 108, 110, 115] : List UInt8) then (some true) else (if bt654.1.toList = ([] : List UInt8) then (some (bt654.2.1.toList == ([120, 109, 108, 110, 115] : List UInt8))) else (some false)))
set_option maxHeartbeats 8000000 in
set_option maxRecDepth 100000 in
theorem impl_isBinding.calls (k : Nat) (a0 : ByteArray) (r : Bool) (w : World) (h : impl_isBinding.f k a0 = some r) :
  Calls Tryd.prog 98 #[.string a0] w fun e w' => e = .returned (.bool r) ∧ Below w.heap.size w w' := by
 have HB := Aside0.mk (Below.refl w.heap.size w)
 have H : ((impl_Split.f k a0).bind fun bt654 => (if bt654.1.toList = ([120, 109, 108, 110, 115] : List UInt8) then (some true) else (if bt654.1.toList = ([] : List UInt8) then (some (bt654.2.1.toList == ([120, 109, 108, 110, 115] : List UInt8))) else (some false)))) = some r := h
 clear h
 replace H := Option.bind_eq_some_iff.mp H
 obtain ⟨⟨t654, t655, t656⟩, A20, H⟩ := H
 replace H : (if t654.toList = ([120, 109, 108, 110, 115] : List UInt8) then (some true) else (if t654.toList = ([] : List UInt8) then (some (t655.toList == ([120, 109, 108, 110, 115] : List UInt8))) else (some false))) = some r := H
 have A2 := Aside0.mk A20
 clear A20
 by_cases c3 : t654.toList = ([120, 109, 108, 110, 115] : List UInt8)
 ·rw [if_pos c3] at H
  have c3b0 := beq_iff_eq.mpr c3
  have c3b1 := bne_eq_false_iff_eq.mpr c3
  clear c3
  obtain rfl := Option.some.inj H
  go_enter Tryd.func98, Tryd.ntmps98
  go_wp2_with (first | ((with_reducible refine gate_callee (f := 38) rfl ?_); refine goesL_ (some 8) rfl rfl Tryd.func38 dq23 rfl #[.string a0] rfl dq22 ?_; (with_reducible refine (impl_Split.calls k a0 t654 t655 t656 _ A2.out).mono ?_); rintro e w4 ⟨rfl, hb⟩; refine ⟨_, rfl, ?_⟩; have n0_ := Aside0.mk (below_step dq24 hb); clear HB; have HB := n0_; clear n0_; (try clear hb); (try clear hb2); (try clear hk); (try clear hi)))
  go_ret
  exact ⟨dq26, dq24⟩
 rw [if_neg c3] at H
 have c3b0 := beq_eq_false_iff_ne.mpr c3
 have c3b1 := bne_iff_ne.mpr c3
 by_cases c5 : t654.toList = ([] : List UInt8)
 rotate_left
 ·rw [if_neg c5] at H
  have c5b0 := beq_eq_false_iff_ne.mpr c5
  have c5b1 := bne_iff_ne.mpr c5
  have c5b3 : (!t654.toList.isEmpty) = true := (bne_nilE65 t654.toList).symm.trans c5b1
  obtain rfl := Option.some.inj H
  go_enter Tryd.func98, Tryd.ntmps98
  go_wp2_with (first | ((with_reducible refine gate_callee (f := 38) rfl ?_); refine goesL_ (some 8) rfl rfl Tryd.func38 dq23 rfl #[.string a0] rfl dq22 ?_; (with_reducible refine (impl_Split.calls k a0 t654 t655 t656 _ A2.out).mono ?_); rintro e w7 ⟨rfl, hb⟩; refine ⟨_, rfl, ?_⟩; have n0_ := Aside0.mk (below_step dq24 hb); clear HB; have HB := n0_; clear n0_; (try clear hb); (try clear hb2); (try clear hk); (try clear hi)))
  go_ret
  exact ⟨dq26, dq24⟩
 rw [if_pos c5] at H
 have c5b0 := beq_iff_eq.mpr c5
 have c5b1 := bne_eq_false_iff_eq.mpr c5
 have c5b3 : (!t654.toList.isEmpty) = false := (bne_nilE65 t654.toList).symm.trans c5b1
 clear c5
 obtain rfl := Option.some.inj H
 go_enter Tryd.func98, Tryd.ntmps98
 go_wp2_with (first | ((with_reducible refine gate_callee (f := 38) rfl ?_); refine goesL_ (some 8) rfl rfl Tryd.func38 dq23 rfl #[.string a0] rfl dq22 ?_; (with_reducible refine (impl_Split.calls k a0 t654 t655 t656 _ A2.out).mono ?_); rintro e w6 ⟨rfl, hb⟩; refine ⟨_, rfl, ?_⟩; have n0_ := Aside0.mk (below_step dq24 hb); clear HB; have HB := n0_; clear n0_; (try clear hb); (try clear hb2); (try clear hk); (try clear hi)))
 go_ret
 exact ⟨dq26, dq24⟩

end Go.Proofs.YtpmjpbaeecnpiaaDoor.L

namespace Go.Proofs.YtpmjpbaeecnpiaaDoor.L
open Go.RowKit Go.Proofs.YtpmjpbaeecnpiaaDoorW.PrintWords Go.Proofs.YtpmjpbaeecnpiaaDoorW.PrintLast Go.Proofs.YtpmjpbaeecnpiaaDoorW.PrintMore
attribute [local go_sem] max2_int min2_int max_two min_two max_three min_three max_four min_four
set_option linter.unusedVariables false
set_option linter.unusedSimpArgs false

attribute [local go_sem high] eqA56
/-! ### impl_QName_114: function 114 -/
def impl_QName_114.l0 : Nat → List (S56) → Int → Int → ByteArray → ByteArray → Option (Int)
 | 0, _, _, _, _, _ => none
 | k + 1, x0, x7, x8, x658000, x658001 => if x8 < x7 then (if 0 ≤ x8 then (if x8 < (x0.length : Int) then (if (x658000.toList == (((rd_T56 x0 x8).f0).toList) && (x658001.toList == (((rd_T56 x0 x8).f1).toList))) = true then (some x8) else (impl_QName_114.l0 k x0 x7 (wrap64 (x8 + 1)) x658000 x658001)) else (none)) else (none)) else (some (-1))
def impl_QName_114.f (k : Nat) (l0 : List (S56)) (a1_0 : ByteArray) (a1_1 : ByteArray) : Option (Int) := impl_QName_114.l0 k l0 (l0.length : Int) 0 a1_0 a1_1
set_option maxHeartbeats 8000000 in
set_option maxRecDepth 100000 in
theorem impl_QName_114.calls (k : Nat) (A0 : Option Addr) (c0 : Nat) (l0 : List (S56)) (a1_0 : ByteArray) (a1_1 : ByteArray) (r : Int) (w : World) (hr0 : Kd.C k56 w A0 l0.length l0) (hc0 : l0.length ≤ c0) (h : impl_QName_114.f k l0 a1_0 a1_1 = some r) :
  Calls Tryd.prog 114 #[.slice A0 l0.length c0, .agg #[.string a1_0, .string a1_1]] w fun e w' => e = .returned (.int .i64 r) ∧ Below w.heap.size w w' := by
 have hu56 := Tryd.underlying56
 have HR0 := Aside0.mk hr0
 have HC0 := Aside0.mk hc0
 clear hr0 hc0
 have HB := Aside0.mk (Below.refl w.heap.size w)
 have H : (impl_QName_114.l0 k l0 (l0.length : Int) 0 a1_0 a1_1) = some r := h
 clear h
 have H' := Aside0.mk H
 clear H
 go_enter Tryd.func114, Tryd.ntmps114
 go_wp2_with (first | ((with_reducible refine gate_dst (N := 3) rfl ?_); refine box_event ?hg (N := 3) ?hd (cs := #[.string a1_0, .string a1_1]) (t := 56) ?hr ?_; (case hd => rfl); (case hg => rfl); (case hr => exact dq1); intro gb657 hg w3 hbox hb; have n0_ := Aside0.mk (below_step dq24 hb); have n1_ := Aside0.mk (hbox); have n2_ := Aside0.mk ((dq27 : w.heap.size ≤ gb657)); have n3_ := Aside0.mk ((dq27 : w.heap.size ≤ gb657)); clear HB; have HB := n0_; have BK657 := n1_; have GW657 := n2_; have GE657 := n3_; clear n0_ n1_ n2_ n3_; clear hb hbox hg))
 repeat (go_quiet (first | ((with_reducible refine gate_dst (N := 3) rfl ?_); refine box_event ?hg (N := 3) ?hd (cs := #[.string a1_0, .string a1_1]) (t := 56) ?hr ?_; (case hd => rfl); (case hg => rfl); (case hr => exact dq1); intro gb657 hg w3 hbox hb; have n0_ := Aside0.mk (below_step dq24 hb); have n1_ := Aside0.mk (hbox); have n2_ := Aside0.mk ((dq27 : w.heap.size ≤ gb657)); have n3_ := Aside0.mk ((dq27 : w.heap.size ≤ gb657)); clear HB; have HB := n0_; have BK657 := n1_; have GW657 := n2_; have GE657 := n3_; clear n0_ n1_ n2_ n3_; clear hb hbox hg)); try go_wp2_with (first | ((with_reducible refine gate_dst (N := 3) rfl ?_); refine box_event ?hg (N := 3) ?hd (cs := #[.string a1_0, .string a1_1]) (t := 56) ?hr ?_; (case hd => rfl); (case hg => rfl); (case hr => exact dq1); intro gb657 hg w3 hbox hb; have n0_ := Aside0.mk (below_step dq24 hb); have n1_ := Aside0.mk (hbox); have n2_ := Aside0.mk ((dq27 : w.heap.size ≤ gb657)); have n3_ := Aside0.mk ((dq27 : w.heap.size ≤ gb657)); clear HB; have HB := n0_; have BK657 := n1_; have GW657 := n2_; have GE657 := n3_; clear n0_ n1_ n2_ n3_; clear hb hbox hg)))
 go_loopg [8] k (fun kq v8 w' => ∃ (x8_1 : Int), v8 = .int .i64 x8_1 ∧ Aside0 (impl_QName_114.l0 kq l0 (l0.length : Int) x8_1 a1_0 a1_1 = some r) ∧ Aside0 (kq ≤ k) ∧ Aside0 (w'.heap[gb657]? = some (.cells #[.string a1_0, .string a1_1] 56 (0, 0))) ∧ Aside0 (Below w.heap.size w w'))
 case atStart => exact ⟨(0), dq18, H', ⟨Nat.le_refl _⟩, ⟨by refine blk_up ?_; exact BK657.out⟩, ⟨dq102⟩⟩
 clear H'
 try clear c1
 try clear p2
 obtain ⟨x8_1, rfl, HA, HK1, BK657, HB⟩ := hrel
 cases gk with
 | zero => exact absurd HA.out (by simp [impl_QName_114.l0])
 | succ k1 =>
  have H := HA.out
  clear HA
  simp only [impl_QName_114.l0] at H
  by_cases c4 : x8_1 < (l0.length : Int)
  rotate_left
  ·rw [if_neg c4] at H
   have c4b0 := decide_eq_false c4
   clear c4
   obtain rfl := Option.some.inj H
   go_wp2
   repeat (go_quiet (fail); try go_wp2)
   go_ret
   exact ⟨dq26, dq102⟩
  rw [if_pos c4] at H
  have c4b0 := decide_eq_true c4
  clear c4
  by_cases c5 : 0 ≤ x8_1
  rotate_left
  ·rw [if_neg c5] at H
   exact absurd H dq21
  rw [if_pos c5] at H
  have c5b0 := decide_eq_true c5
  clear c5
  by_cases c6 : x8_1 < (l0.length : Int)
  rotate_left
  ·rw [if_neg c6] at H
   exact absurd H dq21
  rw [if_pos c6] at H
  have c6b0 := decide_eq_true c6
  clear c6
  by_cases c7 : (a1_0.toList == (((rd_T56 l0 x8_1).f0).toList) && (a1_1.toList == (((rd_T56 l0 x8_1).f1).toList))) = true
  ·rw [if_pos c7] at H
   have c7b0 : (a1_0.toList == (((rd_T56 l0 x8_1).f0).toList) && (a1_1.toList == (((rd_T56 l0 x8_1).f1).toList))) = true := c7
   (try (have c7b1 : decide (a1_0.toList = (((rd_T56 l0 x8_1).f0).toList) && (a1_1.toList == (((rd_T56 l0 x8_1).f1).toList))) = true := by simpa using c7))
   (try (have c7b2 : (a1_0.toList == (((rd_T56 l0 x8_1).f0).toList) && (a1_1.toList == (((rd_T56 l0 x8_1).f1).toList))) = true := by simpa using c7))
   clear c7
   obtain rfl := Option.some.inj H
   obtain ⟨⟨hcz8_0, hcz8_1⟩, hfz8_0, hfz8_1⟩ := blkC2 BK657.out
   have p658 : 0 ≤ (x8_1 : Int) := of_decide_eq_true dq19
   have q658 : x8_1 < (l0.length : Int) := of_decide_eq_true dq19
   obtain ⟨ad658, e658, hx658_0, hx658_1⟩ := at_T56 HR0.out x8_1 p658 q658
   cases e658
   replace hx658_0 := (HB.out.cell (World.block_lt_of_cell? w _ hx658_0)).trans hx658_0
   replace hx658_1 := (HB.out.cell (World.block_lt_of_cell? w _ hx658_1)).trans hx658_1
   replace p658 := eq_true p658
   replace q658 := eq_true q658
   go_wp2
   repeat (go_quiet (fail); try go_wp2)
   go_ret
   exact ⟨dq26, dq102⟩
  rw [if_neg c7] at H
  have c7b0 : (a1_0.toList == (((rd_T56 l0 x8_1).f0).toList) && (a1_1.toList == (((rd_T56 l0 x8_1).f1).toList))) = false := by simpa using c7
  (try (have c7b1 : decide (a1_0.toList = (((rd_T56 l0 x8_1).f0).toList) && (a1_1.toList == (((rd_T56 l0 x8_1).f1).toList))) = false := by simpa using c7))
  (try (have c7b2 : (a1_0.toList == (((rd_T56 l0 x8_1).f0).toList) && (a1_1.toList == (((rd_T56 l0 x8_1).f1).toList))) = false := by simpa using c7))
  (try (have c7b3 : ¬ (a1_0.toList = (((rd_T56 l0 x8_1).f0).toList) && (a1_1.toList == (((rd_T56 l0 x8_1).f1).toList))) := by simpa using c7))
  clear c7
  have H' := Aside0.mk H
  clear H
  obtain ⟨⟨hcz9_0, hcz9_1⟩, hfz9_0, hfz9_1⟩ := blkC2 BK657.out
  have p658 : 0 ≤ (x8_1 : Int) := of_decide_eq_true dq19
  have q658 : x8_1 < (l0.length : Int) := of_decide_eq_true dq19
  obtain ⟨ad658, e658, hx658_0, hx658_1⟩ := at_T56 HR0.out x8_1 p658 q658
  cases e658
  replace hx658_0 := (HB.out.cell (World.block_lt_of_cell? w _ hx658_0)).trans hx658_0
  replace hx658_1 := (HB.out.cell (World.block_lt_of_cell? w _ hx658_1)).trans hx658_1
  replace p658 := eq_true p658
  replace q658 := eq_true q658
  go_wp2
  repeat (go_quiet (fail); try go_wp2)
  go_roundg k1
  case measure => have := HK1.out; omega
  case rel => exact ⟨(wrap64 (x8_1 + 1)), dq18, H', ⟨dq20⟩, ⟨by refine blk_up ?_; exact BK657.out⟩, ⟨dq102⟩⟩

end Go.Proofs.YtpmjpbaeecnpiaaDoor.L

namespace Go.Proofs.YtpmjpbaeecnpiaaDoor.L
open Go.RowKit Go.Proofs.YtpmjpbaeecnpiaaDoorW.PrintWords Go.Proofs.YtpmjpbaeecnpiaaDoorW.PrintLast Go.Proofs.YtpmjpbaeecnpiaaDoorW.PrintMore
attribute [local go_sem] max2_int min2_int max_two min_two max_three min_three max_four min_four
set_option linter.unusedVariables false
set_option linter.unusedSimpArgs false

/-! ### impl_QName_99: function 99 -/
def impl_QName_99.f (k : Nat) (l0 : List (S56)) (a1_0 : ByteArray) (a1_1 : ByteArray) : Option (Bool) := (impl_QName_114.f k l0 a1_0 a1_1).bind fun t660 => (some (decide (t660 ≥ 0)))
set_option maxHeartbeats 8000000 in
set_option maxRecDepth 100000 in
theorem impl_QName_99.calls (k : Nat) (A0 : Option Addr) (c0 : Nat) (l0 : List (S56)) (a1_0 : ByteArray) (a1_1 : ByteArray) (r : Bool) (w : World) (hr0 : Kd.C k56 w A0 l0.length l0) (hc0 : l0.length ≤ c0) (h : impl_QName_99.f k l0 a1_0 a1_1 = some r) :
  Calls Tryd.prog 99 #[.slice A0 l0.length c0, .agg #[.string a1_0, .string a1_1]] w fun e w' => e = .returned (.bool r) ∧ Below w.heap.size w w' := by
 have hu56 := Tryd.underlying56
 have HR0 := Aside0.mk hr0
 have HC0 := Aside0.mk hc0
 clear hr0 hc0
 have HB := Aside0.mk (Below.refl w.heap.size w)
 have H : ((impl_QName_114.f k l0 a1_0 a1_1).bind fun t660 => (some (decide (t660 ≥ 0)))) = some r := h
 clear h
 replace H := Option.bind_eq_some_iff.mp H
 obtain ⟨t660, A30, H⟩ := H
 replace H : (some (decide (t660 ≥ 0))) = some r := H
 have A3 := Aside0.mk A30
 clear A30
 obtain rfl := Option.some.inj H
 go_enter Tryd.func99, Tryd.ntmps99
 go_wp2_with (first | ((with_reducible refine gate_dst (N := 3) rfl ?_); refine box_event ?hg (N := 3) ?hd (cs := #[.string a1_0, .string a1_1]) (t := 56) ?hr ?_; (case hd => rfl); (case hg => rfl); (case hr => exact dq1); intro gb659 hg w4 hbox hb; have n0_ := Aside0.mk (below_step dq24 hb); have n1_ := Aside0.mk (hbox); have n2_ := Aside0.mk ((dq27 : w.heap.size ≤ gb659)); have n3_ := Aside0.mk ((dq27 : w.heap.size ≤ gb659)); clear HB; have HB := n0_; have BK659 := n1_; have GW659 := n2_; have GE659 := n3_; clear n0_ n1_ n2_ n3_; clear hb hbox hg; obtain ⟨⟨hcz5_0, hcz5_1⟩, hfz5_0, hfz5_1⟩ := blkC2 BK659.out) | ((with_reducible refine gate_callee (f := 114) rfl ?_); refine goesL_ (some 7) rfl rfl Tryd.func114 dq23 rfl #[.slice A0 l0.length c0, .agg #[.string a1_0, .string a1_1]] rfl dq22 ?_; (with_reducible refine (impl_QName_114.calls k _ _ l0 a1_0 a1_1 t660 _ ?side1 ?side2 A3.out).mono ?_); (case side1 => exact dq6); (case side2 => exact HC0.out); rintro e w6 ⟨rfl, hb⟩; refine ⟨_, rfl, ?_⟩; have n0_ := Aside0.mk (blk_below (g := gb659) (o := .cells #[.string a1_0, .string a1_1] 56 (0, 0)) (by refine blk_up ?_; exact BK659.out) hb); have n1_ := Aside0.mk (below_step dq103 hb); clear BK659; clear HB; have BK659 := n0_; have HB := n1_; clear n0_ n1_; (try clear hb); (try clear hb2); (try clear hk); (try clear hi)))
 go_ret
 exact ⟨dq26, dq103⟩

theorem bne_nilE68 (l : List UInt8) : (l != ([] : List UInt8)) = !l.isEmpty := by cases l <;> rfl
/-! ### impl_attrNames: function 73 -/
def impl_attrNames.l0 : Nat → List (S39) → Int → List (S56) → List (S46) → Int → Int → Option ((List (S56)) × Bool)
 | 0, _, _, _, _, _, _ => none
 | k + 1, x0, x1, x6, x20, x21, x22 => if x22 < x21 then (if 0 ≤ x22 then (if x22 < (x20.length : Int) then ((impl_isBinding.f k ((rd_T46 x20 x22).f0)).bind fun t667 => (if t667 = true then (impl_attrNames.l0 k x0 x1 x6 x20 x21 (wrap64 (x22 + 1))) else ((impl_Split.f k ((rd_T46 x20 x22).f0)).bind fun bt668 => (if bt668.1.toList = ([] : List UInt8) then ((impl_QName_99.f k x6 (⟨#[]⟩ : ByteArray) bt668.2.1).bind fun t672 => (if t672 = true then (some (([] : List (S56)), false)) else (if x6.length < 4398046511104 then (impl_attrNames.l0 k x0 x1 (x6 ++ [(⟨(⟨#[]⟩ : ByteArray), bt668.2.1⟩ : S56)]) x20 x21 (wrap64 (x22 + 1))) else (none)))) else ((impl_bound.f k x0 x1 bt668.1).bind fun bt676 => (if bt676.2 = true then ((impl_QName_99.f k x6 bt676.1 bt668.2.1).bind fun t678 => (if t678 = true then (some (([] : List (S56)), false)) else (if x6.length < 4398046511104 then (impl_attrNames.l0 k x0 x1 (x6 ++ [(⟨bt676.1, bt668.2.1⟩ : S56)]) x20 x21 (wrap64 (x22 + 1))) else (none)))) else (some (([] : List (S56)), false)))))))) else (none)) else (none)) else (some (x6, true))
def impl_attrNames.f (k : Nat) (l0 : List (S39)) (a1 : Int) : Option ((List (S56)) × Bool) := if 0 ≤ a1 then (if a1 < (l0.length : Int) then (impl_attrNames.l0 k l0 a1 (([] : List (S56))) ((rd_T39 l0 a1).f3) (((rd_T39 l0 a1).f3).length : Int) 0) else (none)) else (none)
set_option maxHeartbeats 8000000 in
set_option maxRecDepth 100000 in
theorem impl_attrNames.calls (k : Nat) (A0 : Option Addr) (c0 : Nat) (l0 : List (S39)) (a1 : Int) (r1 : List (S56)) (r2 : Bool) (w : World) (hr0 : Kd.C k39 w A0 l0.length l0) (hc0 : l0.length ≤ c0) (h : impl_attrNames.f k l0 a1 = some (r1, r2)) :
  Calls Tryd.prog 73 #[.slice A0 l0.length c0, .int .i64 a1] w fun e w' => ∃ v0_ : Value, e = .returned (.tuple #[v0_, .bool r2]) ∧ Kd.R k56 56 w' w.heap.size (fun _ => True) v0_ r1 ∧ Below w.heap.size w w' := by
 have hu46 := Tryd.underlying46
 have hu56 := Tryd.underlying56
 have HR0 := Aside0.mk hr0
 have HC0 := Aside0.mk hc0
 clear hr0 hc0
 have HB := Aside0.mk (Below.refl w.heap.size w)
 have H : (if 0 ≤ a1 then (if a1 < (l0.length : Int) then (impl_attrNames.l0 k l0 a1 (([] : List (S56))) ((rd_T39 l0 a1).f3) (((rd_T39 l0 a1).f3).length : Int) 0) else (none)) else (none)) = some (r1, r2) := h
 clear h
 obtain ⟨y661, hy661⟩ : ∃ y_ : List (S56), y_ = (([] : List (S56))) := ⟨_, rfl⟩
 replace H : (if 0 ≤ a1 then (if a1 < (l0.length : Int) then (impl_attrNames.l0 k l0 a1 y661 ((rd_T39 l0 a1).f3) (((rd_T39 l0 a1).f3).length : Int) 0) else (none)) else (none)) = some (r1, r2) := by first | (rw [hy661]; with_reducible exact H) | (have H2_ := (Option.bind_some _ _).symm.trans H; rw [hy661]; with_reducible exact H2_) | (have H2_ := (Option.bind_some _ _).symm.trans H; with_reducible exact H2_) | with_reducible exact H | (rw [hy661]; exact H) | exact H
 have Ny661 := Aside0.mk hy661
 clear hy661
 by_cases c3 : 0 ≤ a1
 rotate_left
 ·rw [if_neg c3] at H
  exact absurd H dq21
 rw [if_pos c3] at H
 have c3b0 := decide_eq_true c3
 clear c3
 by_cases c4 : a1 < (l0.length : Int)
 rotate_left
 ·rw [if_neg c4] at H
  exact absurd H dq21
 rw [if_pos c4] at H
 have c4b0 := decide_eq_true c4
 clear c4
 have H' := Aside0.mk H
 clear H
 go_enter Tryd.func73, Tryd.ntmps73
 go_wp2_with (first | ((with_reducible refine gate_dst (N := 15) rfl ?_); refine Kd.R_lit k56 _ 56 ?hg (N := 15) ?hd (xs := ([] : List (S56))) (inner := []) (ok := fun _ => True) (okp := fun _ => True) ?hr ?hp (fun _ hk => hk) trivial (Below.refl _ _) (Nat.le_refl _) dq21 ?_; (case hd => rfl); (case hg => rfl); (case hr => exact dq1); (case hp => exact (Reps.none _ _)); intro v662 w5 ho6 hb hg_ hnew_; clear hg_ hnew_; (first | rw [← Ny661.out] at ho6 | (simp only [Int.reduceToNat] at ho6; rw [← Ny661.out] at ho6)); have n0_ := Aside0.mk (Kd.R_lower ho6 (below_size dq24)); have n1_ := Aside0.mk (below_step dq24 hb); clear HB; have HO663 := n0_; have HB := n1_; clear n0_ n1_; clear hb ho6; have p664 : 0 ≤ (a1 : Int) := of_decide_eq_true dq19; have q664 : a1 < (l0.length : Int) := of_decide_eq_true dq19; obtain ⟨ad664, A664_3, c664_3, e664, hx664_0, hx664_1, hx664_2, hx664_3, hl664_3, hi664_3⟩ := at_T39 HR0.out a1 p664 q664; cases e664; replace hx664_0 := (HB.out.cell (World.block_lt_of_cell? w _ hx664_0)).trans hx664_0; replace hx664_1 := (HB.out.cell (World.block_lt_of_cell? w _ hx664_1)).trans hx664_1; replace hx664_2 := (HB.out.cell (World.block_lt_of_cell? w _ hx664_2)).trans hx664_2; replace hx664_3 := (HB.out.cell (World.block_lt_of_cell? w _ hx664_3)).trans hx664_3; have HR664_3 := Aside0.mk hi664_3; have HC664_3 := Aside0.mk hl664_3; clear hi664_3 hl664_3; replace p664 := eq_true p664; replace q664 := eq_true q664))
 go_loopg [6, 22] k (fun kq v6 v22 w' => ∃ (x6_1 : List (S56)) (x22_1 : Int), v22 = .int .i64 x22_1 ∧ Aside0 (impl_attrNames.l0 kq l0 a1 x6_1 ((rd_T39 l0 a1).f3) (((rd_T39 l0 a1).f3).length : Int) x22_1 = some (r1, r2)) ∧ Aside0 (kq ≤ k) ∧ Aside0 (Kd.R k56 56 w' w.heap.size (fun _ => True) v6 x6_1) ∧ Aside0 (Below w.heap.size w w'))
 case atStart => exact ⟨(y661), (0), dq18, H', ⟨Nat.le_refl _⟩, ⟨by (with_reducible repeat (first | apply Kd.R_alloc | apply Kd.R_drewN | apply Kd.R_drew)); exact HO663.out⟩, ⟨dq24⟩⟩
 clear H'
 try clear c3b0
 try clear c4b0
 try clear hx664_0
 try clear hx664_1
 try clear hx664_2
 try clear hx664_3
 try clear p664
 try clear q664
 obtain ⟨x6_1, x22_1, rfl, HA, HK1, HO_6, HB⟩ := hrel
 cases gk with
 | zero => exact absurd HA.out (by simp [impl_attrNames.l0])
 | succ k1 =>
  have H := HA.out
  clear HA
  simp only [impl_attrNames.l0] at H
  by_cases c7 : x22_1 < (((rd_T39 l0 a1).f3).length : Int)
  rotate_left
  ·rw [if_neg c7] at H
   have c7b0 := decide_eq_false c7
   clear c7
   simp only [Option.some.injEq, Prod.mk.injEq] at H
   obtain ⟨rfl, rfl⟩ := H
   go_wp2
   go_ret2
   exact ⟨_, dq26, dq107, dq24⟩
  rw [if_pos c7] at H
  have c7b0 := decide_eq_true c7
  clear c7
  by_cases c8 : 0 ≤ x22_1
  rotate_left
  ·rw [if_neg c8] at H
   exact absurd H dq21
  rw [if_pos c8] at H
  have c8b0 := decide_eq_true c8
  clear c8
  by_cases c9 : x22_1 < (((rd_T39 l0 a1).f3).length : Int)
  rotate_left
  ·rw [if_neg c9] at H
   exact absurd H dq21
  rw [if_pos c9] at H
  have c9b0 := decide_eq_true c9
  clear c9
  replace H := Option.bind_eq_some_iff.mp H
  obtain ⟨t667, A100, H⟩ := H
  replace H : (if t667 = true then (impl_attrNames.l0 k1 l0 a1 x6_1 ((rd_T39 l0 a1).f3) (((rd_T39 l0 a1).f3).length : Int) (wrap64 (x22_1 + 1))) else ((impl_Split.f k1 ((rd_T46 ((rd_T39 l0 a1).f3) x22_1).f0)).bind fun bt668 => (if bt668.1.toList = ([] : List UInt8) then ((impl_QName_99.f k1 x6_1 (⟨#[]⟩ : ByteArray) bt668.2.1).bind fun t672 => (if t672 = true then (some (([] : List (S56)), false)) else (if x6_1.length < 4398046511104 then (impl_attrNames.l0 k1 l0 a1 (x6_1 ++ [(⟨(⟨#[]⟩ : ByteArray), bt668.2.1⟩ : S56)]) ((rd_T39 l0 a1).f3) (((rd_T39 l0 a1).f3).length : Int) (wrap64 (x22_1 + 1))) else (none)))) else ((impl_bound.f k1 l0 a1 bt668.1).bind fun bt676 => (if bt676.2 = true then ((impl_QName_99.f k1 x6_1 bt676.1 bt668.2.1).bind fun t678 => (if t678 = true then (some (([] : List (S56)), false)) else (if x6_1.length < 4398046511104 then (impl_attrNames.l0 k1 l0 a1 (x6_1 ++ [(⟨bt676.1, bt668.2.1⟩ : S56)]) ((rd_T39 l0 a1).f3) (((rd_T39 l0 a1).f3).length : Int) (wrap64 (x22_1 + 1))) else (none)))) else (some (([] : List (S56)), false))))))) = some (r1, r2) := H
  have A10 := Aside0.mk A100
  clear A100
  by_cases c11 : t667 = true
  ·subst c11
   have H1 : (impl_attrNames.l0 k1 l0 a1 x6_1 ((rd_T39 l0 a1).f3) (((rd_T39 l0 a1).f3).length : Int) (wrap64 (x22_1 + 1))) = some (r1, r2) := by rw [if_pos rfl] at H; exact H
   clear H
   have H := H1
   clear H1
   have H' := Aside0.mk H
   clear H
   have p665 : 0 ≤ (x22_1 : Int) := of_decide_eq_true dq19
   have q665 : x22_1 < (((rd_T39 l0 a1).f3).length : Int) := of_decide_eq_true dq19
   obtain ⟨ad665, e665, hx665_0, hx665_1⟩ := at_T46 HR664_3.out x22_1 p665 q665
   cases e665
   replace hx665_0 := (HB.out.cell (World.block_lt_of_cell? w _ hx665_0)).trans hx665_0
   replace hx665_1 := (HB.out.cell (World.block_lt_of_cell? w _ hx665_1)).trans hx665_1
   replace p665 := eq_true p665
   replace q665 := eq_true q665
   go_wp2_with (first | ((with_reducible refine gate_dst (N := 8) rfl ?_); refine box_event ?hg (N := 8) ?hd (cs := #[.string (⟨#[]⟩ : ByteArray), .string (⟨#[]⟩ : ByteArray)]) (t := 46) ?hr ?_; (case hd => rfl); (case hg => rfl); (case hr => exact dq1); intro gb666 hg w12 hbox hb; have n0_ := Aside0.mk (Kd.R_below dq107 hb); have n1_ := Aside0.mk (below_step dq24 hb); have n2_ := Aside0.mk (hbox); have n3_ := Aside0.mk ((dq27 : w.heap.size ≤ gb666)); have n4_ := Aside0.mk ((dq27 : w.heap.size ≤ gb666)); clear HO_6; clear HB; have HO_6 := n0_; have HB := n1_; have BK666 := n2_; have GW666 := n3_; have GE666 := n4_; clear n0_ n1_ n2_ n3_ n4_; clear hb hbox hg; obtain ⟨⟨hcz13_0, hcz13_1⟩, hfz13_0, hfz13_1⟩ := blkC2 BK666.out) | ((with_reducible refine gate_callee (f := 98) rfl ?_); refine goesL_ (some 28) rfl rfl Tryd.func98 dq23 rfl #[.string ((rd_T46 ((rd_T39 l0 a1).f3) x22_1).f0)] rfl dq22 ?_; (with_reducible refine (impl_isBinding.calls k1 ((rd_T46 ((rd_T39 l0 a1).f3) x22_1).f0) true _ A10.out).mono ?_); rintro e w14 ⟨rfl, hb⟩; refine ⟨_, rfl, ?_⟩; have n0_ := Aside0.mk (Kd.R_below dq106 hb); have n1_ := Aside0.mk (blk_below (g := gb666) (o := .cells #[.string ((rd_T46 ((rd_T39 l0 a1).f3) x22_1).f0), .string ((rd_T46 ((rd_T39 l0 a1).f3) x22_1).f1)] 46 (0, 0)) dq105 hb); have n2_ := Aside0.mk (below_step dq104 hb); clear HO_6; clear BK666; clear HB; have HO_6 := n0_; have BK666 := n1_; have HB := n2_; clear n0_ n1_ n2_; (try clear hb); (try clear hb2); (try clear hk); (try clear hi)))
   go_roundg k1
   case measure => have := HK1.out; omega
   case rel => exact ⟨(x6_1), (wrap64 (x22_1 + 1)), dq18, H', ⟨dq20⟩, ⟨dq107⟩, ⟨dq104⟩⟩
  replace c11 := Bool.eq_false_iff.mpr c11
  subst c11
  have H1 : ((impl_Split.f k1 ((rd_T46 ((rd_T39 l0 a1).f3) x22_1).f0)).bind fun bt668 => (if bt668.1.toList = ([] : List UInt8) then ((impl_QName_99.f k1 x6_1 (⟨#[]⟩ : ByteArray) bt668.2.1).bind fun t672 => (if t672 = true then (some (([] : List (S56)), false)) else (if x6_1.length < 4398046511104 then (impl_attrNames.l0 k1 l0 a1 (x6_1 ++ [(⟨(⟨#[]⟩ : ByteArray), bt668.2.1⟩ : S56)]) ((rd_T39 l0 a1).f3) (((rd_T39 l0 a1).f3).length : Int) (wrap64 (x22_1 + 1))) else (none)))) else ((impl_bound.f k1 l0 a1 bt668.1).bind fun bt676 => (if bt676.2 = true then ((impl_QName_99.f k1 x6_1 bt676.1 bt668.2.1).bind fun t678 => (if t678 = true then (some (([] : List (S56)), false)) else (if x6_1.length < 4398046511104 then (impl_attrNames.l0 k1 l0 a1 (x6_1 ++ [(⟨bt676.1, bt668.2.1⟩ : S56)]) ((rd_T39 l0 a1).f3) (((rd_T39 l0 a1).f3).length : Int) (wrap64 (x22_1 + 1))) else (none)))) else (some (([] : List (S56)), false)))))) = some (r1, r2) := by rw [if_neg (show ¬ (false = true) by decide)] at H; exact H
  clear H
  have H := H1
  clear H1
  replace H := Option.bind_eq_some_iff.mp H
  obtain ⟨⟨t668, t669, t670⟩, A150, H⟩ := H
  replace H : (if t668.toList = ([] : List UInt8) then ((impl_QName_99.f k1 x6_1 (⟨#[]⟩ : ByteArray) t669).bind fun t672 => (if t672 = true then (some (([] : List (S56)), false)) else (if x6_1.length < 4398046511104 then (impl_attrNames.l0 k1 l0 a1 (x6_1 ++ [(⟨(⟨#[]⟩ : ByteArray), t669⟩ : S56)]) ((rd_T39 l0 a1).f3) (((rd_T39 l0 a1).f3).length : Int) (wrap64 (x22_1 + 1))) else (none)))) else ((impl_bound.f k1 l0 a1 t668).bind fun bt676 => (if bt676.2 = true then ((impl_QName_99.f k1 x6_1 bt676.1 t669).bind fun t678 => (if t678 = true then (some (([] : List (S56)), false)) else (if x6_1.length < 4398046511104 then (impl_attrNames.l0 k1 l0 a1 (x6_1 ++ [(⟨bt676.1, t669⟩ : S56)]) ((rd_T39 l0 a1).f3) (((rd_T39 l0 a1).f3).length : Int) (wrap64 (x22_1 + 1))) else (none)))) else (some (([] : List (S56)), false))))) = some (r1, r2) := H
  have A15 := Aside0.mk A150
  clear A150
  by_cases c16 : t668.toList = ([] : List UInt8)
  ·rw [if_pos c16] at H
   have c16b0 := beq_iff_eq.mpr c16
   have c16b1 := bne_eq_false_iff_eq.mpr c16
   have c16b3 : (!t668.toList.isEmpty) = false := (bne_nilE68 t668.toList).symm.trans c16b1
   clear c16
   replace H := Option.bind_eq_some_iff.mp H
   obtain ⟨t672, A170, H⟩ := H
   replace H : (if t672 = true then (some (([] : List (S56)), false)) else (if x6_1.length < 4398046511104 then (impl_attrNames.l0 k1 l0 a1 (x6_1 ++ [(⟨(⟨#[]⟩ : ByteArray), t669⟩ : S56)]) ((rd_T39 l0 a1).f3) (((rd_T39 l0 a1).f3).length : Int) (wrap64 (x22_1 + 1))) else (none))) = some (r1, r2) := H
   have A17 := Aside0.mk A170
   clear A170
   by_cases c18 : t672 = true
   ·subst c18
    have H1 : (some (([] : List (S56)), false)) = some (r1, r2) := by rw [if_pos rfl] at H; exact H
    clear H
    have H := H1
    clear H1
    simp only [Option.some.injEq, Prod.mk.injEq] at H
    obtain ⟨rfl, rfl⟩ := H
    have p665 : 0 ≤ (x22_1 : Int) := of_decide_eq_true dq19
    have q665 : x22_1 < (((rd_T39 l0 a1).f3).length : Int) := of_decide_eq_true dq19
    obtain ⟨ad665, e665, hx665_0, hx665_1⟩ := at_T46 HR664_3.out x22_1 p665 q665
    cases e665
    replace hx665_0 := (HB.out.cell (World.block_lt_of_cell? w _ hx665_0)).trans hx665_0
    replace hx665_1 := (HB.out.cell (World.block_lt_of_cell? w _ hx665_1)).trans hx665_1
    replace p665 := eq_true p665
    replace q665 := eq_true q665
    go_wp2_with (first | ((with_reducible refine gate_dst (N := 8) rfl ?_); refine box_event ?hg (N := 8) ?hd (cs := #[.string (⟨#[]⟩ : ByteArray), .string (⟨#[]⟩ : ByteArray)]) (t := 46) ?hr ?_; (case hd => rfl); (case hg => rfl); (case hr => exact dq1); intro gb666 hg w19 hbox hb; have n0_ := Aside0.mk (Kd.R_below dq107 hb); have n1_ := Aside0.mk (below_step dq24 hb); have n2_ := Aside0.mk (hbox); have n3_ := Aside0.mk ((dq27 : w.heap.size ≤ gb666)); have n4_ := Aside0.mk ((dq27 : w.heap.size ≤ gb666)); clear HO_6; clear HB; have HO_6 := n0_; have HB := n1_; have BK666 := n2_; have GW666 := n3_; have GE666 := n4_; clear n0_ n1_ n2_ n3_ n4_; clear hb hbox hg; obtain ⟨⟨hcz20_0, hcz20_1⟩, hfz20_0, hfz20_1⟩ := blkC2 BK666.out) | ((with_reducible refine gate_callee (f := 98) rfl ?_); refine goesL_ (some 28) rfl rfl Tryd.func98 dq23 rfl #[.string ((rd_T46 ((rd_T39 l0 a1).f3) x22_1).f0)] rfl dq22 ?_; (with_reducible refine (impl_isBinding.calls k1 ((rd_T46 ((rd_T39 l0 a1).f3) x22_1).f0) false _ A10.out).mono ?_); rintro e w21 ⟨rfl, hb⟩; refine ⟨_, rfl, ?_⟩; have n0_ := Aside0.mk (Kd.R_below dq106 hb); have n1_ := Aside0.mk (blk_below (g := gb666) (o := .cells #[.string ((rd_T46 ((rd_T39 l0 a1).f3) x22_1).f0), .string ((rd_T46 ((rd_T39 l0 a1).f3) x22_1).f1)] 46 (0, 0)) dq105 hb); have n2_ := Aside0.mk (below_step dq104 hb); clear HO_6; clear BK666; clear HB; have HO_6 := n0_; have BK666 := n1_; have HB := n2_; clear n0_ n1_ n2_; (try clear hb); (try clear hb2); (try clear hk); (try clear hi); obtain ⟨⟨hcz22_0, hcz22_1⟩, hfz22_0, hfz22_1⟩ := blkC2 BK666.out) | ((with_reducible refine gate_callee (f := 38) rfl ?_); refine goesL_ (some 32) rfl rfl Tryd.func38 dq23 rfl #[.string ((rd_T46 ((rd_T39 l0 a1).f3) x22_1).f0)] rfl dq22 ?_; (with_reducible refine (impl_Split.calls k1 ((rd_T46 ((rd_T39 l0 a1).f3) x22_1).f0) t668 t669 t670 _ A15.out).mono ?_); rintro e w23 ⟨rfl, hb⟩; refine ⟨_, rfl, ?_⟩; have n0_ := Aside0.mk (Kd.R_below dq107 hb); have n1_ := Aside0.mk (blk_below (g := gb666) (o := .cells #[.string ((rd_T46 ((rd_T39 l0 a1).f3) x22_1).f0), .string ((rd_T46 ((rd_T39 l0 a1).f3) x22_1).f1)] 46 (0, 0)) dq115 hb); have n2_ := Aside0.mk (below_step dq104 hb); clear HO_6; clear BK666; clear HB; have HO_6 := n0_; have BK666 := n1_; have HB := n2_; clear n0_ n1_ n2_; (try clear hb); (try clear hb2); (try clear hk); (try clear hi)) | ((with_reducible refine gate_dst (N := 12) rfl ?_); refine box_event ?hg (N := 12) ?hd (cs := #[.string (⟨#[]⟩ : ByteArray), .string (⟨#[]⟩ : ByteArray)]) (t := 56) ?hr ?_; (case hd => rfl); (case hg => rfl); (case hr => exact dq1); intro gb671 hg w24 hbox hb; have n0_ := Aside0.mk (Kd.R_below (Kd.R_elderB dq107 gb671 (Nat.le_of_eq hg.symm)) hb); have n1_ := Aside0.mk (blk_below (g := gb666) (o := .cells #[.string ((rd_T46 ((rd_T39 l0 a1).f3) x22_1).f0), .string ((rd_T46 ((rd_T39 l0 a1).f3) x22_1).f1)] 46 (0, 0)) dq115 hb); have n2_ := Aside0.mk (below_step dq104 hb); have n3_ := Aside0.mk (hbox); have n4_ := Aside0.mk ((dq114 : w.heap.size ≤ gb671)); have n5_ := Aside0.mk ((dq114 : w.heap.size ≤ gb671)); have n6_ := Aside0.mk ((dq113 : gb666 ≠ gb671)); have n7_ := Aside0.mk ((dq112 : gb671 ≠ gb666)); clear HO_6; clear BK666; clear HB; have HO_6 := n0_; have BK666 := n1_; have HB := n2_; have BK671 := n3_; have GW671 := n4_; have GE671 := n5_; have NB666_671 := n6_; have NB671_666 := n7_; clear n0_ n1_ n2_ n3_ n4_ n5_ n6_ n7_; clear hb hbox hg; have hnb25 := NB671_666.out; have hnc25 := NB666_671.out; obtain ⟨⟨hcz26_0, hcz26_1⟩, hfz26_0, hfz26_1⟩ := blkC2 BK671.out; obtain ⟨Ao27, co27, eo27⟩ := Kd.R_slice HO_6.out; subst eo27) | ((with_reducible refine gate_callee (f := 99) rfl ?_); refine goesL_ (some 53) rfl rfl Tryd.func99 dq23 rfl #[.slice Ao27 x6_1.length co27, .agg #[.string (⟨#[]⟩ : ByteArray), .string t669]] rfl dq22 ?_; (with_reducible refine (impl_QName_99.calls k1 _ _ x6_1 (⟨#[]⟩ : ByteArray) t669 true _ ?side1 ?side2 A17.out).mono ?_); (case side1 => refine (Kd.R_reads' (e := 56) (base := w.heap.size) (ok := fun k_ => (True ∧ k_ ≠ gb671)) (n := x6_1.length) (c := co27) ?_).2.2; exact dq111); (case side2 => exact (Kd.R_reads' HO_6.out).2.1); rintro e w28 ⟨rfl, hb⟩; refine ⟨_, rfl, ?_⟩; have n0_ := Aside0.mk (Kd.R_below dq111 hb); have n1_ := Aside0.mk (blk_below (g := gb666) (o := .cells #[.string ((rd_T46 ((rd_T39 l0 a1).f3) x22_1).f0), .string ((rd_T46 ((rd_T39 l0 a1).f3) x22_1).f1)] 46 (0, 0)) dq110 hb); have n2_ := Aside0.mk (blk_below (g := gb671) (o := .cells #[.string (⟨#[]⟩ : ByteArray), .string t669] 56 (0, 0)) dq109 hb); have n3_ := Aside0.mk (below_step dq108 hb); clear HO_6; clear BK666; clear BK671; clear HB; have HO_6 := n0_; have BK666 := n1_; have BK671 := n2_; have HB := n3_; clear n0_ n1_ n2_ n3_; (try clear hb); (try clear hb2); (try clear hk); (try clear hi)))
    go_ret2
    exact ⟨_, dq26, dq60, dq108⟩
   replace c18 := Bool.eq_false_iff.mpr c18
   subst c18
   have H1 : (if x6_1.length < 4398046511104 then (impl_attrNames.l0 k1 l0 a1 (x6_1 ++ [(⟨(⟨#[]⟩ : ByteArray), t669⟩ : S56)]) ((rd_T39 l0 a1).f3) (((rd_T39 l0 a1).f3).length : Int) (wrap64 (x22_1 + 1))) else (none)) = some (r1, r2) := by rw [if_neg (show ¬ (false = true) by decide)] at H; exact H
   clear H
   have H := H1
   clear H1
   by_cases c29 : x6_1.length < 4398046511104
   rotate_left
   ·rw [if_neg c29] at H
    exact absurd H dq21
   rw [if_pos c29] at H
   have LMc29 := Aside0.mk c29
   clear c29
   obtain ⟨y673, hy673⟩ : ∃ y_ : List (S56), y_ = (x6_1 ++ [(⟨(⟨#[]⟩ : ByteArray), t669⟩ : S56)]) := ⟨_, rfl⟩
   replace H : (impl_attrNames.l0 k1 l0 a1 y673 ((rd_T39 l0 a1).f3) (((rd_T39 l0 a1).f3).length : Int) (wrap64 (x22_1 + 1))) = some (r1, r2) := by first | (rw [hy673]; with_reducible exact H) | (have H2_ := (Option.bind_some _ _).symm.trans H; rw [hy673]; with_reducible exact H2_) | (have H2_ := (Option.bind_some _ _).symm.trans H; with_reducible exact H2_) | with_reducible exact H | (rw [hy673]; exact H) | exact H
   have Ny673 := Aside0.mk hy673
   clear hy673
   have H' := Aside0.mk H
   clear H
   have p665 : 0 ≤ (x22_1 : Int) := of_decide_eq_true dq19
   have q665 : x22_1 < (((rd_T39 l0 a1).f3).length : Int) := of_decide_eq_true dq19
   obtain ⟨ad665, e665, hx665_0, hx665_1⟩ := at_T46 HR664_3.out x22_1 p665 q665
   cases e665
   replace hx665_0 := (HB.out.cell (World.block_lt_of_cell? w _ hx665_0)).trans hx665_0
   replace hx665_1 := (HB.out.cell (World.block_lt_of_cell? w _ hx665_1)).trans hx665_1
   replace p665 := eq_true p665
   replace q665 := eq_true q665
   go_wp2_with (first | ((with_reducible refine gate_dst (N := 8) rfl ?_); refine box_event ?hg (N := 8) ?hd (cs := #[.string (⟨#[]⟩ : ByteArray), .string (⟨#[]⟩ : ByteArray)]) (t := 46) ?hr ?_; (case hd => rfl); (case hg => rfl); (case hr => exact dq1); intro gb666 hg w30 hbox hb; have n0_ := Aside0.mk (Kd.R_below dq107 hb); have n1_ := Aside0.mk (below_step dq24 hb); have n2_ := Aside0.mk (hbox); have n3_ := Aside0.mk ((dq27 : w.heap.size ≤ gb666)); have n4_ := Aside0.mk ((dq27 : w.heap.size ≤ gb666)); clear HO_6; clear HB; have HO_6 := n0_; have HB := n1_; have BK666 := n2_; have GW666 := n3_; have GE666 := n4_; clear n0_ n1_ n2_ n3_ n4_; clear hb hbox hg; obtain ⟨⟨hcz31_0, hcz31_1⟩, hfz31_0, hfz31_1⟩ := blkC2 BK666.out) | ((with_reducible refine gate_callee (f := 98) rfl ?_); refine goesL_ (some 28) rfl rfl Tryd.func98 dq23 rfl #[.string ((rd_T46 ((rd_T39 l0 a1).f3) x22_1).f0)] rfl dq22 ?_; (with_reducible refine (impl_isBinding.calls k1 ((rd_T46 ((rd_T39 l0 a1).f3) x22_1).f0) false _ A10.out).mono ?_); rintro e w32 ⟨rfl, hb⟩; refine ⟨_, rfl, ?_⟩; have n0_ := Aside0.mk (Kd.R_below dq106 hb); have n1_ := Aside0.mk (blk_below (g := gb666) (o := .cells #[.string ((rd_T46 ((rd_T39 l0 a1).f3) x22_1).f0), .string ((rd_T46 ((rd_T39 l0 a1).f3) x22_1).f1)] 46 (0, 0)) dq105 hb); have n2_ := Aside0.mk (below_step dq104 hb); clear HO_6; clear BK666; clear HB; have HO_6 := n0_; have BK666 := n1_; have HB := n2_; clear n0_ n1_ n2_; (try clear hb); (try clear hb2); (try clear hk); (try clear hi); obtain ⟨⟨hcz33_0, hcz33_1⟩, hfz33_0, hfz33_1⟩ := blkC2 BK666.out) | ((with_reducible refine gate_callee (f := 38) rfl ?_); refine goesL_ (some 32) rfl rfl Tryd.func38 dq23 rfl #[.string ((rd_T46 ((rd_T39 l0 a1).f3) x22_1).f0)] rfl dq22 ?_; (with_reducible refine (impl_Split.calls k1 ((rd_T46 ((rd_T39 l0 a1).f3) x22_1).f0) t668 t669 t670 _ A15.out).mono ?_); rintro e w34 ⟨rfl, hb⟩; refine ⟨_, rfl, ?_⟩; have n0_ := Aside0.mk (Kd.R_below dq107 hb); have n1_ := Aside0.mk (blk_below (g := gb666) (o := .cells #[.string ((rd_T46 ((rd_T39 l0 a1).f3) x22_1).f0), .string ((rd_T46 ((rd_T39 l0 a1).f3) x22_1).f1)] 46 (0, 0)) dq115 hb); have n2_ := Aside0.mk (below_step dq104 hb); clear HO_6; clear BK666; clear HB; have HO_6 := n0_; have BK666 := n1_; have HB := n2_; clear n0_ n1_ n2_; (try clear hb); (try clear hb2); (try clear hk); (try clear hi)) | ((with_reducible refine gate_dst (N := 12) rfl ?_); refine box_event ?hg (N := 12) ?hd (cs := #[.string (⟨#[]⟩ : ByteArray), .string (⟨#[]⟩ : ByteArray)]) (t := 56) ?hr ?_; (case hd => rfl); (case hg => rfl); (case hr => exact dq1); intro gb671 hg w35 hbox hb; have n0_ := Aside0.mk (Kd.R_below (Kd.R_elderB dq107 gb671 (Nat.le_of_eq hg.symm)) hb); have n1_ := Aside0.mk (blk_below (g := gb666) (o := .cells #[.string ((rd_T46 ((rd_T39 l0 a1).f3) x22_1).f0), .string ((rd_T46 ((rd_T39 l0 a1).f3) x22_1).f1)] 46 (0, 0)) dq115 hb); have n2_ := Aside0.mk (below_step dq104 hb); have n3_ := Aside0.mk (hbox); have n4_ := Aside0.mk ((dq114 : w.heap.size ≤ gb671)); have n5_ := Aside0.mk ((dq114 : w.heap.size ≤ gb671)); have n6_ := Aside0.mk ((dq113 : gb666 ≠ gb671)); have n7_ := Aside0.mk ((dq112 : gb671 ≠ gb666)); clear HO_6; clear BK666; clear HB; have HO_6 := n0_; have BK666 := n1_; have HB := n2_; have BK671 := n3_; have GW671 := n4_; have GE671 := n5_; have NB666_671 := n6_; have NB671_666 := n7_; clear n0_ n1_ n2_ n3_ n4_ n5_ n6_ n7_; clear hb hbox hg; have hnb36 := NB671_666.out; have hnc36 := NB666_671.out; obtain ⟨⟨hcz37_0, hcz37_1⟩, hfz37_0, hfz37_1⟩ := blkC2 BK671.out; obtain ⟨Ao38, co38, eo38⟩ := Kd.R_slice HO_6.out; subst eo38) | ((with_reducible refine gate_callee (f := 99) rfl ?_); refine goesL_ (some 53) rfl rfl Tryd.func99 dq23 rfl #[.slice Ao38 x6_1.length co38, .agg #[.string (⟨#[]⟩ : ByteArray), .string t669]] rfl dq22 ?_; (with_reducible refine (impl_QName_99.calls k1 _ _ x6_1 (⟨#[]⟩ : ByteArray) t669 false _ ?side1 ?side2 A17.out).mono ?_); (case side1 => refine (Kd.R_reads' (e := 56) (base := w.heap.size) (ok := fun k_ => (True ∧ k_ ≠ gb671)) (n := x6_1.length) (c := co38) ?_).2.2; exact dq111); (case side2 => exact (Kd.R_reads' HO_6.out).2.1); rintro e w39 ⟨rfl, hb⟩; refine ⟨_, rfl, ?_⟩; have n0_ := Aside0.mk (Kd.R_below dq111 hb); have n1_ := Aside0.mk (blk_below (g := gb666) (o := .cells #[.string ((rd_T46 ((rd_T39 l0 a1).f3) x22_1).f0), .string ((rd_T46 ((rd_T39 l0 a1).f3) x22_1).f1)] 46 (0, 0)) dq110 hb); have n2_ := Aside0.mk (blk_below (g := gb671) (o := .cells #[.string (⟨#[]⟩ : ByteArray), .string t669] 56 (0, 0)) dq109 hb); have n3_ := Aside0.mk (below_step dq108 hb); clear HO_6; clear BK666; clear BK671; clear HB; have HO_6 := n0_; have BK666 := n1_; have BK671 := n2_; have HB := n3_; clear n0_ n1_ n2_ n3_; (try clear hb); (try clear hb2); (try clear hk); (try clear hi); obtain ⟨⟨hcz40_0, hcz40_1⟩, hfz40_0, hfz40_1⟩ := blkC2 BK671.out) | ((with_reducible refine gate_builtin (b := .append) (xs := #[.tmp 54, .tmp 56]) rfl ?_); at_builtin; refine Kd.R_append k56 (w0 := w) w.heap.size rfl (.tmp 54) (.tmp 56) 52 56 (.agg #[(.string ⟨#[]⟩), (.string ⟨#[]⟩)]) 32 rfl Tryd.underlying52 info56 rfl dq52 dq37 (.slice Ao38 x6_1.length co38) x6_1 (⟨(⟨#[]⟩ : ByteArray), t669⟩ : S56) [.string (⟨#[]⟩ : ByteArray), .string t669] (fun k_ => k_ ≠ gb671) (fun _ => False) rfl rfl ?aP (fun _ hk => hk.elim) ?aF ?aO ?aB ?aS ?aL ?_; (case aP => exact k56_mkM _ _ _ (⟨(⟨#[]⟩ : ByteArray), t669⟩ : S56)); (case aB => exact dq108); (case aF => exact (fun k_ hk => Kd.freshB (g := gb671) (o := .cells #[.string (⟨#[]⟩ : ByteArray), .string t669] 56 (0, 0)) (by refine blk_up ?_; exact BK671.out) k_ hk)); (case aO => exact dq116); (case aS => exact (below_size dq108)); (case aL => have := LMc29.out; omega); intro v674 w41 ho hb hg hat; rw [← Ny673.out] at ho; have n0_ := Aside0.mk (blk_grown (g := gb666) (o := .cells #[.string ((rd_T46 ((rd_T39 l0 a1).f3) x22_1).f0), .string ((rd_T46 ((rd_T39 l0 a1).f3) x22_1).f1)] 46 (0, 0)) dq115 hg (Kd.R_ne HO_6.out BK666.out dq52)); have n1_ := Aside0.mk (blk_grown (g := gb671) (o := .cells #[.string (⟨#[]⟩ : ByteArray), .string t669] 56 (0, 0)) (by refine blk_up ?_; exact BK671.out) hg (Kd.R_away HO_6.out (fun _ hk => hk.2))); have n2_ := Aside0.mk (hb); have n3_ := Aside0.mk (ho); clear BK666; clear BK671; clear HB; clear HO_6; have BK666 := n0_; have BK671 := n1_; have HB := n2_; have HO675 := n3_; clear n0_ n1_ n2_ n3_; clear ho hb hg hat))
   go_roundg k1
   case measure => have := HK1.out; omega
   case rel => exact ⟨(y673), (wrap64 (x22_1 + 1)), dq18, H', ⟨dq20⟩, ⟨by (with_reducible repeat (first | apply Kd.R_alloc | apply Kd.R_drewN | apply Kd.R_drew)); exact Kd.R_mono HO675.out (fun _ hk => trivial)⟩, ⟨dq108⟩⟩
  rw [if_neg c16] at H
  have c16b0 := beq_eq_false_iff_ne.mpr c16
  have c16b1 := bne_iff_ne.mpr c16
  have c16b3 : (!t668.toList.isEmpty) = true := (bne_nilE68 t668.toList).symm.trans c16b1
  replace H := Option.bind_eq_some_iff.mp H
  obtain ⟨⟨t676, t677⟩, A420, H⟩ := H
  replace H : (if t677 = true then ((impl_QName_99.f k1 x6_1 t676 t669).bind fun t678 => (if t678 = true then (some (([] : List (S56)), false)) else (if x6_1.length < 4398046511104 then (impl_attrNames.l0 k1 l0 a1 (x6_1 ++ [(⟨t676, t669⟩ : S56)]) ((rd_T39 l0 a1).f3) (((rd_T39 l0 a1).f3).length : Int) (wrap64 (x22_1 + 1))) else (none)))) else (some (([] : List (S56)), false))) = some (r1, r2) := H
  have A42 := Aside0.mk A420
  clear A420
  by_cases c43 : t677 = true
  rotate_left
  ·replace c43 := Bool.eq_false_iff.mpr c43
   subst c43
   have H1 : (some (([] : List (S56)), false)) = some (r1, r2) := by rw [if_neg (show ¬ (false = true) by decide)] at H; exact H
   clear H
   have H := H1
   clear H1
   simp only [Option.some.injEq, Prod.mk.injEq] at H
   obtain ⟨rfl, rfl⟩ := H
   have p665 : 0 ≤ (x22_1 : Int) := of_decide_eq_true dq19
   have q665 : x22_1 < (((rd_T39 l0 a1).f3).length : Int) := of_decide_eq_true dq19
   obtain ⟨ad665, e665, hx665_0, hx665_1⟩ := at_T46 HR664_3.out x22_1 p665 q665
   cases e665
   replace hx665_0 := (HB.out.cell (World.block_lt_of_cell? w _ hx665_0)).trans hx665_0
   replace hx665_1 := (HB.out.cell (World.block_lt_of_cell? w _ hx665_1)).trans hx665_1
   replace p665 := eq_true p665
   replace q665 := eq_true q665
   go_wp2_with (first | ((with_reducible refine gate_dst (N := 8) rfl ?_); refine box_event ?hg (N := 8) ?hd (cs := #[.string (⟨#[]⟩ : ByteArray), .string (⟨#[]⟩ : ByteArray)]) (t := 46) ?hr ?_; (case hd => rfl); (case hg => rfl); (case hr => exact dq1); intro gb666 hg w73 hbox hb; have n0_ := Aside0.mk (Kd.R_below dq107 hb); have n1_ := Aside0.mk (below_step dq24 hb); have n2_ := Aside0.mk (hbox); have n3_ := Aside0.mk ((dq27 : w.heap.size ≤ gb666)); have n4_ := Aside0.mk ((dq27 : w.heap.size ≤ gb666)); clear HO_6; clear HB; have HO_6 := n0_; have HB := n1_; have BK666 := n2_; have GW666 := n3_; have GE666 := n4_; clear n0_ n1_ n2_ n3_ n4_; clear hb hbox hg; obtain ⟨⟨hcz74_0, hcz74_1⟩, hfz74_0, hfz74_1⟩ := blkC2 BK666.out) | ((with_reducible refine gate_callee (f := 98) rfl ?_); refine goesL_ (some 28) rfl rfl Tryd.func98 dq23 rfl #[.string ((rd_T46 ((rd_T39 l0 a1).f3) x22_1).f0)] rfl dq22 ?_; (with_reducible refine (impl_isBinding.calls k1 ((rd_T46 ((rd_T39 l0 a1).f3) x22_1).f0) false _ A10.out).mono ?_); rintro e w75 ⟨rfl, hb⟩; refine ⟨_, rfl, ?_⟩; have n0_ := Aside0.mk (Kd.R_below dq106 hb); have n1_ := Aside0.mk (blk_below (g := gb666) (o := .cells #[.string ((rd_T46 ((rd_T39 l0 a1).f3) x22_1).f0), .string ((rd_T46 ((rd_T39 l0 a1).f3) x22_1).f1)] 46 (0, 0)) dq105 hb); have n2_ := Aside0.mk (below_step dq104 hb); clear HO_6; clear BK666; clear HB; have HO_6 := n0_; have BK666 := n1_; have HB := n2_; clear n0_ n1_ n2_; (try clear hb); (try clear hb2); (try clear hk); (try clear hi); obtain ⟨⟨hcz76_0, hcz76_1⟩, hfz76_0, hfz76_1⟩ := blkC2 BK666.out) | ((with_reducible refine gate_callee (f := 38) rfl ?_); refine goesL_ (some 32) rfl rfl Tryd.func38 dq23 rfl #[.string ((rd_T46 ((rd_T39 l0 a1).f3) x22_1).f0)] rfl dq22 ?_; (with_reducible refine (impl_Split.calls k1 ((rd_T46 ((rd_T39 l0 a1).f3) x22_1).f0) t668 t669 t670 _ A15.out).mono ?_); rintro e w77 ⟨rfl, hb⟩; refine ⟨_, rfl, ?_⟩; have n0_ := Aside0.mk (Kd.R_below dq107 hb); have n1_ := Aside0.mk (blk_below (g := gb666) (o := .cells #[.string ((rd_T46 ((rd_T39 l0 a1).f3) x22_1).f0), .string ((rd_T46 ((rd_T39 l0 a1).f3) x22_1).f1)] 46 (0, 0)) dq115 hb); have n2_ := Aside0.mk (below_step dq104 hb); clear HO_6; clear BK666; clear HB; have HO_6 := n0_; have BK666 := n1_; have HB := n2_; clear n0_ n1_ n2_; (try clear hb); (try clear hb2); (try clear hk); (try clear hi)) | ((with_reducible refine gate_dst (N := 12) rfl ?_); refine box_event ?hg (N := 12) ?hd (cs := #[.string (⟨#[]⟩ : ByteArray), .string (⟨#[]⟩ : ByteArray)]) (t := 56) ?hr ?_; (case hd => rfl); (case hg => rfl); (case hr => exact dq1); intro gb671 hg w78 hbox hb; have n0_ := Aside0.mk (Kd.R_below (Kd.R_elderB dq107 gb671 (Nat.le_of_eq hg.symm)) hb); have n1_ := Aside0.mk (blk_below (g := gb666) (o := .cells #[.string ((rd_T46 ((rd_T39 l0 a1).f3) x22_1).f0), .string ((rd_T46 ((rd_T39 l0 a1).f3) x22_1).f1)] 46 (0, 0)) dq115 hb); have n2_ := Aside0.mk (below_step dq104 hb); have n3_ := Aside0.mk (hbox); have n4_ := Aside0.mk ((dq114 : w.heap.size ≤ gb671)); have n5_ := Aside0.mk ((dq114 : w.heap.size ≤ gb671)); have n6_ := Aside0.mk ((dq113 : gb666 ≠ gb671)); have n7_ := Aside0.mk ((dq112 : gb671 ≠ gb666)); clear HO_6; clear BK666; clear HB; have HO_6 := n0_; have BK666 := n1_; have HB := n2_; have BK671 := n3_; have GW671 := n4_; have GE671 := n5_; have NB666_671 := n6_; have NB671_666 := n7_; clear n0_ n1_ n2_ n3_ n4_ n5_ n6_ n7_; clear hb hbox hg; have hnb79 := NB671_666.out; have hnc79 := NB666_671.out; obtain ⟨⟨hcz80_0, hcz80_1⟩, hfz80_0, hfz80_1⟩ := blkC2 BK671.out) | ((with_reducible refine gate_callee (f := 65) rfl ?_); refine goesL_ (some 44) rfl rfl Tryd.func65 dq23 rfl #[.slice (some ad664) l0.length c0, .int .i64 a1, .string t668] rfl dq22 ?_; (with_reducible refine (impl_bound.calls k1 _ _ l0 a1 t668 t676 false _ ?side1 ?side2 A42.out).mono ?_); (case side1 => exact dq15); (case side2 => exact HC0.out); rintro e w81 ⟨rfl, hb⟩; refine ⟨_, rfl, ?_⟩; have n0_ := Aside0.mk (Kd.R_below dq111 hb); have n1_ := Aside0.mk (blk_below (g := gb666) (o := .cells #[.string ((rd_T46 ((rd_T39 l0 a1).f3) x22_1).f0), .string ((rd_T46 ((rd_T39 l0 a1).f3) x22_1).f1)] 46 (0, 0)) dq110 hb); have n2_ := Aside0.mk (blk_below (g := gb671) (o := .cells #[.string (⟨#[]⟩ : ByteArray), .string t669] 56 (0, 0)) dq109 hb); have n3_ := Aside0.mk (below_step dq108 hb); clear HO_6; clear BK666; clear BK671; clear HB; have HO_6 := n0_; have BK666 := n1_; have BK671 := n2_; have HB := n3_; clear n0_ n1_ n2_ n3_; (try clear hb); (try clear hb2); (try clear hk); (try clear hi)))
   go_ret2
   exact ⟨_, dq26, dq60, dq108⟩
  subst c43
  have H1 : ((impl_QName_99.f k1 x6_1 t676 t669).bind fun t678 => (if t678 = true then (some (([] : List (S56)), false)) else (if x6_1.length < 4398046511104 then (impl_attrNames.l0 k1 l0 a1 (x6_1 ++ [(⟨t676, t669⟩ : S56)]) ((rd_T39 l0 a1).f3) (((rd_T39 l0 a1).f3).length : Int) (wrap64 (x22_1 + 1))) else (none)))) = some (r1, r2) := by rw [if_pos rfl] at H; exact H
  clear H
  have H := H1
  clear H1
  replace H := Option.bind_eq_some_iff.mp H
  obtain ⟨t678, A440, H⟩ := H
  replace H : (if t678 = true then (some (([] : List (S56)), false)) else (if x6_1.length < 4398046511104 then (impl_attrNames.l0 k1 l0 a1 (x6_1 ++ [(⟨t676, t669⟩ : S56)]) ((rd_T39 l0 a1).f3) (((rd_T39 l0 a1).f3).length : Int) (wrap64 (x22_1 + 1))) else (none))) = some (r1, r2) := H
  have A44 := Aside0.mk A440
  clear A440
  by_cases c45 : t678 = true
  ·subst c45
   have H1 : (some (([] : List (S56)), false)) = some (r1, r2) := by rw [if_pos rfl] at H; exact H
   clear H
   have H := H1
   clear H1
   simp only [Option.some.injEq, Prod.mk.injEq] at H
   obtain ⟨rfl, rfl⟩ := H
   have p665 : 0 ≤ (x22_1 : Int) := of_decide_eq_true dq19
   have q665 : x22_1 < (((rd_T39 l0 a1).f3).length : Int) := of_decide_eq_true dq19
   obtain ⟨ad665, e665, hx665_0, hx665_1⟩ := at_T46 HR664_3.out x22_1 p665 q665
   cases e665
   replace hx665_0 := (HB.out.cell (World.block_lt_of_cell? w _ hx665_0)).trans hx665_0
   replace hx665_1 := (HB.out.cell (World.block_lt_of_cell? w _ hx665_1)).trans hx665_1
   replace p665 := eq_true p665
   replace q665 := eq_true q665
   go_wp2_with (first | ((with_reducible refine gate_dst (N := 8) rfl ?_); refine box_event ?hg (N := 8) ?hd (cs := #[.string (⟨#[]⟩ : ByteArray), .string (⟨#[]⟩ : ByteArray)]) (t := 46) ?hr ?_; (case hd => rfl); (case hg => rfl); (case hr => exact dq1); intro gb666 hg w46 hbox hb; have n0_ := Aside0.mk (Kd.R_below dq107 hb); have n1_ := Aside0.mk (below_step dq24 hb); have n2_ := Aside0.mk (hbox); have n3_ := Aside0.mk ((dq27 : w.heap.size ≤ gb666)); have n4_ := Aside0.mk ((dq27 : w.heap.size ≤ gb666)); clear HO_6; clear HB; have HO_6 := n0_; have HB := n1_; have BK666 := n2_; have GW666 := n3_; have GE666 := n4_; clear n0_ n1_ n2_ n3_ n4_; clear hb hbox hg; obtain ⟨⟨hcz47_0, hcz47_1⟩, hfz47_0, hfz47_1⟩ := blkC2 BK666.out) | ((with_reducible refine gate_callee (f := 98) rfl ?_); refine goesL_ (some 28) rfl rfl Tryd.func98 dq23 rfl #[.string ((rd_T46 ((rd_T39 l0 a1).f3) x22_1).f0)] rfl dq22 ?_; (with_reducible refine (impl_isBinding.calls k1 ((rd_T46 ((rd_T39 l0 a1).f3) x22_1).f0) false _ A10.out).mono ?_); rintro e w48 ⟨rfl, hb⟩; refine ⟨_, rfl, ?_⟩; have n0_ := Aside0.mk (Kd.R_below dq106 hb); have n1_ := Aside0.mk (blk_below (g := gb666) (o := .cells #[.string ((rd_T46 ((rd_T39 l0 a1).f3) x22_1).f0), .string ((rd_T46 ((rd_T39 l0 a1).f3) x22_1).f1)] 46 (0, 0)) dq105 hb); have n2_ := Aside0.mk (below_step dq104 hb); clear HO_6; clear BK666; clear HB; have HO_6 := n0_; have BK666 := n1_; have HB := n2_; clear n0_ n1_ n2_; (try clear hb); (try clear hb2); (try clear hk); (try clear hi); obtain ⟨⟨hcz49_0, hcz49_1⟩, hfz49_0, hfz49_1⟩ := blkC2 BK666.out) | ((with_reducible refine gate_callee (f := 38) rfl ?_); refine goesL_ (some 32) rfl rfl Tryd.func38 dq23 rfl #[.string ((rd_T46 ((rd_T39 l0 a1).f3) x22_1).f0)] rfl dq22 ?_; (with_reducible refine (impl_Split.calls k1 ((rd_T46 ((rd_T39 l0 a1).f3) x22_1).f0) t668 t669 t670 _ A15.out).mono ?_); rintro e w50 ⟨rfl, hb⟩; refine ⟨_, rfl, ?_⟩; have n0_ := Aside0.mk (Kd.R_below dq107 hb); have n1_ := Aside0.mk (blk_below (g := gb666) (o := .cells #[.string ((rd_T46 ((rd_T39 l0 a1).f3) x22_1).f0), .string ((rd_T46 ((rd_T39 l0 a1).f3) x22_1).f1)] 46 (0, 0)) dq115 hb); have n2_ := Aside0.mk (below_step dq104 hb); clear HO_6; clear BK666; clear HB; have HO_6 := n0_; have BK666 := n1_; have HB := n2_; clear n0_ n1_ n2_; (try clear hb); (try clear hb2); (try clear hk); (try clear hi)) | ((with_reducible refine gate_dst (N := 12) rfl ?_); refine box_event ?hg (N := 12) ?hd (cs := #[.string (⟨#[]⟩ : ByteArray), .string (⟨#[]⟩ : ByteArray)]) (t := 56) ?hr ?_; (case hd => rfl); (case hg => rfl); (case hr => exact dq1); intro gb671 hg w51 hbox hb; have n0_ := Aside0.mk (Kd.R_below (Kd.R_elderB dq107 gb671 (Nat.le_of_eq hg.symm)) hb); have n1_ := Aside0.mk (blk_below (g := gb666) (o := .cells #[.string ((rd_T46 ((rd_T39 l0 a1).f3) x22_1).f0), .string ((rd_T46 ((rd_T39 l0 a1).f3) x22_1).f1)] 46 (0, 0)) dq115 hb); have n2_ := Aside0.mk (below_step dq104 hb); have n3_ := Aside0.mk (hbox); have n4_ := Aside0.mk ((dq114 : w.heap.size ≤ gb671)); have n5_ := Aside0.mk ((dq114 : w.heap.size ≤ gb671)); have n6_ := Aside0.mk ((dq113 : gb666 ≠ gb671)); have n7_ := Aside0.mk ((dq112 : gb671 ≠ gb666)); clear HO_6; clear BK666; clear HB; have HO_6 := n0_; have BK666 := n1_; have HB := n2_; have BK671 := n3_; have GW671 := n4_; have GE671 := n5_; have NB666_671 := n6_; have NB671_666 := n7_; clear n0_ n1_ n2_ n3_ n4_ n5_ n6_ n7_; clear hb hbox hg; have hnb52 := NB671_666.out; have hnc52 := NB666_671.out; obtain ⟨⟨hcz53_0, hcz53_1⟩, hfz53_0, hfz53_1⟩ := blkC2 BK671.out) | ((with_reducible refine gate_callee (f := 65) rfl ?_); refine goesL_ (some 44) rfl rfl Tryd.func65 dq23 rfl #[.slice (some ad664) l0.length c0, .int .i64 a1, .string t668] rfl dq22 ?_; (with_reducible refine (impl_bound.calls k1 _ _ l0 a1 t668 t676 true _ ?side1 ?side2 A42.out).mono ?_); (case side1 => exact dq15); (case side2 => exact HC0.out); rintro e w54 ⟨rfl, hb⟩; refine ⟨_, rfl, ?_⟩; have n0_ := Aside0.mk (Kd.R_below dq111 hb); have n1_ := Aside0.mk (blk_below (g := gb666) (o := .cells #[.string ((rd_T46 ((rd_T39 l0 a1).f3) x22_1).f0), .string ((rd_T46 ((rd_T39 l0 a1).f3) x22_1).f1)] 46 (0, 0)) dq110 hb); have n2_ := Aside0.mk (blk_below (g := gb671) (o := .cells #[.string (⟨#[]⟩ : ByteArray), .string t669] 56 (0, 0)) dq109 hb); have n3_ := Aside0.mk (below_step dq108 hb); clear HO_6; clear BK666; clear BK671; clear HB; have HO_6 := n0_; have BK666 := n1_; have BK671 := n2_; have HB := n3_; clear n0_ n1_ n2_ n3_; (try clear hb); (try clear hb2); (try clear hk); (try clear hi); obtain ⟨⟨hcz55_0, hcz55_1⟩, hfz55_0, hfz55_1⟩ := blkC2 BK671.out; obtain ⟨Ao56, co56, eo56⟩ := Kd.R_slice HO_6.out; subst eo56) | ((with_reducible refine gate_callee (f := 99) rfl ?_); refine goesL_ (some 53) rfl rfl Tryd.func99 dq23 rfl #[.slice Ao56 x6_1.length co56, .agg #[.string t676, .string t669]] rfl dq22 ?_; (with_reducible refine (impl_QName_99.calls k1 _ _ x6_1 t676 t669 true _ ?side1 ?side2 A44.out).mono ?_); (case side1 => refine (Kd.R_reads' (e := 56) (base := w.heap.size) (ok := fun k_ => (True ∧ k_ ≠ gb671)) (n := x6_1.length) (c := co56) ?_).2.2; exact dq118); (case side2 => exact (Kd.R_reads' HO_6.out).2.1); rintro e w57 ⟨rfl, hb⟩; refine ⟨_, rfl, ?_⟩; have n0_ := Aside0.mk (Kd.R_below dq118 hb); have n1_ := Aside0.mk (blk_below (g := gb666) (o := .cells #[.string ((rd_T46 ((rd_T39 l0 a1).f3) x22_1).f0), .string ((rd_T46 ((rd_T39 l0 a1).f3) x22_1).f1)] 46 (0, 0)) (by refine blk_up ?_; refine blk_far ?_ NB666_671.out _; refine blk_up ?_; exact BK666.out) hb); have n2_ := Aside0.mk (blk_below (g := gb671) (o := .cells #[.string t676, .string t669] 56 (0, 0)) dq117 hb); have n3_ := Aside0.mk (below_step dq108 hb); clear HO_6; clear BK666; clear BK671; clear HB; have HO_6 := n0_; have BK666 := n1_; have BK671 := n2_; have HB := n3_; clear n0_ n1_ n2_ n3_; (try clear hb); (try clear hb2); (try clear hk); (try clear hi)))
   go_ret2
   exact ⟨_, dq26, dq60, dq108⟩
  replace c45 := Bool.eq_false_iff.mpr c45
  subst c45
  have H1 : (if x6_1.length < 4398046511104 then (impl_attrNames.l0 k1 l0 a1 (x6_1 ++ [(⟨t676, t669⟩ : S56)]) ((rd_T39 l0 a1).f3) (((rd_T39 l0 a1).f3).length : Int) (wrap64 (x22_1 + 1))) else (none)) = some (r1, r2) := by rw [if_neg (show ¬ (false = true) by decide)] at H; exact H
  clear H
  have H := H1
  clear H1
  by_cases c58 : x6_1.length < 4398046511104
  rotate_left
  ·rw [if_neg c58] at H
   exact absurd H dq21
  rw [if_pos c58] at H
  have LMc58 := Aside0.mk c58
  clear c58
  obtain ⟨y679, hy679⟩ : ∃ y_ : List (S56), y_ = (x6_1 ++ [(⟨t676, t669⟩ : S56)]) := ⟨_, rfl⟩
  replace H : (impl_attrNames.l0 k1 l0 a1 y679 ((rd_T39 l0 a1).f3) (((rd_T39 l0 a1).f3).length : Int) (wrap64 (x22_1 + 1))) = some (r1, r2) := by first | (rw [hy679]; with_reducible exact H) | (have H2_ := (Option.bind_some _ _).symm.trans H; rw [hy679]; with_reducible exact H2_) | (have H2_ := (Option.bind_some _ _).symm.trans H; with_reducible exact H2_) | with_reducible exact H | (rw [hy679]; exact H) | exact H
  have Ny679 := Aside0.mk hy679
  clear hy679
  have H' := Aside0.mk H
  clear H
  have p665 : 0 ≤ (x22_1 : Int) := of_decide_eq_true dq19
  have q665 : x22_1 < (((rd_T39 l0 a1).f3).length : Int) := of_decide_eq_true dq19
  obtain ⟨ad665, e665, hx665_0, hx665_1⟩ := at_T46 HR664_3.out x22_1 p665 q665
  cases e665
  replace hx665_0 := (HB.out.cell (World.block_lt_of_cell? w _ hx665_0)).trans hx665_0
  replace hx665_1 := (HB.out.cell (World.block_lt_of_cell? w _ hx665_1)).trans hx665_1
  replace p665 := eq_true p665
  replace q665 := eq_true q665
  go_wp2_with (first | ((with_reducible refine gate_dst (N := 8) rfl ?_); refine box_event ?hg (N := 8) ?hd (cs := #[.string (⟨#[]⟩ : ByteArray), .string (⟨#[]⟩ : ByteArray)]) (t := 46) ?hr ?_; (case hd => rfl); (case hg => rfl); (case hr => exact dq1); intro gb666 hg w59 hbox hb; have n0_ := Aside0.mk (Kd.R_below dq107 hb); have n1_ := Aside0.mk (below_step dq24 hb); have n2_ := Aside0.mk (hbox); have n3_ := Aside0.mk ((dq27 : w.heap.size ≤ gb666)); have n4_ := Aside0.mk ((dq27 : w.heap.size ≤ gb666)); clear HO_6; clear HB; have HO_6 := n0_; have HB := n1_; have BK666 := n2_; have GW666 := n3_; have GE666 := n4_; clear n0_ n1_ n2_ n3_ n4_; clear hb hbox hg; obtain ⟨⟨hcz60_0, hcz60_1⟩, hfz60_0, hfz60_1⟩ := blkC2 BK666.out) | ((with_reducible refine gate_callee (f := 98) rfl ?_); refine goesL_ (some 28) rfl rfl Tryd.func98 dq23 rfl #[.string ((rd_T46 ((rd_T39 l0 a1).f3) x22_1).f0)] rfl dq22 ?_; (with_reducible refine (impl_isBinding.calls k1 ((rd_T46 ((rd_T39 l0 a1).f3) x22_1).f0) false _ A10.out).mono ?_); rintro e w61 ⟨rfl, hb⟩; refine ⟨_, rfl, ?_⟩; have n0_ := Aside0.mk (Kd.R_below dq106 hb); have n1_ := Aside0.mk (blk_below (g := gb666) (o := .cells #[.string ((rd_T46 ((rd_T39 l0 a1).f3) x22_1).f0), .string ((rd_T46 ((rd_T39 l0 a1).f3) x22_1).f1)] 46 (0, 0)) dq105 hb); have n2_ := Aside0.mk (below_step dq104 hb); clear HO_6; clear BK666; clear HB; have HO_6 := n0_; have BK666 := n1_; have HB := n2_; clear n0_ n1_ n2_; (try clear hb); (try clear hb2); (try clear hk); (try clear hi); obtain ⟨⟨hcz62_0, hcz62_1⟩, hfz62_0, hfz62_1⟩ := blkC2 BK666.out) | ((with_reducible refine gate_callee (f := 38) rfl ?_); refine goesL_ (some 32) rfl rfl Tryd.func38 dq23 rfl #[.string ((rd_T46 ((rd_T39 l0 a1).f3) x22_1).f0)] rfl dq22 ?_; (with_reducible refine (impl_Split.calls k1 ((rd_T46 ((rd_T39 l0 a1).f3) x22_1).f0) t668 t669 t670 _ A15.out).mono ?_); rintro e w63 ⟨rfl, hb⟩; refine ⟨_, rfl, ?_⟩; have n0_ := Aside0.mk (Kd.R_below dq107 hb); have n1_ := Aside0.mk (blk_below (g := gb666) (o := .cells #[.string ((rd_T46 ((rd_T39 l0 a1).f3) x22_1).f0), .string ((rd_T46 ((rd_T39 l0 a1).f3) x22_1).f1)] 46 (0, 0)) dq115 hb); have n2_ := Aside0.mk (below_step dq104 hb); clear HO_6; clear BK666; clear HB; have HO_6 := n0_; have BK666 := n1_; have HB := n2_; clear n0_ n1_ n2_; (try clear hb); (try clear hb2); (try clear hk); (try clear hi)) | ((with_reducible refine gate_dst (N := 12) rfl ?_); refine box_event ?hg (N := 12) ?hd (cs := #[.string (⟨#[]⟩ : ByteArray), .string (⟨#[]⟩ : ByteArray)]) (t := 56) ?hr ?_; (case hd => rfl); (case hg => rfl); (case hr => exact dq1); intro gb671 hg w64 hbox hb; have n0_ := Aside0.mk (Kd.R_below (Kd.R_elderB dq107 gb671 (Nat.le_of_eq hg.symm)) hb); have n1_ := Aside0.mk (blk_below (g := gb666) (o := .cells #[.string ((rd_T46 ((rd_T39 l0 a1).f3) x22_1).f0), .string ((rd_T46 ((rd_T39 l0 a1).f3) x22_1).f1)] 46 (0, 0)) dq115 hb); have n2_ := Aside0.mk (below_step dq104 hb); have n3_ := Aside0.mk (hbox); have n4_ := Aside0.mk ((dq114 : w.heap.size ≤ gb671)); have n5_ := Aside0.mk ((dq114 : w.heap.size ≤ gb671)); have n6_ := Aside0.mk ((dq113 : gb666 ≠ gb671)); have n7_ := Aside0.mk ((dq112 : gb671 ≠ gb666)); clear HO_6; clear BK666; clear HB; have HO_6 := n0_; have BK666 := n1_; have HB := n2_; have BK671 := n3_; have GW671 := n4_; have GE671 := n5_; have NB666_671 := n6_; have NB671_666 := n7_; clear n0_ n1_ n2_ n3_ n4_ n5_ n6_ n7_; clear hb hbox hg; have hnb65 := NB671_666.out; have hnc65 := NB666_671.out; obtain ⟨⟨hcz66_0, hcz66_1⟩, hfz66_0, hfz66_1⟩ := blkC2 BK671.out) | ((with_reducible refine gate_callee (f := 65) rfl ?_); refine goesL_ (some 44) rfl rfl Tryd.func65 dq23 rfl #[.slice (some ad664) l0.length c0, .int .i64 a1, .string t668] rfl dq22 ?_; (with_reducible refine (impl_bound.calls k1 _ _ l0 a1 t668 t676 true _ ?side1 ?side2 A42.out).mono ?_); (case side1 => exact dq15); (case side2 => exact HC0.out); rintro e w67 ⟨rfl, hb⟩; refine ⟨_, rfl, ?_⟩; have n0_ := Aside0.mk (Kd.R_below dq111 hb); have n1_ := Aside0.mk (blk_below (g := gb666) (o := .cells #[.string ((rd_T46 ((rd_T39 l0 a1).f3) x22_1).f0), .string ((rd_T46 ((rd_T39 l0 a1).f3) x22_1).f1)] 46 (0, 0)) dq110 hb); have n2_ := Aside0.mk (blk_below (g := gb671) (o := .cells #[.string (⟨#[]⟩ : ByteArray), .string t669] 56 (0, 0)) dq109 hb); have n3_ := Aside0.mk (below_step dq108 hb); clear HO_6; clear BK666; clear BK671; clear HB; have HO_6 := n0_; have BK666 := n1_; have BK671 := n2_; have HB := n3_; clear n0_ n1_ n2_ n3_; (try clear hb); (try clear hb2); (try clear hk); (try clear hi); obtain ⟨⟨hcz68_0, hcz68_1⟩, hfz68_0, hfz68_1⟩ := blkC2 BK671.out; obtain ⟨Ao69, co69, eo69⟩ := Kd.R_slice HO_6.out; subst eo69) | ((with_reducible refine gate_callee (f := 99) rfl ?_); refine goesL_ (some 53) rfl rfl Tryd.func99 dq23 rfl #[.slice Ao69 x6_1.length co69, .agg #[.string t676, .string t669]] rfl dq22 ?_; (with_reducible refine (impl_QName_99.calls k1 _ _ x6_1 t676 t669 false _ ?side1 ?side2 A44.out).mono ?_); (case side1 => refine (Kd.R_reads' (e := 56) (base := w.heap.size) (ok := fun k_ => (True ∧ k_ ≠ gb671)) (n := x6_1.length) (c := co69) ?_).2.2; exact dq118); (case side2 => exact (Kd.R_reads' HO_6.out).2.1); rintro e w70 ⟨rfl, hb⟩; refine ⟨_, rfl, ?_⟩; have n0_ := Aside0.mk (Kd.R_below dq118 hb); have n1_ := Aside0.mk (blk_below (g := gb666) (o := .cells #[.string ((rd_T46 ((rd_T39 l0 a1).f3) x22_1).f0), .string ((rd_T46 ((rd_T39 l0 a1).f3) x22_1).f1)] 46 (0, 0)) (by refine blk_up ?_; refine blk_far ?_ NB666_671.out _; refine blk_up ?_; exact BK666.out) hb); have n2_ := Aside0.mk (blk_below (g := gb671) (o := .cells #[.string t676, .string t669] 56 (0, 0)) dq117 hb); have n3_ := Aside0.mk (below_step dq108 hb); clear HO_6; clear BK666; clear BK671; clear HB; have HO_6 := n0_; have BK666 := n1_; have BK671 := n2_; have HB := n3_; clear n0_ n1_ n2_ n3_; (try clear hb); (try clear hb2); (try clear hk); (try clear hi); obtain ⟨⟨hcz71_0, hcz71_1⟩, hfz71_0, hfz71_1⟩ := blkC2 BK671.out) | ((with_reducible refine gate_builtin (b := .append) (xs := #[.tmp 54, .tmp 56]) rfl ?_); at_builtin; refine Kd.R_append k56 (w0 := w) w.heap.size rfl (.tmp 54) (.tmp 56) 52 56 (.agg #[(.string ⟨#[]⟩), (.string ⟨#[]⟩)]) 32 rfl Tryd.underlying52 info56 rfl dq52 dq37 (.slice Ao69 x6_1.length co69) x6_1 (⟨t676, t669⟩ : S56) [.string t676, .string t669] (fun k_ => k_ ≠ gb671) (fun _ => False) rfl rfl ?aP (fun _ hk => hk.elim) ?aF ?aO ?aB ?aS ?aL ?_; (case aP => exact k56_mkM _ _ _ (⟨t676, t669⟩ : S56)); (case aB => exact dq108); (case aF => exact (fun k_ hk => Kd.freshB (g := gb671) (o := .cells #[.string t676, .string t669] 56 (0, 0)) (by refine blk_up ?_; exact BK671.out) k_ hk)); (case aO => exact dq116); (case aS => exact (below_size dq108)); (case aL => have := LMc58.out; omega); intro v680 w72 ho hb hg hat; rw [← Ny679.out] at ho; have n0_ := Aside0.mk (blk_grown (g := gb666) (o := .cells #[.string ((rd_T46 ((rd_T39 l0 a1).f3) x22_1).f0), .string ((rd_T46 ((rd_T39 l0 a1).f3) x22_1).f1)] 46 (0, 0)) dq115 hg (Kd.R_ne HO_6.out BK666.out dq52)); have n1_ := Aside0.mk (blk_grown (g := gb671) (o := .cells #[.string t676, .string t669] 56 (0, 0)) (by refine blk_up ?_; exact BK671.out) hg (Kd.R_away HO_6.out (fun _ hk => hk.2))); have n2_ := Aside0.mk (hb); have n3_ := Aside0.mk (ho); clear BK666; clear BK671; clear HB; clear HO_6; have BK666 := n0_; have BK671 := n1_; have HB := n2_; have HO681 := n3_; clear n0_ n1_ n2_ n3_; clear ho hb hg hat))
  go_roundg k1
  case measure => have := HK1.out; omega
  case rel => exact ⟨(y679), (wrap64 (x22_1 + 1)), dq18, H', ⟨dq20⟩, ⟨by (with_reducible repeat (first | apply Kd.R_alloc | apply Kd.R_drewN | apply Kd.R_drew)); exact Kd.R_mono HO681.out (fun _ hk => trivial)⟩, ⟨dq108⟩⟩

/-! ### impl_NamesOf: function 36 -/
def impl_NamesOf.l0 : Nat → List (S39) → List (S56) → List (S39) → Int → Int → Option ((List (S56)) × Bool)
 | 0, _, _, _, _, _ => none
 | k + 1, x0, x4, x19, x20, x21 => if x21 < x20 then (if 0 ≤ x21 then (if x21 < (x19.length : Int) then (if ((rd_T39 x19 x21).f1).toList = ([] : List UInt8) then (if x4.length < 4398046511104 then (impl_NamesOf.l0 k x0 (x4 ++ [(⟨(⟨#[]⟩ : ByteArray), (⟨#[]⟩ : ByteArray)⟩ : S56)]) x19 x20 (wrap64 (x21 + 1))) else (none)) else ((impl_Split.f k ((rd_T39 x19 x21).f1)).bind fun bt692 => ((impl_bound.f k x0 x21 bt692.1).bind fun bt695 => ((impl_attrNames.f k x0 x21).bind fun bt697 => (if bt695.2 = true then (if bt697.2 = true then (if x4.length < 4398046511104 then (impl_NamesOf.l0 k x0 (x4 ++ [(⟨bt695.1, bt692.2.1⟩ : S56)]) x19 x20 (wrap64 (x21 + 1))) else (none)) else (some (([] : List (S56)), false))) else (some (([] : List (S56)), false))))))) else (none)) else (none)) else (some (x4, true))
def impl_NamesOf.f (k : Nat) (l0 : List (S39)) : Option ((List (S56)) × Bool) := (impl_DocOk.f k l0).bind fun t682 => (if t682 = true then (impl_NamesOf.l0 k l0 (([] : List (S56))) l0 (l0.length : Int) 0) else (some (([] : List (S56)), false)))
set_option maxHeartbeats 8000000 in
set_option maxRecDepth 100000 in
theorem impl_NamesOf.calls (k : Nat) (A0 : Option Addr) (c0 : Nat) (l0 : List (S39)) (r1 : List (S56)) (r2 : Bool) (w : World) (hT : Gl w) (hr0 : Kd.C k39 w A0 l0.length l0) (hc0 : l0.length ≤ c0) (h : impl_NamesOf.f k l0 = some (r1, r2)) :
  Calls Tryd.prog 36 #[.slice A0 l0.length c0] w fun e w' => ∃ v0_ : Value, e = .returned (.tuple #[v0_, .bool r2]) ∧ Kd.R k56 56 w' w.heap.size (fun _ => True) v0_ r1 ∧ Below w.heap.size w w' := by
 have hu39 := Tryd.underlying39
 have hu56 := Tryd.underlying56
 have HR0 := Aside0.mk hr0
 have HC0 := Aside0.mk hc0
 clear hr0 hc0
 have HT := Aside0.mk hT
 clear hT
 have HB := Aside0.mk (Below.refl w.heap.size w)
 have H : ((impl_DocOk.f k l0).bind fun t682 => (if t682 = true then (impl_NamesOf.l0 k l0 (([] : List (S56))) l0 (l0.length : Int) 0) else (some (([] : List (S56)), false)))) = some (r1, r2) := h
 clear h
 replace H := Option.bind_eq_some_iff.mp H
 obtain ⟨t682, A20, H⟩ := H
 replace H : (if t682 = true then (impl_NamesOf.l0 k l0 (([] : List (S56))) l0 (l0.length : Int) 0) else (some (([] : List (S56)), false))) = some (r1, r2) := H
 have A2 := Aside0.mk A20
 clear A20
 by_cases c3 : t682 = true
 rotate_left
 ·replace c3 := Bool.eq_false_iff.mpr c3
  subst c3
  have H1 : (some (([] : List (S56)), false)) = some (r1, r2) := by rw [if_neg (show ¬ (false = true) by decide)] at H; exact H
  clear H
  have H := H1
  clear H1
  simp only [Option.some.injEq, Prod.mk.injEq] at H
  obtain ⟨rfl, rfl⟩ := H
  go_enter Tryd.func36, Tryd.ntmps36
  go_wp2_with (first | ((with_reducible refine gate_callee (f := 34) rfl ?_); refine goesL_ (some 16) rfl rfl Tryd.func34 dq23 rfl #[.slice A0 l0.length c0] rfl dq22 ?_; (with_reducible refine (impl_DocOk.calls k _ _ l0 false _ ?side3 ?side1 ?side2 A2.out).mono ?_); (case side1 => exact dq5); (case side2 => exact HC0.out); (case side3 => exact dq0); rintro e w54 ⟨rfl, hb⟩; refine ⟨_, rfl, ?_⟩; have n0_ := Aside0.mk (below_step dq24 hb); clear HB; have HB := n0_; clear n0_; (try clear hb); (try clear hb2); (try clear hk); (try clear hi)))
  go_ret2
  exact ⟨_, dq26, dq60, dq24⟩
 subst c3
 have H1 : (impl_NamesOf.l0 k l0 (([] : List (S56))) l0 (l0.length : Int) 0) = some (r1, r2) := by rw [if_pos rfl] at H; exact H
 clear H
 have H := H1
 clear H1
 obtain ⟨y683, hy683⟩ : ∃ y_ : List (S56), y_ = (([] : List (S56))) := ⟨_, rfl⟩
 replace H : (impl_NamesOf.l0 k l0 y683 l0 (l0.length : Int) 0) = some (r1, r2) := by first | (rw [hy683]; with_reducible exact H) | (have H2_ := (Option.bind_some _ _).symm.trans H; rw [hy683]; with_reducible exact H2_) | (have H2_ := (Option.bind_some _ _).symm.trans H; with_reducible exact H2_) | with_reducible exact H | (rw [hy683]; exact H) | exact H
 have Ny683 := Aside0.mk hy683
 clear hy683
 have H' := Aside0.mk H
 clear H
 go_enter Tryd.func36, Tryd.ntmps36
 go_wp2_with (first | ((with_reducible refine gate_callee (f := 34) rfl ?_); refine goesL_ (some 16) rfl rfl Tryd.func34 dq23 rfl #[.slice A0 l0.length c0] rfl dq22 ?_; (with_reducible refine (impl_DocOk.calls k _ _ l0 true _ ?side3 ?side1 ?side2 A2.out).mono ?_); (case side1 => exact dq5); (case side2 => exact HC0.out); (case side3 => exact dq0); rintro e w4 ⟨rfl, hb⟩; refine ⟨_, rfl, ?_⟩; have n0_ := Aside0.mk (below_step dq24 hb); clear HB; have HB := n0_; clear n0_; (try clear hb); (try clear hb2); (try clear hk); (try clear hi)) | ((with_reducible refine gate_dst (N := 18) rfl ?_); refine Kd.R_lit k56 _ 56 ?hg (N := 18) ?hd (xs := ([] : List (S56))) (inner := []) (ok := fun _ => True) (okp := fun _ => True) ?hr ?hp (fun _ hk => hk) trivial (Below.refl _ _) (Nat.le_refl _) dq21 ?_; (case hd => rfl); (case hg => rfl); (case hr => exact dq1); (case hp => exact (Reps.none _ _)); intro v684 w5 ho6 hb hg_ hnew_; clear hg_ hnew_; (first | rw [← Ny683.out] at ho6 | (simp only [Int.reduceToNat] at ho6; rw [← Ny683.out] at ho6)); have n0_ := Aside0.mk (Kd.R_lower ho6 (below_size dq24)); have n1_ := Aside0.mk (below_step dq24 hb); clear HB; have HO685 := n0_; have HB := n1_; clear n0_ n1_; clear hb ho6))
 go_loopg [4, 21] k (fun kq v4 v21 w' => ∃ (x4_1 : List (S56)) (x21_1 : Int), v21 = .int .i64 x21_1 ∧ Aside0 (impl_NamesOf.l0 kq l0 x4_1 l0 (l0.length : Int) x21_1 = some (r1, r2)) ∧ Aside0 (kq ≤ k) ∧ Aside0 (Kd.R k56 56 w' w.heap.size (fun _ => True) v4 x4_1) ∧ Aside0 (Below w.heap.size w w'))
 case atStart => exact ⟨(y683), (0), dq18, H', ⟨Nat.le_refl _⟩, ⟨by (with_reducible repeat (first | apply Kd.R_alloc | apply Kd.R_drewN | apply Kd.R_drew)); exact HO685.out⟩, ⟨dq24⟩⟩
 clear H'
 obtain ⟨x4_1, x21_1, rfl, HA, HK1, HO_4, HB⟩ := hrel
 cases gk with
 | zero => exact absurd HA.out (by simp [impl_NamesOf.l0])
 | succ k1 =>
  have H := HA.out
  clear HA
  simp only [impl_NamesOf.l0] at H
  by_cases c7 : x21_1 < (l0.length : Int)
  rotate_left
  ·rw [if_neg c7] at H
   have c7b0 := decide_eq_false c7
   clear c7
   simp only [Option.some.injEq, Prod.mk.injEq] at H
   obtain ⟨rfl, rfl⟩ := H
   go_wp2
   go_ret2
   exact ⟨_, dq26, dq46, dq24⟩
  rw [if_pos c7] at H
  have c7b0 := decide_eq_true c7
  clear c7
  by_cases c8 : 0 ≤ x21_1
  rotate_left
  ·rw [if_neg c8] at H
   exact absurd H dq21
  rw [if_pos c8] at H
  have c8b0 := decide_eq_true c8
  clear c8
  by_cases c9 : x21_1 < (l0.length : Int)
  rotate_left
  ·rw [if_neg c9] at H
   exact absurd H dq21
  rw [if_pos c9] at H
  have c9b0 := decide_eq_true c9
  clear c9
  by_cases c10 : ((rd_T39 l0 x21_1).f1).toList = ([] : List UInt8)
  ·rw [if_pos c10] at H
   have c10b0 := beq_iff_eq.mpr c10
   have c10b1 := bne_eq_false_iff_eq.mpr c10
   clear c10
   by_cases c11 : x4_1.length < 4398046511104
   rotate_left
   ·rw [if_neg c11] at H
    exact absurd H dq21
   rw [if_pos c11] at H
   have LMc11 := Aside0.mk c11
   clear c11
   obtain ⟨y689, hy689⟩ : ∃ y_ : List (S56), y_ = (x4_1 ++ [(⟨(⟨#[]⟩ : ByteArray), (⟨#[]⟩ : ByteArray)⟩ : S56)]) := ⟨_, rfl⟩
   replace H : (impl_NamesOf.l0 k1 l0 y689 l0 (l0.length : Int) (wrap64 (x21_1 + 1))) = some (r1, r2) := by first | (rw [hy689]; with_reducible exact H) | (have H2_ := (Option.bind_some _ _).symm.trans H; rw [hy689]; with_reducible exact H2_) | (have H2_ := (Option.bind_some _ _).symm.trans H; with_reducible exact H2_) | with_reducible exact H | (rw [hy689]; exact H) | exact H
   have Ny689 := Aside0.mk hy689
   clear hy689
   have H' := Aside0.mk H
   clear H
   have p686 : 0 ≤ (x21_1 : Int) := of_decide_eq_true dq19
   have q686 : x21_1 < (l0.length : Int) := of_decide_eq_true dq19
   obtain ⟨ad686, A686_3, c686_3, e686, hx686_0, hx686_1, hx686_2, hx686_3, hl686_3, hi686_3⟩ := at_T39 HR0.out x21_1 p686 q686
   cases e686
   replace hx686_0 := (HB.out.cell (World.block_lt_of_cell? w _ hx686_0)).trans hx686_0
   replace hx686_1 := (HB.out.cell (World.block_lt_of_cell? w _ hx686_1)).trans hx686_1
   replace hx686_2 := (HB.out.cell (World.block_lt_of_cell? w _ hx686_2)).trans hx686_2
   replace hx686_3 := (HB.out.cell (World.block_lt_of_cell? w _ hx686_3)).trans hx686_3
   have HR686_3 := Aside0.mk hi686_3
   have HC686_3 := Aside0.mk hl686_3
   clear hi686_3 hl686_3
   replace p686 := eq_true p686
   replace q686 := eq_true q686
   go_wp2_with (first | ((with_reducible refine gate_dst (N := 6) rfl ?_); refine box_event ?hg (N := 6) ?hd (cs := #[.int .i64 0, .string (⟨#[]⟩ : ByteArray), .string (⟨#[]⟩ : ByteArray), .slice none 0 0]) (t := 39) ?hr ?_; (case hd => rfl); (case hg => rfl); (case hr => exact dq1); intro gb687 hg w12 hbox hb; have n0_ := Aside0.mk (Kd.R_below dq46 hb); have n1_ := Aside0.mk (below_step dq24 hb); have n2_ := Aside0.mk (hbox); have n3_ := Aside0.mk ((dq27 : w.heap.size ≤ gb687)); have n4_ := Aside0.mk ((dq27 : w.heap.size ≤ gb687)); clear HO_4; clear HB; have HO_4 := n0_; have HB := n1_; have BK687 := n2_; have GW687 := n3_; have GE687 := n4_; clear n0_ n1_ n2_ n3_ n4_; clear hb hbox hg; obtain ⟨⟨hcz13_0, hcz13_1, hcz13_2, hcz13_3⟩, hfz13_0, hfz13_1, hfz13_2, hfz13_3⟩ := blkC4 BK687.out) | ((with_reducible refine gate_dst (N := 7) rfl ?_); refine box_event ?hg (N := 7) ?hd (cs := #[.string (⟨#[]⟩ : ByteArray), .string (⟨#[]⟩ : ByteArray)]) (t := 56) ?hr ?_; (case hd => rfl); (case hg => rfl); (case hr => exact dq1); intro gb688 hg w14 hbox hb; have n0_ := Aside0.mk (Kd.R_below (Kd.R_elderB dq127 gb688 (Nat.le_of_eq hg.symm)) hb); have n1_ := Aside0.mk (blk_below (g := gb687) (o := .cells #[.int .i64 ((rd_T39 l0 x21_1).f0), .string ((rd_T39 l0 x21_1).f1), .string ((rd_T39 l0 x21_1).f2), .slice A686_3 ((rd_T39 l0 x21_1).f3).length c686_3] 39 (0, 0)) dq126 hb); have n2_ := Aside0.mk (below_step dq125 hb); have n3_ := Aside0.mk (hbox); have n4_ := Aside0.mk ((dq124 : w.heap.size ≤ gb688)); have n5_ := Aside0.mk ((dq124 : w.heap.size ≤ gb688)); have n6_ := Aside0.mk ((dq123 : gb687 ≠ gb688)); have n7_ := Aside0.mk ((dq122 : gb688 ≠ gb687)); clear HO_4; clear BK687; clear HB; have HO_4 := n0_; have BK687 := n1_; have HB := n2_; have BK688 := n3_; have GW688 := n4_; have GE688 := n5_; have NB687_688 := n6_; have NB688_687 := n7_; clear n0_ n1_ n2_ n3_ n4_ n5_ n6_ n7_; clear hb hbox hg; have hnb15 := NB688_687.out; have hnc15 := NB687_688.out; obtain ⟨⟨hcz16_0, hcz16_1⟩, hfz16_0, hfz16_1⟩ := blkC2 BK688.out; obtain ⟨⟨hcz17_0, hcz17_1, hcz17_2, hcz17_3⟩, hfz17_0, hfz17_1, hfz17_2, hfz17_3⟩ := blkC4 BK687.out) | ((with_reducible refine gate_builtin (b := .append) (xs := #[.tmp 59, .tmp 61]) rfl ?_); at_builtin; refine Kd.R_append k56 (w0 := w) w.heap.size rfl (.tmp 59) (.tmp 61) 52 56 (.agg #[(.string ⟨#[]⟩), (.string ⟨#[]⟩)]) 32 rfl Tryd.underlying52 info56 rfl dq52 dq37 u4 x4_1 (⟨(⟨#[]⟩ : ByteArray), (⟨#[]⟩ : ByteArray)⟩ : S56) [.string (⟨#[]⟩ : ByteArray), .string (⟨#[]⟩ : ByteArray)] (fun k_ => k_ ≠ gb688) (fun _ => False) rfl (by first | (go_simp; done) | (go_simp; rfl)) ?aP (fun _ hk => hk.elim) ?aF ?aO ?aB ?aS ?aL ?_; (case aP => exact k56_mkM _ _ _ (⟨(⟨#[]⟩ : ByteArray), (⟨#[]⟩ : ByteArray)⟩ : S56)); (case aB => exact dq121); (case aF => exact (fun k_ hk => Kd.freshB (g := gb688) (o := .cells #[.string (⟨#[]⟩ : ByteArray), .string (⟨#[]⟩ : ByteArray)] 56 (0, 0)) dq119 k_ hk)); (case aO => exact (by (with_reducible repeat (first | apply Kd.R_alloc | apply Kd.R_drewN | apply Kd.R_drew)); exact Kd.R_mono (Kd.R_far (p := ⟨gb688, 1, none⟩) (Kd.R_far (p := ⟨gb688, 0, none⟩) (Kd.R_mono HO_4.out (fun k_ hk => (⟨hk, hk.2⟩ : _ ∧ k_ ≠ gb688))) (fun _ hk => hk.2) (.string (⟨#[]⟩ : ByteArray))) (fun _ hk => hk.2) (.string (⟨#[]⟩ : ByteArray))) (fun _ hk => hk.1.2))); (case aS => exact (below_size dq121)); (case aL => have := LMc11.out; omega); intro v690 w18 ho hb hg hat; rw [← Ny689.out] at ho; have n0_ := Aside0.mk (blk_grown (g := gb687) (o := .cells #[.int .i64 ((rd_T39 l0 x21_1).f0), .string ((rd_T39 l0 x21_1).f1), .string ((rd_T39 l0 x21_1).f2), .slice A686_3 ((rd_T39 l0 x21_1).f3).length c686_3] 39 (0, 0)) dq120 hg (Kd.R_ne HO_4.out BK687.out dq52)); have n1_ := Aside0.mk (blk_grown (g := gb688) (o := .cells #[.string (⟨#[]⟩ : ByteArray), .string (⟨#[]⟩ : ByteArray)] 56 (0, 0)) dq119 hg (Kd.R_away HO_4.out (fun _ hk => hk.2))); have n2_ := Aside0.mk (hb); have n3_ := Aside0.mk (ho); clear BK687; clear BK688; clear HB; clear HO_4; have BK687 := n0_; have BK688 := n1_; have HB := n2_; have HO691 := n3_; clear n0_ n1_ n2_ n3_; clear ho hb hg hat))
   go_roundg k1
   case measure => have := HK1.out; omega
   case rel => exact ⟨(y689), (wrap64 (x21_1 + 1)), dq18, H', ⟨dq20⟩, ⟨by (with_reducible repeat (first | apply Kd.R_alloc | apply Kd.R_drewN | apply Kd.R_drew)); exact Kd.R_mono HO691.out (fun _ hk => trivial)⟩, ⟨dq121⟩⟩
  rw [if_neg c10] at H
  have c10b0 := beq_eq_false_iff_ne.mpr c10
  have c10b1 := bne_iff_ne.mpr c10
  replace H := Option.bind_eq_some_iff.mp H
  obtain ⟨⟨t692, t693, t694⟩, A190, H⟩ := H
  replace H : ((impl_bound.f k1 l0 x21_1 t692).bind fun bt695 => ((impl_attrNames.f k1 l0 x21_1).bind fun bt697 => (if bt695.2 = true then (if bt697.2 = true then (if x4_1.length < 4398046511104 then (impl_NamesOf.l0 k1 l0 (x4_1 ++ [(⟨bt695.1, t693⟩ : S56)]) l0 (l0.length : Int) (wrap64 (x21_1 + 1))) else (none)) else (some (([] : List (S56)), false))) else (some (([] : List (S56)), false))))) = some (r1, r2) := H
  have A19 := Aside0.mk A190
  clear A190
  replace H := Option.bind_eq_some_iff.mp H
  obtain ⟨⟨t695, t696⟩, A200, H⟩ := H
  replace H : ((impl_attrNames.f k1 l0 x21_1).bind fun bt697 => (if t696 = true then (if bt697.2 = true then (if x4_1.length < 4398046511104 then (impl_NamesOf.l0 k1 l0 (x4_1 ++ [(⟨t695, t693⟩ : S56)]) l0 (l0.length : Int) (wrap64 (x21_1 + 1))) else (none)) else (some (([] : List (S56)), false))) else (some (([] : List (S56)), false)))) = some (r1, r2) := H
  have A20 := Aside0.mk A200
  clear A200
  replace H := Option.bind_eq_some_iff.mp H
  obtain ⟨⟨t697, t698⟩, A210, H⟩ := H
  replace H : (if t696 = true then (if t698 = true then (if x4_1.length < 4398046511104 then (impl_NamesOf.l0 k1 l0 (x4_1 ++ [(⟨t695, t693⟩ : S56)]) l0 (l0.length : Int) (wrap64 (x21_1 + 1))) else (none)) else (some (([] : List (S56)), false))) else (some (([] : List (S56)), false))) = some (r1, r2) := H
  have A21 := Aside0.mk A210
  clear A210
  by_cases c22 : t696 = true
  rotate_left
  ·replace c22 := Bool.eq_false_iff.mpr c22
   subst c22
   have H1 : (some (([] : List (S56)), false)) = some (r1, r2) := by rw [if_neg (show ¬ (false = true) by decide)] at H; exact H
   clear H
   have H := H1
   clear H1
   simp only [Option.some.injEq, Prod.mk.injEq] at H
   obtain ⟨rfl, rfl⟩ := H
   have p686 : 0 ≤ (x21_1 : Int) := of_decide_eq_true dq19
   have q686 : x21_1 < (l0.length : Int) := of_decide_eq_true dq19
   obtain ⟨ad686, A686_3, c686_3, e686, hx686_0, hx686_1, hx686_2, hx686_3, hl686_3, hi686_3⟩ := at_T39 HR0.out x21_1 p686 q686
   cases e686
   replace hx686_0 := (HB.out.cell (World.block_lt_of_cell? w _ hx686_0)).trans hx686_0
   replace hx686_1 := (HB.out.cell (World.block_lt_of_cell? w _ hx686_1)).trans hx686_1
   replace hx686_2 := (HB.out.cell (World.block_lt_of_cell? w _ hx686_2)).trans hx686_2
   replace hx686_3 := (HB.out.cell (World.block_lt_of_cell? w _ hx686_3)).trans hx686_3
   have HR686_3 := Aside0.mk hi686_3
   have HC686_3 := Aside0.mk hl686_3
   clear hi686_3 hl686_3
   replace p686 := eq_true p686
   replace q686 := eq_true q686
   go_wp2_with (first | ((with_reducible refine gate_dst (N := 6) rfl ?_); refine box_event ?hg (N := 6) ?hd (cs := #[.int .i64 0, .string (⟨#[]⟩ : ByteArray), .string (⟨#[]⟩ : ByteArray), .slice none 0 0]) (t := 39) ?hr ?_; (case hd => rfl); (case hg => rfl); (case hr => exact dq1); intro gb687 hg w45 hbox hb; have n0_ := Aside0.mk (Kd.R_below dq46 hb); have n1_ := Aside0.mk (below_step dq24 hb); have n2_ := Aside0.mk (hbox); have n3_ := Aside0.mk ((dq27 : w.heap.size ≤ gb687)); have n4_ := Aside0.mk ((dq27 : w.heap.size ≤ gb687)); clear HO_4; clear HB; have HO_4 := n0_; have HB := n1_; have BK687 := n2_; have GW687 := n3_; have GE687 := n4_; clear n0_ n1_ n2_ n3_ n4_; clear hb hbox hg; obtain ⟨⟨hcz46_0, hcz46_1, hcz46_2, hcz46_3⟩, hfz46_0, hfz46_1, hfz46_2, hfz46_3⟩ := blkC4 BK687.out) | ((with_reducible refine gate_dst (N := 7) rfl ?_); refine box_event ?hg (N := 7) ?hd (cs := #[.string (⟨#[]⟩ : ByteArray), .string (⟨#[]⟩ : ByteArray)]) (t := 56) ?hr ?_; (case hd => rfl); (case hg => rfl); (case hr => exact dq1); intro gb688 hg w47 hbox hb; have n0_ := Aside0.mk (Kd.R_below (Kd.R_elderB dq127 gb688 (Nat.le_of_eq hg.symm)) hb); have n1_ := Aside0.mk (blk_below (g := gb687) (o := .cells #[.int .i64 ((rd_T39 l0 x21_1).f0), .string ((rd_T39 l0 x21_1).f1), .string ((rd_T39 l0 x21_1).f2), .slice A686_3 ((rd_T39 l0 x21_1).f3).length c686_3] 39 (0, 0)) dq126 hb); have n2_ := Aside0.mk (below_step dq125 hb); have n3_ := Aside0.mk (hbox); have n4_ := Aside0.mk ((dq124 : w.heap.size ≤ gb688)); have n5_ := Aside0.mk ((dq124 : w.heap.size ≤ gb688)); have n6_ := Aside0.mk ((dq123 : gb687 ≠ gb688)); have n7_ := Aside0.mk ((dq122 : gb688 ≠ gb687)); clear HO_4; clear BK687; clear HB; have HO_4 := n0_; have BK687 := n1_; have HB := n2_; have BK688 := n3_; have GW688 := n4_; have GE688 := n5_; have NB687_688 := n6_; have NB688_687 := n7_; clear n0_ n1_ n2_ n3_ n4_ n5_ n6_ n7_; clear hb hbox hg; have hnb48 := NB688_687.out; have hnc48 := NB687_688.out; obtain ⟨⟨hcz49_0, hcz49_1⟩, hfz49_0, hfz49_1⟩ := blkC2 BK688.out; obtain ⟨⟨hcz50_0, hcz50_1, hcz50_2, hcz50_3⟩, hfz50_0, hfz50_1, hfz50_2, hfz50_3⟩ := blkC4 BK687.out) | ((with_reducible refine gate_callee (f := 38) rfl ?_); refine goesL_ (some 33) rfl rfl Tryd.func38 dq23 rfl #[.string ((rd_T39 l0 x21_1).f1)] rfl dq22 ?_; (with_reducible refine (impl_Split.calls k1 ((rd_T39 l0 x21_1).f1) t692 t693 t694 _ A19.out).mono ?_); rintro e w51 ⟨rfl, hb⟩; refine ⟨_, rfl, ?_⟩; have n0_ := Aside0.mk (Kd.R_below dq131 hb); have n1_ := Aside0.mk (blk_below (g := gb687) (o := .cells #[.int .i64 ((rd_T39 l0 x21_1).f0), .string ((rd_T39 l0 x21_1).f1), .string ((rd_T39 l0 x21_1).f2), .slice A686_3 ((rd_T39 l0 x21_1).f3).length c686_3] 39 (0, 0)) dq120 hb); have n2_ := Aside0.mk (blk_below (g := gb688) (o := .cells #[.string (⟨#[]⟩ : ByteArray), .string (⟨#[]⟩ : ByteArray)] 56 (0, 0)) dq119 hb); have n3_ := Aside0.mk (below_step dq121 hb); clear HO_4; clear BK687; clear BK688; clear HB; have HO_4 := n0_; have BK687 := n1_; have BK688 := n2_; have HB := n3_; clear n0_ n1_ n2_ n3_; (try clear hb); (try clear hb2); (try clear hk); (try clear hi)) | ((with_reducible refine gate_callee (f := 65) rfl ?_); refine goesL_ (some 41) rfl rfl Tryd.func65 dq23 rfl #[.slice (some ad686) l0.length c0, .int .i64 x21_1, .string t692] rfl dq22 ?_; (with_reducible refine (impl_bound.calls k1 _ _ l0 x21_1 t692 t695 false _ ?side1 ?side2 A20.out).mono ?_); (case side1 => exact dq6); (case side2 => exact HC0.out); rintro e w52 ⟨rfl, hb⟩; refine ⟨_, rfl, ?_⟩; have n0_ := Aside0.mk (Kd.R_below dq46 hb); have n1_ := Aside0.mk (blk_below (g := gb687) (o := .cells #[.int .i64 ((rd_T39 l0 x21_1).f0), .string ((rd_T39 l0 x21_1).f1), .string ((rd_T39 l0 x21_1).f2), .slice A686_3 ((rd_T39 l0 x21_1).f3).length c686_3] 39 (0, 0)) dq130 hb); have n2_ := Aside0.mk (blk_below (g := gb688) (o := .cells #[.string (⟨#[]⟩ : ByteArray), .string (⟨#[]⟩ : ByteArray)] 56 (0, 0)) dq129 hb); have n3_ := Aside0.mk (below_step dq121 hb); clear HO_4; clear BK687; clear BK688; clear HB; have HO_4 := n0_; have BK687 := n1_; have BK688 := n2_; have HB := n3_; clear n0_ n1_ n2_ n3_; (try clear hb); (try clear hb2); (try clear hk); (try clear hi)) | ((with_reducible refine gate_callee (f := 73) rfl ?_); refine goesL_ (some 47) rfl rfl Tryd.func73 dq23 rfl #[.slice (some ad686) l0.length c0, .int .i64 x21_1] rfl dq22 ?_; (with_reducible refine (impl_attrNames.calls k1 _ _ l0 x21_1 t697 t698 _ ?side1 ?side2 A21.out).mono ?_); (case side1 => exact dq6); (case side2 => exact HC0.out); rintro e w53 ⟨v699, rfl, ho0, hb⟩; refine ⟨_, rfl, ?_⟩; have n0_ := Aside0.mk (Kd.R_elder' dq46 (Kd.R_base ho0) hb); have n1_ := Aside0.mk (Kd.R_lower (Kd.R_newB (Kd.R_new' ho0 (Kd.R_lt dq46)) (g := gb688) (o := .cells #[.string (⟨#[]⟩ : ByteArray), .string (⟨#[]⟩ : ByteArray)] 56 (0, 0)) dq129) (below_size dq121)); have n2_ := Aside0.mk (blk_below (g := gb687) (o := .cells #[.int .i64 ((rd_T39 l0 x21_1).f0), .string ((rd_T39 l0 x21_1).f1), .string ((rd_T39 l0 x21_1).f2), .slice A686_3 ((rd_T39 l0 x21_1).f3).length c686_3] 39 (0, 0)) dq130 hb); have n3_ := Aside0.mk (blk_below (g := gb688) (o := .cells #[.string (⟨#[]⟩ : ByteArray), .string (⟨#[]⟩ : ByteArray)] 56 (0, 0)) dq129 hb); have n4_ := Aside0.mk (below_step dq121 hb); clear HO_4; clear BK687; clear BK688; clear HB; have HO_4 := n0_; have HO700 := n1_; have BK687 := n2_; have BK688 := n3_; have HB := n4_; clear n0_ n1_ n2_ n3_ n4_; (try clear hb); (try clear hb2); (try clear hk); (try clear hi); (try clear ho0)))
   go_ret2
   exact ⟨_, dq26, dq60, dq121⟩
  subst c22
  have H1 : (if t698 = true then (if x4_1.length < 4398046511104 then (impl_NamesOf.l0 k1 l0 (x4_1 ++ [(⟨t695, t693⟩ : S56)]) l0 (l0.length : Int) (wrap64 (x21_1 + 1))) else (none)) else (some (([] : List (S56)), false))) = some (r1, r2) := by rw [if_pos rfl] at H; exact H
  clear H
  have H := H1
  clear H1
  by_cases c23 : t698 = true
  rotate_left
  ·replace c23 := Bool.eq_false_iff.mpr c23
   subst c23
   have H1 : (some (([] : List (S56)), false)) = some (r1, r2) := by rw [if_neg (show ¬ (false = true) by decide)] at H; exact H
   clear H
   have H := H1
   clear H1
   simp only [Option.some.injEq, Prod.mk.injEq] at H
   obtain ⟨rfl, rfl⟩ := H
   have p686 : 0 ≤ (x21_1 : Int) := of_decide_eq_true dq19
   have q686 : x21_1 < (l0.length : Int) := of_decide_eq_true dq19
   obtain ⟨ad686, A686_3, c686_3, e686, hx686_0, hx686_1, hx686_2, hx686_3, hl686_3, hi686_3⟩ := at_T39 HR0.out x21_1 p686 q686
   cases e686
   replace hx686_0 := (HB.out.cell (World.block_lt_of_cell? w _ hx686_0)).trans hx686_0
   replace hx686_1 := (HB.out.cell (World.block_lt_of_cell? w _ hx686_1)).trans hx686_1
   replace hx686_2 := (HB.out.cell (World.block_lt_of_cell? w _ hx686_2)).trans hx686_2
   replace hx686_3 := (HB.out.cell (World.block_lt_of_cell? w _ hx686_3)).trans hx686_3
   have HR686_3 := Aside0.mk hi686_3
   have HC686_3 := Aside0.mk hl686_3
   clear hi686_3 hl686_3
   replace p686 := eq_true p686
   replace q686 := eq_true q686
   go_wp2_with (first | ((with_reducible refine gate_dst (N := 6) rfl ?_); refine box_event ?hg (N := 6) ?hd (cs := #[.int .i64 0, .string (⟨#[]⟩ : ByteArray), .string (⟨#[]⟩ : ByteArray), .slice none 0 0]) (t := 39) ?hr ?_; (case hd => rfl); (case hg => rfl); (case hr => exact dq1); intro gb687 hg w36 hbox hb; have n0_ := Aside0.mk (Kd.R_below dq46 hb); have n1_ := Aside0.mk (below_step dq24 hb); have n2_ := Aside0.mk (hbox); have n3_ := Aside0.mk ((dq27 : w.heap.size ≤ gb687)); have n4_ := Aside0.mk ((dq27 : w.heap.size ≤ gb687)); clear HO_4; clear HB; have HO_4 := n0_; have HB := n1_; have BK687 := n2_; have GW687 := n3_; have GE687 := n4_; clear n0_ n1_ n2_ n3_ n4_; clear hb hbox hg; obtain ⟨⟨hcz37_0, hcz37_1, hcz37_2, hcz37_3⟩, hfz37_0, hfz37_1, hfz37_2, hfz37_3⟩ := blkC4 BK687.out) | ((with_reducible refine gate_dst (N := 7) rfl ?_); refine box_event ?hg (N := 7) ?hd (cs := #[.string (⟨#[]⟩ : ByteArray), .string (⟨#[]⟩ : ByteArray)]) (t := 56) ?hr ?_; (case hd => rfl); (case hg => rfl); (case hr => exact dq1); intro gb688 hg w38 hbox hb; have n0_ := Aside0.mk (Kd.R_below (Kd.R_elderB dq127 gb688 (Nat.le_of_eq hg.symm)) hb); have n1_ := Aside0.mk (blk_below (g := gb687) (o := .cells #[.int .i64 ((rd_T39 l0 x21_1).f0), .string ((rd_T39 l0 x21_1).f1), .string ((rd_T39 l0 x21_1).f2), .slice A686_3 ((rd_T39 l0 x21_1).f3).length c686_3] 39 (0, 0)) dq126 hb); have n2_ := Aside0.mk (below_step dq125 hb); have n3_ := Aside0.mk (hbox); have n4_ := Aside0.mk ((dq124 : w.heap.size ≤ gb688)); have n5_ := Aside0.mk ((dq124 : w.heap.size ≤ gb688)); have n6_ := Aside0.mk ((dq123 : gb687 ≠ gb688)); have n7_ := Aside0.mk ((dq122 : gb688 ≠ gb687)); clear HO_4; clear BK687; clear HB; have HO_4 := n0_; have BK687 := n1_; have HB := n2_; have BK688 := n3_; have GW688 := n4_; have GE688 := n5_; have NB687_688 := n6_; have NB688_687 := n7_; clear n0_ n1_ n2_ n3_ n4_ n5_ n6_ n7_; clear hb hbox hg; have hnb39 := NB688_687.out; have hnc39 := NB687_688.out; obtain ⟨⟨hcz40_0, hcz40_1⟩, hfz40_0, hfz40_1⟩ := blkC2 BK688.out; obtain ⟨⟨hcz41_0, hcz41_1, hcz41_2, hcz41_3⟩, hfz41_0, hfz41_1, hfz41_2, hfz41_3⟩ := blkC4 BK687.out) | ((with_reducible refine gate_callee (f := 38) rfl ?_); refine goesL_ (some 33) rfl rfl Tryd.func38 dq23 rfl #[.string ((rd_T39 l0 x21_1).f1)] rfl dq22 ?_; (with_reducible refine (impl_Split.calls k1 ((rd_T39 l0 x21_1).f1) t692 t693 t694 _ A19.out).mono ?_); rintro e w42 ⟨rfl, hb⟩; refine ⟨_, rfl, ?_⟩; have n0_ := Aside0.mk (Kd.R_below dq131 hb); have n1_ := Aside0.mk (blk_below (g := gb687) (o := .cells #[.int .i64 ((rd_T39 l0 x21_1).f0), .string ((rd_T39 l0 x21_1).f1), .string ((rd_T39 l0 x21_1).f2), .slice A686_3 ((rd_T39 l0 x21_1).f3).length c686_3] 39 (0, 0)) dq120 hb); have n2_ := Aside0.mk (blk_below (g := gb688) (o := .cells #[.string (⟨#[]⟩ : ByteArray), .string (⟨#[]⟩ : ByteArray)] 56 (0, 0)) dq119 hb); have n3_ := Aside0.mk (below_step dq121 hb); clear HO_4; clear BK687; clear BK688; clear HB; have HO_4 := n0_; have BK687 := n1_; have BK688 := n2_; have HB := n3_; clear n0_ n1_ n2_ n3_; (try clear hb); (try clear hb2); (try clear hk); (try clear hi)) | ((with_reducible refine gate_callee (f := 65) rfl ?_); refine goesL_ (some 41) rfl rfl Tryd.func65 dq23 rfl #[.slice (some ad686) l0.length c0, .int .i64 x21_1, .string t692] rfl dq22 ?_; (with_reducible refine (impl_bound.calls k1 _ _ l0 x21_1 t692 t695 true _ ?side1 ?side2 A20.out).mono ?_); (case side1 => exact dq6); (case side2 => exact HC0.out); rintro e w43 ⟨rfl, hb⟩; refine ⟨_, rfl, ?_⟩; have n0_ := Aside0.mk (Kd.R_below dq46 hb); have n1_ := Aside0.mk (blk_below (g := gb687) (o := .cells #[.int .i64 ((rd_T39 l0 x21_1).f0), .string ((rd_T39 l0 x21_1).f1), .string ((rd_T39 l0 x21_1).f2), .slice A686_3 ((rd_T39 l0 x21_1).f3).length c686_3] 39 (0, 0)) dq130 hb); have n2_ := Aside0.mk (blk_below (g := gb688) (o := .cells #[.string (⟨#[]⟩ : ByteArray), .string (⟨#[]⟩ : ByteArray)] 56 (0, 0)) dq129 hb); have n3_ := Aside0.mk (below_step dq121 hb); clear HO_4; clear BK687; clear BK688; clear HB; have HO_4 := n0_; have BK687 := n1_; have BK688 := n2_; have HB := n3_; clear n0_ n1_ n2_ n3_; (try clear hb); (try clear hb2); (try clear hk); (try clear hi)) | ((with_reducible refine gate_callee (f := 73) rfl ?_); refine goesL_ (some 47) rfl rfl Tryd.func73 dq23 rfl #[.slice (some ad686) l0.length c0, .int .i64 x21_1] rfl dq22 ?_; (with_reducible refine (impl_attrNames.calls k1 _ _ l0 x21_1 t697 false _ ?side1 ?side2 A21.out).mono ?_); (case side1 => exact dq6); (case side2 => exact HC0.out); rintro e w44 ⟨v699, rfl, ho0, hb⟩; refine ⟨_, rfl, ?_⟩; have n0_ := Aside0.mk (Kd.R_elder' dq46 (Kd.R_base ho0) hb); have n1_ := Aside0.mk (Kd.R_lower (Kd.R_newB (Kd.R_new' ho0 (Kd.R_lt dq46)) (g := gb688) (o := .cells #[.string (⟨#[]⟩ : ByteArray), .string (⟨#[]⟩ : ByteArray)] 56 (0, 0)) dq129) (below_size dq121)); have n2_ := Aside0.mk (blk_below (g := gb687) (o := .cells #[.int .i64 ((rd_T39 l0 x21_1).f0), .string ((rd_T39 l0 x21_1).f1), .string ((rd_T39 l0 x21_1).f2), .slice A686_3 ((rd_T39 l0 x21_1).f3).length c686_3] 39 (0, 0)) dq130 hb); have n3_ := Aside0.mk (blk_below (g := gb688) (o := .cells #[.string (⟨#[]⟩ : ByteArray), .string (⟨#[]⟩ : ByteArray)] 56 (0, 0)) dq129 hb); have n4_ := Aside0.mk (below_step dq121 hb); clear HO_4; clear BK687; clear BK688; clear HB; have HO_4 := n0_; have HO700 := n1_; have BK687 := n2_; have BK688 := n3_; have HB := n4_; clear n0_ n1_ n2_ n3_ n4_; (try clear hb); (try clear hb2); (try clear hk); (try clear hi); (try clear ho0)))
   go_ret2
   exact ⟨_, dq26, dq60, dq121⟩
  subst c23
  have H1 : (if x4_1.length < 4398046511104 then (impl_NamesOf.l0 k1 l0 (x4_1 ++ [(⟨t695, t693⟩ : S56)]) l0 (l0.length : Int) (wrap64 (x21_1 + 1))) else (none)) = some (r1, r2) := by rw [if_pos rfl] at H; exact H
  clear H
  have H := H1
  clear H1
  by_cases c24 : x4_1.length < 4398046511104
  rotate_left
  ·rw [if_neg c24] at H
   exact absurd H dq21
  rw [if_pos c24] at H
  have LMc24 := Aside0.mk c24
  clear c24
  obtain ⟨y701, hy701⟩ : ∃ y_ : List (S56), y_ = (x4_1 ++ [(⟨t695, t693⟩ : S56)]) := ⟨_, rfl⟩
  replace H : (impl_NamesOf.l0 k1 l0 y701 l0 (l0.length : Int) (wrap64 (x21_1 + 1))) = some (r1, r2) := by first | (rw [hy701]; with_reducible exact H) | (have H2_ := (Option.bind_some _ _).symm.trans H; rw [hy701]; with_reducible exact H2_) | (have H2_ := (Option.bind_some _ _).symm.trans H; with_reducible exact H2_) | with_reducible exact H | (rw [hy701]; exact H) | exact H
  have Ny701 := Aside0.mk hy701
  clear hy701
  have H' := Aside0.mk H
  clear H
  have p686 : 0 ≤ (x21_1 : Int) := of_decide_eq_true dq19
  have q686 : x21_1 < (l0.length : Int) := of_decide_eq_true dq19
  obtain ⟨ad686, A686_3, c686_3, e686, hx686_0, hx686_1, hx686_2, hx686_3, hl686_3, hi686_3⟩ := at_T39 HR0.out x21_1 p686 q686
  cases e686
  replace hx686_0 := (HB.out.cell (World.block_lt_of_cell? w _ hx686_0)).trans hx686_0
  replace hx686_1 := (HB.out.cell (World.block_lt_of_cell? w _ hx686_1)).trans hx686_1
  replace hx686_2 := (HB.out.cell (World.block_lt_of_cell? w _ hx686_2)).trans hx686_2
  replace hx686_3 := (HB.out.cell (World.block_lt_of_cell? w _ hx686_3)).trans hx686_3
  have HR686_3 := Aside0.mk hi686_3
  have HC686_3 := Aside0.mk hl686_3
  clear hi686_3 hl686_3
  replace p686 := eq_true p686
  replace q686 := eq_true q686
  go_wp2_with (first | ((with_reducible refine gate_dst (N := 6) rfl ?_); refine box_event ?hg (N := 6) ?hd (cs := #[.int .i64 0, .string (⟨#[]⟩ : ByteArray), .string (⟨#[]⟩ : ByteArray), .slice none 0 0]) (t := 39) ?hr ?_; (case hd => rfl); (case hg => rfl); (case hr => exact dq1); intro gb687 hg w25 hbox hb; have n0_ := Aside0.mk (Kd.R_below dq46 hb); have n1_ := Aside0.mk (below_step dq24 hb); have n2_ := Aside0.mk (hbox); have n3_ := Aside0.mk ((dq27 : w.heap.size ≤ gb687)); have n4_ := Aside0.mk ((dq27 : w.heap.size ≤ gb687)); clear HO_4; clear HB; have HO_4 := n0_; have HB := n1_; have BK687 := n2_; have GW687 := n3_; have GE687 := n4_; clear n0_ n1_ n2_ n3_ n4_; clear hb hbox hg; obtain ⟨⟨hcz26_0, hcz26_1, hcz26_2, hcz26_3⟩, hfz26_0, hfz26_1, hfz26_2, hfz26_3⟩ := blkC4 BK687.out) | ((with_reducible refine gate_dst (N := 7) rfl ?_); refine box_event ?hg (N := 7) ?hd (cs := #[.string (⟨#[]⟩ : ByteArray), .string (⟨#[]⟩ : ByteArray)]) (t := 56) ?hr ?_; (case hd => rfl); (case hg => rfl); (case hr => exact dq1); intro gb688 hg w27 hbox hb; have n0_ := Aside0.mk (Kd.R_below (Kd.R_elderB dq127 gb688 (Nat.le_of_eq hg.symm)) hb); have n1_ := Aside0.mk (blk_below (g := gb687) (o := .cells #[.int .i64 ((rd_T39 l0 x21_1).f0), .string ((rd_T39 l0 x21_1).f1), .string ((rd_T39 l0 x21_1).f2), .slice A686_3 ((rd_T39 l0 x21_1).f3).length c686_3] 39 (0, 0)) dq126 hb); have n2_ := Aside0.mk (below_step dq125 hb); have n3_ := Aside0.mk (hbox); have n4_ := Aside0.mk ((dq124 : w.heap.size ≤ gb688)); have n5_ := Aside0.mk ((dq124 : w.heap.size ≤ gb688)); have n6_ := Aside0.mk ((dq123 : gb687 ≠ gb688)); have n7_ := Aside0.mk ((dq122 : gb688 ≠ gb687)); clear HO_4; clear BK687; clear HB; have HO_4 := n0_; have BK687 := n1_; have HB := n2_; have BK688 := n3_; have GW688 := n4_; have GE688 := n5_; have NB687_688 := n6_; have NB688_687 := n7_; clear n0_ n1_ n2_ n3_ n4_ n5_ n6_ n7_; clear hb hbox hg; have hnb28 := NB688_687.out; have hnc28 := NB687_688.out; obtain ⟨⟨hcz29_0, hcz29_1⟩, hfz29_0, hfz29_1⟩ := blkC2 BK688.out; obtain ⟨⟨hcz30_0, hcz30_1, hcz30_2, hcz30_3⟩, hfz30_0, hfz30_1, hfz30_2, hfz30_3⟩ := blkC4 BK687.out) | ((with_reducible refine gate_callee (f := 38) rfl ?_); refine goesL_ (some 33) rfl rfl Tryd.func38 dq23 rfl #[.string ((rd_T39 l0 x21_1).f1)] rfl dq22 ?_; (with_reducible refine (impl_Split.calls k1 ((rd_T39 l0 x21_1).f1) t692 t693 t694 _ A19.out).mono ?_); rintro e w31 ⟨rfl, hb⟩; refine ⟨_, rfl, ?_⟩; have n0_ := Aside0.mk (Kd.R_below dq131 hb); have n1_ := Aside0.mk (blk_below (g := gb687) (o := .cells #[.int .i64 ((rd_T39 l0 x21_1).f0), .string ((rd_T39 l0 x21_1).f1), .string ((rd_T39 l0 x21_1).f2), .slice A686_3 ((rd_T39 l0 x21_1).f3).length c686_3] 39 (0, 0)) dq120 hb); have n2_ := Aside0.mk (blk_below (g := gb688) (o := .cells #[.string (⟨#[]⟩ : ByteArray), .string (⟨#[]⟩ : ByteArray)] 56 (0, 0)) dq119 hb); have n3_ := Aside0.mk (below_step dq121 hb); clear HO_4; clear BK687; clear BK688; clear HB; have HO_4 := n0_; have BK687 := n1_; have BK688 := n2_; have HB := n3_; clear n0_ n1_ n2_ n3_; (try clear hb); (try clear hb2); (try clear hk); (try clear hi)) | ((with_reducible refine gate_callee (f := 65) rfl ?_); refine goesL_ (some 41) rfl rfl Tryd.func65 dq23 rfl #[.slice (some ad686) l0.length c0, .int .i64 x21_1, .string t692] rfl dq22 ?_; (with_reducible refine (impl_bound.calls k1 _ _ l0 x21_1 t692 t695 true _ ?side1 ?side2 A20.out).mono ?_); (case side1 => exact dq6); (case side2 => exact HC0.out); rintro e w32 ⟨rfl, hb⟩; refine ⟨_, rfl, ?_⟩; have n0_ := Aside0.mk (Kd.R_below dq46 hb); have n1_ := Aside0.mk (blk_below (g := gb687) (o := .cells #[.int .i64 ((rd_T39 l0 x21_1).f0), .string ((rd_T39 l0 x21_1).f1), .string ((rd_T39 l0 x21_1).f2), .slice A686_3 ((rd_T39 l0 x21_1).f3).length c686_3] 39 (0, 0)) dq130 hb); have n2_ := Aside0.mk (blk_below (g := gb688) (o := .cells #[.string (⟨#[]⟩ : ByteArray), .string (⟨#[]⟩ : ByteArray)] 56 (0, 0)) dq129 hb); have n3_ := Aside0.mk (below_step dq121 hb); clear HO_4; clear BK687; clear BK688; clear HB; have HO_4 := n0_; have BK687 := n1_; have BK688 := n2_; have HB := n3_; clear n0_ n1_ n2_ n3_; (try clear hb); (try clear hb2); (try clear hk); (try clear hi)) | ((with_reducible refine gate_callee (f := 73) rfl ?_); refine goesL_ (some 47) rfl rfl Tryd.func73 dq23 rfl #[.slice (some ad686) l0.length c0, .int .i64 x21_1] rfl dq22 ?_; (with_reducible refine (impl_attrNames.calls k1 _ _ l0 x21_1 t697 true _ ?side1 ?side2 A21.out).mono ?_); (case side1 => exact dq6); (case side2 => exact HC0.out); rintro e w33 ⟨v699, rfl, ho0, hb⟩; refine ⟨_, rfl, ?_⟩; have n0_ := Aside0.mk (Kd.R_elder' dq46 (Kd.R_base ho0) hb); have n1_ := Aside0.mk (Kd.R_lower (Kd.R_newB (Kd.R_new' ho0 (Kd.R_lt dq46)) (g := gb688) (o := .cells #[.string (⟨#[]⟩ : ByteArray), .string (⟨#[]⟩ : ByteArray)] 56 (0, 0)) dq129) (below_size dq121)); have n2_ := Aside0.mk (blk_below (g := gb687) (o := .cells #[.int .i64 ((rd_T39 l0 x21_1).f0), .string ((rd_T39 l0 x21_1).f1), .string ((rd_T39 l0 x21_1).f2), .slice A686_3 ((rd_T39 l0 x21_1).f3).length c686_3] 39 (0, 0)) dq130 hb); have n3_ := Aside0.mk (blk_below (g := gb688) (o := .cells #[.string (⟨#[]⟩ : ByteArray), .string (⟨#[]⟩ : ByteArray)] 56 (0, 0)) dq129 hb); have n4_ := Aside0.mk (below_step dq121 hb); clear HO_4; clear BK687; clear BK688; clear HB; have HO_4 := n0_; have HO700 := n1_; have BK687 := n2_; have BK688 := n3_; have HB := n4_; clear n0_ n1_ n2_ n3_ n4_; (try clear hb); (try clear hb2); (try clear hk); (try clear hi); (try clear ho0); obtain ⟨⟨hcz34_0, hcz34_1⟩, hfz34_0, hfz34_1⟩ := blkC2 BK688.out) | ((with_reducible refine gate_builtin (b := .append) (xs := #[.tmp 59, .tmp 61]) rfl ?_); at_builtin; refine Kd.R_append k56 (w0 := w) w.heap.size rfl (.tmp 59) (.tmp 61) 52 56 (.agg #[(.string ⟨#[]⟩), (.string ⟨#[]⟩)]) 32 rfl Tryd.underlying52 info56 rfl dq52 dq37 u4 x4_1 (⟨t695, t693⟩ : S56) [.string t695, .string t693] (fun k_ => some k_ ≠ (v699 : Value).ownBlock ∧ k_ ≠ gb688) (fun _ => False) rfl (by first | (go_simp; done) | (go_simp; rfl)) ?aP (fun _ hk => hk.elim) ?aF ?aO ?aB ?aS ?aL ?_; (case aP => exact k56_mkM _ _ _ (⟨t695, t693⟩ : S56)); (case aB => exact dq121); (case aF => exact (fun k_ hk => ⟨Kd.fresh' (Kd.R_lt (by (with_reducible repeat (first | apply Kd.R_alloc | apply Kd.R_drewN | apply Kd.R_drew)); exact (Kd.R_mono (Kd.R_far (p := ⟨gb688, 1, none⟩) (Kd.R_far (p := ⟨gb688, 0, none⟩) (Kd.R_mono HO700.out (fun k_ hk => (⟨hk, hk.2⟩ : _ ∧ k_ ≠ gb688))) (fun _ hk => hk.2) (.string t695)) (fun _ hk => hk.2) (.string t693)) (fun _ h_ => h_.1)))) k_ hk, Kd.freshB (g := gb688) (o := .cells #[.string t695, .string t693] 56 (0, 0)) dq128 k_ hk⟩)); (case aO => exact (by (with_reducible repeat (first | apply Kd.R_alloc | apply Kd.R_drewN | apply Kd.R_drew)); exact Kd.R_mono (Kd.R_far (p := ⟨gb688, 1, none⟩) (Kd.R_far (p := ⟨gb688, 0, none⟩) (Kd.R_mono HO_4.out (fun k_ hk => (⟨hk, hk.1.2⟩ : _ ∧ k_ ≠ gb688))) (fun _ hk => hk.2) (.string t695)) (fun _ hk => hk.2) (.string t693)) (fun _ hk => ⟨hk.1.2, hk.1.1.2⟩))); (case aS => exact (below_size dq121)); (case aL => have := LMc24.out; omega); intro v702 w35 ho hb hg hat; rw [← Ny701.out] at ho; have n0_ := Aside0.mk (blk_grown (g := gb687) (o := .cells #[.int .i64 ((rd_T39 l0 x21_1).f0), .string ((rd_T39 l0 x21_1).f1), .string ((rd_T39 l0 x21_1).f2), .slice A686_3 ((rd_T39 l0 x21_1).f3).length c686_3] 39 (0, 0)) dq120 hg (Kd.R_ne HO_4.out BK687.out dq52)); have n1_ := Aside0.mk (blk_grown (g := gb688) (o := .cells #[.string t695, .string t693] 56 (0, 0)) dq128 hg (Kd.R_away HO_4.out (fun _ hk => hk.1.2))); have n2_ := Aside0.mk (Kd.R_after (ok := (fun k_ => k_ ≠ gb688)) (by (with_reducible repeat (first | apply Kd.R_alloc | apply Kd.R_drewN | apply Kd.R_drew)); exact Kd.R_mono (Kd.R_far (p := ⟨gb688, 1, none⟩) (Kd.R_far (p := ⟨gb688, 0, none⟩) (Kd.R_mono HO700.out (fun k_ hk => (⟨hk, hk.2⟩ : _ ∧ k_ ≠ gb688))) (fun _ hk => hk.2) (.string t695)) (fun _ hk => hk.2) (.string t693)) (fun _ hk => ⟨hk.1.2, hk.1.1.2⟩)) hg hat); have n3_ := Aside0.mk (hb); have n4_ := Aside0.mk (ho); clear BK687; clear BK688; clear HO700; clear HB; clear HO_4; have BK687 := n0_; have BK688 := n1_; have HO700 := n2_; have HB := n3_; have HO703 := n4_; clear n0_ n1_ n2_ n3_ n4_; clear ho hb hg hat))
  go_roundg k1
  case measure => have := HK1.out; omega
  case rel => exact ⟨(y701), (wrap64 (x21_1 + 1)), dq18, H', ⟨dq20⟩, ⟨by (with_reducible repeat (first | apply Kd.R_alloc | apply Kd.R_drewN | apply Kd.R_drew)); exact Kd.R_mono HO703.out (fun _ hk => trivial)⟩, ⟨dq121⟩⟩

/-! ### spec_l2Deep: function 57 -/
def spec_l2Deep.l0 : Nat → List (S39) → Int → Int → Option (Int)
 | 0, _, _, _ => none
 | k + 1, x0, x1, x5 => if 0 ≤ x1 then (if x1 < (x0.length : Int) then (if ((rd_T39 x0 x1).f0) ≥ 0 then (spec_l2Deep.l0 k x0 ((rd_T39 x0 x1).f0) (wrap64 (x5 + 1))) else (some x5)) else (none)) else (none)
def spec_l2Deep.f (k : Nat) (l0 : List (S39)) (a1 : Int) : Option (Int) := spec_l2Deep.l0 k l0 a1 0
set_option maxHeartbeats 8000000 in
set_option maxRecDepth 100000 in
theorem spec_l2Deep.calls (k : Nat) (A0 : Option Addr) (c0 : Nat) (l0 : List (S39)) (a1 : Int) (r : Int) (w : World) (hr0 : Kd.C k39 w A0 l0.length l0) (hc0 : l0.length ≤ c0) (h : spec_l2Deep.f k l0 a1 = some r) :
  Calls Tryd.prog 57 #[.slice A0 l0.length c0, .int .i64 a1] w fun e w' => e = .returned (.int .i64 r) ∧ Drawn0 w w' := by
 have HR0 := Aside0.mk hr0
 have HC0 := Aside0.mk hc0
 clear hr0 hc0
 have H : (spec_l2Deep.l0 k l0 a1 0) = some r := h
 clear h
 have H' := Aside0.mk H
 clear H
 go_enter Tryd.func57, Tryd.ntmps57
 go_wp2
 go_loopg [1, 5] k (fun kq v1 v5 w' => ∃ (x1_1 : Int) (x5_1 : Int), v1 = .int .i64 x1_1 ∧ v5 = .int .i64 x5_1 ∧ Aside0 (spec_l2Deep.l0 kq l0 x1_1 x5_1 = some r) ∧ Aside0 (kq ≤ k) ∧ Drawn0 w w')
 case atStart => exact ⟨(a1), (0), dq18, dq18, H', ⟨Nat.le_refl _⟩, dq17⟩
 clear H'
 try clear p2
 obtain ⟨x1_1, x5_1, rfl, rfl, HA, HK1, ⟨m1, rfl⟩⟩ := hrel
 cases gk with
 | zero => exact absurd HA.out (by simp [spec_l2Deep.l0])
 | succ k1 =>
  have H := HA.out
  clear HA
  simp only [spec_l2Deep.l0] at H
  by_cases c3 : 0 ≤ x1_1
  rotate_left
  ·rw [if_neg c3] at H
   exact absurd H dq21
  rw [if_pos c3] at H
  have c3b0 := decide_eq_true c3
  clear c3
  by_cases c4 : x1_1 < (l0.length : Int)
  rotate_left
  ·rw [if_neg c4] at H
   exact absurd H dq21
  rw [if_pos c4] at H
  have c4b0 := decide_eq_true c4
  clear c4
  by_cases c5 : ((rd_T39 l0 x1_1).f0) ≥ 0
  rotate_left
  ·rw [if_neg c5] at H
   have c5b0 : decide (0 ≤ ((rd_T39 l0 x1_1).f0)) = false := decide_eq_false c5
   clear c5
   obtain rfl := Option.some.inj H
   have p101 : 0 ≤ (x1_1 : Int) := of_decide_eq_true dq19
   have q101 : x1_1 < (l0.length : Int) := of_decide_eq_true dq19
   obtain ⟨ad101, A101_3, c101_3, e101, hx101_0, hx101_1, hx101_2, hx101_3, hl101_3, hi101_3⟩ := at_T39 HR0.out x1_1 p101 q101
   cases e101
   have HR101_3 := Aside0.mk hi101_3
   have HC101_3 := Aside0.mk hl101_3
   clear hi101_3 hl101_3
   replace p101 := eq_true p101
   replace q101 := eq_true q101
   go_wp2
   go_ret
   exact ⟨dq18, dq17⟩
  rw [if_pos c5] at H
  have c5b0 : decide (0 ≤ ((rd_T39 l0 x1_1).f0)) = true := decide_eq_true c5
  clear c5
  have H' := Aside0.mk H
  clear H
  have p101 : 0 ≤ (x1_1 : Int) := of_decide_eq_true dq19
  have q101 : x1_1 < (l0.length : Int) := of_decide_eq_true dq19
  obtain ⟨ad101, A101_3, c101_3, e101, hx101_0, hx101_1, hx101_2, hx101_3, hl101_3, hi101_3⟩ := at_T39 HR0.out x1_1 p101 q101
  cases e101
  have HR101_3 := Aside0.mk hi101_3
  have HC101_3 := Aside0.mk hl101_3
  clear hi101_3 hl101_3
  replace p101 := eq_true p101
  replace q101 := eq_true q101
  have p102 : 0 ≤ (x1_1 : Int) := of_decide_eq_true dq19
  have q102 : x1_1 < (l0.length : Int) := of_decide_eq_true dq19
  obtain ⟨ad102, A102_3, c102_3, e102, hx102_0, hx102_1, hx102_2, hx102_3, hl102_3, hi102_3⟩ := at_T39 HR0.out x1_1 p102 q102
  obtain rfl : ad101 = ad102 := (by injection e102)
  have HR102_3 := Aside0.mk hi102_3
  have HC102_3 := Aside0.mk hl102_3
  clear hi102_3 hl102_3
  replace p102 := eq_true p102
  replace q102 := eq_true q102
  have ea_ := Option.some.inj (hx101_3.symm.trans hx102_3)
  injection ea_ with ea_ en_ ec_
  subst ea_
  subst ec_
  clear en_
  go_wp2
  go_roundg k1
  case measure => have := HK1.out; omega
  case rel => exact ⟨((rd_T39 l0 x1_1).f0), (wrap64 (x5_1 + 1)), dq18, dq18, H', ⟨dq20⟩, dq17⟩

end Go.Proofs.YtpmjpbaeecnpiaaDoor.L
