/- Words and contracts for the row RowFnExactFieldOf: what the Go functions answer that it calls; printed by programs of the kit and of this session, and merged. -/
import Derived.Test.YtpmjpbaeecnpiaaGreatDoorQf7
import Derived.Sort.Walk0
import Derived.Lib.SplitLaws
import Derived.Lib.IndexBytes
import Derived.Lib.ValidLaws
import Derived.Lib.DecodeN
import Derived.Lib.MapLaws
import Derived.Lib.TrimUEq
namespace Go.Proofs.YtpmjpbaeecnpiaaGreatDoor.L
open Go.RowKit Go.Proofs.YtpmjpbaeecnpiaaGreatDoorW.PrintWords Go.Proofs.YtpmjpbaeecnpiaaGreatDoorW.PrintLast Go.Proofs.YtpmjpbaeecnpiaaGreatDoorW.PrintMore
attribute [local go_sem] max2_int min2_int max_two min_two max_three min_three max_four min_four
set_option linter.unusedVariables false
set_option linter.unusedSimpArgs false

/-! ### laws_eqAttrS: function 98 -/
def laws_eqAttrS.l0 : Nat → List (S67) → List (S67) → Int → Option (Bool)
 | 0, _, _, _ => none
 | k + 1, x0, x1, x5 => if x5 < (x0.length : Int) then (if 0 ≤ x5 then (if x5 < (x1.length : Int) then ((laws_eqAttr.f ((rd_T67 x0 x5).f0) ((rd_T67 x0 x5).f1) ((rd_T67 x1 x5).f0) ((rd_T67 x1 x5).f1)).bind fun t462 => (if t462 = true then (laws_eqAttrS.l0 k x0 x1 (wrap64 (x5 + 1))) else (some false))) else (none)) else (none)) else (some true)
def laws_eqAttrS.f (k : Nat) (l0 : List (S67)) (l1 : List (S67)) : Option (Bool) := if (l0.length : Int) = (l1.length : Int) then (laws_eqAttrS.l0 k l0 l1 0) else (some false)
def laws_eqAttrS.T6 : Bool × List (List Nat × List Nat) := (true, [([], []), ([], []), ([0, 1], [0, 1]), ([2], [2]), ([], []), ([], []), ([4, 5], [4, 5]), ([6], [6]), ([3, 7], [3, 7]), ([8], [8])])
def laws_eqAttrS.B6 : List Nat := [0, 0, 3, 7, 0, 0, 48, 112, 255, 511]
theorem laws_eqAttrS.tab6 : rtab .any (opsOf Tryz.f98 6) = laws_eqAttrS.T6 := by kernel_rfl
theorem laws_eqAttrS.bits6 : waitsOk laws_eqAttrS.T6.2 laws_eqAttrS.B6 = true := by kernel_rfl
set_option maxHeartbeats 8000000 in
set_option maxRecDepth 100000 in
theorem laws_eqAttrS.calls (k : Nat) (A0 : Option Addr) (c0 : Nat) (l0 : List (S67)) (A1 : Option Addr) (c1 : Nat) (l1 : List (S67)) (r : Bool) (w : World) (hr0 : Kd.C k67 w A0 l0.length l0) (hc0 : l0.length ≤ c0) (hr1 : Kd.C k67 w A1 l1.length l1) (hc1 : l1.length ≤ c1) (h : laws_eqAttrS.f k l0 l1 = some r) :
  Calls Tryz.prog 98 #[.slice A0 l0.length c0, .slice A1 l1.length c1] w fun e w' => e = .returned (.bool r) ∧ Below w.heap.size w w' := by
 have hu67 := Tryz.underlying67
 have HR0 := Aside0.mk hr0
 have HC0 := Aside0.mk hc0
 clear hr0 hc0
 have HR1 := Aside0.mk hr1
 have HC1 := Aside0.mk hc1
 clear hr1 hc1
 have HB := Aside0.mk (Below.refl w.heap.size w)
 have H : (if (l0.length : Int) = (l1.length : Int) then (laws_eqAttrS.l0 k l0 l1 0) else (some false)) = some r := h
 clear h
 by_cases c3 : (l0.length : Int) = (l1.length : Int)
 rotate_left
 ·rw [if_neg c3] at H
  have c3b0 := beq_eq_false_iff_ne.mpr c3
  have c3b1 := bne_iff_ne.mpr c3
  have c3b2 : (l0.length == l1.length) = false := by first | simpa using c3 | (simp at c3 ⊢; omega)
  obtain rfl := Option.some.inj H
  go_enter Tryz.func98, Tryz.ntmps98
  go_wp2
  go_ret
  exact ⟨dq11, dq9⟩
 rw [if_pos c3] at H
 have c3b0 := beq_iff_eq.mpr c3
 have c3b1 := bne_eq_false_iff_eq.mpr c3
 have c3b2 : (l0.length == l1.length) = true := by first | simpa using c3 | (simp at c3 ⊢; omega)
 clear c3
 have H' := Aside0.mk H
 clear H
 go_enter Tryz.func98, Tryz.ntmps98
 go_wp2
 go_loopg [5] k (fun kq v5 w' => ∃ (x5_1 : Int), v5 = .int .i64 x5_1 ∧ Aside0 (laws_eqAttrS.l0 kq l0 l1 x5_1 = some r) ∧ Aside0 (kq ≤ k) ∧ Aside0 (Below w.heap.size w w'))
 case atStart => exact ⟨(0), dq12, H', ⟨Nat.le_refl _⟩, ⟨dq9⟩⟩
 clear H'
 try clear c3b0
 try clear c3b1
 try clear c3b2
 obtain ⟨x5_1, rfl, HA, HK1, HB⟩ := hrel
 cases gk with
 | zero => exact absurd HA.out (by simp [laws_eqAttrS.l0])
 | succ k1 =>
  have H := HA.out
  clear HA
  simp only [laws_eqAttrS.l0] at H
  by_cases c4 : x5_1 < (l0.length : Int)
  rotate_left
  ·rw [if_neg c4] at H
   have c4b0 := decide_eq_false c4
   clear c4
   obtain rfl := Option.some.inj H
   go_wp2
   go_ret
   exact ⟨dq11, dq9⟩
  rw [if_pos c4] at H
  have c4b0 := decide_eq_true c4
  clear c4
  by_cases c5 : 0 ≤ x5_1
  rotate_left
  ·rw [if_neg c5] at H
   exact absurd H dq17
  rw [if_pos c5] at H
  have c5b0 := decide_eq_true c5
  clear c5
  by_cases c6 : x5_1 < (l1.length : Int)
  rotate_left
  ·rw [if_neg c6] at H
   exact absurd H dq17
  rw [if_pos c6] at H
  have c6b0 := decide_eq_true c6
  clear c6
  replace H := Option.bind_eq_some_iff.mp H
  obtain ⟨t462, A70, H⟩ := H
  replace H : (if t462 = true then (laws_eqAttrS.l0 k1 l0 l1 (wrap64 (x5_1 + 1))) else (some false)) = some r := H
  have A7 := Aside0.mk A70
  clear A70
  by_cases c8 : t462 = true
  rotate_left
  ·replace c8 := Bool.eq_false_iff.mpr c8
   subst c8
   have H1 : (some false) = some r := by rw [if_neg (show ¬ (false = true) by decide)] at H; exact H
   clear H
   have H := H1
   clear H1
   obtain rfl := Option.some.inj H
   try go_wp2
   have n0_ := Aside0.mk (below_drew1 HB.out)
   clear HB
   have HB := n0_
   clear n0_
   have p460 : 0 ≤ (x5_1 : Int) := of_decide_eq_true dq13
   have q460 : x5_1 < (l0.length : Int) := of_decide_eq_true dq13
   obtain ⟨ad460, e460, hx460_0, hx460_1⟩ := at_T67 HR0.out x5_1 p460 q460
   have hw460_1 := hx460_1
   have hw460_0 := hx460_0
   cases e460
   replace hx460_0 := (HB.out.cell (World.block_lt_of_cell? w _ hx460_0)).trans hx460_0
   replace hx460_1 := (HB.out.cell (World.block_lt_of_cell? w _ hx460_1)).trans hx460_1
   replace p460 := eq_true p460
   replace q460 := eq_true q460
   have p461 : 0 ≤ (x5_1 : Int) := of_decide_eq_true dq13
   have q461 : x5_1 < (l1.length : Int) := of_decide_eq_true dq13
   obtain ⟨ad461, e461, hx461_0, hx461_1⟩ := at_T67 HR1.out x5_1 p461 q461
   have hw461_1 := hx461_1
   have hw461_0 := hx461_0
   cases e461
   replace hx461_0 := (HB.out.cell (World.block_lt_of_cell? w _ hx461_0)).trans hx461_0
   replace hx461_1 := (HB.out.cell (World.block_lt_of_cell? w _ hx461_1)).trans hx461_1
   replace p461 := eq_true p461
   replace q461 := eq_true q461
   refine start_ (n := 10) (S := fun w' => w'.cell? (ad460.add ((x5_1).toNat * 2)) = some (.string ((rd_T67 l0 x5_1).f0)) ∧ w'.cell? ⟨(ad460.add ((x5_1).toNat * 2)).block, (ad460.add ((x5_1).toNat * 2)).off + 1, none⟩ = some (.string ((rd_T67 l0 x5_1).f1)) ∧ w'.cell? (ad461.add ((x5_1).toNat * 2)) = some (.string ((rd_T67 l1 x5_1).f0)) ∧ w'.cell? ⟨(ad461.add ((x5_1).toNat * 2)).block, (ad461.add ((x5_1).toNat * 2)).off + 1, none⟩ = some (.string ((rd_T67 l1 x5_1).f1))) (ds := []) #[false, false, false, false, false, false, false, false, false, false] dq15 rfl rfl ⟨((HB.out.cell (World.block_lt_of_cell? w _ hw460_0)).trans hw460_0), ((HB.out.cell (World.block_lt_of_cell? w _ hw460_1)).trans hw460_1), ((HB.out.cell (World.block_lt_of_cell? w _ hw461_0)).trans hw461_0), ((HB.out.cell (World.block_lt_of_cell? w _ hw461_1)).trans hw461_1)⟩ (fun hHeld => ?_); refine with_tabW laws_eqAttrS.tab6 laws_eqAttrS.bits6 (fun HT_ HW_ => ?_)
   generalize wr.drew = w11 at HB hx460_0 hx460_1 hx461_0 hx461_1 hHeld ⊢
   refine pureA (i := 0) (N := some 17) #[true, false, false, false, false, false, false, false, false, false] ?_
   refine pureA (i := 1) (N := some 18) #[true, true, false, false, false, false, false, false, false, false] ?_
   refine pureA (i := 2) (N := some 19) #[true, true, true, false, false, false, false, false, false, false] ?_
   refine pureA (i := 4) (N := some 21) #[true, true, true, false, true, false, false, false, false, false] ?_
   refine pureA (i := 5) (N := some 22) #[true, true, true, false, true, true, false, false, false, false] ?_
   refine pureA (i := 6) (N := some 23) #[true, true, true, false, true, true, true, false, false, false] ?_
   refine takeA4 (i := 3) (N := some 20) #[true, true, true, true, true, true, true, false, false, false] ?_
   refine takeA4 (i := 7) (N := some 24) #[true, true, true, true, true, true, true, true, false, false] ?_
   refine one_ (i := 8) (N := some 25) #[true, true, true, true, true, true, true, true, true, false] rfl rfl (one_of HT_.out dq15) dq24 (fun K hK => ?_)
   refine goes_ Tryz.func139 dq15 rfl #[.agg #[.string ((rd_T67 l0 x5_1).f0), .string ((rd_T67 l0 x5_1).f1)], .agg #[.string ((rd_T67 l1 x5_1).f0), .string ((rd_T67 l1 x5_1).f1)]] (by rfl) rfl rfl dq14 ?_
   with_reducible refine (laws_eqAttr.calls ((rd_T67 l0 x5_1).f0) ((rd_T67 l0 x5_1).f1) ((rd_T67 l1 x5_1).f0) ((rd_T67 l1 x5_1).f1) false _ A7.out).mono ?_
   rintro e w12 ⟨rfl, hb⟩
   refine ⟨_, rfl, ?_⟩
   have n0_ := Aside0.mk (below_step dq9 hb)
   clear HB
   have HB := n0_
   clear n0_
   (try clear hb)
   (try clear hb2)
   (try clear hk)
   (try clear hi)
   refine hK.out _ _ ⟨((HB.out.cell (World.block_lt_of_cell? w _ hw460_0)).trans hw460_0), ((HB.out.cell (World.block_lt_of_cell? w _ hw460_1)).trans hw460_1), ((HB.out.cell (World.block_lt_of_cell? w _ hw461_0)).trans hw461_0), ((HB.out.cell (World.block_lt_of_cell? w _ hw461_1)).trans hw461_1)⟩ (fun hHeld => ?_)
   clear hK K
   refine norm_ (a' := ?_) ?_ ?_
   rotate_left
   ·show Act.put _ (some 25) _ = _
    simp only [Act.put, List.setIfInBounds_toArray, List.set_cons_zero, List.set_cons_succ, i64_w, i32_w]
    rfl
   refine pureA (i := 9) (N := some 26) #[true, true, true, true, true, true, true, true, true, true] ?_
   refine done_ (done_of HT_.out dq15) ?_
   try go_wp2
   go_ret
   exact ⟨dq11, dq9⟩
  subst c8
  have H1 : (laws_eqAttrS.l0 k1 l0 l1 (wrap64 (x5_1 + 1))) = some r := by rw [if_pos rfl] at H; exact H
  clear H
  have H := H1
  clear H1
  have H' := Aside0.mk H
  clear H
  try go_wp2
  have n0_ := Aside0.mk (below_drew1 HB.out)
  clear HB
  have HB := n0_
  clear n0_
  have p460 : 0 ≤ (x5_1 : Int) := of_decide_eq_true dq13
  have q460 : x5_1 < (l0.length : Int) := of_decide_eq_true dq13
  obtain ⟨ad460, e460, hx460_0, hx460_1⟩ := at_T67 HR0.out x5_1 p460 q460
  have hw460_1 := hx460_1
  have hw460_0 := hx460_0
  cases e460
  replace hx460_0 := (HB.out.cell (World.block_lt_of_cell? w _ hx460_0)).trans hx460_0
  replace hx460_1 := (HB.out.cell (World.block_lt_of_cell? w _ hx460_1)).trans hx460_1
  replace p460 := eq_true p460
  replace q460 := eq_true q460
  have p461 : 0 ≤ (x5_1 : Int) := of_decide_eq_true dq13
  have q461 : x5_1 < (l1.length : Int) := of_decide_eq_true dq13
  obtain ⟨ad461, e461, hx461_0, hx461_1⟩ := at_T67 HR1.out x5_1 p461 q461
  have hw461_1 := hx461_1
  have hw461_0 := hx461_0
  cases e461
  replace hx461_0 := (HB.out.cell (World.block_lt_of_cell? w _ hx461_0)).trans hx461_0
  replace hx461_1 := (HB.out.cell (World.block_lt_of_cell? w _ hx461_1)).trans hx461_1
  replace p461 := eq_true p461
  replace q461 := eq_true q461
  refine start_ (n := 10) (S := fun w' => w'.cell? (ad460.add ((x5_1).toNat * 2)) = some (.string ((rd_T67 l0 x5_1).f0)) ∧ w'.cell? ⟨(ad460.add ((x5_1).toNat * 2)).block, (ad460.add ((x5_1).toNat * 2)).off + 1, none⟩ = some (.string ((rd_T67 l0 x5_1).f1)) ∧ w'.cell? (ad461.add ((x5_1).toNat * 2)) = some (.string ((rd_T67 l1 x5_1).f0)) ∧ w'.cell? ⟨(ad461.add ((x5_1).toNat * 2)).block, (ad461.add ((x5_1).toNat * 2)).off + 1, none⟩ = some (.string ((rd_T67 l1 x5_1).f1))) (ds := []) #[false, false, false, false, false, false, false, false, false, false] dq15 rfl rfl ⟨((HB.out.cell (World.block_lt_of_cell? w _ hw460_0)).trans hw460_0), ((HB.out.cell (World.block_lt_of_cell? w _ hw460_1)).trans hw460_1), ((HB.out.cell (World.block_lt_of_cell? w _ hw461_0)).trans hw461_0), ((HB.out.cell (World.block_lt_of_cell? w _ hw461_1)).trans hw461_1)⟩ (fun hHeld => ?_); refine with_tabW laws_eqAttrS.tab6 laws_eqAttrS.bits6 (fun HT_ HW_ => ?_)
  generalize wr.drew = w9 at HB hx460_0 hx460_1 hx461_0 hx461_1 hHeld ⊢
  refine pureA (i := 0) (N := some 17) #[true, false, false, false, false, false, false, false, false, false] ?_
  refine pureA (i := 1) (N := some 18) #[true, true, false, false, false, false, false, false, false, false] ?_
  refine pureA (i := 2) (N := some 19) #[true, true, true, false, false, false, false, false, false, false] ?_
  refine pureA (i := 4) (N := some 21) #[true, true, true, false, true, false, false, false, false, false] ?_
  refine pureA (i := 5) (N := some 22) #[true, true, true, false, true, true, false, false, false, false] ?_
  refine pureA (i := 6) (N := some 23) #[true, true, true, false, true, true, true, false, false, false] ?_
  refine takeA4 (i := 3) (N := some 20) #[true, true, true, true, true, true, true, false, false, false] ?_
  refine takeA4 (i := 7) (N := some 24) #[true, true, true, true, true, true, true, true, false, false] ?_
  refine one_ (i := 8) (N := some 25) #[true, true, true, true, true, true, true, true, true, false] rfl rfl (one_of HT_.out dq15) dq24 (fun K hK => ?_)
  refine goes_ Tryz.func139 dq15 rfl #[.agg #[.string ((rd_T67 l0 x5_1).f0), .string ((rd_T67 l0 x5_1).f1)], .agg #[.string ((rd_T67 l1 x5_1).f0), .string ((rd_T67 l1 x5_1).f1)]] (by rfl) rfl rfl dq14 ?_
  with_reducible refine (laws_eqAttr.calls ((rd_T67 l0 x5_1).f0) ((rd_T67 l0 x5_1).f1) ((rd_T67 l1 x5_1).f0) ((rd_T67 l1 x5_1).f1) true _ A7.out).mono ?_
  rintro e w10 ⟨rfl, hb⟩
  refine ⟨_, rfl, ?_⟩
  have n0_ := Aside0.mk (below_step dq9 hb)
  clear HB
  have HB := n0_
  clear n0_
  (try clear hb)
  (try clear hb2)
  (try clear hk)
  (try clear hi)
  refine hK.out _ _ ⟨((HB.out.cell (World.block_lt_of_cell? w _ hw460_0)).trans hw460_0), ((HB.out.cell (World.block_lt_of_cell? w _ hw460_1)).trans hw460_1), ((HB.out.cell (World.block_lt_of_cell? w _ hw461_0)).trans hw461_0), ((HB.out.cell (World.block_lt_of_cell? w _ hw461_1)).trans hw461_1)⟩ (fun hHeld => ?_)
  clear hK K
  refine norm_ (a' := ?_) ?_ ?_
  rotate_left
  ·show Act.put _ (some 25) _ = _
   simp only [Act.put, List.setIfInBounds_toArray, List.set_cons_zero, List.set_cons_succ, i64_w, i32_w]
   rfl
  refine pureA (i := 9) (N := some 26) #[true, true, true, true, true, true, true, true, true, true] ?_
  refine done_ (done_of HT_.out dq15) ?_
  try go_wp2
  go_roundg k1
  case measure => have := HK1.out; omega
  case rel => exact ⟨(wrap64 (x5_1 + 1)), dq12, H', ⟨dq16⟩, ⟨dq9⟩⟩

/-! ### laws_eqItem: function 53 -/
def laws_eqItem.f (k : Nat) (a0_0 : Int) (a0_1 : ByteArray) (a0_2 : ByteArray) (l0_3 : List (S67)) (a1_0 : Int) (a1_1 : ByteArray) (a1_2 : ByteArray) (l1_3 : List (S67)) : Option (Bool) := if a0_0 = a1_0 then (if a0_1.toList = a1_1.toList then (if a0_2.toList = a1_2.toList then ((laws_eqAttrS.f k l0_3 l1_3).bind fun t465 => (if t465 = true then (some true) else (some false))) else (some false)) else (some false)) else (some false)
set_option maxHeartbeats 8000000 in
set_option maxRecDepth 100000 in
theorem laws_eqItem.calls (k : Nat) (a0_0 : Int) (a0_1 : ByteArray) (a0_2 : ByteArray) (A0_3 : Option Addr) (c0_3 : Nat) (l0_3 : List (S67)) (a1_0 : Int) (a1_1 : ByteArray) (a1_2 : ByteArray) (A1_3 : Option Addr) (c1_3 : Nat) (l1_3 : List (S67)) (r : Bool) (w : World) (hr0_3 : Kd.C k67 w A0_3 l0_3.length l0_3) (hc0_3 : l0_3.length ≤ c0_3) (hr1_3 : Kd.C k67 w A1_3 l1_3.length l1_3) (hc1_3 : l1_3.length ≤ c1_3) (h : laws_eqItem.f k a0_0 a0_1 a0_2 l0_3 a1_0 a1_1 a1_2 l1_3 = some r) :
  Calls Tryz.prog 53 #[.agg #[.int .i64 a0_0, .string a0_1, .string a0_2, .slice A0_3 l0_3.length c0_3], .agg #[.int .i64 a1_0, .string a1_1, .string a1_2, .slice A1_3 l1_3.length c1_3]] w fun e w' => e = .returned (.bool r) ∧ Below w.heap.size w w' := by
 have hu65 := Tryz.underlying65
 have HR0_3 := Aside0.mk hr0_3
 have HC0_3 := Aside0.mk hc0_3
 clear hr0_3 hc0_3
 have HR1_3 := Aside0.mk hr1_3
 have HC1_3 := Aside0.mk hc1_3
 clear hr1_3 hc1_3
 have HB := Aside0.mk (Below.refl w.heap.size w)
 have H : (if a0_0 = a1_0 then (if a0_1.toList = a1_1.toList then (if a0_2.toList = a1_2.toList then ((laws_eqAttrS.f k l0_3 l1_3).bind fun t465 => (if t465 = true then (some true) else (some false))) else (some false)) else (some false)) else (some false)) = some r := h
 clear h
 by_cases c3 : a0_0 = a1_0
 rotate_left
 ·rw [if_neg c3] at H
  have c3b0 := beq_eq_false_iff_ne.mpr c3
  have c3b1 := bne_iff_ne.mpr c3
  obtain rfl := Option.some.inj H
  go_enter Tryz.func53, Tryz.ntmps53
  go_wp2_with (first | ((with_reducible refine gate_dst (N := 2) rfl ?_); refine box_event ?hg (N := 2) ?hd (cs := #[.int .i64 a0_0, .string a0_1, .string a0_2, .slice A0_3 l0_3.length c0_3]) (t := 65) ?hr ?_; (case hd => rfl); (case hg => rfl); (case hr => exact dq0); intro gb463 hg w30 hbox hb; have n0_ := Aside0.mk (below_step dq9 hb); have n1_ := Aside0.mk (hbox); have n2_ := Aside0.mk ((dq8 : w.heap.size ≤ gb463)); have n3_ := Aside0.mk ((dq8 : w.heap.size ≤ gb463)); clear HB; have HB := n0_; have BK463 := n1_; have GW463 := n2_; have GE463 := n3_; clear n0_ n1_ n2_ n3_; clear hb hbox hg) | ((with_reducible refine gate_dst (N := 3) rfl ?_); refine box_event ?hg (N := 3) ?hd (cs := #[.int .i64 a1_0, .string a1_1, .string a1_2, .slice A1_3 l1_3.length c1_3]) (t := 65) ?hr ?_; (case hd => rfl); (case hg => rfl); (case hr => exact dq0); intro gb464 hg w31 hbox hb; have n0_ := Aside0.mk (blk_below (g := gb463) (o := .cells #[.int .i64 a0_0, .string a0_1, .string a0_2, .slice A0_3 l0_3.length c0_3] 65 (0, 0)) dq115 hb); have n1_ := Aside0.mk (below_step dq119 hb); have n2_ := Aside0.mk (hbox); have n3_ := Aside0.mk ((dq118 : w.heap.size ≤ gb464)); have n4_ := Aside0.mk ((dq118 : w.heap.size ≤ gb464)); have n5_ := Aside0.mk ((dq117 : gb463 ≠ gb464)); have n6_ := Aside0.mk ((dq116 : gb464 ≠ gb463)); clear BK463; clear HB; have BK463 := n0_; have HB := n1_; have BK464 := n2_; have GW464 := n3_; have GE464 := n4_; have NB463_464 := n5_; have NB464_463 := n6_; clear n0_ n1_ n2_ n3_ n4_ n5_ n6_; clear hb hbox hg; have hnb32 := NB463_464.out; have hnc32 := NB464_463.out; obtain ⟨⟨hcz33_0, hcz33_1, hcz33_2, hcz33_3⟩, hfz33_0, hfz33_1, hfz33_2, hfz33_3⟩ := blkC4 BK463.out; obtain ⟨⟨hcz34_0, hcz34_1, hcz34_2, hcz34_3⟩, hfz34_0, hfz34_1, hfz34_2, hfz34_3⟩ := blkC4 BK464.out))
  go_ret
  exact ⟨dq11, dq114⟩
 rw [if_pos c3] at H
 have c3b0 := beq_iff_eq.mpr c3
 have c3b1 := bne_eq_false_iff_eq.mpr c3
 clear c3
 by_cases c4 : a0_1.toList = a1_1.toList
 rotate_left
 ·rw [if_neg c4] at H
  have c4b0 := beq_eq_false_iff_ne.mpr c4
  have c4b1 := bne_iff_ne.mpr c4
  obtain rfl := Option.some.inj H
  go_enter Tryz.func53, Tryz.ntmps53
  go_wp2_with (first | ((with_reducible refine gate_dst (N := 2) rfl ?_); refine box_event ?hg (N := 2) ?hd (cs := #[.int .i64 a0_0, .string a0_1, .string a0_2, .slice A0_3 l0_3.length c0_3]) (t := 65) ?hr ?_; (case hd => rfl); (case hg => rfl); (case hr => exact dq0); intro gb463 hg w25 hbox hb; have n0_ := Aside0.mk (below_step dq9 hb); have n1_ := Aside0.mk (hbox); have n2_ := Aside0.mk ((dq8 : w.heap.size ≤ gb463)); have n3_ := Aside0.mk ((dq8 : w.heap.size ≤ gb463)); clear HB; have HB := n0_; have BK463 := n1_; have GW463 := n2_; have GE463 := n3_; clear n0_ n1_ n2_ n3_; clear hb hbox hg) | ((with_reducible refine gate_dst (N := 3) rfl ?_); refine box_event ?hg (N := 3) ?hd (cs := #[.int .i64 a1_0, .string a1_1, .string a1_2, .slice A1_3 l1_3.length c1_3]) (t := 65) ?hr ?_; (case hd => rfl); (case hg => rfl); (case hr => exact dq0); intro gb464 hg w26 hbox hb; have n0_ := Aside0.mk (blk_below (g := gb463) (o := .cells #[.int .i64 a0_0, .string a0_1, .string a0_2, .slice A0_3 l0_3.length c0_3] 65 (0, 0)) dq115 hb); have n1_ := Aside0.mk (below_step dq119 hb); have n2_ := Aside0.mk (hbox); have n3_ := Aside0.mk ((dq118 : w.heap.size ≤ gb464)); have n4_ := Aside0.mk ((dq118 : w.heap.size ≤ gb464)); have n5_ := Aside0.mk ((dq117 : gb463 ≠ gb464)); have n6_ := Aside0.mk ((dq116 : gb464 ≠ gb463)); clear BK463; clear HB; have BK463 := n0_; have HB := n1_; have BK464 := n2_; have GW464 := n3_; have GE464 := n4_; have NB463_464 := n5_; have NB464_463 := n6_; clear n0_ n1_ n2_ n3_ n4_ n5_ n6_; clear hb hbox hg; have hnb27 := NB463_464.out; have hnc27 := NB464_463.out; obtain ⟨⟨hcz28_0, hcz28_1, hcz28_2, hcz28_3⟩, hfz28_0, hfz28_1, hfz28_2, hfz28_3⟩ := blkC4 BK463.out; obtain ⟨⟨hcz29_0, hcz29_1, hcz29_2, hcz29_3⟩, hfz29_0, hfz29_1, hfz29_2, hfz29_3⟩ := blkC4 BK464.out))
  go_ret
  exact ⟨dq11, dq114⟩
 rw [if_pos c4] at H
 have c4b0 := beq_iff_eq.mpr c4
 have c4b1 := bne_eq_false_iff_eq.mpr c4
 clear c4
 by_cases c5 : a0_2.toList = a1_2.toList
 rotate_left
 ·rw [if_neg c5] at H
  have c5b0 := beq_eq_false_iff_ne.mpr c5
  have c5b1 := bne_iff_ne.mpr c5
  obtain rfl := Option.some.inj H
  go_enter Tryz.func53, Tryz.ntmps53
  go_wp2_with (first | ((with_reducible refine gate_dst (N := 2) rfl ?_); refine box_event ?hg (N := 2) ?hd (cs := #[.int .i64 a0_0, .string a0_1, .string a0_2, .slice A0_3 l0_3.length c0_3]) (t := 65) ?hr ?_; (case hd => rfl); (case hg => rfl); (case hr => exact dq0); intro gb463 hg w20 hbox hb; have n0_ := Aside0.mk (below_step dq9 hb); have n1_ := Aside0.mk (hbox); have n2_ := Aside0.mk ((dq8 : w.heap.size ≤ gb463)); have n3_ := Aside0.mk ((dq8 : w.heap.size ≤ gb463)); clear HB; have HB := n0_; have BK463 := n1_; have GW463 := n2_; have GE463 := n3_; clear n0_ n1_ n2_ n3_; clear hb hbox hg) | ((with_reducible refine gate_dst (N := 3) rfl ?_); refine box_event ?hg (N := 3) ?hd (cs := #[.int .i64 a1_0, .string a1_1, .string a1_2, .slice A1_3 l1_3.length c1_3]) (t := 65) ?hr ?_; (case hd => rfl); (case hg => rfl); (case hr => exact dq0); intro gb464 hg w21 hbox hb; have n0_ := Aside0.mk (blk_below (g := gb463) (o := .cells #[.int .i64 a0_0, .string a0_1, .string a0_2, .slice A0_3 l0_3.length c0_3] 65 (0, 0)) dq115 hb); have n1_ := Aside0.mk (below_step dq119 hb); have n2_ := Aside0.mk (hbox); have n3_ := Aside0.mk ((dq118 : w.heap.size ≤ gb464)); have n4_ := Aside0.mk ((dq118 : w.heap.size ≤ gb464)); have n5_ := Aside0.mk ((dq117 : gb463 ≠ gb464)); have n6_ := Aside0.mk ((dq116 : gb464 ≠ gb463)); clear BK463; clear HB; have BK463 := n0_; have HB := n1_; have BK464 := n2_; have GW464 := n3_; have GE464 := n4_; have NB463_464 := n5_; have NB464_463 := n6_; clear n0_ n1_ n2_ n3_ n4_ n5_ n6_; clear hb hbox hg; have hnb22 := NB463_464.out; have hnc22 := NB464_463.out; obtain ⟨⟨hcz23_0, hcz23_1, hcz23_2, hcz23_3⟩, hfz23_0, hfz23_1, hfz23_2, hfz23_3⟩ := blkC4 BK463.out; obtain ⟨⟨hcz24_0, hcz24_1, hcz24_2, hcz24_3⟩, hfz24_0, hfz24_1, hfz24_2, hfz24_3⟩ := blkC4 BK464.out))
  go_ret
  exact ⟨dq11, dq114⟩
 rw [if_pos c5] at H
 have c5b0 := beq_iff_eq.mpr c5
 have c5b1 := bne_eq_false_iff_eq.mpr c5
 clear c5
 replace H := Option.bind_eq_some_iff.mp H
 obtain ⟨t465, A60, H⟩ := H
 replace H : (if t465 = true then (some true) else (some false)) = some r := H
 have A6 := Aside0.mk A60
 clear A60
 by_cases c7 : t465 = true
 ·subst c7
  have H1 : (some true) = some r := by rw [if_pos rfl] at H; exact H
  clear H
  have H := H1
  clear H1
  obtain rfl := Option.some.inj H
  go_enter Tryz.func53, Tryz.ntmps53
  go_wp2_with (first | ((with_reducible refine gate_dst (N := 2) rfl ?_); refine box_event ?hg (N := 2) ?hd (cs := #[.int .i64 a0_0, .string a0_1, .string a0_2, .slice A0_3 l0_3.length c0_3]) (t := 65) ?hr ?_; (case hd => rfl); (case hg => rfl); (case hr => exact dq0); intro gb463 hg w8 hbox hb; have n0_ := Aside0.mk (below_step dq9 hb); have n1_ := Aside0.mk (hbox); have n2_ := Aside0.mk ((dq8 : w.heap.size ≤ gb463)); have n3_ := Aside0.mk ((dq8 : w.heap.size ≤ gb463)); clear HB; have HB := n0_; have BK463 := n1_; have GW463 := n2_; have GE463 := n3_; clear n0_ n1_ n2_ n3_; clear hb hbox hg) | ((with_reducible refine gate_dst (N := 3) rfl ?_); refine box_event ?hg (N := 3) ?hd (cs := #[.int .i64 a1_0, .string a1_1, .string a1_2, .slice A1_3 l1_3.length c1_3]) (t := 65) ?hr ?_; (case hd => rfl); (case hg => rfl); (case hr => exact dq0); intro gb464 hg w9 hbox hb; have n0_ := Aside0.mk (blk_below (g := gb463) (o := .cells #[.int .i64 a0_0, .string a0_1, .string a0_2, .slice A0_3 l0_3.length c0_3] 65 (0, 0)) dq115 hb); have n1_ := Aside0.mk (below_step dq119 hb); have n2_ := Aside0.mk (hbox); have n3_ := Aside0.mk ((dq118 : w.heap.size ≤ gb464)); have n4_ := Aside0.mk ((dq118 : w.heap.size ≤ gb464)); have n5_ := Aside0.mk ((dq117 : gb463 ≠ gb464)); have n6_ := Aside0.mk ((dq116 : gb464 ≠ gb463)); clear BK463; clear HB; have BK463 := n0_; have HB := n1_; have BK464 := n2_; have GW464 := n3_; have GE464 := n4_; have NB463_464 := n5_; have NB464_463 := n6_; clear n0_ n1_ n2_ n3_ n4_ n5_ n6_; clear hb hbox hg; have hnb10 := NB463_464.out; have hnc10 := NB464_463.out; obtain ⟨⟨hcz11_0, hcz11_1, hcz11_2, hcz11_3⟩, hfz11_0, hfz11_1, hfz11_2, hfz11_3⟩ := blkC4 BK463.out; obtain ⟨⟨hcz12_0, hcz12_1, hcz12_2, hcz12_3⟩, hfz12_0, hfz12_1, hfz12_2, hfz12_3⟩ := blkC4 BK464.out) | ((with_reducible refine gate_callee (f := 98) rfl ?_); refine goesL_ (some 24) rfl rfl Tryz.func98 dq15 rfl #[.slice A0_3 l0_3.length c0_3, .slice A1_3 l1_3.length c1_3] rfl dq14 ?_; (with_reducible refine (laws_eqAttrS.calls k _ _ l0_3 _ _ l1_3 true _ ?side1 ?side2 ?side3 ?side4 A6.out).mono ?_); (case side1 => exact dq1); (case side2 => exact HC0_3.out); (case side3 => repeat (first | exact (Kd.C_below HR1_3.out HB.out) | (with_reducible refine Kd.C_alloc ?_ _) | (with_reducible refine Kd.C_drewN ?_ _) | (with_reducible refine Kd.C_drew ?_))); (case side4 => exact HC1_3.out); rintro e w13 ⟨rfl, hb⟩; refine ⟨_, rfl, ?_⟩; have n0_ := Aside0.mk (blk_below (g := gb463) (o := .cells #[.int .i64 a0_0, .string a0_1, .string a0_2, .slice A0_3 l0_3.length c0_3] 65 (0, 0)) dq115 hb); have n1_ := Aside0.mk (blk_below (g := gb464) (o := .cells #[.int .i64 a1_0, .string a1_1, .string a1_2, .slice A1_3 l1_3.length c1_3] 65 (0, 0)) (by refine blk_up ?_; exact BK464.out) hb); have n2_ := Aside0.mk (below_step dq114 hb); clear BK463; clear BK464; clear HB; have BK463 := n0_; have BK464 := n1_; have HB := n2_; clear n0_ n1_ n2_; (try clear hb); (try clear hb2); (try clear hk); (try clear hi)))
  go_ret
  exact ⟨dq11, dq114⟩
 replace c7 := Bool.eq_false_iff.mpr c7
 subst c7
 have H1 : (some false) = some r := by rw [if_neg (show ¬ (false = true) by decide)] at H; exact H
 clear H
 have H := H1
 clear H1
 obtain rfl := Option.some.inj H
 go_enter Tryz.func53, Tryz.ntmps53
 go_wp2_with (first | ((with_reducible refine gate_dst (N := 2) rfl ?_); refine box_event ?hg (N := 2) ?hd (cs := #[.int .i64 a0_0, .string a0_1, .string a0_2, .slice A0_3 l0_3.length c0_3]) (t := 65) ?hr ?_; (case hd => rfl); (case hg => rfl); (case hr => exact dq0); intro gb463 hg w14 hbox hb; have n0_ := Aside0.mk (below_step dq9 hb); have n1_ := Aside0.mk (hbox); have n2_ := Aside0.mk ((dq8 : w.heap.size ≤ gb463)); have n3_ := Aside0.mk ((dq8 : w.heap.size ≤ gb463)); clear HB; have HB := n0_; have BK463 := n1_; have GW463 := n2_; have GE463 := n3_; clear n0_ n1_ n2_ n3_; clear hb hbox hg) | ((with_reducible refine gate_dst (N := 3) rfl ?_); refine box_event ?hg (N := 3) ?hd (cs := #[.int .i64 a1_0, .string a1_1, .string a1_2, .slice A1_3 l1_3.length c1_3]) (t := 65) ?hr ?_; (case hd => rfl); (case hg => rfl); (case hr => exact dq0); intro gb464 hg w15 hbox hb; have n0_ := Aside0.mk (blk_below (g := gb463) (o := .cells #[.int .i64 a0_0, .string a0_1, .string a0_2, .slice A0_3 l0_3.length c0_3] 65 (0, 0)) dq115 hb); have n1_ := Aside0.mk (below_step dq119 hb); have n2_ := Aside0.mk (hbox); have n3_ := Aside0.mk ((dq118 : w.heap.size ≤ gb464)); have n4_ := Aside0.mk ((dq118 : w.heap.size ≤ gb464)); have n5_ := Aside0.mk ((dq117 : gb463 ≠ gb464)); have n6_ := Aside0.mk ((dq116 : gb464 ≠ gb463)); clear BK463; clear HB; have BK463 := n0_; have HB := n1_; have BK464 := n2_; have GW464 := n3_; have GE464 := n4_; have NB463_464 := n5_; have NB464_463 := n6_; clear n0_ n1_ n2_ n3_ n4_ n5_ n6_; clear hb hbox hg; have hnb16 := NB463_464.out; have hnc16 := NB464_463.out; obtain ⟨⟨hcz17_0, hcz17_1, hcz17_2, hcz17_3⟩, hfz17_0, hfz17_1, hfz17_2, hfz17_3⟩ := blkC4 BK463.out; obtain ⟨⟨hcz18_0, hcz18_1, hcz18_2, hcz18_3⟩, hfz18_0, hfz18_1, hfz18_2, hfz18_3⟩ := blkC4 BK464.out) | ((with_reducible refine gate_callee (f := 98) rfl ?_); refine goesL_ (some 24) rfl rfl Tryz.func98 dq15 rfl #[.slice A0_3 l0_3.length c0_3, .slice A1_3 l1_3.length c1_3] rfl dq14 ?_; (with_reducible refine (laws_eqAttrS.calls k _ _ l0_3 _ _ l1_3 false _ ?side1 ?side2 ?side3 ?side4 A6.out).mono ?_); (case side1 => exact dq1); (case side2 => exact HC0_3.out); (case side3 => repeat (first | exact (Kd.C_below HR1_3.out HB.out) | (with_reducible refine Kd.C_alloc ?_ _) | (with_reducible refine Kd.C_drewN ?_ _) | (with_reducible refine Kd.C_drew ?_))); (case side4 => exact HC1_3.out); rintro e w19 ⟨rfl, hb⟩; refine ⟨_, rfl, ?_⟩; have n0_ := Aside0.mk (blk_below (g := gb463) (o := .cells #[.int .i64 a0_0, .string a0_1, .string a0_2, .slice A0_3 l0_3.length c0_3] 65 (0, 0)) dq115 hb); have n1_ := Aside0.mk (blk_below (g := gb464) (o := .cells #[.int .i64 a1_0, .string a1_1, .string a1_2, .slice A1_3 l1_3.length c1_3] 65 (0, 0)) (by refine blk_up ?_; exact BK464.out) hb); have n2_ := Aside0.mk (below_step dq114 hb); clear BK463; clear BK464; clear HB; have BK463 := n0_; have BK464 := n1_; have HB := n2_; clear n0_ n1_ n2_; (try clear hb); (try clear hb2); (try clear hk); (try clear hi)))
 go_ret
 exact ⟨dq11, dq114⟩

/-! ### laws_eqItemS: function 13 -/
def laws_eqItemS.l0 : Nat → List (S65) → List (S65) → Int → Option (Bool)
 | 0, _, _, _ => none
 | k + 1, x0, x1, x5 => if x5 < (x0.length : Int) then (if 0 ≤ x5 then (if x5 < (x1.length : Int) then ((laws_eqItem.f k ((rd_T65 x0 x5).f0) ((rd_T65 x0 x5).f1) ((rd_T65 x0 x5).f2) ((rd_T65 x0 x5).f3) ((rd_T65 x1 x5).f0) ((rd_T65 x1 x5).f1) ((rd_T65 x1 x5).f2) ((rd_T65 x1 x5).f3)).bind fun t468 => (if t468 = true then (laws_eqItemS.l0 k x0 x1 (wrap64 (x5 + 1))) else (some false))) else (none)) else (none)) else (some true)
def laws_eqItemS.f (k : Nat) (l0 : List (S65)) (l1 : List (S65)) : Option (Bool) := if (l0.length : Int) = (l1.length : Int) then (laws_eqItemS.l0 k l0 l1 0) else (some false)
def laws_eqItemS.T6 : Bool × List (List Nat × List Nat) := (true, [([], []), ([], []), ([0, 1], [0, 1]), ([2], [2]), ([], []), ([], []), ([4, 5], [4, 5]), ([6], [6]), ([3, 7], [3, 7]), ([8], [8])])
def laws_eqItemS.B6 : List Nat := [0, 0, 3, 7, 0, 0, 48, 112, 255, 511]
theorem laws_eqItemS.tab6 : rtab .any (opsOf Tryz.f13 6) = laws_eqItemS.T6 := by kernel_rfl
theorem laws_eqItemS.bits6 : waitsOk laws_eqItemS.T6.2 laws_eqItemS.B6 = true := by kernel_rfl
set_option maxHeartbeats 8000000 in
set_option maxRecDepth 100000 in
theorem laws_eqItemS.calls (k : Nat) (A0 : Option Addr) (c0 : Nat) (l0 : List (S65)) (A1 : Option Addr) (c1 : Nat) (l1 : List (S65)) (r : Bool) (w : World) (hr0 : Kd.C k65 w A0 l0.length l0) (hc0 : l0.length ≤ c0) (hr1 : Kd.C k65 w A1 l1.length l1) (hc1 : l1.length ≤ c1) (h : laws_eqItemS.f k l0 l1 = some r) :
  Calls Tryz.prog 13 #[.slice A0 l0.length c0, .slice A1 l1.length c1] w fun e w' => e = .returned (.bool r) ∧ Below w.heap.size w w' := by
 have hu65 := Tryz.underlying65
 have HR0 := Aside0.mk hr0
 have HC0 := Aside0.mk hc0
 clear hr0 hc0
 have HR1 := Aside0.mk hr1
 have HC1 := Aside0.mk hc1
 clear hr1 hc1
 have HB := Aside0.mk (Below.refl w.heap.size w)
 have H : (if (l0.length : Int) = (l1.length : Int) then (laws_eqItemS.l0 k l0 l1 0) else (some false)) = some r := h
 clear h
 by_cases c3 : (l0.length : Int) = (l1.length : Int)
 rotate_left
 ·rw [if_neg c3] at H
  have c3b0 := beq_eq_false_iff_ne.mpr c3
  have c3b1 := bne_iff_ne.mpr c3
  have c3b2 : (l0.length == l1.length) = false := by first | simpa using c3 | (simp at c3 ⊢; omega)
  obtain rfl := Option.some.inj H
  go_enter Tryz.func13, Tryz.ntmps13
  go_wp2
  go_ret
  exact ⟨dq11, dq9⟩
 rw [if_pos c3] at H
 have c3b0 := beq_iff_eq.mpr c3
 have c3b1 := bne_eq_false_iff_eq.mpr c3
 have c3b2 : (l0.length == l1.length) = true := by first | simpa using c3 | (simp at c3 ⊢; omega)
 clear c3
 have H' := Aside0.mk H
 clear H
 go_enter Tryz.func13, Tryz.ntmps13
 go_wp2
 go_loopg [5] k (fun kq v5 w' => ∃ (x5_1 : Int), v5 = .int .i64 x5_1 ∧ Aside0 (laws_eqItemS.l0 kq l0 l1 x5_1 = some r) ∧ Aside0 (kq ≤ k) ∧ Aside0 (Below w.heap.size w w'))
 case atStart => exact ⟨(0), dq12, H', ⟨Nat.le_refl _⟩, ⟨dq9⟩⟩
 clear H'
 try clear c3b0
 try clear c3b1
 try clear c3b2
 obtain ⟨x5_1, rfl, HA, HK1, HB⟩ := hrel
 cases gk with
 | zero => exact absurd HA.out (by simp [laws_eqItemS.l0])
 | succ k1 =>
  have H := HA.out
  clear HA
  simp only [laws_eqItemS.l0] at H
  by_cases c4 : x5_1 < (l0.length : Int)
  rotate_left
  ·rw [if_neg c4] at H
   have c4b0 := decide_eq_false c4
   clear c4
   obtain rfl := Option.some.inj H
   go_wp2
   go_ret
   exact ⟨dq11, dq9⟩
  rw [if_pos c4] at H
  have c4b0 := decide_eq_true c4
  clear c4
  by_cases c5 : 0 ≤ x5_1
  rotate_left
  ·rw [if_neg c5] at H
   exact absurd H dq17
  rw [if_pos c5] at H
  have c5b0 := decide_eq_true c5
  clear c5
  by_cases c6 : x5_1 < (l1.length : Int)
  rotate_left
  ·rw [if_neg c6] at H
   exact absurd H dq17
  rw [if_pos c6] at H
  have c6b0 := decide_eq_true c6
  clear c6
  replace H := Option.bind_eq_some_iff.mp H
  obtain ⟨t468, A70, H⟩ := H
  replace H : (if t468 = true then (laws_eqItemS.l0 k1 l0 l1 (wrap64 (x5_1 + 1))) else (some false)) = some r := H
  have A7 := Aside0.mk A70
  clear A70
  by_cases c8 : t468 = true
  rotate_left
  ·replace c8 := Bool.eq_false_iff.mpr c8
   subst c8
   have H1 : (some false) = some r := by rw [if_neg (show ¬ (false = true) by decide)] at H; exact H
   clear H
   have H := H1
   clear H1
   obtain rfl := Option.some.inj H
   try go_wp2
   have n0_ := Aside0.mk (below_drew1 HB.out)
   clear HB
   have HB := n0_
   clear n0_
   have p466 : 0 ≤ (x5_1 : Int) := of_decide_eq_true dq13
   have q466 : x5_1 < (l0.length : Int) := of_decide_eq_true dq13
   obtain ⟨ad466, A466_3, c466_3, e466, hx466_0, hx466_1, hx466_2, hx466_3, hl466_3, hi466_3⟩ := at_T65 HR0.out x5_1 p466 q466
   have hw466_3 := hx466_3
   have hw466_2 := hx466_2
   have hw466_1 := hx466_1
   have hw466_0 := hx466_0
   cases e466
   replace hx466_0 := (HB.out.cell (World.block_lt_of_cell? w _ hx466_0)).trans hx466_0
   replace hx466_1 := (HB.out.cell (World.block_lt_of_cell? w _ hx466_1)).trans hx466_1
   replace hx466_2 := (HB.out.cell (World.block_lt_of_cell? w _ hx466_2)).trans hx466_2
   replace hx466_3 := (HB.out.cell (World.block_lt_of_cell? w _ hx466_3)).trans hx466_3
   have HR466_3 := Aside0.mk hi466_3
   have HC466_3 := Aside0.mk hl466_3
   clear hi466_3 hl466_3
   replace p466 := eq_true p466
   replace q466 := eq_true q466
   have p467 : 0 ≤ (x5_1 : Int) := of_decide_eq_true dq13
   have q467 : x5_1 < (l1.length : Int) := of_decide_eq_true dq13
   obtain ⟨ad467, A467_3, c467_3, e467, hx467_0, hx467_1, hx467_2, hx467_3, hl467_3, hi467_3⟩ := at_T65 HR1.out x5_1 p467 q467
   have hw467_3 := hx467_3
   have hw467_2 := hx467_2
   have hw467_1 := hx467_1
   have hw467_0 := hx467_0
   cases e467
   replace hx467_0 := (HB.out.cell (World.block_lt_of_cell? w _ hx467_0)).trans hx467_0
   replace hx467_1 := (HB.out.cell (World.block_lt_of_cell? w _ hx467_1)).trans hx467_1
   replace hx467_2 := (HB.out.cell (World.block_lt_of_cell? w _ hx467_2)).trans hx467_2
   replace hx467_3 := (HB.out.cell (World.block_lt_of_cell? w _ hx467_3)).trans hx467_3
   have HR467_3 := Aside0.mk hi467_3
   have HC467_3 := Aside0.mk hl467_3
   clear hi467_3 hl467_3
   replace p467 := eq_true p467
   replace q467 := eq_true q467
   refine start_ (n := 10) (S := fun w' => w'.cell? (ad466.add ((x5_1).toNat * 4)) = some (.int .i64 ((rd_T65 l0 x5_1).f0)) ∧ w'.cell? ⟨(ad466.add ((x5_1).toNat * 4)).block, (ad466.add ((x5_1).toNat * 4)).off + 1, none⟩ = some (.string ((rd_T65 l0 x5_1).f1)) ∧ w'.cell? ⟨(ad466.add ((x5_1).toNat * 4)).block, (ad466.add ((x5_1).toNat * 4)).off + 2, none⟩ = some (.string ((rd_T65 l0 x5_1).f2)) ∧ w'.cell? ⟨(ad466.add ((x5_1).toNat * 4)).block, (ad466.add ((x5_1).toNat * 4)).off + 3, none⟩ = some (.slice A466_3 ((rd_T65 l0 x5_1).f3).length c466_3) ∧ w'.cell? (ad467.add ((x5_1).toNat * 4)) = some (.int .i64 ((rd_T65 l1 x5_1).f0)) ∧ w'.cell? ⟨(ad467.add ((x5_1).toNat * 4)).block, (ad467.add ((x5_1).toNat * 4)).off + 1, none⟩ = some (.string ((rd_T65 l1 x5_1).f1)) ∧ w'.cell? ⟨(ad467.add ((x5_1).toNat * 4)).block, (ad467.add ((x5_1).toNat * 4)).off + 2, none⟩ = some (.string ((rd_T65 l1 x5_1).f2)) ∧ w'.cell? ⟨(ad467.add ((x5_1).toNat * 4)).block, (ad467.add ((x5_1).toNat * 4)).off + 3, none⟩ = some (.slice A467_3 ((rd_T65 l1 x5_1).f3).length c467_3)) (ds := []) #[false, false, false, false, false, false, false, false, false, false] dq15 rfl rfl ⟨((HB.out.cell (World.block_lt_of_cell? w _ hw466_0)).trans hw466_0), ((HB.out.cell (World.block_lt_of_cell? w _ hw466_1)).trans hw466_1), ((HB.out.cell (World.block_lt_of_cell? w _ hw466_2)).trans hw466_2), ((HB.out.cell (World.block_lt_of_cell? w _ hw466_3)).trans hw466_3), ((HB.out.cell (World.block_lt_of_cell? w _ hw467_0)).trans hw467_0), ((HB.out.cell (World.block_lt_of_cell? w _ hw467_1)).trans hw467_1), ((HB.out.cell (World.block_lt_of_cell? w _ hw467_2)).trans hw467_2), ((HB.out.cell (World.block_lt_of_cell? w _ hw467_3)).trans hw467_3)⟩ (fun hHeld => ?_); refine with_tabW laws_eqItemS.tab6 laws_eqItemS.bits6 (fun HT_ HW_ => ?_)
   generalize wr.drew = w11 at HB HR466_3 HR467_3 hx466_0 hx466_1 hx466_2 hx466_3 hx467_0 hx467_1 hx467_2 hx467_3 hHeld ⊢
   refine pureA (i := 0) (N := some 17) #[true, false, false, false, false, false, false, false, false, false] ?_
   refine pureA (i := 1) (N := some 18) #[true, true, false, false, false, false, false, false, false, false] ?_
   refine pureA (i := 2) (N := some 19) #[true, true, true, false, false, false, false, false, false, false] ?_
   refine pureA (i := 4) (N := some 21) #[true, true, true, false, true, false, false, false, false, false] ?_
   refine pureA (i := 5) (N := some 22) #[true, true, true, false, true, true, false, false, false, false] ?_
   refine pureA (i := 6) (N := some 23) #[true, true, true, false, true, true, true, false, false, false] ?_
   refine takeA8 (i := 3) (N := some 20) #[true, true, true, true, true, true, true, false, false, false] ?_
   refine takeA8 (i := 7) (N := some 24) #[true, true, true, true, true, true, true, true, false, false] ?_
   refine one_ (i := 8) (N := some 25) #[true, true, true, true, true, true, true, true, true, false] rfl rfl (one_of HT_.out dq15) dq24 (fun K hK => ?_)
   refine goes_ Tryz.func53 dq15 rfl #[.agg #[.int .i64 ((rd_T65 l0 x5_1).f0), .string ((rd_T65 l0 x5_1).f1), .string ((rd_T65 l0 x5_1).f2), .slice A466_3 ((rd_T65 l0 x5_1).f3).length c466_3], .agg #[.int .i64 ((rd_T65 l1 x5_1).f0), .string ((rd_T65 l1 x5_1).f1), .string ((rd_T65 l1 x5_1).f2), .slice A467_3 ((rd_T65 l1 x5_1).f3).length c467_3]] (by rfl) rfl rfl dq14 ?_
   with_reducible refine (laws_eqItem.calls k1 ((rd_T65 l0 x5_1).f0) ((rd_T65 l0 x5_1).f1) ((rd_T65 l0 x5_1).f2) _ _ ((rd_T65 l0 x5_1).f3) ((rd_T65 l1 x5_1).f0) ((rd_T65 l1 x5_1).f1) ((rd_T65 l1 x5_1).f2) _ _ ((rd_T65 l1 x5_1).f3) false _ ?side1 ?side2 ?side3 ?side4 A7.out).mono ?_
   (case side1 => repeat (first | exact (Kd.C_below HR466_3.out HB.out) | (with_reducible refine Kd.C_alloc ?_ _) | (with_reducible refine Kd.C_drewN ?_ _) | (with_reducible refine Kd.C_drew ?_)))
   (case side2 => exact HC466_3.out)
   (case side3 => repeat (first | exact (Kd.C_below HR467_3.out HB.out) | (with_reducible refine Kd.C_alloc ?_ _) | (with_reducible refine Kd.C_drewN ?_ _) | (with_reducible refine Kd.C_drew ?_)))
   (case side4 => exact HC467_3.out)
   rintro e w12 ⟨rfl, hb⟩
   refine ⟨_, rfl, ?_⟩
   have n0_ := Aside0.mk (below_step dq9 hb)
   clear HB
   have HB := n0_
   clear n0_
   (try clear hb)
   (try clear hb2)
   (try clear hk)
   (try clear hi)
   refine hK.out _ _ ⟨((HB.out.cell (World.block_lt_of_cell? w _ hw466_0)).trans hw466_0), ((HB.out.cell (World.block_lt_of_cell? w _ hw466_1)).trans hw466_1), ((HB.out.cell (World.block_lt_of_cell? w _ hw466_2)).trans hw466_2), ((HB.out.cell (World.block_lt_of_cell? w _ hw466_3)).trans hw466_3), ((HB.out.cell (World.block_lt_of_cell? w _ hw467_0)).trans hw467_0), ((HB.out.cell (World.block_lt_of_cell? w _ hw467_1)).trans hw467_1), ((HB.out.cell (World.block_lt_of_cell? w _ hw467_2)).trans hw467_2), ((HB.out.cell (World.block_lt_of_cell? w _ hw467_3)).trans hw467_3)⟩ (fun hHeld => ?_)
   clear hK K
   refine norm_ (a' := ?_) ?_ ?_
   rotate_left
   ·show Act.put _ (some 25) _ = _
    simp only [Act.put, List.setIfInBounds_toArray, List.set_cons_zero, List.set_cons_succ, i64_w, i32_w]
    rfl
   refine pureA (i := 9) (N := some 26) #[true, true, true, true, true, true, true, true, true, true] ?_
   refine done_ (done_of HT_.out dq15) ?_
   try go_wp2
   go_ret
   exact ⟨dq11, dq9⟩
  subst c8
  have H1 : (laws_eqItemS.l0 k1 l0 l1 (wrap64 (x5_1 + 1))) = some r := by rw [if_pos rfl] at H; exact H
  clear H
  have H := H1
  clear H1
  have H' := Aside0.mk H
  clear H
  try go_wp2
  have n0_ := Aside0.mk (below_drew1 HB.out)
  clear HB
  have HB := n0_
  clear n0_
  have p466 : 0 ≤ (x5_1 : Int) := of_decide_eq_true dq13
  have q466 : x5_1 < (l0.length : Int) := of_decide_eq_true dq13
  obtain ⟨ad466, A466_3, c466_3, e466, hx466_0, hx466_1, hx466_2, hx466_3, hl466_3, hi466_3⟩ := at_T65 HR0.out x5_1 p466 q466
  have hw466_3 := hx466_3
  have hw466_2 := hx466_2
  have hw466_1 := hx466_1
  have hw466_0 := hx466_0
  cases e466
  replace hx466_0 := (HB.out.cell (World.block_lt_of_cell? w _ hx466_0)).trans hx466_0
  replace hx466_1 := (HB.out.cell (World.block_lt_of_cell? w _ hx466_1)).trans hx466_1
  replace hx466_2 := (HB.out.cell (World.block_lt_of_cell? w _ hx466_2)).trans hx466_2
  replace hx466_3 := (HB.out.cell (World.block_lt_of_cell? w _ hx466_3)).trans hx466_3
  have HR466_3 := Aside0.mk hi466_3
  have HC466_3 := Aside0.mk hl466_3
  clear hi466_3 hl466_3
  replace p466 := eq_true p466
  replace q466 := eq_true q466
  have p467 : 0 ≤ (x5_1 : Int) := of_decide_eq_true dq13
  have q467 : x5_1 < (l1.length : Int) := of_decide_eq_true dq13
  obtain ⟨ad467, A467_3, c467_3, e467, hx467_0, hx467_1, hx467_2, hx467_3, hl467_3, hi467_3⟩ := at_T65 HR1.out x5_1 p467 q467
  have hw467_3 := hx467_3
  have hw467_2 := hx467_2
  have hw467_1 := hx467_1
  have hw467_0 := hx467_0
  cases e467
  replace hx467_0 := (HB.out.cell (World.block_lt_of_cell? w _ hx467_0)).trans hx467_0
  replace hx467_1 := (HB.out.cell (World.block_lt_of_cell? w _ hx467_1)).trans hx467_1
  replace hx467_2 := (HB.out.cell (World.block_lt_of_cell? w _ hx467_2)).trans hx467_2
  replace hx467_3 := (HB.out.cell (World.block_lt_of_cell? w _ hx467_3)).trans hx467_3
  have HR467_3 := Aside0.mk hi467_3
  have HC467_3 := Aside0.mk hl467_3
  clear hi467_3 hl467_3
  replace p467 := eq_true p467
  replace q467 := eq_true q467
  refine start_ (n := 10) (S := fun w' => w'.cell? (ad466.add ((x5_1).toNat * 4)) = some (.int .i64 ((rd_T65 l0 x5_1).f0)) ∧ w'.cell? ⟨(ad466.add ((x5_1).toNat * 4)).block, (ad466.add ((x5_1).toNat * 4)).off + 1, none⟩ = some (.string ((rd_T65 l0 x5_1).f1)) ∧ w'.cell? ⟨(ad466.add ((x5_1).toNat * 4)).block, (ad466.add ((x5_1).toNat * 4)).off + 2, none⟩ = some (.string ((rd_T65 l0 x5_1).f2)) ∧ w'.cell? ⟨(ad466.add ((x5_1).toNat * 4)).block, (ad466.add ((x5_1).toNat * 4)).off + 3, none⟩ = some (.slice A466_3 ((rd_T65 l0 x5_1).f3).length c466_3) ∧ w'.cell? (ad467.add ((x5_1).toNat * 4)) = some (.int .i64 ((rd_T65 l1 x5_1).f0)) ∧ w'.cell? ⟨(ad467.add ((x5_1).toNat * 4)).block, (ad467.add ((x5_1).toNat * 4)).off + 1, none⟩ = some (.string ((rd_T65 l1 x5_1).f1)) ∧ w'.cell? ⟨(ad467.add ((x5_1).toNat * 4)).block, (ad467.add ((x5_1).toNat * 4)).off + 2, none⟩ = some (.string ((rd_T65 l1 x5_1).f2)) ∧ w'.cell? ⟨(ad467.add ((x5_1).toNat * 4)).block, (ad467.add ((x5_1).toNat * 4)).off + 3, none⟩ = some (.slice A467_3 ((rd_T65 l1 x5_1).f3).length c467_3)) (ds := []) #[false, false, false, false, false, false, false, false, false, false] dq15 rfl rfl ⟨((HB.out.cell (World.block_lt_of_cell? w _ hw466_0)).trans hw466_0), ((HB.out.cell (World.block_lt_of_cell? w _ hw466_1)).trans hw466_1), ((HB.out.cell (World.block_lt_of_cell? w _ hw466_2)).trans hw466_2), ((HB.out.cell (World.block_lt_of_cell? w _ hw466_3)).trans hw466_3), ((HB.out.cell (World.block_lt_of_cell? w _ hw467_0)).trans hw467_0), ((HB.out.cell (World.block_lt_of_cell? w _ hw467_1)).trans hw467_1), ((HB.out.cell (World.block_lt_of_cell? w _ hw467_2)).trans hw467_2), ((HB.out.cell (World.block_lt_of_cell? w _ hw467_3)).trans hw467_3)⟩ (fun hHeld => ?_); refine with_tabW laws_eqItemS.tab6 laws_eqItemS.bits6 (fun HT_ HW_ => ?_)
  generalize wr.drew = w9 at HB HR466_3 HR467_3 hx466_0 hx466_1 hx466_2 hx466_3 hx467_0 hx467_1 hx467_2 hx467_3 hHeld ⊢
  refine pureA (i := 0) (N := some 17) #[true, false, false, false, false, false, false, false, false, false] ?_
  refine pureA (i := 1) (N := some 18) #[true, true, false, false, false, false, false, false, false, false] ?_
  refine pureA (i := 2) (N := some 19) #[true, true, true, false, false, false, false, false, false, false] ?_
  refine pureA (i := 4) (N := some 21) #[true, true, true, false, true, false, false, false, false, false] ?_
  refine pureA (i := 5) (N := some 22) #[true, true, true, false, true, true, false, false, false, false] ?_
  refine pureA (i := 6) (N := some 23) #[true, true, true, false, true, true, true, false, false, false] ?_
  refine takeA8 (i := 3) (N := some 20) #[true, true, true, true, true, true, true, false, false, false] ?_
  refine takeA8 (i := 7) (N := some 24) #[true, true, true, true, true, true, true, true, false, false] ?_
  refine one_ (i := 8) (N := some 25) #[true, true, true, true, true, true, true, true, true, false] rfl rfl (one_of HT_.out dq15) dq24 (fun K hK => ?_)
  refine goes_ Tryz.func53 dq15 rfl #[.agg #[.int .i64 ((rd_T65 l0 x5_1).f0), .string ((rd_T65 l0 x5_1).f1), .string ((rd_T65 l0 x5_1).f2), .slice A466_3 ((rd_T65 l0 x5_1).f3).length c466_3], .agg #[.int .i64 ((rd_T65 l1 x5_1).f0), .string ((rd_T65 l1 x5_1).f1), .string ((rd_T65 l1 x5_1).f2), .slice A467_3 ((rd_T65 l1 x5_1).f3).length c467_3]] (by rfl) rfl rfl dq14 ?_
  with_reducible refine (laws_eqItem.calls k1 ((rd_T65 l0 x5_1).f0) ((rd_T65 l0 x5_1).f1) ((rd_T65 l0 x5_1).f2) _ _ ((rd_T65 l0 x5_1).f3) ((rd_T65 l1 x5_1).f0) ((rd_T65 l1 x5_1).f1) ((rd_T65 l1 x5_1).f2) _ _ ((rd_T65 l1 x5_1).f3) true _ ?side1 ?side2 ?side3 ?side4 A7.out).mono ?_
  (case side1 => repeat (first | exact (Kd.C_below HR466_3.out HB.out) | (with_reducible refine Kd.C_alloc ?_ _) | (with_reducible refine Kd.C_drewN ?_ _) | (with_reducible refine Kd.C_drew ?_)))
  (case side2 => exact HC466_3.out)
  (case side3 => repeat (first | exact (Kd.C_below HR467_3.out HB.out) | (with_reducible refine Kd.C_alloc ?_ _) | (with_reducible refine Kd.C_drewN ?_ _) | (with_reducible refine Kd.C_drew ?_)))
  (case side4 => exact HC467_3.out)
  rintro e w10 ⟨rfl, hb⟩
  refine ⟨_, rfl, ?_⟩
  have n0_ := Aside0.mk (below_step dq9 hb)
  clear HB
  have HB := n0_
  clear n0_
  (try clear hb)
  (try clear hb2)
  (try clear hk)
  (try clear hi)
  refine hK.out _ _ ⟨((HB.out.cell (World.block_lt_of_cell? w _ hw466_0)).trans hw466_0), ((HB.out.cell (World.block_lt_of_cell? w _ hw466_1)).trans hw466_1), ((HB.out.cell (World.block_lt_of_cell? w _ hw466_2)).trans hw466_2), ((HB.out.cell (World.block_lt_of_cell? w _ hw466_3)).trans hw466_3), ((HB.out.cell (World.block_lt_of_cell? w _ hw467_0)).trans hw467_0), ((HB.out.cell (World.block_lt_of_cell? w _ hw467_1)).trans hw467_1), ((HB.out.cell (World.block_lt_of_cell? w _ hw467_2)).trans hw467_2), ((HB.out.cell (World.block_lt_of_cell? w _ hw467_3)).trans hw467_3)⟩ (fun hHeld => ?_)
  clear hK K
  refine norm_ (a' := ?_) ?_ ?_
  rotate_left
  ·show Act.put _ (some 25) _ = _
   simp only [Act.put, List.setIfInBounds_toArray, List.set_cons_zero, List.set_cons_succ, i64_w, i32_w]
   rfl
  refine pureA (i := 9) (N := some 26) #[true, true, true, true, true, true, true, true, true, true] ?_
  refine done_ (done_of HT_.out dq15) ?_
  try go_wp2
  go_roundg k1
  case measure => have := HK1.out; omega
  case rel => exact ⟨(wrap64 (x5_1 + 1)), dq12, H', ⟨dq16⟩, ⟨dq9⟩⟩

/-! ### laws_FnExactFieldOf: function 3 -/
def laws_FnExactFieldOf.j0 : Nat → List (S80) → List (S65) → Bool → Option (Bool)
 | 0, _, _, _ => none
 | k + 1, x0, x10, x45 => if x45 = true then (some false) else ((laws_toItemS.f k x0).bind fun t480 => ((laws_eqItemS.f k x10 t480).bind fun t483 => (if t483 = true then (some true) else (some false))))
def laws_FnExactFieldOf.f (k : Nat) (l0 : List (S80)) (a1 : Int) (a2 : ByteArray) : Option (Bool) := if (a2.size : Int) > 1048576 then (some true) else ((laws_szItemS.f k l0 1048576).bind fun t469 => (if t469 < 0 then (some true) else ((laws_toItemS.f k l0).bind fun t470 => ((spec_FieldOf.f k t470 a1 a2).bind fun bt473 => ((laws_toItemS.f k l0).bind fun t475 => ((impl_FieldOf.f k t475 a1 a2).bind fun bt478 => (if bt478.1.toList = bt473.1.toList then (laws_FnExactFieldOf.j0 k l0 t475 (bt478.2 != bt473.2)) else (laws_FnExactFieldOf.j0 k l0 t475 true))))))))
set_option maxHeartbeats 8000000 in
set_option maxRecDepth 100000 in
theorem laws_FnExactFieldOf.calls (k : Nat) (A0 : Option Addr) (c0 : Nat) (l0 : List (S80)) (a1 : Int) (a2 : ByteArray) (r : Bool) (w : World) (hT : Gl w) (hr0 : Kd.C k80 w A0 l0.length l0) (hc0 : l0.length ≤ c0) (h : laws_FnExactFieldOf.f k l0 a1 a2 = some r) :
  Calls Tryz.prog 3 #[.slice A0 l0.length c0, .int .i64 a1, .string a2] w fun e w' => e = .returned (.bool r) ∧ Below w.heap.size w w' := by
 have HR0 := Aside0.mk hr0
 have HC0 := Aside0.mk hc0
 clear hr0 hc0
 have HT := Aside0.mk hT
 clear hT
 have HB := Aside0.mk (Below.refl w.heap.size w)
 have H : (if (a2.size : Int) > 1048576 then (some true) else ((laws_szItemS.f k l0 1048576).bind fun t469 => (if t469 < 0 then (some true) else ((laws_toItemS.f k l0).bind fun t470 => ((spec_FieldOf.f k t470 a1 a2).bind fun bt473 => ((laws_toItemS.f k l0).bind fun t475 => ((impl_FieldOf.f k t475 a1 a2).bind fun bt478 => (if bt478.1.toList = bt473.1.toList then (laws_FnExactFieldOf.j0 k l0 t475 (bt478.2 != bt473.2)) else (laws_FnExactFieldOf.j0 k l0 t475 true))))))))) = some r := h
 clear h
 by_cases c4 : (a2.size : Int) > 1048576
 ·rw [if_pos c4] at H
  have c4b0 : decide (1048576 < (a2.size : Int)) = true := decide_eq_true c4
  have c4b1 : decide (1048576 < a2.size) = true := decide_eq_true dq20
  clear c4
  obtain rfl := Option.some.inj H
  go_enter Tryz.func3, Tryz.ntmps3
  go_wp2
  go_ret
  exact ⟨dq11, dq9⟩
 rw [if_neg c4] at H
 have c4b0 : decide (1048576 < (a2.size : Int)) = false := decide_eq_false c4
 have c4b1 : decide (1048576 < a2.size) = false := decide_eq_false dq20
 clear c4
 replace H := Option.bind_eq_some_iff.mp H
 obtain ⟨t469, A50, H⟩ := H
 replace H : (if t469 < 0 then (some true) else ((laws_toItemS.f k l0).bind fun t470 => ((spec_FieldOf.f k t470 a1 a2).bind fun bt473 => ((laws_toItemS.f k l0).bind fun t475 => ((impl_FieldOf.f k t475 a1 a2).bind fun bt478 => (if bt478.1.toList = bt473.1.toList then (laws_FnExactFieldOf.j0 k l0 t475 (bt478.2 != bt473.2)) else (laws_FnExactFieldOf.j0 k l0 t475 true))))))) = some r := H
 have A5 := Aside0.mk A50
 clear A50
 by_cases c6 : t469 < 0
 ·rw [if_pos c6] at H
  have c6b0 := decide_eq_true c6
  clear c6
  obtain rfl := Option.some.inj H
  go_enter Tryz.func3, Tryz.ntmps3
  go_wp2_with (first | ((with_reducible refine gate_callee (f := 9) rfl ?_); refine goesL_ (some 18) rfl rfl Tryz.func9 dq15 rfl #[.slice A0 l0.length c0, .int .i64 1048576] rfl dq14 ?_; (with_reducible refine (laws_szItemS.calls k _ _ l0 1048576 t469 _ ?side1 ?side2 A5.out).mono ?_); (case side1 => exact dq3); (case side2 => exact HC0.out); rintro e w7 ⟨rfl, hb⟩; refine ⟨_, rfl, ?_⟩; have n0_ := Aside0.mk (below_step dq9 hb); clear HB; have HB := n0_; clear n0_; (try clear hb); (try clear hb2); (try clear hk); (try clear hi)))
  go_ret
  exact ⟨dq11, dq9⟩
 rw [if_neg c6] at H
 have c6b0 := decide_eq_false c6
 clear c6
 replace H := Option.bind_eq_some_iff.mp H
 obtain ⟨t470, A80, H⟩ := H
 replace H : ((spec_FieldOf.f k t470 a1 a2).bind fun bt473 => ((laws_toItemS.f k l0).bind fun t475 => ((impl_FieldOf.f k t475 a1 a2).bind fun bt478 => (if bt478.1.toList = bt473.1.toList then (laws_FnExactFieldOf.j0 k l0 t475 (bt478.2 != bt473.2)) else (laws_FnExactFieldOf.j0 k l0 t475 true))))) = some r := H
 have A8 := Aside0.mk A80
 clear A80
 replace H := Option.bind_eq_some_iff.mp H
 obtain ⟨⟨t473, t474⟩, A90, H⟩ := H
 replace H : ((laws_toItemS.f k l0).bind fun t475 => ((impl_FieldOf.f k t475 a1 a2).bind fun bt478 => (if bt478.1.toList = t473.toList then (laws_FnExactFieldOf.j0 k l0 t475 (bt478.2 != t474)) else (laws_FnExactFieldOf.j0 k l0 t475 true)))) = some r := H
 have A9 := Aside0.mk A90
 clear A90
 replace H := Option.bind_eq_some_iff.mp H
 obtain ⟨t475, A100, H⟩ := H
 replace H : ((impl_FieldOf.f k t475 a1 a2).bind fun bt478 => (if bt478.1.toList = t473.toList then (laws_FnExactFieldOf.j0 k l0 t475 (bt478.2 != t474)) else (laws_FnExactFieldOf.j0 k l0 t475 true))) = some r := H
 have A10 := Aside0.mk A100
 clear A100
 replace H := Option.bind_eq_some_iff.mp H
 obtain ⟨⟨t478, t479⟩, A110, H⟩ := H
 replace H : (if t478.toList = t473.toList then (laws_FnExactFieldOf.j0 k l0 t475 (t479 != t474)) else (laws_FnExactFieldOf.j0 k l0 t475 true)) = some r := H
 have A11 := Aside0.mk A110
 clear A110
 have HC12 := Aside0.mk H
 clear H
 go_enter Tryz.func3, Tryz.ntmps3
 go_upto_region 10 with (first | ((with_reducible refine gate_callee (f := 9) rfl ?_); refine goesL_ (some 18) rfl rfl Tryz.func9 dq15 rfl #[.slice A0 l0.length c0, .int .i64 1048576] rfl dq14 ?_; (with_reducible refine (laws_szItemS.calls k _ _ l0 1048576 t469 _ ?side1 ?side2 A5.out).mono ?_); (case side1 => exact dq3); (case side2 => exact HC0.out); rintro e w13 ⟨rfl, hb⟩; refine ⟨_, rfl, ?_⟩; have n0_ := Aside0.mk (below_step dq9 hb); clear HB; have HB := n0_; clear n0_; (try clear hb); (try clear hb2); (try clear hk); (try clear hi)) | ((with_reducible refine gate_callee (f := 11) rfl ?_); refine goesL_ (some 23) rfl rfl Tryz.func11 dq15 rfl #[.slice A0 l0.length c0] rfl dq14 ?_; (with_reducible refine (laws_toItemS.calls k _ _ l0 t470 _ ?side1 ?side2 A8.out).mono ?_); (case side1 => exact dq2); (case side2 => exact HC0.out); rintro e w14 ⟨v471, rfl, ho0, hb⟩; refine ⟨_, rfl, ?_⟩; have n0_ := Aside0.mk (Kd.S_lower ho0 (below_size dq9)); have n1_ := Aside0.mk (below_step dq9 hb); clear HB; have HO472 := n0_; have HB := n1_; clear n0_ n1_; (try clear hb); (try clear hb2); (try clear hk); (try clear hi); (try clear ho0); obtain ⟨Ao15, co15, eo15⟩ := Kd.S_slice HO472.out; subst eo15) | ((with_reducible refine gate_callee (f := 10) rfl ?_); refine goesL_ (some 26) rfl rfl Tryz.func10 dq15 rfl #[.slice Ao15 t470.length co15, .int .i64 a1, .string a2] rfl dq14 ?_; (with_reducible refine (spec_FieldOf.calls k _ _ t470 a1 a2 t473 t474 _ ?side1 ?side2 A9.out).mono ?_); (case side1 => repeat (first | exact (Kd.S_reads' HO472.out).2.2 | (with_reducible refine Kd.C_alloc ?_ _) | (with_reducible refine Kd.C_drewN ?_ _) | (with_reducible refine Kd.C_drew ?_))); (case side2 => exact (Kd.S_reads' HO472.out).2.1); rintro e w16 ⟨rfl, hb⟩; refine ⟨_, rfl, ?_⟩; have n0_ := Aside0.mk (Kd.S_below dq120 hb); have n1_ := Aside0.mk (below_step dq9 hb); clear HO472; clear HB; have HO472 := n0_; have HB := n1_; clear n0_ n1_; (try clear hb); (try clear hb2); (try clear hk); (try clear hi)) | ((with_reducible refine gate_callee (f := 11) rfl ?_); refine goesL_ (some 30) rfl rfl Tryz.func11 dq15 rfl #[.slice A0 l0.length c0] rfl dq14 ?_; (with_reducible refine (laws_toItemS.calls k _ _ l0 t475 _ ?side1 ?side2 A10.out).mono ?_); (case side1 => exact dq2); (case side2 => exact HC0.out); rintro e w17 ⟨v476, rfl, ho0, hb⟩; refine ⟨_, rfl, ?_⟩; have n0_ := Aside0.mk (Kd.S_elder' dq120 (Kd.S_base ho0) hb); have n1_ := Aside0.mk (Kd.S_lower (Kd.S_new' ho0 (Kd.S_lt dq120)) (below_size dq9)); have n2_ := Aside0.mk (below_step dq9 hb); clear HO472; clear HB; have HO472 := n0_; have HO477 := n1_; have HB := n2_; clear n0_ n1_ n2_; (try clear hb); (try clear hb2); (try clear hk); (try clear hi); (try clear ho0); obtain ⟨Ao18, co18, eo18⟩ := Kd.S_slice HO477.out; subst eo18) | ((with_reducible refine gate_callee (f := 12) rfl ?_); refine goesL_ (some 35) rfl rfl Tryz.func12 dq15 rfl #[.slice Ao18 t475.length co18, .int .i64 a1, .string a2] rfl dq14 ?_; (with_reducible refine (impl_FieldOf.calls k _ _ t475 a1 a2 t478 t479 _ ?side3 ?side1 ?side2 A11.out).mono ?_); (case side1 => repeat (first | exact (Kd.S_reads' HO477.out).2.2 | (with_reducible refine Kd.C_alloc ?_ _) | (with_reducible refine Kd.C_drewN ?_ _) | (with_reducible refine Kd.C_drew ?_))); (case side2 => exact (Kd.S_reads' HO477.out).2.1); (case side3 => exact dq4); rintro e w19 ⟨rfl, hb⟩; refine ⟨_, rfl, ?_⟩; have n0_ := Aside0.mk (Kd.S_below dq120 hb); have n1_ := Aside0.mk (Kd.S_below (by (with_reducible repeat (first | apply Kd.S_alloc | apply Kd.S_drewN | apply Kd.S_drew)); exact HO477.out) hb); have n2_ := Aside0.mk (below_step dq9 hb); clear HO472; clear HO477; clear HB; have HO472 := n0_; have HO477 := n1_; have HB := n2_; clear n0_ n1_ n2_; (try clear hb); (try clear hb2); (try clear hk); (try clear hi)))
 (try simp only [Act.put, List.setIfInBounds_toArray, List.set_cons_zero, List.set_cons_succ])
 go_cut [45] (fun v45 wc => ∃ (kq : Nat) (x45_11 : Bool), v45 = .bool x45_11 ∧ Aside0 (laws_FnExactFieldOf.j0 kq l0 t475 x45_11 = some r) ∧ Aside0 (kq ≤ k) ∧ Aside0 (Kd.S k65 65 wc w.heap.size (fun _ => True) (.slice Ao18 t475.length co18) t475) ∧ Aside0 (Below w.heap.size w wc))
 case first =>
  have H := HC12.out
  clear HC12
  by_cases c20 : t478.toList = t473.toList
  rotate_left
  ·rw [if_neg c20] at H
   have c20b0 := beq_eq_false_iff_ne.mpr c20
   have c20b1 := bne_iff_ne.mpr c20
   (first | rw [c20b0] | (simp only [i64_w, i32_w]; rw [c20b0]) | skip)
   have H' := Aside0.mk H
   clear H
   go_wp2
   go_meet
   case rel => exact ⟨_, (true), dq12, H', ⟨dq21⟩, ⟨dq121⟩, ⟨dq9⟩⟩
  rw [if_pos c20] at H
  have c20b0 := beq_iff_eq.mpr c20
  have c20b1 := bne_eq_false_iff_eq.mpr c20
  clear c20
  (first | rw [c20b0] | (simp only [i64_w, i32_w]; rw [c20b0]) | skip)
  have H' := Aside0.mk H
  clear H
  go_wp2
  go_meet
  case rel => exact ⟨_, ((t479 != t474)), dq12, H', ⟨dq21⟩, ⟨dq121⟩, ⟨dq9⟩⟩
 clear HC12
 try clear c4b0
 try clear c4b1
 try clear c6b0
 obtain ⟨kq, x45_11, rfl, HA, HJ11, HO_10, HB⟩ := hcut
 cases kq with
 | zero => exact absurd HA.out (by simp [laws_FnExactFieldOf.j0])
 | succ kj11 =>
  have H := HA.out
  clear HA
  simp only [laws_FnExactFieldOf.j0] at H
  by_cases c21 : x45_11 = true
  ·subst c21
   have H1 : (some false) = some r := by rw [if_pos rfl] at H; exact H
   clear H
   have H := H1
   clear H1
   obtain rfl := Option.some.inj H
   go_wp2
   go_ret
   exact ⟨dq11, dq9⟩
  replace c21 := Bool.eq_false_iff.mpr c21
  subst c21
  have H1 : ((laws_toItemS.f kj11 l0).bind fun t480 => ((laws_eqItemS.f kj11 t475 t480).bind fun t483 => (if t483 = true then (some true) else (some false)))) = some r := by rw [if_neg (show ¬ (false = true) by decide)] at H; exact H
  clear H
  have H := H1
  clear H1
  replace H := Option.bind_eq_some_iff.mp H
  obtain ⟨t480, A220, H⟩ := H
  replace H : ((laws_eqItemS.f kj11 t475 t480).bind fun t483 => (if t483 = true then (some true) else (some false))) = some r := H
  have A22 := Aside0.mk A220
  clear A220
  replace H := Option.bind_eq_some_iff.mp H
  obtain ⟨t483, A230, H⟩ := H
  replace H : (if t483 = true then (some true) else (some false)) = some r := H
  have A23 := Aside0.mk A230
  clear A230
  by_cases c24 : t483 = true
  ·subst c24
   have H1 : (some true) = some r := by rw [if_pos rfl] at H; exact H
   clear H
   have H := H1
   clear H1
   obtain rfl := Option.some.inj H
   go_wp2_with (first | ((with_reducible refine gate_callee (f := 11) rfl ?_); refine goesL_ (some 48) rfl rfl Tryz.func11 dq15 rfl #[.slice A0 l0.length c0] rfl dq14 ?_; (with_reducible refine (laws_toItemS.calls kj11 _ _ l0 t480 _ ?side1 ?side2 A22.out).mono ?_); (case side1 => exact dq2); (case side2 => exact HC0.out); rintro e w25 ⟨v481, rfl, ho0, hb⟩; refine ⟨_, rfl, ?_⟩; have n0_ := Aside0.mk (Kd.S_elder' dq122 (Kd.S_base ho0) hb); have n1_ := Aside0.mk (Kd.S_lower (Kd.S_new' ho0 (Kd.S_lt dq122)) (below_size dq9)); have n2_ := Aside0.mk (below_step dq9 hb); clear HO_10; clear HB; have HO_10 := n0_; have HO482 := n1_; have HB := n2_; clear n0_ n1_ n2_; (try clear hb); (try clear hb2); (try clear hk); (try clear hi); (try clear ho0); obtain ⟨Ao26, co26, eo26⟩ := Kd.S_slice HO482.out; subst eo26) | ((with_reducible refine gate_callee (f := 13) rfl ?_); refine goesL_ (some 49) rfl rfl Tryz.func13 dq15 rfl #[.slice Ao18 t475.length co18, .slice Ao26 t480.length co26] rfl dq14 ?_; (with_reducible refine (laws_eqItemS.calls kj11 _ _ t475 _ _ t480 true _ ?side1 ?side2 ?side3 ?side4 A23.out).mono ?_); (case side1 => repeat (first | exact (Kd.S_reads' HO_10.out).2.2 | (with_reducible refine Kd.C_alloc ?_ _) | (with_reducible refine Kd.C_drewN ?_ _) | (with_reducible refine Kd.C_drew ?_))); (case side2 => exact (Kd.S_reads' HO_10.out).2.1); (case side3 => repeat (first | exact (Kd.S_reads' HO482.out).2.2 | (with_reducible refine Kd.C_alloc ?_ _) | (with_reducible refine Kd.C_drewN ?_ _) | (with_reducible refine Kd.C_drew ?_))); (case side4 => exact (Kd.S_reads' HO482.out).2.1); rintro e w27 ⟨rfl, hb⟩; refine ⟨_, rfl, ?_⟩; have n0_ := Aside0.mk (Kd.S_below dq122 hb); have n1_ := Aside0.mk (Kd.S_below (by (with_reducible repeat (first | apply Kd.S_alloc | apply Kd.S_drewN | apply Kd.S_drew)); exact HO482.out) hb); have n2_ := Aside0.mk (below_step dq9 hb); clear HO_10; clear HO482; clear HB; have HO_10 := n0_; have HO482 := n1_; have HB := n2_; clear n0_ n1_ n2_; (try clear hb); (try clear hb2); (try clear hk); (try clear hi)))
   go_ret
   exact ⟨dq11, dq9⟩
  replace c24 := Bool.eq_false_iff.mpr c24
  subst c24
  have H1 : (some false) = some r := by rw [if_neg (show ¬ (false = true) by decide)] at H; exact H
  clear H
  have H := H1
  clear H1
  obtain rfl := Option.some.inj H
  go_wp2_with (first | ((with_reducible refine gate_callee (f := 11) rfl ?_); refine goesL_ (some 48) rfl rfl Tryz.func11 dq15 rfl #[.slice A0 l0.length c0] rfl dq14 ?_; (with_reducible refine (laws_toItemS.calls kj11 _ _ l0 t480 _ ?side1 ?side2 A22.out).mono ?_); (case side1 => exact dq2); (case side2 => exact HC0.out); rintro e w28 ⟨v481, rfl, ho0, hb⟩; refine ⟨_, rfl, ?_⟩; have n0_ := Aside0.mk (Kd.S_elder' dq122 (Kd.S_base ho0) hb); have n1_ := Aside0.mk (Kd.S_lower (Kd.S_new' ho0 (Kd.S_lt dq122)) (below_size dq9)); have n2_ := Aside0.mk (below_step dq9 hb); clear HO_10; clear HB; have HO_10 := n0_; have HO482 := n1_; have HB := n2_; clear n0_ n1_ n2_; (try clear hb); (try clear hb2); (try clear hk); (try clear hi); (try clear ho0); obtain ⟨Ao29, co29, eo29⟩ := Kd.S_slice HO482.out; subst eo29) | ((with_reducible refine gate_callee (f := 13) rfl ?_); refine goesL_ (some 49) rfl rfl Tryz.func13 dq15 rfl #[.slice Ao18 t475.length co18, .slice Ao29 t480.length co29] rfl dq14 ?_; (with_reducible refine (laws_eqItemS.calls kj11 _ _ t475 _ _ t480 false _ ?side1 ?side2 ?side3 ?side4 A23.out).mono ?_); (case side1 => repeat (first | exact (Kd.S_reads' HO_10.out).2.2 | (with_reducible refine Kd.C_alloc ?_ _) | (with_reducible refine Kd.C_drewN ?_ _) | (with_reducible refine Kd.C_drew ?_))); (case side2 => exact (Kd.S_reads' HO_10.out).2.1); (case side3 => repeat (first | exact (Kd.S_reads' HO482.out).2.2 | (with_reducible refine Kd.C_alloc ?_ _) | (with_reducible refine Kd.C_drewN ?_ _) | (with_reducible refine Kd.C_drew ?_))); (case side4 => exact (Kd.S_reads' HO482.out).2.1); rintro e w30 ⟨rfl, hb⟩; refine ⟨_, rfl, ?_⟩; have n0_ := Aside0.mk (Kd.S_below dq122 hb); have n1_ := Aside0.mk (Kd.S_below (by (with_reducible repeat (first | apply Kd.S_alloc | apply Kd.S_drewN | apply Kd.S_drew)); exact HO482.out) hb); have n2_ := Aside0.mk (below_step dq9 hb); clear HO_10; clear HO482; clear HB; have HO_10 := n0_; have HO482 := n1_; have HB := n2_; clear n0_ n1_ n2_; (try clear hb); (try clear hb2); (try clear hk); (try clear hi)))
  go_ret
  exact ⟨dq11, dq9⟩

end Go.Proofs.YtpmjpbaeecnpiaaGreatDoor.L

namespace Go.Proofs.YtpmjpbaeecnpiaaGreatDoor.Pure
open Go.RowKit Go.Proofs.YtpmjpbaeecnpiaaGreatDoor.L Go.Proofs.YtpmjpbaeecnpiaaGreatDoorW.PrintWords Go.Proofs.YtpmjpbaeecnpiaaGreatDoorW.PrintLast Go.Proofs.YtpmjpbaeecnpiaaGreatDoorW.PrintMore
set_option linter.unusedVariables false
set_option linter.unusedSimpArgs false

theorem ba_ext {a b : ByteArray} (h : a.data.toList = b.data.toList) : a = b := by
  cases a; cases b; simp only [ByteArray.mk.injEq]; exact Array.toList_inj.mp h
theorem ba_app (a b : ByteArray) : (a ++ b).data.toList = a.data.toList ++ b.data.toList := by
  rw [ByteArray.data_append, Array.toList_append]
theorem sz (a : ByteArray) : a.size = a.data.toList.length := (data_length a).symm
theorem w64 {n : Int} (h : -9223372036854775808 ≤ n) (h' : n ≤ 9223372036854775807) : wrap64 n = n := by unfold wrap64; omega
theorem bt_nat (s : ByteArray) (i : Nat) (h : i < s.data.toList.length) : bt s (i : Int) = ((s.data.toList[i]).toNat : Int) := by
  have h' : i < s.size := by rw [sz]; exact h
  unfold bt
  rw [dif_pos (by simpa using h')]
  simp only [Int.toNat_natCast]
  rfl
theorem first_bt (s : ByteArray) (b : UInt8) (l : List UInt8) (h : s.data.toList = b :: l) : bt s 0 = (b.toNat : Int) := by
  have := bt_nat s 0 (by rw [h]; simp)
  simp only [h, Int.ofNat_zero, List.getElem_cons_zero] at this
  simpa using this
def mkB (l : List UInt8) : ByteArray := ⟨l.toArray⟩
theorem mkB_list (l : List UInt8) : (mkB l).data.toList = l := by simp [mkB]
theorem mkB_of (s : ByteArray) : mkB s.data.toList = s := ba_ext (mkB_list _)
theorem byte_is (b : UInt8) (n : Nat) (hn : n < 256) : ((b.toNat : Int) = (n : Int)) ↔ b = UInt8.ofNat n := by
  constructor
  · intro h
    apply UInt8.toNat.inj
    rw [UInt8.toNat_ofNat']
    omega
  · intro h; subst h; rw [UInt8.toNat_ofNat']; omega
/-- The pieces of a row of bytes between strokes, the first one behind what was gathered. -/
def segs : List UInt8 → List UInt8 → List (List UInt8)
  | acc, [] => [acc]
  | acc, b :: t => if b = 47 then acc :: segs [] t else segs (acc ++ [b]) t
theorem segs_miss : ∀ (l acc : List UInt8), (∀ k : Nat, l[k]? ≠ some 47) → segs acc l = [acc ++ l]
  | [], acc, _ => by simp [segs]
  | b :: t, acc, h => by
    have hb : b ≠ 47 := fun e => h 0 (by simp [e])
    have ht : ∀ k : Nat, t[k]? ≠ some 47 := fun k => by simpa using h (k + 1)
    unfold segs
    rw [if_neg hb, segs_miss t (acc ++ [b]) ht]
    simp
theorem segs_hit : ∀ (i : Nat) (l acc : List UInt8), l[i]? = some 47 → (∀ k : Nat, k < i → l[k]? ≠ some 47) → segs acc l = (acc ++ l.take i) :: segs [] (l.drop (i + 1))
  | i, [], acc, h, _ => by simp at h
  | 0, b :: t, acc, h, _ => by
    have hb : b = 47 := by simpa using h
    rw [segs, if_pos hb]
    simp
  | i + 1, b :: t, acc, h, h2 => by
    have hb : b ≠ 47 := fun e => h2 0 (by omega) (by simp [e])
    have h' : t[i]? = some 47 := by simpa using h
    have h2' : ∀ k : Nat, k < i → t[k]? ≠ some 47 := fun k hk => by simpa using h2 (k + 1) (by omega)
    rw [segs, if_neg hb, segs_hit i t (acc ++ [b]) h' h2']
    simp
theorem slash_size : slash.size = 1 := rfl
theorem slash_index (s : ByteArray) : Lib.indexB s slash = Lib.indexByte s.data.toList 47 := by
  rw [Lib.one s slash slash_size]
  rfl
theorem names_of_aux : ∀ (n : Nat) (s : ByteArray), s.size ≤ n → (namesOf s).map (fun x => x.data.toList) = segs [] s.data.toList := by
  intro n
  induction n with
  | zero =>
    intro s hs
    rcases Lib.indexB_cases s slash with hix | ⟨i, _, hroom⟩
    · unfold namesOf
      rw [Lib.splitB_miss slash 0 _ s hix]
      rw [slash_index] at hix
      rw [segs_miss _ _ (Lib.indexByte_none hix)]
      simp
    · rw [slash_size] at hroom; omega
  | succ n ih =>
    intro s hs
    rcases Lib.indexB_cases s slash with hix | ⟨i, hix, hroom⟩
    · unfold namesOf
      rw [Lib.splitB_miss slash 0 _ s hix]
      rw [slash_index] at hix
      rw [segs_miss _ _ (Lib.indexByte_none hix)]
      simp
    · rw [slash_size] at hroom
      have e2 : (s.extract (i + 1) s.size).size = s.size - (i + 1) := by rw [ByteArray.size_extract]; omega
      have := ih (s.extract (i + 1) s.size) (by omega)
      unfold namesOf at this ⊢
      rw [Lib.countB_hit s slash i (by decide) hix, Nat.add_comm, Lib.splitB_hit slash 0 _ s i hix]
      rw [slash_size, List.map_cons, this]
      rw [slash_index] at hix
      obtain ⟨h1, h2⟩ := Lib.indexByte_some hix
      rw [segs_hit i _ [] h1 h2]
      congr 1
      · simp
      · rw [Lib.extract_to_end]
theorem names_of (s : ByteArray) : (namesOf s).map (fun x => x.data.toList) = segs [] s.data.toList := names_of_aux s.size s (Nat.le_refl _)
theorem names_len (s : ByteArray) : (namesOf s).length = Lib.countB s slash + 1 := Lib.splitB_all slash (by decide) 0 _ s rfl
theorem names_most (s : ByteArray) : (namesOf s).length ≤ s.size + 1 := by
  rw [names_len]
  have := Lib.countB_le slash (by decide) s.size s (Nat.le_refl _)
  omega

/-- A row of bytes that is a name. -/
def fstB (b : UInt8) : Bool := decide (97 ≤ b.toNat ∧ b.toNat ≤ 122) || decide (65 ≤ b.toNat ∧ b.toNat ≤ 90) || decide (b.toNat = 95)
def moreB (b : UInt8) : Bool := fstB b || decide (48 ≤ b.toNat ∧ b.toNat ≤ 57) || decide (b.toNat = 46) || decide (b.toNat = 45)
def nameB : List UInt8 → Bool
  | [] => false
  | b :: t => fstB b && t.all moreB && decide (t.length + 1 ≤ 40)
theorem u8_all {p : UInt8 → Prop} (h : ∀ n : Fin 256, p (UInt8.ofNat n.val)) (b : UInt8) : p b := by
  have := h ⟨b.toNat, b.toNat_lt⟩
  simpa using this
theorem first_f (b : UInt8) : spec_l1First.f (b.toNat : Int) = some (fstB b) := by
  revert b
  refine u8_all ?_
  decide +kernel
theorem more_f (b : UInt8) : spec_l1More.f (b.toNat : Int) = some (moreB b) := by
  revert b
  refine u8_all ?_
  decide +kernel
theorem fst_more (b : UInt8) (h : fstB b = true) : moreB b = true := by unfold moreB; rw [h]; rfl
theorem spec_name_l0 (s : ByteArray) (hs : s.data.toList.length ≤ 9223372036854775806) : ∀ (n i : Nat), i + n = s.data.toList.length →
    Ev (fun k => spec_NameOk.l0 k s (i : Int)) ((s.data.toList.drop i).all moreB) := by
  intro n
  induction n with
  | zero =>
    intro i hi
    refine Ev.step (f := fun _ => some true) (fun k => ?_) ?_
    · unfold spec_NameOk.l0
      rw [if_neg (by rw [sz]; omega)]
    · rw [List.drop_of_length_le (by omega)]; exact Ev.now _
  | succ n ih =>
    intro i hi
    have hlt : i < s.data.toList.length := by omega
    have e : spec_l1More.f (bt s (i : Int)) = some (moreB (s.data.toList[i])) := by rw [bt_nat s i hlt]; exact more_f _
    have hd : s.data.toList.drop i = s.data.toList[i] :: s.data.toList.drop (i + 1) := List.drop_eq_getElem_cons hlt
    have w : wrap64 ((i : Int) + 1) = ((i + 1 : Nat) : Int) := by rw [w64] <;> omega
    by_cases c : moreB (s.data.toList[i]) = true
    · refine Ev.step (f := fun k => spec_NameOk.l0 k s ((i + 1 : Nat) : Int)) (fun k => ?_) ?_
      · conv => lhs; unfold spec_NameOk.l0
        rw [if_pos (by rw [sz]; omega), if_pos (by omega), e]
        simp only [Option.bind_some, if_pos c, w]
      · rw [hd, List.all_cons, c, Bool.true_and]; exact ih (i + 1) (by omega)
    · refine Ev.step (f := fun _ => some false) (fun k => ?_) ?_
      · conv => lhs; unfold spec_NameOk.l0
        rw [if_pos (by rw [sz]; omega), if_pos (by omega), e]
        simp only [Option.bind_some, if_neg c]
      · rw [hd, List.all_cons]
        rw [Bool.not_eq_true] at c
        rw [c, Bool.false_and]; exact Ev.now _
theorem spec_name (s : ByteArray) : Ev (fun k => spec_NameOk.f k s) (nameB s.data.toList) := by
  cases hl : s.data.toList with
  | nil =>
    refine Ev.congr (f := fun k => spec_NameOk.j0 k s true) (fun k => ?_) ?_
    · unfold spec_NameOk.f
      rw [if_pos (by rw [sz, hl]; decide)]
    · refine Ev.step (f := fun _ => some false) (fun k => ?_) (Ev.now _)
      rfl
  | cons b t =>
    have hz : (s.size : Int) = (t.length : Int) + 1 := by rw [sz, hl]; simp
    by_cases c : t.length + 1 ≤ 40
    · refine Ev.congr (f := fun k => spec_NameOk.j0 k s (!fstB b)) (fun k => ?_) ?_
      · unfold spec_NameOk.f
        rw [if_neg (by omega), if_neg (by omega), if_pos (by omega), first_bt s b t hl, first_f]
        rfl
      · by_cases d : fstB b = true
        · refine Ev.step (f := fun k => spec_NameOk.l0 k s ((1 : Nat) : Int)) (fun k => ?_) ?_
          · rw [d]; rfl
          · have := spec_name_l0 s (by rw [hl]; simp; omega) t.length 1 (by rw [hl]; simp; omega)
            rw [hl] at this
            have e : nameB (b :: t) = ((b :: t).drop 1).all moreB := by simp [nameB, d, c]
            rw [e]; exact this
        · rw [Bool.not_eq_true] at d
          have e : nameB (b :: t) = false := by simp [nameB, d]
          rw [e]
          refine Ev.step (f := fun _ => some false) (fun k => ?_) (Ev.now _)
          rw [d]; rfl
    · have e : nameB (b :: t) = false := by simp [nameB, c]
      rw [e]
      refine Ev.congr (f := fun k => spec_NameOk.j0 k s true) (fun k => ?_) ?_
      · unfold spec_NameOk.f
        rw [if_neg (by omega), if_pos (by omega)]
      · refine Ev.step (f := fun _ => some false) (fun k => ?_) (Ev.now _)
        rfl

def lenB (n : Nat) : Bool := decide (1 ≤ n) && decide (n ≤ 40)
theorem in_len (n : Nat) : impl_in.f (n : Int) 1 40 = some (lenB n) := by
  unfold impl_in.f lenB
  by_cases h : 1 ≤ n
  · rw [if_pos (by omega)]; simp [h]; omega
  · rw [if_neg (by omega)]; simp [h]
theorem fst_iff (b : UInt8) : fstB b = true ↔ ((97 ≤ (b.toNat : Int) ∧ (b.toNat : Int) ≤ 122) ∨ (65 ≤ (b.toNat : Int) ∧ (b.toNat : Int) ≤ 90) ∨ (b.toNat : Int) = 95) := by
  unfold fstB
  simp only [Bool.or_eq_true, decide_eq_true_eq]
  omega
theorem more_iff (b : UInt8) : moreB b = true ↔ (((97 ≤ (b.toNat : Int) ∧ (b.toNat : Int) ≤ 122) ∨ (65 ≤ (b.toNat : Int) ∧ (b.toNat : Int) ≤ 90) ∨ (b.toNat : Int) = 95) ∨ (48 ≤ (b.toNat : Int) ∧ (b.toNat : Int) ≤ 57) ∨ (b.toNat : Int) = 46 ∨ (b.toNat : Int) = 45) := by
  unfold moreB
  simp only [Bool.or_eq_true, decide_eq_true_eq, fst_iff]
  omega
theorem impl_name_l0 (s : ByteArray) (hs : s.data.toList.length ≤ 9223372036854775806) : ∀ (n i : Nat), 1 ≤ i → i + n = s.data.toList.length →
    Ev (fun k => impl_NameOk.l0 k s (s.size : Int) (i : Int)) ((s.data.toList.drop i).all moreB && lenB s.data.toList.length) := by
  intro n
  induction n with
  | zero =>
    intro i h1 hi
    refine Ev.step (f := fun _ => some (lenB s.data.toList.length)) (fun k => ?_) ?_
    · unfold impl_NameOk.l0
      rw [if_neg (by rw [sz]; omega), sz, in_len]
      rfl
    · rw [List.drop_of_length_le (by omega)]; exact Ev.now _
  | succ n ih =>
    intro i h1 hi
    have hlt : i < s.data.toList.length := by omega
    have hd : s.data.toList.drop i = s.data.toList[i] :: s.data.toList.drop (i + 1) := List.drop_eq_getElem_cons hlt
    have w : wrap64 ((i : Int) + 1) = ((i + 1 : Nat) : Int) := by rw [w64] <;> omega
    have hm := more_iff (s.data.toList[i])
    by_cases c : moreB (s.data.toList[i]) = true
    · have hv := hm.1 c
      refine Ev.step (f := fun k => impl_NameOk.l0 k s (s.size : Int) ((i + 1 : Nat) : Int)) (fun k => ?_) ?_
      · conv => lhs; unfold impl_NameOk.l0
        rw [if_pos (by rw [sz]; omega), if_pos (by omega), if_pos (by rw [sz]; omega), bt_nat s i hlt, w]
        generalize impl_NameOk.l0 k s (s.size : Int) ((i + 1 : Nat) : Int) = X
        generalize ((s.data.toList[i]).toNat : Int) = v at hv
        clear hm ih c hd w hs hi hlt
        have hi0 : ¬ (i : Int) = 0 := by omega
        simp only [if_neg hi0]
        clear hi0 h1
        repeat' split
        all_goals first | rfl | (exfalso; omega)
      · rw [hd, List.all_cons, c, Bool.true_and]; exact ih (i + 1) (by omega) (by omega)
    · have hv := mt hm.2 c
      refine Ev.step (f := fun _ => some false) (fun k => ?_) ?_
      · conv => lhs; unfold impl_NameOk.l0
        rw [if_pos (by rw [sz]; omega), if_pos (by omega), if_pos (by rw [sz]; omega), bt_nat s i hlt, w]
        generalize impl_NameOk.l0 k s (s.size : Int) ((i + 1 : Nat) : Int) = X
        generalize ((s.data.toList[i]).toNat : Int) = v at hv
        clear hm ih c hd w hs hi hlt
        have hi0 : ¬ (i : Int) = 0 := by omega
        simp only [if_neg hi0]
        clear hi0 h1
        repeat' split
        all_goals first | rfl | (exfalso; omega)
      · rw [hd, List.all_cons]
        rw [Bool.not_eq_true] at c
        rw [c, Bool.false_and, Bool.false_and]; exact Ev.now _
theorem impl_name (s : ByteArray) (hs : s.data.toList.length ≤ 9223372036854775806) : Ev (fun k => impl_NameOk.f k s) (nameB s.data.toList) := by
  cases hl : s.data.toList with
  | nil =>
    unfold impl_NameOk.f
    refine Ev.step (f := fun _ => some false) (fun k => ?_) (Ev.now _)
    unfold impl_NameOk.l0
    have hz : s.size = 0 := by rw [sz, hl]; rfl
    rw [if_neg (by omega), hz]
    rfl
  | cons b t =>
    have hlt : 0 < s.data.toList.length := by rw [hl]; simp
    have hlen : s.data.toList.length = t.length + 1 := by rw [hl]; simp
    have w : wrap64 ((0 : Int) + 1) = ((1 : Nat) : Int) := by rw [w64 (by omega) (by omega)]; rfl
    have hm := fst_iff b
    have eb : bt s 0 = (b.toNat : Int) := first_bt s b t hl
    unfold impl_NameOk.f
    by_cases c : fstB b = true
    · have hv := hm.1 c
      refine Ev.step (f := fun k => impl_NameOk.l0 k s (s.size : Int) ((1 : Nat) : Int)) (fun k => ?_) ?_
      · conv => lhs; unfold impl_NameOk.l0
        rw [if_pos (by rw [sz]; omega), if_pos (by omega), if_pos (by rw [sz]; omega), eb, w]
        generalize impl_NameOk.l0 k s (s.size : Int) ((1 : Nat) : Int) = X
        generalize (b.toNat : Int) = v at hv
        clear hm c eb w hs hlt hlen hl
        simp only [if_true]
        repeat' split
        all_goals first | rfl | (exfalso; omega)
      · have := impl_name_l0 s hs t.length 1 (by omega) (by omega)
        rw [hl] at this
        have e : nameB (b :: t) = (((b :: t).drop 1).all moreB && lenB (b :: t).length) := by
          simp [nameB, lenB, c]
        rw [e]; exact this
    · have hv := mt hm.2 c
      refine Ev.step (f := fun _ => some false) (fun k => ?_) ?_
      · conv => lhs; unfold impl_NameOk.l0
        rw [if_pos (by rw [sz]; omega), if_pos (by omega), if_pos (by rw [sz]; omega), eb, w]
        generalize impl_NameOk.l0 k s (s.size : Int) ((1 : Nat) : Int) = X
        generalize (b.toNat : Int) = v at hv
        clear hm c eb w hs hlt hlen hl
        simp only [if_true]
        repeat' split
        all_goals first | rfl | (exfalso; omega)
      · rw [Bool.not_eq_true] at c
        have e : nameB (b :: t) = false := by simp [nameB, c]
        rw [e]; exact Ev.now _
def B (s : ByteArray) (i : Nat) : Nat := (s.get! i).toNat
theorem B_lt (s : ByteArray) (i : Nat) : B s i < 256 := (s.get! i).toNat_lt
theorem bt_B (s : ByteArray) (i : Nat) (h : i < s.size) : bt s (i : Int) = (B s i : Int) := by
  have hl : i < s.data.toList.length := by rw [← sz]; exact h
  rw [bt_nat s i hl]
  have h2 : i < s.data.size := by simpa using hl
  have e : s.get! i = s.data[i] := by unfold ByteArray.get!; exact getElem!_pos s.data i h2
  unfold B
  rw [e]
  simp
theorem tm (b m : Nat) : Int.tmod (b : Int) (m : Int) = ((b % m : Nat) : Int) := (Int.ofNat_tmod b m).symm
def charB (x : Nat) : Bool := decide (x ≤ 55295) || (decide (57344 ≤ x) && decide (x ≤ 1114111))
theorem char_f (x : Nat) : spec_l1Char.f (x : Int) = some (charB x) := by
  unfold spec_l1Char.f spec_l1In.f charB
  by_cases h1 : x ≤ 55295
  · rw [if_pos (by omega)]
    have : decide ((x : Int) ≤ 55295) = true := decide_eq_true (by omega)
    rw [this]
    simp [h1]
  · rw [if_pos (by omega)]
    have : decide ((x : Int) ≤ 55295) = false := decide_eq_false (by omega)
    rw [this]
    simp only [Option.bind_some, Bool.false_eq_true, if_false]
    by_cases h2 : 57344 ≤ x
    · rw [if_pos (by omega)]
      have e : decide ((x : Int) ≤ 1114111) = decide (x ≤ 1114111) := by simp only [decide_eq_decide]; omega
      simp [h1, h2, e]
    · rw [if_neg (by omega)]
      simp [h1, h2]
def finV (x n low : Nat) : Int × Int := if x < low then (0, 0) else if charB x = true then ((x : Int), (n : Int)) else (0, 0)
theorem l0_end (s : ByteArray) (x n low : Nat) : Ev (fun k => spec_l1Rune.l0 k s (x : Int) (n : Int) (low : Int) (n : Int)) (finV x n low) := by
  refine Ev.step (f := fun _ => some (finV x n low)) (fun k => ?_) (Ev.now _)
  conv => lhs; unfold spec_l1Rune.l0
  rw [if_neg (by omega), char_f]
  unfold finV
  by_cases h : x < low
  · rw [if_pos (by omega), if_pos h]
  · rw [if_neg (by omega), if_neg h]
    simp only [Option.bind_some]
    cases charB x <;> rfl
theorem l0_go (s : ByteArray) (x n low i : Nat) (hi : i < n) (hs : i < s.size) (hn : n ≤ 4) (hx : x < 4194304) (hc : B s i / 64 = 2) (r : Int × Int)
    (h : Ev (fun k => spec_l1Rune.l0 k s ((64 * x + B s i % 64 : Nat) : Int) (n : Int) (low : Int) ((i + 1 : Nat) : Int)) r) : Ev (fun k => spec_l1Rune.l0 k s (x : Int) (n : Int) (low : Int) (i : Int)) r := by
  have hb := B_lt s i
  refine Ev.step (fun k => ?_) h
  conv => lhs; unfold spec_l1Rune.l0
  have e1 : wrap64 (64 * (x : Int)) = ((64 * x : Nat) : Int) := by rw [w64] <;> omega
  have e2 : wrap64 (Int.tmod (B s i : Int) 64) = ((B s i % 64 : Nat) : Int) := by
    have := tm (B s i) 64
    rw [show ((64 : Nat) : Int) = 64 from rfl] at this
    rw [this, w64] <;> omega
  have e3 : wrap64 (((64 * x : Nat) : Int) + ((B s i % 64 : Nat) : Int)) = ((64 * x + B s i % 64 : Nat) : Int) := by rw [w64] <;> omega
  have e4 : wrap64 ((i : Int) + 1) = ((i + 1 : Nat) : Int) := by rw [w64] <;> omega
  rw [if_pos (by omega), if_pos (by omega), if_pos (by omega), bt_B s i hs, if_neg (by omega), if_neg (by omega), e1, e2, e3, e4]
theorem l0_no (s : ByteArray) (x n low i : Nat) (hi : i < n) (hs : i < s.size) (hc : ¬ B s i / 64 = 2) : Ev (fun k => spec_l1Rune.l0 k s (x : Int) (n : Int) (low : Int) (i : Int)) (0, 0) := by
  have hb := B_lt s i
  refine Ev.step (f := fun _ => some (0, 0)) (fun k => ?_) (Ev.now _)
  conv => lhs; unfold spec_l1Rune.l0
  rw [if_pos (by omega), if_pos (by omega), if_pos (by omega), bt_B s i hs]
  by_cases h : B s i < 128
  · rw [if_pos (by omega)]
  · rw [if_neg (by omega), if_pos (by omega)]
/-- What the reference says of the first character: the model's decoding, 0 bytes where that fails. -/
def runeV (s : ByteArray) : Int × Int := if (Utf8.decode s 0).1 = 65533 ∧ (Utf8.decode s 0).2 = 1 then (0, 0) else (((Utf8.decode s 0).1 : Int), ((Utf8.decode s 0).2 : Int))
def runeN (n b0 b1 b2 b3 : Nat) : Int × Int := if (Lib.decodeN n b0 b1 b2 b3).1 = 65533 ∧ (Lib.decodeN n b0 b1 b2 b3).2 = 1 then (0, 0) else (((Lib.decodeN n b0 b1 b2 b3).1 : Int), ((Lib.decodeN n b0 b1 b2 b3).2 : Int))
theorem runeV_N (s : ByteArray) : runeV s = runeN s.size (B s 0) (B s 1) (B s 2) (B s 3) := by
  unfold runeV runeN B
  rw [Lib.decode_at s 0]
  simp only [Nat.sub_zero, Nat.zero_add]
theorem j2_few (s : ByteArray) (x n low : Nat) (h : s.size < n) : Ev (fun k => spec_l1Rune.j2 k s (x : Int) (n : Int) (low : Int)) (0, 0) := by
  refine Ev.step (f := fun _ => some (0, 0)) (fun k => ?_) (Ev.now _)
  have e : spec_l1Rune.j2 (k + 1) s (x : Int) (n : Int) (low : Int) = (if (s.size : Int) < (n : Int) then some (0, 0) else spec_l1Rune.l0 k s (x : Int) (n : Int) (low : Int) 1) := rfl
  rw [e, if_pos (by omega)]
theorem j2_go (s : ByteArray) (x n low : Nat) (h : n ≤ s.size) (r : Int × Int) (hr : Ev (fun k => spec_l1Rune.l0 k s (x : Int) (n : Int) (low : Int) ((1 : Nat) : Int)) r) : Ev (fun k => spec_l1Rune.j2 k s (x : Int) (n : Int) (low : Int)) r := by
  refine Ev.step (f := fun k => spec_l1Rune.l0 k s (x : Int) (n : Int) (low : Int) ((1 : Nat) : Int)) (fun k => ?_) hr
  have e : spec_l1Rune.j2 (k + 1) s (x : Int) (n : Int) (low : Int) = (if (s.size : Int) < (n : Int) then some (0, 0) else spec_l1Rune.l0 k s (x : Int) (n : Int) (low : Int) 1) := rfl
  rw [e, if_neg (by omega)]
  rfl
theorem bad_N {n b0 b1 b2 b3 : Nat} (h : Lib.decodeN n b0 b1 b2 b3 = (65533, 1)) : runeN n b0 b1 b2 b3 = (0, 0) := by
  unfold runeN; rw [h]; rfl
theorem two_rune (s : ByteArray) (h0 : B s 0 / 32 = 6) : Ev (fun k => spec_l1Rune.j2 k s ((B s 0 % 32 : Nat) : Int) ((2 : Nat) : Int) ((128 : Nat) : Int)) (runeN s.size (B s 0) (B s 1) (B s 2) (B s 3)) := by
  have hb := B_lt s 0
  by_cases hz : s.size < 2
  · rw [bad_N]
    · exact j2_few s _ 2 128 hz
    · unfold Lib.decodeN
      rw [if_neg (by omega), if_neg (by omega), if_neg (by omega), if_neg (by omega)]
  · refine j2_go s _ 2 128 (by omega) _ ?_
    by_cases c1 : B s 1 / 64 = 2
    · refine l0_go s _ 2 128 1 (by omega) (by omega) (by omega) (by omega) c1 _ ?_
      have e : runeN s.size (B s 0) (B s 1) (B s 2) (B s 3) = finV (64 * (B s 0 % 32) + B s 1 % 64) 2 128 := by
        unfold runeN Lib.decodeN finV charB
        rw [if_neg (show ¬ B s 0 < 128 by omega), if_pos (show B s 0 / 32 = 6 ∧ (1 < s.size ∧ B s 1 / 64 = 2) from ⟨h0, by omega, c1⟩)]
        by_cases c : B s 0 % 32 * 64 + B s 1 % 64 ≥ 128
        · rw [if_pos c, if_neg (show ¬ (64 * (B s 0 % 32) + B s 1 % 64) < 128 by omega)]
          rw [decide_eq_true (show 64 * (B s 0 % 32) + B s 1 % 64 ≤ 55295 by omega)]
          simp only [Bool.true_or, if_true]
          rw [if_neg (show ¬ (B s 0 % 32 * 64 + B s 1 % 64 = 65533 ∧ (2 : Nat) = 1) by omega)]
          congr 1
          omega
        · rw [if_neg c, if_pos (show (64 * (B s 0 % 32) + B s 1 % 64) < 128 by omega)]
          rfl
      rw [e]
      exact l0_end s _ 2 128
    · rw [bad_N]
      · exact l0_no s _ 2 128 1 (by omega) (by omega) c1
      · unfold Lib.decodeN
        rw [if_neg (by omega), if_neg (by omega), if_neg (by omega), if_neg (by omega)]
theorem three_rune (s : ByteArray) (h0 : B s 0 / 16 = 14) : Ev (fun k => spec_l1Rune.j2 k s ((B s 0 % 16 : Nat) : Int) ((3 : Nat) : Int) ((2048 : Nat) : Int)) (runeN s.size (B s 0) (B s 1) (B s 2) (B s 3)) := by
  have hb := B_lt s 0
  by_cases hz : s.size < 3
  · rw [bad_N]
    · exact j2_few s _ 3 2048 hz
    · unfold Lib.decodeN
      rw [if_neg (by omega), if_neg (by omega), if_neg (by omega), if_neg (by omega)]
  · refine j2_go s _ 3 2048 (by omega) _ ?_
    by_cases c1 : B s 1 / 64 = 2
    · refine l0_go s _ 3 2048 1 (by omega) (by omega) (by omega) (by omega) c1 _ ?_
      by_cases c2 : B s 2 / 64 = 2
      · refine l0_go s _ 3 2048 2 (by omega) (by omega) (by omega) (by omega) c2 _ ?_
        have e : runeN s.size (B s 0) (B s 1) (B s 2) (B s 3) = finV (64 * (64 * (B s 0 % 16) + B s 1 % 64) + B s 2 % 64) 3 2048 := by
          obtain ⟨y, hy⟩ : ∃ y, 64 * (64 * (B s 0 % 16) + B s 1 % 64) + B s 2 % 64 = y := ⟨_, rfl⟩
          have hy2 : B s 0 % 16 * 4096 + B s 1 % 64 * 64 + B s 2 % 64 = y := by omega
          unfold runeN Lib.decodeN
          rw [hy, hy2, if_neg (show ¬ B s 0 < 128 by omega), if_neg (show ¬ (B s 0 / 32 = 6 ∧ (1 < s.size ∧ B s 1 / 64 = 2)) by omega), if_pos (show B s 0 / 16 = 14 ∧ (1 < s.size ∧ B s 1 / 64 = 2) ∧ (2 < s.size ∧ B s 2 / 64 = 2) from ⟨h0, ⟨by omega, c1⟩, by omega, c2⟩)]
          clear hy hy2
          unfold finV charB
          by_cases d : y < 2048
          · rw [if_neg (show ¬ (y ≥ 2048 ∧ (y < 55296 ∨ (57344 ≤ y ∧ y ≤ 1114111))) by omega), if_pos d]; rfl
          · by_cases d2 : y < 55296 ∨ (57344 ≤ y ∧ y ≤ 1114111)
            · rw [if_pos (show y ≥ 2048 ∧ (y < 55296 ∨ (57344 ≤ y ∧ y ≤ 1114111)) from ⟨by omega, d2⟩), if_neg (show ¬ (((y, 3) : Nat × Nat).1 = 65533 ∧ ((y, 3) : Nat × Nat).2 = 1) from fun h => by cases h.2), if_neg d, if_pos (show (decide (y ≤ 55295) || (decide (57344 ≤ y) && decide (y ≤ 1114111))) = true by simp only [Bool.or_eq_true, Bool.and_eq_true, decide_eq_true_eq]; omega)]
            · rw [if_neg (show ¬ (y ≥ 2048 ∧ (y < 55296 ∨ (57344 ≤ y ∧ y ≤ 1114111))) by omega), if_neg d, if_neg (show ¬ ((decide (y ≤ 55295) || (decide (57344 ≤ y) && decide (y ≤ 1114111))) = true) by simp only [Bool.or_eq_true, Bool.and_eq_true, decide_eq_true_eq]; omega)]; rfl
        rw [e]
        exact l0_end s _ 3 2048
      · rw [bad_N]
        · exact l0_no s _ 3 2048 2 (by omega) (by omega) c2
        · unfold Lib.decodeN
          rw [if_neg (by omega), if_neg (by omega), if_neg (by omega), if_neg (by omega)]
    · rw [bad_N]
      · exact l0_no s _ 3 2048 1 (by omega) (by omega) c1
      · unfold Lib.decodeN
        rw [if_neg (by omega), if_neg (by omega), if_neg (by omega), if_neg (by omega)]
theorem four_rune (s : ByteArray) (h0 : B s 0 / 8 = 30) : Ev (fun k => spec_l1Rune.j2 k s ((B s 0 % 8 : Nat) : Int) ((4 : Nat) : Int) ((65536 : Nat) : Int)) (runeN s.size (B s 0) (B s 1) (B s 2) (B s 3)) := by
  have hb := B_lt s 0
  by_cases hz : s.size < 4
  · rw [bad_N]
    · exact j2_few s _ 4 65536 hz
    · unfold Lib.decodeN
      rw [if_neg (by omega), if_neg (by omega), if_neg (by omega), if_neg (by omega)]
  · refine j2_go s _ 4 65536 (by omega) _ ?_
    by_cases c1 : B s 1 / 64 = 2
    · refine l0_go s _ 4 65536 1 (by omega) (by omega) (by omega) (by omega) c1 _ ?_
      by_cases c2 : B s 2 / 64 = 2
      · refine l0_go s _ 4 65536 2 (by omega) (by omega) (by omega) (by omega) c2 _ ?_
        by_cases c3 : B s 3 / 64 = 2
        · refine l0_go s _ 4 65536 3 (by omega) (by omega) (by omega) (by omega) c3 _ ?_
          have e : runeN s.size (B s 0) (B s 1) (B s 2) (B s 3) = finV (64 * (64 * (64 * (B s 0 % 8) + B s 1 % 64) + B s 2 % 64) + B s 3 % 64) 4 65536 := by
            obtain ⟨y, hy⟩ : ∃ y, 64 * (64 * (64 * (B s 0 % 8) + B s 1 % 64) + B s 2 % 64) + B s 3 % 64 = y := ⟨_, rfl⟩
            have hy2 : B s 0 % 8 * 262144 + B s 1 % 64 * 4096 + B s 2 % 64 * 64 + B s 3 % 64 = y := by omega
            unfold runeN Lib.decodeN
            rw [hy, hy2, if_neg (show ¬ B s 0 < 128 by omega), if_neg (show ¬ (B s 0 / 32 = 6 ∧ (1 < s.size ∧ B s 1 / 64 = 2)) by omega), if_neg (show ¬ (B s 0 / 16 = 14 ∧ (1 < s.size ∧ B s 1 / 64 = 2) ∧ (2 < s.size ∧ B s 2 / 64 = 2)) by omega), if_pos (show B s 0 / 8 = 30 ∧ (1 < s.size ∧ B s 1 / 64 = 2) ∧ (2 < s.size ∧ B s 2 / 64 = 2) ∧ (3 < s.size ∧ B s 3 / 64 = 2) from ⟨h0, ⟨by omega, c1⟩, ⟨by omega, c2⟩, by omega, c3⟩)]
            clear hy hy2
            unfold finV charB
            by_cases d : y < 65536
            · rw [if_neg (show ¬ (y ≥ 65536 ∧ (y < 55296 ∨ (57344 ≤ y ∧ y ≤ 1114111))) by omega), if_pos d]; rfl
            · by_cases d2 : y < 55296 ∨ (57344 ≤ y ∧ y ≤ 1114111)
              · rw [if_pos (show y ≥ 65536 ∧ (y < 55296 ∨ (57344 ≤ y ∧ y ≤ 1114111)) from ⟨by omega, d2⟩), if_neg (show ¬ (((y, 4) : Nat × Nat).1 = 65533 ∧ ((y, 4) : Nat × Nat).2 = 1) from fun h => by cases h.2), if_neg d, if_pos (show (decide (y ≤ 55295) || (decide (57344 ≤ y) && decide (y ≤ 1114111))) = true by simp only [Bool.or_eq_true, Bool.and_eq_true, decide_eq_true_eq]; omega)]
              · rw [if_neg (show ¬ (y ≥ 65536 ∧ (y < 55296 ∨ (57344 ≤ y ∧ y ≤ 1114111))) by omega), if_neg d, if_neg (show ¬ ((decide (y ≤ 55295) || (decide (57344 ≤ y) && decide (y ≤ 1114111))) = true) by simp only [Bool.or_eq_true, Bool.and_eq_true, decide_eq_true_eq]; omega)]; rfl
          rw [e]
          exact l0_end s _ 4 65536
        · rw [bad_N]
          · exact l0_no s _ 4 65536 3 (by omega) (by omega) c3
          · unfold Lib.decodeN
            rw [if_neg (by omega), if_neg (by omega), if_neg (by omega), if_neg (by omega)]
      · rw [bad_N]
        · exact l0_no s _ 4 65536 2 (by omega) (by omega) c2
        · unfold Lib.decodeN
          rw [if_neg (by omega), if_neg (by omega), if_neg (by omega), if_neg (by omega)]
    · rw [bad_N]
      · exact l0_no s _ 4 65536 1 (by omega) (by omega) c1
      · unfold Lib.decodeN
        rw [if_neg (by omega), if_neg (by omega), if_neg (by omega), if_neg (by omega)]
theorem tmod_of (b m : Nat) : Int.tmod (b : Int) (m : Int) = ((b % m : Nat) : Int) := tm b m
theorem j0_true (k : Nat) (s : ByteArray) (x : Int) : spec_l1Rune.j0 (k + 1) s x true = spec_l1Rune.j2 k s (Int.tmod x 32) 2 128 := rfl
theorem j0_false (k : Nat) (s : ByteArray) (x : Int) : spec_l1Rune.j0 (k + 1) s x false = (if x ≥ 224 then (spec_l1Rune.j1 k s x (decide (x < 240))) else (spec_l1Rune.j1 k s x false)) := rfl
theorem j1_true (k : Nat) (s : ByteArray) (x : Int) : spec_l1Rune.j1 (k + 1) s x true = spec_l1Rune.j2 k s (Int.tmod x 16) 3 2048 := rfl
theorem j1_false (k : Nat) (s : ByteArray) (x : Int) : spec_l1Rune.j1 (k + 1) s x false = (if x ≥ 240 then (if x < 248 then (spec_l1Rune.j2 k s (Int.tmod x 8) 4 65536) else (some (0, 0))) else (some (0, 0))) := rfl
theorem rune_f (s : ByteArray) (hne : 0 < s.size) : Ev (fun k => spec_l1Rune.f k s) (runeV s) := by
  rw [runeV_N]
  have hb := B_lt s 0
  have hnil : ¬ s.toList = ([] : List UInt8) := by
    rw [Lib.toList_data]
    intro e
    rw [sz, e] at hne
    simp at hne
  have hw : wrap64 (bt s 0) = (B s 0 : Int) := by
    have := bt_B s 0 hne
    rw [show ((0 : Nat) : Int) = 0 from rfl] at this
    rw [this, w64] <;> omega
  by_cases a : B s 0 < 128
  · refine Ev.congr (f := fun _ => some ((B s 0 : Int), 1)) (fun k => ?_) ?_
    · unfold spec_l1Rune.f
      rw [if_neg hnil, if_pos (by omega), hw, if_pos (by omega)]
    · have : runeN s.size (B s 0) (B s 1) (B s 2) (B s 3) = ((B s 0 : Int), 1) := by
        unfold runeN Lib.decodeN
        rw [if_pos a, if_neg (show ¬ (B s 0 = 65533 ∧ (1 : Nat) = 1) by omega)]
        rfl
      rw [this]
      exact Ev.now _
  · have hf : ∀ k, spec_l1Rune.f k s = if (B s 0 : Int) ≥ 192 then (spec_l1Rune.j0 k s (B s 0 : Int) (decide ((B s 0 : Int) < 224))) else (spec_l1Rune.j0 k s (B s 0 : Int) false) := by
      intro k
      unfold spec_l1Rune.f
      rw [if_neg hnil, if_pos (by omega), hw, if_neg (by omega)]
    by_cases c2 : B s 0 / 32 = 6
    · refine Ev.congr (f := fun k => spec_l1Rune.j0 k s (B s 0 : Int) true) (fun k => ?_) ?_
      · rw [hf, if_pos (by omega), decide_eq_true (by omega)]
      · refine Ev.step (f := fun k => spec_l1Rune.j2 k s ((B s 0 % 32 : Nat) : Int) ((2 : Nat) : Int) ((128 : Nat) : Int)) (fun k => ?_) (two_rune s c2)
        rw [j0_true, ← tmod_of]
        rfl
    · have hj1 : ∀ r, Ev (fun k => if (B s 0 : Int) ≥ 224 then (spec_l1Rune.j1 k s (B s 0 : Int) (decide ((B s 0 : Int) < 240))) else (spec_l1Rune.j1 k s (B s 0 : Int) false)) r → Ev (fun k => spec_l1Rune.f k s) r := by
        intro r hr
        refine Ev.congr (f := fun k => spec_l1Rune.j0 k s (B s 0 : Int) false) (fun k => ?_) ?_
        · rw [hf]
          by_cases d : (B s 0 : Int) ≥ 192
          · rw [if_pos d, decide_eq_false (by omega)]
          · rw [if_neg d]
        · exact Ev.step (fun k => j0_false k s _) hr
      by_cases c3 : B s 0 / 16 = 14
      · refine hj1 _ ?_
        refine Ev.congr (f := fun k => spec_l1Rune.j1 k s (B s 0 : Int) true) (fun k => ?_) ?_
        · rw [if_pos (by omega), decide_eq_true (by omega)]
        · refine Ev.step (f := fun k => spec_l1Rune.j2 k s ((B s 0 % 16 : Nat) : Int) ((3 : Nat) : Int) ((2048 : Nat) : Int)) (fun k => ?_) (three_rune s c3)
          rw [j1_true, ← tmod_of]
          rfl
      · have hj1f : ∀ r, Ev (fun k => if (B s 0 : Int) ≥ 240 then (if (B s 0 : Int) < 248 then (spec_l1Rune.j2 k s (Int.tmod (B s 0 : Int) 8) 4 65536) else (some (0, 0))) else (some (0, 0))) r → Ev (fun k => spec_l1Rune.f k s) r := by
          intro r hr
          refine hj1 _ ?_
          refine Ev.congr (f := fun k => spec_l1Rune.j1 k s (B s 0 : Int) false) (fun k => ?_) ?_
          · by_cases d : (B s 0 : Int) ≥ 224
            · rw [if_pos d, decide_eq_false (by omega)]
            · rw [if_neg d]
          · exact Ev.step (fun k => j1_false k s _) hr
        refine hj1f _ ?_
        by_cases c4 : B s 0 / 8 = 30
        · refine Ev.congr (f := fun k => spec_l1Rune.j2 k s ((B s 0 % 8 : Nat) : Int) ((4 : Nat) : Int) ((65536 : Nat) : Int)) (fun k => ?_) (four_rune s c4)
          rw [if_pos (by omega), if_pos (by omega), ← tmod_of]
          rfl
        · rw [bad_N]
          · refine Ev.congr (f := fun _ => some (0, 0)) (fun k => ?_) (Ev.now _)
            by_cases d : (B s 0 : Int) ≥ 240
            · rw [if_pos d, if_neg (by omega)]
            · rw [if_neg d]
          · unfold Lib.decodeN
            rw [if_neg (by omega), if_neg (by omega), if_neg (by omega), if_neg (by omega)]
def runesV (s : ByteArray) : List Int × Bool := if 20000 < s.size then ([], false) else if Lib.validD s.data.toList = true then (runesOf s, true) else ([], false)
theorem impl_runes (s : ByteArray) (hs : s.size ≤ 9223372036854775807) : impl_Runes.f s = some (runesV s) := by
  unfold impl_Runes.f runesV
  rw [if_pos hs]
  split
  · rfl
  · split <;> rfl
theorem spec_runes_l0 (s : ByteArray) (hs : s.size ≤ 20000) : ∀ (fuel pos : Nat) (acc : List Int), s.size ≤ pos + fuel → pos ≤ s.size → acc.length ≤ pos →
    Ev (fun k => spec_Runes.l0 k (s.extract pos s.size) acc) (if Lib.validD (s.data.toList.drop pos) = true then (acc ++ runesFrom s fuel pos, true) else ([], false)) := by
  intro fuel
  have hend : ∀ (fuel pos : Nat) (acc : List Int), pos = s.size → Ev (fun k => spec_Runes.l0 k (s.extract pos s.size) acc) (if Lib.validD (s.data.toList.drop pos) = true then (acc ++ runesFrom s fuel pos, true) else ([], false)) := by
    intro fuel pos acc e
    have hd : s.data.toList.drop pos = [] := List.drop_of_length_le (by rw [← sz]; omega)
    rw [runesFrom_end s fuel pos (by omega), hd, Lib.validD_nil, if_pos rfl, List.append_nil]
    refine Ev.step (f := fun _ => some (acc, true)) (fun k => ?_) (Ev.now _)
    conv => lhs; unfold spec_Runes.l0
    rw [if_pos (by rw [Lib.toList_data, Lib.extract_to_end, hd])]
  induction fuel with
  | zero =>
    intro pos acc h1 h2 h3
    exact hend 0 pos acc (by omega)
  | succ f ih =>
    intro pos acc h1 h2 h3
    by_cases he : pos = s.size
    · exact hend (f + 1) pos acc he
    · obtain ⟨t, ht⟩ : ∃ t, s.extract pos s.size = t := ⟨_, rfl⟩
      have htl : t.data.toList = s.data.toList.drop pos := by rw [← ht]; exact Lib.extract_to_end s pos
      have htz : t.size = s.size - pos := by rw [sz t, htl, List.length_drop, ← sz]
      have hne : s.data.toList.drop pos ≠ [] := by
        intro e
        have := congrArg List.length e
        rw [List.length_drop, ← sz] at this
        simp at this
        omega
      have hdec : Utf8.decode t 0 = Utf8.decode s pos := by
        have e1 := Lib.decodeL_drop t 0
        have e2 := Lib.decodeL_drop s pos
        rw [List.drop_zero, htl] at e1
        rw [← e1, e2]
      have hdl := Lib.decodeL_drop s pos
      have hstep := Lib.validD_step (s.data.toList.drop pos) hne
      have hle := Lib.decodeL_le (s.data.toList.drop pos) hne
      rw [hdl] at hstep hle
      rw [List.length_drop, ← sz] at hle
      have hw := rune_width s pos (by omega)
      have hr := rune_f t (by omega)
      have hV : runeV t = if (Utf8.decode s pos).1 = 65533 ∧ (Utf8.decode s pos).2 = 1 then (0, 0) else (((Utf8.decode s pos).1 : Int), ((Utf8.decode s pos).2 : Int)) := by
        unfold runeV
        rw [hdec]
      have hnil : ¬ t.toList = ([] : List UInt8) := by rw [Lib.toList_data, htl]; exact hne
      rw [ht]
      have hf : ∀ k, spec_Runes.l0 (k + 1) t acc = (spec_l1Rune.f k t).bind fun bt111 => (if bt111.2 = 0 then (some (([] : List Int), false)) else (if acc.length < 17592186044416 then (if 0 ≤ bt111.2 then (if bt111.2 ≤ (t.size : Int) then (spec_Runes.l0 k (t.extract (bt111.2 : Int).toNat t.size) (acc ++ [bt111.1])) else (none)) else (none)) else (none))) := by
        intro k
        conv => lhs; unfold spec_Runes.l0
        rw [if_neg hnil]
      refine Ev.step hf (Ev.bind hr ?_)
      rw [hV, hstep]
      by_cases hb : (Utf8.decode s pos).1 = 65533 ∧ (Utf8.decode s pos).2 = 1
      · rw [if_pos hb, if_pos hb, if_neg (by decide)]
        simp only [if_true]
        exact Ev.now _
      · rw [if_neg hb, if_neg hb]
        have hx : t.extract (Utf8.decode s pos).2 t.size = s.extract (pos + (Utf8.decode s pos).2) s.size := by
          apply ba_ext
          rw [Lib.extract_to_end, htl, Lib.extract_to_end, List.drop_drop]
        have hih := ih (pos + (Utf8.decode s pos).2) (acc ++ [((Utf8.decode s pos).1 : Int)]) (by omega) (by omega) (by simp; omega)
        rw [List.drop_drop]
        have hrf : runesFrom s (f + 1) pos = ((Utf8.decode s pos).1 : Int) :: runesFrom s f (pos + (Utf8.decode s pos).2) := by
          simp [runesFrom, show pos < s.size by omega]
        rw [hrf, ← hx] at *
        simp only [if_neg (show ¬ ((Utf8.decode s pos).2 : Int) = 0 by omega), if_pos (show acc.length < 17592186044416 by omega), if_pos (show (0 : Int) ≤ ((Utf8.decode s pos).2 : Int) by omega), if_pos (show ((Utf8.decode s pos).2 : Int) ≤ (t.size : Int) by omega), Int.toNat_natCast]
        simpa using hih
theorem spec_runes (s : ByteArray) : Ev (fun k => spec_Runes.f k s) (runesV s) := by
  unfold runesV
  by_cases c : 20000 < s.size
  · rw [if_pos c]
    refine Ev.congr (f := fun _ => some (([] : List Int), false)) (fun k => ?_) (Ev.now _)
    unfold spec_Runes.f
    rw [if_pos (by omega)]
  · rw [if_neg c]
    have h := spec_runes_l0 s (by omega) s.size 0 [] (by omega) (by omega) (by simp)
    have e : s.extract 0 s.size = s := by apply ba_ext; rw [Lib.extract_to_end, List.drop_zero]
    rw [e, List.drop_zero, List.nil_append] at h
    refine Ev.congr (f := fun k => spec_Runes.l0 k s []) (fun k => ?_) h
    unfold spec_Runes.f
    rw [if_neg (by omega)]
theorem Ev.step2' {α : Type} {g f : Nat → Option α} {r : α} (h : ∀ k, g (k + 1 + 1) = f k) (k : Ev f r) : Ev g r := Ev.step (f := fun k => g (k + 1)) (fun _ => rfl) (Ev.step h k)
theorem w1n {i m : Nat} (h : i < m) (hm : m ≤ 9223372036854775807) : wrap64 ((i : Int) + 1) = ((i + 1 : Nat) : Int) := by rw [w64] <;> omega
theorem idx_is {l : List UInt8} {c : UInt8} {i : Nat} (h1 : l[i]? = some c) (h2 : ∀ k : Nat, k < i → l[k]? ≠ some c) : Lib.indexByte l c = (i : Int) := by
  have hge := Lib.indexByte_ge l c
  by_cases e : Lib.indexByte l c = -1
  · exact absurd h1 (Lib.indexByte_none e i)
  · obtain ⟨o, ho⟩ := Int.eq_ofNat_of_zero_le (show 0 ≤ Lib.indexByte l c by omega)
    obtain ⟨h3, h4⟩ := Lib.indexByte_some ho
    rw [ho]
    rcases Nat.lt_trichotomy o i with h | h | h
    · exact absurd h3 (h2 o h)
    · rw [h]
    · exact absurd h1 (h4 i h)
theorem idx_no {l : List UInt8} {c : UInt8} (h : ∀ k : Nat, l[k]? ≠ some c) : Lib.indexByte l c = -1 := by
  have hge := Lib.indexByte_ge l c
  by_cases e : Lib.indexByte l c = -1
  · exact e
  · obtain ⟨o, ho⟩ := Int.eq_ofNat_of_zero_le (show 0 ≤ Lib.indexByte l c by omega)
    exact absurd (Lib.indexByte_some ho).1 (h o)
def noB : ByteArray := ⟨#[]⟩
/-- A name: its prefix, and what stands behind it. -/
def splitV (s : ByteArray) : ByteArray × ByteArray × Bool :=
  if 0 ≤ Lib.indexByte s.data.toList 58 then (if nameB (s.data.toList.take (Lib.indexByte s.data.toList 58).toNat) = true then (if nameB (s.data.toList.drop ((Lib.indexByte s.data.toList 58).toNat + 1)) = true then (s.extract 0 (Lib.indexByte s.data.toList 58).toNat, s.extract ((Lib.indexByte s.data.toList 58).toNat + 1) s.size, true) else (noB, noB, false)) else (noB, noB, false))
  else if nameB s.data.toList = true then (noB, s, true) else (noB, noB, false)
theorem ex_to (s : ByteArray) (n : Nat) : (s.extract 0 n).data.toList = s.data.toList.take n := by
  simp [ByteArray.data_extract]
theorem ex_from (s : ByteArray) (n : Nat) : (s.extract n s.size).data.toList = s.data.toList.drop n := Lib.extract_to_end s n
theorem impl_split (s : ByteArray) (hs : s.data.toList.length ≤ 9223372036854775806) : Ev (fun k => impl_Split.f k s) (splitV s) := by
  have hc : strings_Cut.f s ⟨#[58]⟩ = some (if 0 ≤ Lib.indexByte s.data.toList 58 then (s.extract 0 (Lib.indexByte s.data.toList 58).toNat, s.extract ((Lib.indexByte s.data.toList 58).toNat + 1) s.size, true) else (s, ⟨#[]⟩, false)) := by
    unfold strings_Cut.f
    simp only
    rw [if_pos (by rw [sz]; omega)]
    split <;> rfl
  unfold splitV
  by_cases h : 0 ≤ Lib.indexByte s.data.toList 58
  · rw [if_pos h] at hc ⊢
    have n1 := impl_name (s.extract 0 (Lib.indexByte s.data.toList 58).toNat) (by rw [ex_to, List.length_take]; omega)
    have n2 := impl_name (s.extract ((Lib.indexByte s.data.toList 58).toNat + 1) s.size) (by rw [ex_from, List.length_drop]; omega)
    rw [ex_to] at n1
    rw [ex_from] at n2
    generalize Lib.indexByte s.data.toList 58 = i at *
    refine Ev.congr (f := fun k => impl_Split.j0 k s (s.extract 0 i.toNat) (s.extract (i.toNat + 1) s.size) true false) (fun k => ?_) ?_
    · unfold impl_Split.f
      rw [hc, Option.bind_some]
      simp only [if_true]
    · refine Ev.step (f := fun k => (impl_NameOk.f k (s.extract 0 i.toNat)).bind fun t320 => (if t320 = true then ((impl_NameOk.f k (s.extract (i.toNat + 1) s.size)).bind fun t321 => (if t321 = true then (some (s.extract 0 i.toNat, s.extract (i.toNat + 1) s.size, true)) else (some (noB, noB, false)))) else (some (noB, noB, false)))) (fun k => ?_) (Ev.bind n1 ?_)
      · conv => lhs; unfold impl_Split.j0
        simp only [Bool.false_eq_true, if_false, if_true]
        rfl
      · cases nameB (s.data.toList.take i.toNat) with
        | false => exact Ev.now _
        | true =>
          simp only [if_true]
          refine Ev.bind n2 ?_
          cases nameB (s.data.toList.drop (i.toNat + 1)) <;> exact Ev.now _
  · rw [if_neg h] at hc ⊢
    have n1 := impl_name s hs
    refine Ev.congr (f := fun k => (impl_NameOk.f k s).bind fun t319 => impl_Split.j0 k s s ⟨#[]⟩ false t319) (fun k => ?_) (Ev.bind n1 ?_)
    · unfold impl_Split.f
      rw [hc, Option.bind_some]
      simp only [Bool.false_eq_true, if_false]
    · cases nameB s.data.toList with
      | false =>
        refine Ev.step (f := fun _ => some (noB, noB, false)) (fun k => ?_) (Ev.now _)
        conv => lhs; unfold impl_Split.j0
        simp only [Bool.false_eq_true, if_false]
        rfl
      | true =>
        refine Ev.step (f := fun _ => some (noB, s, true)) (fun k => ?_) (Ev.now _)
        conv => lhs; unfold impl_Split.j0
        simp only [if_true]
        rfl
theorem spec_split_l0 (s : ByteArray) (hs : s.data.toList.length ≤ 9223372036854775806) : ∀ (n i : Nat), i + n = s.data.toList.length → (∀ k : Nat, k < i → s.data.toList[k]? ≠ some 58) →
    Ev (fun k => spec_Split.l0 k s (-1) (i : Int)) (splitV s) := by
  intro n
  induction n with
  | zero =>
    intro i hi hno
    have hidx : Lib.indexByte s.data.toList 58 = -1 := idx_no (fun k => by
      by_cases hk : k < i
      · exact hno k hk
      · rw [List.getElem?_eq_none (by omega)]; simp)
    unfold splitV
    rw [if_neg (by rw [hidx]; decide)]
    refine Ev.step2' (f := fun k => (spec_NameOk.f k s).bind fun t134 => (if t134 = true then (some (noB, s, true)) else (some (noB, noB, false)))) (fun k => ?_) (Ev.bind (spec_name s) ?_)
    · conv => lhs; unfold spec_Split.l0
      rw [if_neg (by rw [sz]; omega)]
      conv => lhs; unfold spec_Split.j1
      rw [if_neg (by decide), if_pos (by decide)]
      rfl
    · cases nameB s.data.toList <;> exact Ev.now _
  | succ n ih =>
    intro i hi hno
    have hlt : i < s.data.toList.length := by omega
    have hw : wrap64 ((i : Int) + 1) = ((i + 1 : Nat) : Int) := w1n hlt (by omega)
    by_cases c : s.data.toList[i] = 58
    · have h58 : s.data.toList[i]? = some 58 := by rw [List.getElem?_eq_getElem hlt, c]
      have hidx := idx_is h58 hno
      have hb : bt s (i : Int) = 58 := by rw [bt_nat s i hlt, c]; rfl
      unfold splitV
      rw [hidx, if_pos (by omega), Int.toNat_natCast]
      have n1 := spec_name (s.extract 0 i)
      have n2 := spec_name (s.extract (i + 1) s.size)
      rw [ex_to] at n1
      rw [ex_from] at n2
      have hw2 : 0 ≤ ((i + 1 : Nat) : Int) := by omega
      have goal : Ev (fun k => spec_Split.j1 k s (i : Int) ((i + 1 : Nat) : Int) false) (if nameB (s.data.toList.take i) = true then (if nameB (s.data.toList.drop (i + 1)) = true then (s.extract 0 i, s.extract (i + 1) s.size, true) else (noB, noB, false)) else (noB, noB, false)) := by
        refine Ev.step (f := fun k => (spec_NameOk.f k (s.extract 0 i)).bind fun t135 => (if t135 = true then ((spec_NameOk.f k (s.extract (i + 1) s.size)).bind fun t136 => (if t136 = true then (some (s.extract 0 i, s.extract (i + 1) s.size, true)) else (some (noB, noB, false)))) else (some (noB, noB, false)))) (fun k => ?_) (Ev.bind n1 ?_)
        · conv => lhs; unfold spec_Split.j1
          rw [if_neg (by decide), if_neg (by omega), if_pos (by omega), if_pos (by rw [sz]; omega), hw]
          simp only [Int.toNat_natCast, if_pos hw2, if_pos (show ((i + 1 : Nat) : Int) ≤ (s.size : Int) by rw [sz]; omega)]
          rfl
        · cases nameB (s.data.toList.take i) with
          | false => exact Ev.now _
          | true =>
            simp only [if_true]
            refine Ev.bind n2 ?_
            cases nameB (s.data.toList.drop (i + 1)) <;> exact Ev.now _
      have step2 : Ev (fun k => spec_Split.l0 k s (i : Int) ((i + 1 : Nat) : Int)) (if nameB (s.data.toList.take i) = true then (if nameB (s.data.toList.drop (i + 1)) = true then (s.extract 0 i, s.extract (i + 1) s.size, true) else (noB, noB, false)) else (noB, noB, false)) := by
        refine Ev.step (fun k => ?_) goal
        conv => lhs; unfold spec_Split.l0
        split
        · rw [decide_eq_false (by omega)]
        · rfl
      refine Ev.step2' (fun k => ?_) step2
      conv => lhs; unfold spec_Split.l0
      rw [if_pos (by rw [sz]; omega), decide_eq_true (by omega)]
      conv => lhs; unfold spec_Split.j1
      rw [if_pos rfl, if_pos (by omega), if_pos (by rw [sz]; omega), if_pos hb, hw]
    · have hb : ¬ bt s (i : Int) = 58 := by
        rw [bt_nat s i hlt]
        exact fun h => c ((byte_is s.data.toList[i] 58 (by decide)).1 h)
      refine Ev.step2' (fun k => ?_) (ih (i + 1) (by omega) (fun k hk => ?_))
      · conv => lhs; unfold spec_Split.l0
        rw [if_pos (by rw [sz]; omega), decide_eq_true (by omega)]
        conv => lhs; unfold spec_Split.j1
        rw [if_pos rfl, if_pos (by omega), if_pos (by rw [sz]; omega), if_neg hb, hw]
      · by_cases e : k = i
        · subst e
          rw [List.getElem?_eq_getElem hlt]
          simpa using c
        · exact hno k (by omega)
theorem spec_split (s : ByteArray) (hs : s.data.toList.length ≤ 9223372036854775806) : Ev (fun k => spec_Split.f k s) (splitV s) := by
  refine Ev.congr (fun k => ?_) (spec_split_l0 s hs s.data.toList.length 0 (by omega) (fun k hk => by omega))
  rfl
def qualV (s : ByteArray) : Bool := (splitV s).2.2
theorem impl_qual (s : ByteArray) (hs : s.data.toList.length ≤ 9223372036854775806) : Ev (fun k => impl_isQualified.f k s) (qualV s) := by
  refine Ev.congr (f := fun k => (impl_Split.f k s).bind fun bt322 => (some bt322.2.2)) (fun k => rfl) (Ev.bind (impl_split s hs) (Ev.now _))
theorem spec_qual (s : ByteArray) (hs : s.data.toList.length ≤ 9223372036854775806) : Ev (fun k => spec_l1Qual.f k s) (qualV s) := by
  refine Ev.congr (f := fun k => (spec_Split.f k s).bind fun bt322 => (some bt322.2.2)) (fun k => rfl) (Ev.bind (spec_split s hs) (Ev.now _))
/-! plain texts -/
def inZ (n a b : Int) : Bool := decide (a ≤ n) && decide (n ≤ b)
def charZ (n : Int) : Bool := decide (n = 9) || decide (n = 10) || decide (n = 13) || inZ n 32 55295 || inZ n 57344 65533 || inZ n 65536 1114111
theorem impl_in' (n a b : Int) : impl_in.f n a b = some (inZ n a b) := by
  unfold impl_in.f inZ
  split
  · rename_i h; have h' : a ≤ n := by omega
    simp [h']
  · rename_i h; have h' : ¬ a ≤ n := by omega
    simp [h']
theorem spec_in' (n a b : Int) : spec_l1In.f n a b = some (inZ n a b) := by
  unfold spec_l1In.f inZ
  split
  · rename_i h; have h' : a ≤ n := by omega
    simp [h']
  · rename_i h; have h' : ¬ a ≤ n := by omega
    simp [h']
theorem impl_char (n : Int) : impl_CharOk.f n = some (charZ n) := by
  unfold impl_CharOk.f charZ
  simp only [impl_in', Option.bind_some]
  by_cases h1 : n = 9
  · simp [h1]
  by_cases h2 : n = 10
  · simp [h2]
  by_cases h3 : n = 13
  · simp [h3]
  rw [if_neg h1, if_neg h2, if_neg h3, decide_eq_false h1, decide_eq_false h2, decide_eq_false h3]
  cases inZ n 32 55295 <;> cases inZ n 57344 65533 <;> rfl
theorem spec_char (n : Int) : spec_CharOk.f n = some (charZ n) := by
  unfold spec_CharOk.f charZ
  simp only [spec_in', Option.bind_some]
  by_cases h1 : n = 9
  · simp [h1]
  by_cases h2 : n = 10
  · simp [h2]
  by_cases h3 : n = 13
  · simp [h3]
  rw [if_neg h1, if_neg h2, if_neg h3, decide_eq_false h1, decide_eq_false h2, decide_eq_false h3]
  cases inZ n 32 55295 <;> cases inZ n 57344 65533 <;> rfl
def plainV (s : ByteArray) : Bool := (runesV s).2 && (runesV s).1.all charZ
theorem rdZ (l : List Int) (i : Nat) (h : i < l.length) : rd l (i : Int) = l[i] := by
  unfold rd
  simp [h]
theorem impl_plain_l0 (l : List Int) (hl : l.length ≤ 9223372036854775807) : ∀ (n i : Nat) (b : Bool), i + n = l.length → Ev (fun k => impl_isPlain.l0 k b l (l.length : Int) (i : Int)) (b && (l.drop i).all charZ) := by
  intro n
  induction n with
  | zero =>
    intro i b hi
    rw [List.drop_of_length_le (by omega), List.all_nil, Bool.and_true]
    refine Ev.step (f := fun _ => some b) (fun k => ?_) (Ev.now _)
    conv => lhs; unfold impl_isPlain.l0
    rw [if_neg (by omega)]
  | succ n ih =>
    intro i b hi
    have hlt : i < l.length := by omega
    rw [List.drop_eq_getElem_cons hlt, List.all_cons]
    have hw := w1n hlt hl
    cases b with
    | false =>
      refine Ev.step (fun k => ?_) (ih (i + 1) false (by omega))
      conv => lhs; unfold impl_isPlain.l0
      rw [if_pos (by omega), if_pos (by omega), if_pos (by omega), if_neg (by decide), hw]
    | true =>
      rw [Bool.true_and]
      refine Ev.step (fun k => ?_) (ih (i + 1) (charZ l[i]) (by omega))
      conv => lhs; unfold impl_isPlain.l0
      rw [if_pos (by omega), if_pos (by omega), if_pos (by omega), if_pos rfl, rdZ l i hlt, impl_char, Option.bind_some, hw]
theorem runes_len (s : ByteArray) : (runesV s).1.length ≤ s.size := by
  have h : ∀ (f p : Nat), (runesFrom s f p).length ≤ f := by
    intro f
    induction f with
    | zero => intro p; exact Nat.le_refl _
    | succ f ih =>
      intro p
      unfold runesFrom
      split
      · rw [List.length_cons]; have := ih (p + (Utf8.decode s p).2); omega
      · simp
  unfold runesV runesOf
  split
  · simp
  · split
    · exact h _ _
    · simp
theorem impl_plain (s : ByteArray) (hs : s.size ≤ 9223372036854775807) : Ev (fun k => impl_isPlain.f k s) (plainV s) := by
  refine Ev.congr (fun k => ?_) (impl_plain_l0 (runesV s).1 (by have := runes_len s; omega) (runesV s).1.length 0 (runesV s).2 (by omega))
  unfold impl_isPlain.f
  rw [impl_runes s hs]
  rfl
theorem spec_text_l0 (l : List Int) (hl : l.length ≤ 9223372036854775807) : ∀ (n i : Nat), i + n = l.length → Ev (fun k => spec_l1Text.l0 k l (i : Int)) ((l.drop i).all charZ) := by
  intro n
  induction n with
  | zero =>
    intro i hi
    rw [List.drop_of_length_le (by omega), List.all_nil]
    refine Ev.step (f := fun _ => some true) (fun k => ?_) (Ev.now _)
    conv => lhs; unfold spec_l1Text.l0
    rw [if_neg (by omega)]
  | succ n ih =>
    intro i hi
    have hlt : i < l.length := by omega
    rw [List.drop_eq_getElem_cons hlt, List.all_cons]
    have hw := w1n hlt hl
    cases hc : charZ l[i] with
    | false =>
      refine Ev.step (f := fun _ => some false) (fun k => ?_) (Ev.now _)
      conv => lhs; unfold spec_l1Text.l0
      rw [if_pos (by omega), if_pos (by omega), rdZ l i hlt, spec_char, Option.bind_some, hc, if_neg (by decide)]
    | true =>
      rw [Bool.true_and]
      refine Ev.step (fun k => ?_) (ih (i + 1) (by omega))
      conv => lhs; unfold spec_l1Text.l0
      rw [if_pos (by omega), if_pos (by omega), rdZ l i hlt, spec_char, Option.bind_some, hc, if_pos rfl, hw]
theorem spec_text (s : ByteArray) (hs : s.size ≤ 9223372036854775807) : Ev (fun k => spec_l1Text.f k s) (plainV s) := by
  refine Ev.congr (f := fun k => (spec_Runes.f k s).bind fun bt124 => (if bt124.2 = true then (spec_l1Text.l0 k bt124.1 0) else (some false))) (fun k => rfl) (Ev.bind (spec_runes s) ?_)
  unfold plainV
  have hl := runes_len s
  generalize runesV s = p at *
  obtain ⟨l, ok⟩ := p
  cases ok with
  | false => exact Ev.now _
  | true =>
    simp only [if_true, Bool.true_and]
    exact spec_text_l0 l (by simp only at hl; omega) l.length 0 (by omega)
abbrev It : Type := S65
abbrev At : Type := S67
theorem rdIt (l : List It) (i : Nat) (h : i < l.length) : rd_T65 l (i : Int) = l[i] := by
  unfold rd_T65
  simp [h]
theorem rdAt (l : List At) (i : Nat) (h : i < l.length) : rd_T67 l (i : Int) = l[i] := by
  unfold rd_T67
  simp [h]
/-- p holds at d places from i on. -/
def allN (p : Nat → Bool) : Nat → Nat → Bool
  | _, 0 => true
  | i, d + 1 => p i && allN p (i + 1) d
theorem allN_iff {p : Nat → Bool} : ∀ {d i : Nat}, allN p i d = true ↔ ∀ j, i ≤ j → j < i + d → p j = true
  | 0, i => by simp [allN]; omega
  | d + 1, i => by
    rw [allN, Bool.and_eq_true, allN_iff]
    constructor
    · rintro ⟨h1, h2⟩ j h3 h4
      by_cases e : j = i
      · rw [e]; exact h1
      · exact h2 j (by omega) (by omega)
    · exact fun h => ⟨h i (Nat.le_refl _) (by omega), fun j h1 h2 => h j (by omega) (by omega)⟩
def smallA (a : At) : Prop := a.f0.size ≤ 1048576 ∧ a.f1.size ≤ 1048576
def smallAs (l : List At) : Prop := l.length ≤ 1048576 ∧ ∀ a ∈ l, smallA a
def smallI (x : It) : Prop := x.f1.size ≤ 1048576 ∧ x.f2.size ≤ 1048576 ∧ smallAs x.f3
/-- Attribute i is right, and none ahead of it has its name. -/
def attrV (l : List At) (i : Nat) : Bool := match l[i]? with
  | some a => qualV a.f0 && plainV a.f1 && !(l.take i).any (fun b => decide (b.f0.toList = a.f0.toList))
  | none => false
theorem attrV_at {l : List At} {i : Nat} (h : i < l.length) : attrV l i = (qualV l[i].f0 && plainV l[i].f1 && !(l.take i).any (fun b => decide (b.f0.toList = l[i].f0.toList))) := by
  unfold attrV
  rw [List.getElem?_eq_getElem h]
theorem size_len {s : ByteArray} (h : s.size ≤ 1048576) : s.data.toList.length ≤ 9223372036854775806 := by rw [← sz]; omega
section
variable (l : List At) (hl : smallAs l) (z : It)
include hl
theorem sm (i : Nat) (h : i < l.length) : l[i].f0.size ≤ 1048576 ∧ l[i].f1.size ≤ 1048576 := hl.2 _ (List.getElem_mem h)
theorem impl_names_l1 (i : Nat) (hi : i < l.length) (R : Bool) (hR : Ev (fun k => impl_Item_isGood.l0 k l (l.length : Int) ((i + 1 : Nat) : Int) z.f0 z.f1 z.f2 z.f3) R) (v : ByteArray) : ∀ (n j : Nat), j + n = i →
    Ev (fun k => impl_Item_isGood.l1 k l (l.length : Int) (i : Int) (l.take i) ((l.take i).length : Int) (j : Int) z.f0 z.f1 z.f2 z.f3 l[i].f0 v) (!((l.take i).drop j).any (fun b => decide (b.f0.toList = l[i].f0.toList)) && R) := by
  have h1 := hl.1
  have hlen : (l.take i).length = i := by rw [List.length_take]; omega
  intro n
  induction n with
  | zero =>
    intro j hj
    rw [List.drop_of_length_le (by omega)]
    refine Ev.step (fun k => ?_) hR
    conv => lhs; unfold impl_Item_isGood.l1
    rw [if_neg (by omega), w1n hi (by omega)]
  | succ n ih =>
    intro j hj
    have hlt : j < (l.take i).length := by omega
    rw [List.drop_eq_getElem_cons hlt, List.any_cons]
    by_cases c : (l.take i)[j].f0.toList = l[i].f0.toList
    · rw [decide_eq_true c]
      refine Ev.step (f := fun _ => some false) (fun k => ?_) (Ev.now _)
      conv => lhs; unfold impl_Item_isGood.l1
      rw [if_pos (by omega), if_pos (by omega), if_pos (by omega), rdAt _ j hlt, if_pos c.symm]
    · rw [decide_eq_false c, Bool.false_or]
      refine Ev.step (fun k => ?_) (ih (j + 1) (by omega))
      conv => lhs; unfold impl_Item_isGood.l1
      rw [if_pos (by omega), if_pos (by omega), if_pos (by omega), rdAt _ j hlt, if_neg (fun h => c h.symm), w1n hlt (by omega)]
theorem impl_attrs (hz : z.f3 = l) : ∀ (n i : Nat), i + n = l.length → Ev (fun k => impl_Item_isGood.l0 k l (l.length : Int) (i : Int) z.f0 z.f1 z.f2 z.f3) (allN (attrV l) i n) := by
  have h1 := hl.1
  intro n
  induction n with
  | zero =>
    intro i hi
    refine Ev.step (f := fun _ => some true) (fun k => ?_) (Ev.now _)
    conv => lhs; unfold impl_Item_isGood.l0
    rw [if_neg (by omega)]
  | succ n ih =>
    intro i hi
    have hlt : i < l.length := by omega
    have hs := sm l hl i hlt
    rw [allN, attrV_at hlt]
    have q := impl_qual l[i].f0 (size_len hs.1)
    have p := impl_plain l[i].f1 (by omega)
    have tail : ∀ b : Bool, Ev (fun k => impl_Item_isGood.j2 k (i : Int) l (l.length : Int) (i : Int) b z.f0 z.f1 z.f2 z.f3 l[i].f0 l[i].f1) (!b && (!(l.take i).any (fun b => decide (b.f0.toList = l[i].f0.toList)) && allN (attrV l) (i + 1) n)) := by
      intro b
      cases b with
      | true =>
        refine Ev.step (f := fun _ => some false) (fun k => ?_) (Ev.now _)
        conv => lhs; unfold impl_Item_isGood.j2
        rw [if_pos rfl]
      | false =>
        have := impl_names_l1 l hl z i hlt _ (ih (i + 1) (by omega)) l[i].f1 i 0 (by omega)
        refine Ev.step (fun k => ?_) this
        conv => lhs; unfold impl_Item_isGood.j2
        rw [if_neg (by decide), if_pos (by omega), if_pos (by rw [hz]; omega)]
        simp only [Option.bind_some, Int.toNat_natCast, hz]
        rfl
    refine Ev.step (f := fun k => (impl_isQualified.f k l[i].f0).bind fun t330 => (if t330 = true then ((impl_isPlain.f k l[i].f1).bind fun t331 => (impl_Item_isGood.j2 k (i : Int) l (l.length : Int) (i : Int) (!t331) z.f0 z.f1 z.f2 z.f3 l[i].f0 l[i].f1)) else (impl_Item_isGood.j2 k (i : Int) l (l.length : Int) (i : Int) true z.f0 z.f1 z.f2 z.f3 l[i].f0 l[i].f1))) (fun k => ?_) (Ev.bind q ?_)
    · conv => lhs; unfold impl_Item_isGood.l0
      rw [if_pos (by omega), if_pos (by omega), if_pos (by omega), rdAt l i hlt]
    · cases qualV l[i].f0 with
      | false => exact tail true
      | true =>
        simp only [if_true, Bool.true_and]
        refine Ev.bind p ?_
        have := tail (!plainV l[i].f1)
        rw [Bool.not_not] at this
        rw [Bool.and_assoc]
        exact this
omit hl in
theorem spec_names_l1 (hl : smallAs l) (i : Nat) (hi : i < l.length) (R : Bool) (hR : Ev (fun k => spec_l2Attrs.l0 k l ((i + 1 : Nat) : Int)) R) : ∀ (n j : Nat), j + n = i →
    Ev (fun k => spec_l2Attrs.l1 k l (i : Int) (j : Int)) (!((l.take i).drop j).any (fun b => decide (b.f0.toList = l[i].f0.toList)) && R) := by
  have h1 := hl.1
  have hlen : (l.take i).length = i := by rw [List.length_take]; omega
  intro n
  induction n with
  | zero =>
    intro j hj
    rw [List.drop_of_length_le (by omega)]
    refine Ev.step (fun k => ?_) hR
    conv => lhs; unfold spec_l2Attrs.l1
    rw [if_neg (by omega), w1n hi (by omega)]
  | succ n ih =>
    intro j hj
    have hlt : j < (l.take i).length := by omega
    have hj2 : j < l.length := by omega
    have ej : (l.take i)[j] = l[j] := List.getElem_take
    rw [List.drop_eq_getElem_cons hlt, List.any_cons, ej]
    by_cases c : l[j].f0.toList = l[i].f0.toList
    · rw [decide_eq_true c]
      refine Ev.step (f := fun _ => some false) (fun k => ?_) (Ev.now _)
      conv => lhs; unfold spec_l2Attrs.l1
      rw [if_pos (by omega), if_pos (by omega), if_pos (by omega), if_pos (by omega), if_pos (by omega), rdAt _ j hj2, rdAt _ i hi, if_pos c]
    · rw [decide_eq_false c, Bool.false_or]
      refine Ev.step (fun k => ?_) (ih (j + 1) (by omega))
      conv => lhs; unfold spec_l2Attrs.l1
      rw [if_pos (by omega), if_pos (by omega), if_pos (by omega), if_pos (by omega), if_pos (by omega), rdAt _ j hj2, rdAt _ i hi, if_neg c, w1n hlt (by omega)]
theorem spec_attrs_l0 : ∀ (n i : Nat), i + n = l.length → Ev (fun k => spec_l2Attrs.l0 k l (i : Int)) (allN (attrV l) i n) := by
  have h1 := hl.1
  intro n
  induction n with
  | zero =>
    intro i hi
    refine Ev.step (f := fun _ => some true) (fun k => ?_) (Ev.now _)
    conv => lhs; unfold spec_l2Attrs.l0
    rw [if_neg (by omega)]
  | succ n ih =>
    intro i hi
    have hlt : i < l.length := by omega
    have hs := sm l hl i hlt
    rw [allN, attrV_at hlt]
    have q := spec_qual l[i].f0 (size_len hs.1)
    have p := spec_text l[i].f1 (by omega)
    have tail : ∀ b : Bool, Ev (fun k => spec_l2Attrs.j1 k l (i : Int) b) (!b && (!(l.take i).any (fun b => decide (b.f0.toList = l[i].f0.toList)) && allN (attrV l) (i + 1) n)) := by
      intro b
      cases b with
      | true =>
        refine Ev.step (f := fun _ => some false) (fun k => ?_) (Ev.now _)
        conv => lhs; unfold spec_l2Attrs.j1
        rw [if_pos rfl]
      | false =>
        refine Ev.step (fun k => ?_) (spec_names_l1 l hl i hlt _ (ih (i + 1) (by omega)) i 0 (by omega))
        conv => lhs; unfold spec_l2Attrs.j1
        rw [if_neg (by decide)]
        rfl
    refine Ev.step (f := fun k => (spec_l1Qual.f k l[i].f0).bind fun t141 => (if t141 = true then ((spec_l1Text.f k l[i].f1).bind fun t143 => (spec_l2Attrs.j1 k l (i : Int) (!t143))) else (spec_l2Attrs.j1 k l (i : Int) true))) (fun k => ?_) (Ev.bind q ?_)
    · conv => lhs; unfold spec_l2Attrs.l0
      rw [if_pos (by omega), if_pos (by omega), rdAt l i hlt]
    · cases qualV l[i].f0 with
      | false => exact tail true
      | true =>
        simp only [if_true, Bool.true_and]
        refine Ev.bind p ?_
        have := tail (!plainV l[i].f1)
        rw [Bool.not_not] at this
        rw [Bool.and_assoc]
        exact this
def attrsV (l : List At) : Bool := decide (l.length ≤ 10) && allN (attrV l) 0 l.length
theorem spec_attrs : Ev (fun k => spec_l2Attrs.f k l) (attrsV l) := by
  unfold attrsV
  by_cases c : l.length ≤ 10
  · rw [decide_eq_true c, Bool.true_and]
    refine Ev.congr (fun k => ?_) (spec_attrs_l0 l hl l.length 0 (by omega))
    unfold spec_l2Attrs.f
    rw [if_neg (by omega)]
    rfl
  · rw [decide_eq_false c]
    refine Ev.congr (f := fun _ => some false) (fun k => ?_) (Ev.now _)
    unfold spec_l2Attrs.f
    rw [if_pos (by omega)]
end
/-- An item that is right in itself. -/
def goodV (x : It) : Bool := if x.f1.toList = ([] : List UInt8) then (if x.f2.toList = ([] : List UInt8) then false else plainV x.f2 && decide (x.f3.length = 0)) else qualV x.f1 && (if x.f2.toList = ([] : List UInt8) then attrsV x.f3 else false)
theorem impl_good (x : It) (h : smallI x) : Ev (fun k => impl_Item_isGood.f k x.f0 x.f1 x.f2 x.f3) (goodV x) := by
  obtain ⟨h1, h2, h3⟩ := h
  unfold goodV
  by_cases c1 : x.f1.toList = ([] : List UInt8)
  · rw [if_pos c1]
    by_cases c2 : x.f2.toList = ([] : List UInt8)
    · rw [if_pos c2]
      refine Ev.congr (f := fun _ => some false) (fun k => ?_) (Ev.now _)
      unfold impl_Item_isGood.f
      rw [if_pos c1, if_pos c2]
    · rw [if_neg c2]
      refine Ev.congr (f := fun k => (impl_isPlain.f k x.f2).bind fun t326 => (if t326 = true then (some ((x.f3.length : Int) == 0)) else (some false))) (fun k => ?_) (Ev.bind (impl_plain x.f2 (by omega)) ?_)
      · unfold impl_Item_isGood.f
        rw [if_pos c1, if_neg c2]
      · cases plainV x.f2 with
        | false => exact Ev.now _
        | true =>
          have e : ((x.f3.length : Int) == 0) = decide (x.f3.length = 0) := by
            rw [Bool.eq_iff_iff]; simp
          simp only [if_true, Bool.true_and, e]
          exact Ev.now _
  · rw [if_neg c1]
    have tail : ∀ b : Bool, Ev (fun k => impl_Item_isGood.j0 k b x.f0 x.f1 x.f2 x.f3) (!b && allN (attrV x.f3) 0 x.f3.length) := by
      intro b
      cases b with
      | true =>
        exact Ev.step (f := fun _ => some false) (fun k => rfl) (Ev.now _)
      | false =>
        exact Ev.step (fun k => rfl) (impl_attrs x.f3 h3 x rfl x.f3.length 0 (by omega))
    refine Ev.congr (f := fun k => (impl_isQualified.f k x.f1).bind fun t327 => (if t327 = true then (if x.f2.toList = ([] : List UInt8) then (impl_Item_isGood.j0 k (decide ((x.f3.length : Int) > 10)) x.f0 x.f1 x.f2 x.f3) else (impl_Item_isGood.j0 k true x.f0 x.f1 x.f2 x.f3)) else (impl_Item_isGood.j0 k true x.f0 x.f1 x.f2 x.f3))) (fun k => ?_) (Ev.bind (impl_qual x.f1 (size_len h1)) ?_)
    · unfold impl_Item_isGood.f
      rw [if_neg c1]
    · cases qualV x.f1 with
      | false => exact tail true
      | true =>
        simp only [if_true, Bool.true_and]
        by_cases c2 : x.f2.toList = ([] : List UInt8)
        · simp only [if_pos c2]
          unfold attrsV
          have e : (!decide ((x.f3.length : Int) > 10)) = decide (x.f3.length ≤ 10) := by
            rw [Bool.eq_iff_iff]; simp; omega
          rw [← e]
          exact tail _
        · simp only [if_neg c2]
          exact tail true
/-! how many bytes -/
def bytesA : List At → Int
  | [] => 0
  | a :: l => (a.f0.size : Int) + a.f1.size + bytesA l
def bytesV (x : It) : Int := (x.f1.size : Int) + x.f2.size + bytesA x.f3
theorem bytesA_bound : ∀ l : List At, (∀ a ∈ l, smallA a) → 0 ≤ bytesA l ∧ bytesA l ≤ 2097152 * l.length
  | [], _ => ⟨by simp [bytesA], by simp [bytesA]⟩
  | a :: l, h => by
    have h1 := h a (by simp)
    have h2 := bytesA_bound l (fun b hb => h b (by simp [hb]))
    unfold smallA at h1
    unfold bytesA
    simp only [List.length_cons]
    constructor <;> omega
theorem impl_bytes_l0 (l : List At) (hl : smallAs l) : ∀ (n i : Nat) (c : Int), i + n = l.length → 0 ≤ c → c ≤ 4194304 + 2097152 * i → Ev (fun k => impl_Item_bytes.l0 k c l (l.length : Int) (i : Int)) (c + bytesA (l.drop i)) := by
  have h1 := hl.1
  intro n
  induction n with
  | zero =>
    intro i c hi h0 hc
    rw [List.drop_of_length_le (by omega)]
    refine Ev.step (f := fun _ => some c) (fun k => ?_) (by rw [bytesA, Int.add_zero]; exact Ev.now _)
    conv => lhs; unfold impl_Item_bytes.l0
    rw [if_neg (by omega)]
  | succ n ih =>
    intro i c hi h0 hc
    have hlt : i < l.length := by omega
    have hs := sm l hl i hlt
    rw [List.drop_eq_getElem_cons hlt, bytesA]
    have e1 : wrap64 ((l[i].f0.size : Int) + (l[i].f1.size : Int)) = (l[i].f0.size : Int) + (l[i].f1.size : Int) := by rw [w64] <;> omega
    have e2 : wrap64 (c + ((l[i].f0.size : Int) + (l[i].f1.size : Int))) = c + ((l[i].f0.size : Int) + (l[i].f1.size : Int)) := by rw [w64] <;> omega
    have := ih (i + 1) (c + ((l[i].f0.size : Int) + (l[i].f1.size : Int))) (by omega) (by omega) (by omega)
    rw [← Int.add_assoc]
    refine Ev.step (fun k => ?_) this
    conv => lhs; unfold impl_Item_bytes.l0
    rw [if_pos (by omega), if_pos (by omega), if_pos (by omega), rdAt l i hlt, e1, e2, w1n hlt (by omega)]
theorem impl_bytes (x : It) (h : smallI x) : Ev (fun k => impl_Item_bytes.f k x.f0 x.f1 x.f2 x.f3) (bytesV x) := by
  obtain ⟨h1, h2, h3⟩ := h
  have := impl_bytes_l0 x.f3 h3 x.f3.length 0 ((x.f1.size : Int) + x.f2.size) (by omega) (by omega) (by omega)
  rw [List.drop_zero] at this
  refine Ev.congr (fun k => ?_) this
  unfold impl_Item_bytes.f
  rw [w64 (by omega) (by omega)]
  rfl
end Go.Proofs.YtpmjpbaeecnpiaaGreatDoor.Pure

namespace Go.Proofs.YtpmjpbaeecnpiaaGreatDoor.Pure
set_option linter.unusedVariables false
set_option linter.unusedSimpArgs false

namespace DT
/-- A place and those above it. -/
def chain (up : Nat → Int) (j : Nat) : List Nat := j :: (if _h : 0 ≤ up j ∧ (up j).toNat < j then chain up (up j).toNat else [])
termination_by j
/-- The first i items stand below elements that stand ahead. -/
def Val (up : Nat → Int) (el : Nat → Bool) (i : Nat) : Prop := (0 < i → up 0 = -1 ∧ el 0 = true) ∧ ∀ j, 0 < j → j < i → 0 ≤ up j ∧ (up j).toNat < j ∧ el (up j).toNat = true
/-- What may stand above the next one. -/
def stk (up : Nat → Int) (el : Nat → Bool) (j : Nat) : List Nat := if el j = true then chain up j else (chain up j).tail
section
variable {up : Nat → Int} {el : Nat → Bool}
theorem chain_eq (j : Nat) : chain up j = j :: (if _h : 0 ≤ up j ∧ (up j).toNat < j then chain up (up j).toNat else []) := by
  conv => lhs; rw [chain]
theorem chain_zero (h : up 0 = -1) : chain up 0 = [0] := by
  rw [chain, dif_neg (by omega)]
theorem chain_up {j : Nat} (h0 : 0 ≤ up j) (h1 : (up j).toNat < j) : chain up j = j :: chain up (up j).toNat := by
  conv => lhs; rw [chain]
  rw [dif_pos ⟨h0, h1⟩]
theorem chain_lt : ∀ j a, a ∈ chain up j → a ≤ j := by
  intro j
  induction j using Nat.strongRecOn with
  | _ j ih =>
  intro a ha
  rw [chain] at ha
  rcases List.mem_cons.1 ha with rfl | ha
  · exact Nat.le_refl _
  · split at ha
    · rename_i h
      have := ih _ h.2 a ha
      omega
    · simp at ha
/-- What stands above is elements. -/
theorem chain_el {i : Nat} (V : Val up el i) : ∀ j, j < i → ∀ a ∈ (chain up j).tail, el a = true := by
  intro j
  induction j using Nat.strongRecOn with
  | _ j ih =>
  intro hj a ha
  by_cases e : j = 0
  · subst e
    rw [chain_zero (V.1 (by omega)).1] at ha
    simp at ha
  · obtain ⟨h0, h1, h2⟩ := V.2 j (by omega) hj
    rw [chain_up h0 h1, List.tail_cons] at ha
    rw [chain] at ha
    rcases List.mem_cons.1 ha with rfl | ha
    · exact h2
    · refine ih (up j).toNat h1 (by omega) a ?_
      rw [chain, List.tail_cons]
      exact ha
/-- The rest of a chain from one of its places on is that place's chain. -/
theorem chain_drop {i : Nat} (V : Val up el i) : ∀ j, j < i → ∀ a, a ∈ chain up j → (chain up j).dropWhile (fun x => x != a) = chain up a := by
  intro j
  induction j using Nat.strongRecOn with
  | _ j ih =>
  intro hj a ha
  by_cases e : a = j
  · subst e
    rw [chain_eq a, List.dropWhile_cons_of_neg (by simp)]
  · by_cases ez : j = 0
    · subst ez
      rw [chain_zero (V.1 (by omega)).1] at ha
      simp at ha
      exact absurd ha e
    · obtain ⟨h0, h1, h2⟩ := V.2 j (by omega) hj
      rw [chain_up h0 h1] at ha ⊢
      rw [List.dropWhile_cons_of_pos (by simpa using fun h => e h.symm)]
      rcases List.mem_cons.1 ha with h | ha
      · exact absurd h e
      · exact ih _ h1 (by omega) a ha
theorem chain_head (j : Nat) : chain up j = j :: (chain up j).tail := by
  rw [chain_eq j, List.tail_cons]
/-- What is left above a place that may stand above the next one. -/
theorem stk_drop {i : Nat} (V : Val up el i) {j a : Nat} (hj : j < i) (ha : a ∈ stk up el j) : (stk up el j).dropWhile (fun x => x != a) = chain up a ∧ el a = true ∧ a ∈ chain up j := by
  unfold stk at ha ⊢
  split at ha
  · rename_i he
    rw [if_pos he]
    refine ⟨chain_drop V j hj a ha, ?_, ha⟩
    rw [chain_head] at ha
    rcases List.mem_cons.1 ha with rfl | ha
    · exact he
    · exact chain_el V j hj a ha
  · rename_i he
    rw [if_neg he]
    have hm : a ∈ chain up j := by rw [chain_head]; exact List.mem_cons_of_mem _ ha
    have hne : a ≠ j := by
      rintro rfl
      exact he (chain_el V a hj a ha)
    have := chain_drop V j hj a hm
    rw [chain_head, List.dropWhile_cons_of_pos (by simpa using fun h => hne h.symm)] at this
    exact ⟨this, chain_el V j hj a ha, hm⟩
theorem stk_mem {i : Nat} {j a : Nat} (ha : a ∈ chain up j) (he : el a = true) : a ∈ stk up el j := by
  unfold stk
  split
  · exact ha
  · rename_i h
    rw [chain_head] at ha
    rcases List.mem_cons.1 ha with rfl | ha
    · exact absurd he h
    · exact ha
theorem drop_none {l : List Nat} {a : Nat} (h : a ∉ l) : l.dropWhile (fun x => x != a) = [] := by
  induction l with
  | nil => rfl
  | cons x l ih =>
    rw [List.dropWhile_cons_of_pos]
    · exact ih (fun h' => h (by simp [h']))
    · simp only [bne_iff_ne, ne_eq]
      rintro rfl
      exact h (by simp)
theorem Val.next {i : Nat} (V : Val up el i) (h0 : i = 0 → up 0 = -1 ∧ el 0 = true) (h1 : 0 < i → 0 ≤ up i ∧ (up i).toNat < i ∧ el (up i).toNat = true) : Val up el (i + 1) := by
  refine ⟨fun _ => ?_, fun j hj hji => ?_⟩
  · by_cases e : i = 0
    · exact h0 e
    · exact V.1 (by omega)
  · by_cases e : j = i
    · subst e
      exact h1 hj
    · exact V.2 j hj (by omega)
end
end DT
end Go.Proofs.YtpmjpbaeecnpiaaGreatDoor.Pure
