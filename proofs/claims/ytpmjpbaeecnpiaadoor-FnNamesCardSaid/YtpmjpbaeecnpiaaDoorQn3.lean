/- Words and contracts for the row RowFnNames: what the Go functions answer that it calls; printed by programs of the kit and of this session, and merged. -/
import Derived.Test.YtpmjpbaeecnpiaaDoorQn2
namespace Go.Proofs.YtpmjpbaeecnpiaaDoor.L
open Go.RowKit Go.Proofs.YtpmjpbaeecnpiaaDoorW.PrintWords Go.Proofs.YtpmjpbaeecnpiaaDoorW.PrintLast Go.Proofs.YtpmjpbaeecnpiaaDoorW.PrintMore
attribute [local go_sem] max2_int min2_int max_two min_two max_three min_three max_four min_four
set_option linter.unusedVariables false
set_option linter.unusedSimpArgs false

/-! ### impl_Item_isGood: function 71 -/
mutual
def impl_Item_isGood.j0 : Nat → Bool → Int → ByteArray → ByteArray → List (S46) → Option (Bool)
 | 0, _, _, _, _, _ => none
 | k + 1, x38, x292000, x292001, x292002, x292003 => if x38 = true then (some false) else (impl_Item_isGood.l0 k x292003 (x292003.length : Int) 0 x292000 x292001 x292002 x292003)
def impl_Item_isGood.l0 : Nat → List (S46) → Int → Int → Int → ByteArray → ByteArray → List (S46) → Option (Bool)
 | 0, _, _, _, _, _, _, _ => none
 | k + 1, x40, x41, x42, x292000, x292001, x292002, x292003 => if x42 < x41 then (if 0 ≤ x42 then (if x42 < (x40.length : Int) then ((impl_isQualified.f k ((rd_T46 x40 x42).f0)).bind fun t296 => (if t296 = true then ((impl_isPlain.f k ((rd_T46 x40 x42).f1)).bind fun t297 => (impl_Item_isGood.j2 k x42 x40 x41 x42 (!t297) x292000 x292001 x292002 x292003 ((rd_T46 x40 x42).f0) ((rd_T46 x40 x42).f1))) else (impl_Item_isGood.j2 k x42 x40 x41 x42 true x292000 x292001 x292002 x292003 ((rd_T46 x40 x42).f0) ((rd_T46 x40 x42).f1)))) else (none)) else (none)) else (some true)
def impl_Item_isGood.j2 : Nat → Int → List (S46) → Int → Int → Bool → Int → ByteArray → ByteArray → List (S46) → ByteArray → ByteArray → Option (Bool)
 | 0, _, _, _, _, _, _, _, _, _, _, _ => none
 | k + 1, x3, x40, x41, x42, x56, x292000, x292001, x292002, x292003, x296000, x296001 => if x56 = true then (some false) else (if 0 ≤ x3 then (if x3 ≤ (x292003.length : Int) then ((some (x292003.take (x3 : Int).toNat : List (S46))).bind fun y298 => (impl_Item_isGood.l1 k x40 x41 x42 y298 (y298.length : Int) 0 x292000 x292001 x292002 x292003 x296000 x296001)) else (none)) else (none))
def impl_Item_isGood.l1 : Nat → List (S46) → Int → Int → List (S46) → Int → Int → Int → ByteArray → ByteArray → List (S46) → ByteArray → ByteArray → Option (Bool)
 | 0, _, _, _, _, _, _, _, _, _, _, _, _ => none
 | k + 1, x40, x41, x42, x60, x61, x62, x292000, x292001, x292002, x292003, x296000, x296001 => if x62 < x61 then (if 0 ≤ x62 then (if x62 < (x60.length : Int) then (if x296000.toList = ((rd_T46 x60 x62).f0).toList then (some false) else (impl_Item_isGood.l1 k x40 x41 x42 x60 x61 (wrap64 (x62 + 1)) x292000 x292001 x292002 x292003 x296000 x296001)) else (none)) else (none)) else (impl_Item_isGood.l0 k x40 x41 (wrap64 (x42 + 1)) x292000 x292001 x292002 x292003)
end
def impl_Item_isGood.f (k : Nat) (a0_0 : Int) (a0_1 : ByteArray) (a0_2 : ByteArray) (l0_3 : List (S46)) : Option (Bool) := if a0_1.toList = ([] : List UInt8) then (if a0_2.toList = ([] : List UInt8) then (some false) else ((impl_isPlain.f k a0_2).bind fun t292 => (if t292 = true then (some ((l0_3.length : Int) == 0)) else (some false)))) else ((impl_isQualified.f k a0_1).bind fun t293 => (if t293 = true then (if a0_2.toList = ([] : List UInt8) then (impl_Item_isGood.j0 k (decide ((l0_3.length : Int) > 10)) a0_0 a0_1 a0_2 l0_3) else (impl_Item_isGood.j0 k true a0_0 a0_1 a0_2 l0_3)) else (impl_Item_isGood.j0 k true a0_0 a0_1 a0_2 l0_3)))
set_option maxHeartbeats 8000000 in
set_option maxRecDepth 100000 in
theorem impl_Item_isGood.calls (k : Nat) (a0_0 : Int) (a0_1 : ByteArray) (a0_2 : ByteArray) (A0_3 : Option Addr) (c0_3 : Nat) (l0_3 : List (S46)) (r : Bool) (w : World) (hT : Gl w) (hr0_3 : Kd.C k46 w A0_3 l0_3.length l0_3) (hc0_3 : l0_3.length ≤ c0_3) (h : impl_Item_isGood.f k a0_0 a0_1 a0_2 l0_3 = some r) :
  Calls Tryd.prog 71 #[.agg #[.int .i64 a0_0, .string a0_1, .string a0_2, .slice A0_3 l0_3.length c0_3]] w fun e w' => e = .returned (.bool r) ∧ Below w.heap.size w w' := by
 have hu39 := Tryd.underlying39
 have hu46 := Tryd.underlying46
 have HR0_3 := Aside0.mk hr0_3
 have HC0_3 := Aside0.mk hc0_3
 clear hr0_3 hc0_3
 have HT := Aside0.mk hT
 clear hT
 have HB := Aside0.mk (Below.refl w.heap.size w)
 have H : (if a0_1.toList = ([] : List UInt8) then (if a0_2.toList = ([] : List UInt8) then (some false) else ((impl_isPlain.f k a0_2).bind fun t292 => (if t292 = true then (some ((l0_3.length : Int) == 0)) else (some false)))) else ((impl_isQualified.f k a0_1).bind fun t293 => (if t293 = true then (if a0_2.toList = ([] : List UInt8) then (impl_Item_isGood.j0 k (decide ((l0_3.length : Int) > 10)) a0_0 a0_1 a0_2 l0_3) else (impl_Item_isGood.j0 k true a0_0 a0_1 a0_2 l0_3)) else (impl_Item_isGood.j0 k true a0_0 a0_1 a0_2 l0_3)))) = some r := h
 clear h
 by_cases c2 : a0_1.toList = ([] : List UInt8)
 ·rw [if_pos c2] at H
  have c2b0 := beq_iff_eq.mpr c2
  have c2b1 := bne_eq_false_iff_eq.mpr c2
  clear c2
  by_cases c3 : a0_2.toList = ([] : List UInt8)
  ·rw [if_pos c3] at H
   have c3b0 := beq_iff_eq.mpr c3
   have c3b1 := bne_eq_false_iff_eq.mpr c3
   clear c3
   obtain rfl := Option.some.inj H
   go_enter Tryd.func71, Tryd.ntmps71
   go_wp2_with (first | ((with_reducible refine gate_dst (N := 1) rfl ?_); (try (refine gate_guard (by rfl) ?_; dsimp only)); refine box_event ?hg (N := 1) ?hd (cs := #[.int .i64 a0_0, .string a0_1, .string a0_2, .slice A0_3 l0_3.length c0_3]) (t := 39) ?hr ?_; (case hd => rfl); (case hg => rfl); (case hr => exact dq1); intro gb291 hg w4 hbox hb; have n0_ := Aside0.mk (below_step dq24 hb); have n1_ := Aside0.mk (hbox); have n2_ := Aside0.mk ((dq27 : w.heap.size ≤ gb291)); have n3_ := Aside0.mk ((dq27 : w.heap.size ≤ gb291)); clear HB; have HB := n0_; have BK291 := n1_; have GW291 := n2_; have GE291 := n3_; clear n0_ n1_ n2_ n3_; clear hb hbox hg; obtain ⟨⟨hcz5_0, hcz5_1, hcz5_2, hcz5_3⟩, hfz5_0, hfz5_1, hfz5_2, hfz5_3⟩ := blkC4 BK291.out))
   go_ret
   exact ⟨dq26, dq28⟩
  rw [if_neg c3] at H
  have c3b0 := beq_eq_false_iff_ne.mpr c3
  have c3b1 := bne_iff_ne.mpr c3
  replace H := Option.bind_eq_some_iff.mp H
  obtain ⟨t292, A60, H⟩ := H
  replace H : (if t292 = true then (some ((l0_3.length : Int) == 0)) else (some false)) = some r := H
  have A6 := Aside0.mk A60
  clear A60
  by_cases c7 : t292 = true
  rotate_left
  ·replace c7 := Bool.eq_false_iff.mpr c7
   subst c7
   have H1 : (some false) = some r := by rw [if_neg (show ¬ (false = true) by decide)] at H; exact H
   clear H
   have H := H1
   clear H1
   obtain rfl := Option.some.inj H
   go_enter Tryd.func71, Tryd.ntmps71
   go_wp2_with (first | ((with_reducible refine gate_dst (N := 1) rfl ?_); (try (refine gate_guard (by rfl) ?_; dsimp only)); refine box_event ?hg (N := 1) ?hd (cs := #[.int .i64 a0_0, .string a0_1, .string a0_2, .slice A0_3 l0_3.length c0_3]) (t := 39) ?hr ?_; (case hd => rfl); (case hg => rfl); (case hr => exact dq1); intro gb291 hg w12 hbox hb; have n0_ := Aside0.mk (below_step dq24 hb); have n1_ := Aside0.mk (hbox); have n2_ := Aside0.mk ((dq27 : w.heap.size ≤ gb291)); have n3_ := Aside0.mk ((dq27 : w.heap.size ≤ gb291)); clear HB; have HB := n0_; have BK291 := n1_; have GW291 := n2_; have GE291 := n3_; clear n0_ n1_ n2_ n3_; clear hb hbox hg; obtain ⟨⟨hcz13_0, hcz13_1, hcz13_2, hcz13_3⟩, hfz13_0, hfz13_1, hfz13_2, hfz13_3⟩ := blkC4 BK291.out) | (go_at_call 96; (with_reducible refine (impl_isPlain.calls k a0_2 false _ ?side1 A6.out).mono ?_); (case side1 => exact dq2); rintro e w14 ⟨rfl, hb⟩; have n0_ := Aside0.mk (blk_below (g := gb291) (o := .cells #[.int .i64 a0_0, .string a0_1, .string a0_2, .slice A0_3 l0_3.length c0_3] 39 (0, 0)) dq29 hb); have n1_ := Aside0.mk (below_step dq28 hb); clear BK291; clear HB; have BK291 := n0_; have HB := n1_; clear n0_ n1_; (try clear hb); (try clear hb2); (try clear hk); (try clear hi)))
   go_ret
   exact ⟨dq26, dq28⟩
  subst c7
  have H1 : (some ((l0_3.length : Int) == 0)) = some r := by rw [if_pos rfl] at H; exact H
  clear H
  have H := H1
  clear H1
  obtain rfl := Option.some.inj H
  go_enter Tryd.func71, Tryd.ntmps71
  go_wp2_with (first | ((with_reducible refine gate_dst (N := 1) rfl ?_); (try (refine gate_guard (by rfl) ?_; dsimp only)); refine box_event ?hg (N := 1) ?hd (cs := #[.int .i64 a0_0, .string a0_1, .string a0_2, .slice A0_3 l0_3.length c0_3]) (t := 39) ?hr ?_; (case hd => rfl); (case hg => rfl); (case hr => exact dq1); intro gb291 hg w8 hbox hb; have n0_ := Aside0.mk (below_step dq24 hb); have n1_ := Aside0.mk (hbox); have n2_ := Aside0.mk ((dq27 : w.heap.size ≤ gb291)); have n3_ := Aside0.mk ((dq27 : w.heap.size ≤ gb291)); clear HB; have HB := n0_; have BK291 := n1_; have GW291 := n2_; have GE291 := n3_; clear n0_ n1_ n2_ n3_; clear hb hbox hg; obtain ⟨⟨hcz9_0, hcz9_1, hcz9_2, hcz9_3⟩, hfz9_0, hfz9_1, hfz9_2, hfz9_3⟩ := blkC4 BK291.out) | (go_at_call 96; (with_reducible refine (impl_isPlain.calls k a0_2 true _ ?side1 A6.out).mono ?_); (case side1 => exact dq2); rintro e w10 ⟨rfl, hb⟩; have n0_ := Aside0.mk (blk_below (g := gb291) (o := .cells #[.int .i64 a0_0, .string a0_1, .string a0_2, .slice A0_3 l0_3.length c0_3] 39 (0, 0)) dq29 hb); have n1_ := Aside0.mk (below_step dq28 hb); clear BK291; clear HB; have BK291 := n0_; have HB := n1_; clear n0_ n1_; (try clear hb); (try clear hb2); (try clear hk); (try clear hi); obtain ⟨⟨hcz11_0, hcz11_1, hcz11_2, hcz11_3⟩, hfz11_0, hfz11_1, hfz11_2, hfz11_3⟩ := blkC4 BK291.out))
  go_ret
  exact ⟨dq26, dq28⟩
 rw [if_neg c2] at H
 have c2b0 := beq_eq_false_iff_ne.mpr c2
 have c2b1 := bne_iff_ne.mpr c2
 have HC15 := Aside0.mk H
 clear H
 go_enter Tryd.func71, Tryd.ntmps71
 go_upto_region 3 with (first | ((with_reducible refine gate_dst (N := 1) rfl ?_); (try (refine gate_guard (by rfl) ?_; dsimp only)); refine box_event ?hg (N := 1) ?hd (cs := #[.int .i64 a0_0, .string a0_1, .string a0_2, .slice A0_3 l0_3.length c0_3]) (t := 39) ?hr ?_; (case hd => rfl); (case hg => rfl); (case hr => exact dq1); intro gb291 hg w16 hbox hb; have n0_ := Aside0.mk (below_step dq24 hb); have n1_ := Aside0.mk (hbox); have n2_ := Aside0.mk ((dq27 : w.heap.size ≤ gb291)); have n3_ := Aside0.mk ((dq27 : w.heap.size ≤ gb291)); clear HB; have HB := n0_; have BK291 := n1_; have GW291 := n2_; have GE291 := n3_; clear n0_ n1_ n2_ n3_; clear hb hbox hg; obtain ⟨⟨hcz17_0, hcz17_1, hcz17_2, hcz17_3⟩, hfz17_0, hfz17_1, hfz17_2, hfz17_3⟩ := blkC4 BK291.out))
 (try simp only [Act.put, List.setIfInBounds_toArray, List.set_cons_zero, List.set_cons_succ])
 go_cut [38] (fun v38 wc => ∃ (kq : Nat) (x38_14 : Bool), v38 = .bool x38_14 ∧ Aside0 (impl_Item_isGood.j0 kq x38_14 a0_0 a0_1 a0_2 l0_3 = some r) ∧ Aside0 (kq ≤ k) ∧ Aside0 (wc.heap[gb291]? = some (.cells #[.int .i64 a0_0, .string a0_1, .string a0_2, (.slice A0_3 l0_3.length c0_3)] 39 (0, 0))) ∧ Aside0 (Below w.heap.size w wc))
 case first =>
  have H := HC15.out
  clear HC15
  replace H := Option.bind_eq_some_iff.mp H
  obtain ⟨t293, A180, H⟩ := H
  replace H : (if t293 = true then (if a0_2.toList = ([] : List UInt8) then (impl_Item_isGood.j0 k (decide ((l0_3.length : Int) > 10)) a0_0 a0_1 a0_2 l0_3) else (impl_Item_isGood.j0 k true a0_0 a0_1 a0_2 l0_3)) else (impl_Item_isGood.j0 k true a0_0 a0_1 a0_2 l0_3)) = some r := H
  have A18 := Aside0.mk A180
  clear A180
  by_cases c19 : t293 = true
  rotate_left
  ·replace c19 := Bool.eq_false_iff.mpr c19
   subst c19
   have H1 : (impl_Item_isGood.j0 k true a0_0 a0_1 a0_2 l0_3) = some r := by rw [if_neg (show ¬ (false = true) by decide)] at H; exact H
   clear H
   have H := H1
   clear H1
   have H' := Aside0.mk H
   clear H
   obtain ⟨⟨hcz27_0, hcz27_1, hcz27_2, hcz27_3⟩, hfz27_0, hfz27_1, hfz27_2, hfz27_3⟩ := blkC4 BK291.out
   go_wp2_with (first | ((with_reducible refine gate_callee (f := 97) rfl ?_); refine goesL_ (some 26) rfl rfl Tryd.func97 dq23 rfl #[.string a0_1] rfl dq22 ?_; (with_reducible refine (impl_isQualified.calls k a0_1 false _ A18.out).mono ?_); rintro e w28 ⟨rfl, hb⟩; refine ⟨_, rfl, ?_⟩; have n0_ := Aside0.mk (blk_below (g := gb291) (o := .cells #[.int .i64 a0_0, .string a0_1, .string a0_2, .slice A0_3 l0_3.length c0_3] 39 (0, 0)) dq29 hb); have n1_ := Aside0.mk (below_step dq28 hb); clear BK291; clear HB; have BK291 := n0_; have HB := n1_; clear n0_ n1_; (try clear hb); (try clear hb2); (try clear hk); (try clear hi)))
   go_meet
   case rel => exact ⟨_, (true), dq18, H', ⟨dq25⟩, ⟨dq29⟩, ⟨dq28⟩⟩
  subst c19
  have H1 : (if a0_2.toList = ([] : List UInt8) then (impl_Item_isGood.j0 k (decide ((l0_3.length : Int) > 10)) a0_0 a0_1 a0_2 l0_3) else (impl_Item_isGood.j0 k true a0_0 a0_1 a0_2 l0_3)) = some r := by rw [if_pos rfl] at H; exact H
  clear H
  have H := H1
  clear H1
  by_cases c20 : a0_2.toList = ([] : List UInt8)
  rotate_left
  ·rw [if_neg c20] at H
   have c20b0 := beq_eq_false_iff_ne.mpr c20
   have c20b1 := bne_iff_ne.mpr c20
   (first | rw [c20b0] | (simp only [i64_w, i32_w]; rw [c20b0]) | skip)
   have H' := Aside0.mk H
   clear H
   obtain ⟨⟨hcz24_0, hcz24_1, hcz24_2, hcz24_3⟩, hfz24_0, hfz24_1, hfz24_2, hfz24_3⟩ := blkC4 BK291.out
   go_wp2_with (first | ((with_reducible refine gate_callee (f := 97) rfl ?_); refine goesL_ (some 26) rfl rfl Tryd.func97 dq23 rfl #[.string a0_1] rfl dq22 ?_; (with_reducible refine (impl_isQualified.calls k a0_1 true _ A18.out).mono ?_); rintro e w25 ⟨rfl, hb⟩; refine ⟨_, rfl, ?_⟩; have n0_ := Aside0.mk (blk_below (g := gb291) (o := .cells #[.int .i64 a0_0, .string a0_1, .string a0_2, .slice A0_3 l0_3.length c0_3] 39 (0, 0)) dq29 hb); have n1_ := Aside0.mk (below_step dq28 hb); clear BK291; clear HB; have BK291 := n0_; have HB := n1_; clear n0_ n1_; (try clear hb); (try clear hb2); (try clear hk); (try clear hi); obtain ⟨⟨hcz26_0, hcz26_1, hcz26_2, hcz26_3⟩, hfz26_0, hfz26_1, hfz26_2, hfz26_3⟩ := blkC4 BK291.out))
   go_meet
   case rel => exact ⟨_, (true), dq18, H', ⟨dq25⟩, ⟨dq29⟩, ⟨dq28⟩⟩
  rw [if_pos c20] at H
  have c20b0 := beq_iff_eq.mpr c20
  have c20b1 := bne_eq_false_iff_eq.mpr c20
  clear c20
  (first | rw [c20b0] | (simp only [i64_w, i32_w]; rw [c20b0]) | skip)
  have H' := Aside0.mk H
  clear H
  obtain ⟨⟨hcz21_0, hcz21_1, hcz21_2, hcz21_3⟩, hfz21_0, hfz21_1, hfz21_2, hfz21_3⟩ := blkC4 BK291.out
  go_wp2_with (first | ((with_reducible refine gate_callee (f := 97) rfl ?_); refine goesL_ (some 26) rfl rfl Tryd.func97 dq23 rfl #[.string a0_1] rfl dq22 ?_; (with_reducible refine (impl_isQualified.calls k a0_1 true _ A18.out).mono ?_); rintro e w22 ⟨rfl, hb⟩; refine ⟨_, rfl, ?_⟩; have n0_ := Aside0.mk (blk_below (g := gb291) (o := .cells #[.int .i64 a0_0, .string a0_1, .string a0_2, .slice A0_3 l0_3.length c0_3] 39 (0, 0)) dq29 hb); have n1_ := Aside0.mk (below_step dq28 hb); clear BK291; clear HB; have BK291 := n0_; have HB := n1_; clear n0_ n1_; (try clear hb); (try clear hb2); (try clear hk); (try clear hi); obtain ⟨⟨hcz23_0, hcz23_1, hcz23_2, hcz23_3⟩, hfz23_0, hfz23_1, hfz23_2, hfz23_3⟩ := blkC4 BK291.out))
  go_meet
  case rel => exact ⟨_, (decide ((l0_3.length : Int) > 10)), dq18, H', ⟨dq25⟩, ⟨dq29⟩, ⟨dq28⟩⟩
 clear HC15
 try clear c2
 try clear c2b0
 try clear c2b1
 try clear hcz17_0
 try clear hcz17_1
 try clear hcz17_2
 try clear hcz17_3
 try clear hfz17_0
 try clear hfz17_1
 try clear hfz17_2
 try clear hfz17_3
 obtain ⟨kq, x38_14, rfl, HA, HJ14, BK291, HB⟩ := hcut
 cases kq with
 | zero => exact absurd HA.out (by simp [impl_Item_isGood.j0])
 | succ kj14 =>
  have H := HA.out
  clear HA
  simp only [impl_Item_isGood.j0] at H
  by_cases c29 : x38_14 = true
  ·subst c29
   have H1 : (some false) = some r := by rw [if_pos rfl] at H; exact H
   clear H
   have H := H1
   clear H1
   obtain rfl := Option.some.inj H
   go_wp2
   go_ret
   exact ⟨dq26, dq28⟩
  replace c29 := Bool.eq_false_iff.mpr c29
  subst c29
  have H1 : (impl_Item_isGood.l0 kj14 l0_3 (l0_3.length : Int) 0 a0_0 a0_1 a0_2 l0_3) = some r := by rw [if_neg (show ¬ (false = true) by decide)] at H; exact H
  clear H
  have H := H1
  clear H1
  have H' := Aside0.mk H
  clear H
  obtain ⟨⟨hcz30_0, hcz30_1, hcz30_2, hcz30_3⟩, hfz30_0, hfz30_1, hfz30_2, hfz30_3⟩ := blkC4 BK291.out
  go_wp2
  go_loopg [42] kj14 (fun kq v42 w' => ∃ (x42_2 : Int), v42 = .int .i64 x42_2 ∧ Aside0 (impl_Item_isGood.l0 kq l0_3 (l0_3.length : Int) x42_2 a0_0 a0_1 a0_2 l0_3 = some r) ∧ Aside0 (kq ≤ kj14) ∧ Aside0 (w'.heap[gb291]? = some (.cells #[.int .i64 a0_0, .string a0_1, .string a0_2, (.slice A0_3 l0_3.length c0_3)] 39 (0, 0))) ∧ Aside0 (Below w.heap.size w w'))
  case atStart => exact ⟨(0), dq18, H', ⟨Nat.le_refl _⟩, ⟨dq29⟩, ⟨dq28⟩⟩
  clear H'
  try clear hcz30_0
  try clear hcz30_1
  try clear hcz30_2
  try clear hcz30_3
  try clear hfz30_0
  try clear hfz30_1
  try clear hfz30_2
  try clear hfz30_3
  obtain ⟨x42_2, rfl, HA, HK2, BK291, HB⟩ := hrel
  cases gk with
  | zero => exact absurd HA.out (by simp [impl_Item_isGood.l0])
  | succ k2 =>
   have H := HA.out
   clear HA
   simp only [impl_Item_isGood.l0] at H
   by_cases c31 : x42_2 < (l0_3.length : Int)
   rotate_left
   ·rw [if_neg c31] at H
    have c31b0 := decide_eq_false c31
    clear c31
    obtain rfl := Option.some.inj H
    go_wp2
    go_ret
    exact ⟨dq26, dq28⟩
   rw [if_pos c31] at H
   have c31b0 := decide_eq_true c31
   clear c31
   by_cases c32 : 0 ≤ x42_2
   rotate_left
   ·rw [if_neg c32] at H
    exact absurd H dq21
   rw [if_pos c32] at H
   have c32b0 := decide_eq_true c32
   clear c32
   by_cases c33 : x42_2 < (l0_3.length : Int)
   rotate_left
   ·rw [if_neg c33] at H
    exact absurd H dq21
   rw [if_pos c33] at H
   have c33b0 := decide_eq_true c33
   clear c33
   have HC34 := Aside0.mk H
   clear H
   have p294 : 0 ≤ (x42_2 : Int) := of_decide_eq_true dq19
   have q294 : x42_2 < (l0_3.length : Int) := of_decide_eq_true dq19
   obtain ⟨ad294, e294, hx294_0, hx294_1⟩ := at_T46 HR0_3.out x42_2 p294 q294
   cases e294
   replace hx294_0 := (HB.out.cell (World.block_lt_of_cell? w _ hx294_0)).trans hx294_0
   replace hx294_1 := (HB.out.cell (World.block_lt_of_cell? w _ hx294_1)).trans hx294_1
   replace p294 := eq_true p294
   replace q294 := eq_true q294
   go_upto_region 8 with (first | ((with_reducible refine gate_dst (N := 4) rfl ?_); (try (refine gate_guard (by rfl) ?_; dsimp only)); refine box_event ?hg (N := 4) ?hd (cs := #[.string (⟨#[]⟩ : ByteArray), .string (⟨#[]⟩ : ByteArray)]) (t := 46) ?hr ?_; (case hd => rfl); (case hg => rfl); (case hr => exact dq1); intro gb295 hg w35 hbox hb; have n0_ := Aside0.mk (blk_below (g := gb291) (o := .cells #[.int .i64 a0_0, .string a0_1, .string a0_2, .slice (some ad294) l0_3.length c0_3] 39 (0, 0)) dq29 hb); have n1_ := Aside0.mk (below_step dq28 hb); have n2_ := Aside0.mk (hbox); have n3_ := Aside0.mk ((dq32 : w.heap.size ≤ gb295)); have n4_ := Aside0.mk ((dq32 : w.heap.size ≤ gb295)); have n5_ := Aside0.mk ((dq31 : gb291 ≠ gb295)); have n6_ := Aside0.mk ((dq30 : gb295 ≠ gb291)); clear BK291; clear HB; have BK291 := n0_; have HB := n1_; have BK295 := n2_; have GW295 := n3_; have GE295 := n4_; have NB291_295 := n5_; have NB295_291 := n6_; clear n0_ n1_ n2_ n3_ n4_ n5_ n6_; clear hb hbox hg; have hnb36 := NB295_291.out; have hnc36 := NB291_295.out; obtain ⟨⟨hcz37_0, hcz37_1⟩, hfz37_0, hfz37_1⟩ := blkC2 BK295.out))
   (try simp only [Act.put, List.setIfInBounds_toArray, List.set_cons_zero, List.set_cons_succ])
   go_cut [56] (fun v56 wc => ∃ (kq : Nat) (x56_33 : Bool), v56 = .bool x56_33 ∧ Aside0 (impl_Item_isGood.j2 kq x42_2 l0_3 (l0_3.length : Int) x42_2 x56_33 a0_0 a0_1 a0_2 l0_3 ((rd_T46 l0_3 x42_2).f0) ((rd_T46 l0_3 x42_2).f1) = some r) ∧ Aside0 (kq ≤ k2) ∧ Aside0 (wc.heap[gb291]? = some (.cells #[.int .i64 a0_0, .string a0_1, .string a0_2, (.slice (some ad294) l0_3.length c0_3)] 39 (0, 0))) ∧ Aside0 (wc.heap[gb295]? = some (.cells #[.string ((rd_T46 l0_3 x42_2).f0), .string ((rd_T46 l0_3 x42_2).f1)] 46 (0, 0))) ∧ Aside0 (Below w.heap.size w wc))
   case first =>
    have H := HC34.out
    clear HC34
    replace H := Option.bind_eq_some_iff.mp H
    obtain ⟨t296, A380, H⟩ := H
    replace H : (if t296 = true then ((impl_isPlain.f k2 ((rd_T46 l0_3 x42_2).f1)).bind fun t297 => (impl_Item_isGood.j2 k2 x42_2 l0_3 (l0_3.length : Int) x42_2 (!t297) a0_0 a0_1 a0_2 l0_3 ((rd_T46 l0_3 x42_2).f0) ((rd_T46 l0_3 x42_2).f1))) else (impl_Item_isGood.j2 k2 x42_2 l0_3 (l0_3.length : Int) x42_2 true a0_0 a0_1 a0_2 l0_3 ((rd_T46 l0_3 x42_2).f0) ((rd_T46 l0_3 x42_2).f1))) = some r := H
    have A38 := Aside0.mk A380
    clear A380
    by_cases c39 : t296 = true
    rotate_left
    ·replace c39 := Bool.eq_false_iff.mpr c39
     subst c39
     have H1 : (impl_Item_isGood.j2 k2 x42_2 l0_3 (l0_3.length : Int) x42_2 true a0_0 a0_1 a0_2 l0_3 ((rd_T46 l0_3 x42_2).f0) ((rd_T46 l0_3 x42_2).f1)) = some r := by rw [if_neg (show ¬ (false = true) by decide)] at H; exact H
     clear H
     have H := H1
     clear H1
     have H' := Aside0.mk H
     clear H
     have hnb46 := NB295_291.out
     have hnc46 := NB291_295.out
     obtain ⟨⟨hcz47_0, hcz47_1⟩, hfz47_0, hfz47_1⟩ := blkC2 BK295.out
     go_wp2_with (first | ((with_reducible refine gate_callee (f := 97) rfl ?_); refine goesL_ (some 49) rfl rfl Tryd.func97 dq23 rfl #[.string ((rd_T46 l0_3 x42_2).f0)] rfl dq22 ?_; (with_reducible refine (impl_isQualified.calls k2 ((rd_T46 l0_3 x42_2).f0) false _ A38.out).mono ?_); rintro e w48 ⟨rfl, hb⟩; refine ⟨_, rfl, ?_⟩; have n0_ := Aside0.mk (blk_below (g := gb291) (o := .cells #[.int .i64 a0_0, .string a0_1, .string a0_2, .slice (some ad294) l0_3.length c0_3] 39 (0, 0)) dq36 hb); have n1_ := Aside0.mk (blk_below (g := gb295) (o := .cells #[.string ((rd_T46 l0_3 x42_2).f0), .string ((rd_T46 l0_3 x42_2).f1)] 46 (0, 0)) dq35 hb); have n2_ := Aside0.mk (below_step dq33 hb); clear BK291; clear BK295; clear HB; have BK291 := n0_; have BK295 := n1_; have HB := n2_; clear n0_ n1_ n2_; (try clear hb); (try clear hb2); (try clear hk); (try clear hi)))
     go_meet
     case rel => exact ⟨_, (true), dq18, H', ⟨by have := HJ14.out; have := HK2.out; first | omega | exact Nat.le_refl _⟩, ⟨dq29⟩, ⟨dq34⟩, ⟨dq33⟩⟩
    subst c39
    have H1 : ((impl_isPlain.f k2 ((rd_T46 l0_3 x42_2).f1)).bind fun t297 => (impl_Item_isGood.j2 k2 x42_2 l0_3 (l0_3.length : Int) x42_2 (!t297) a0_0 a0_1 a0_2 l0_3 ((rd_T46 l0_3 x42_2).f0) ((rd_T46 l0_3 x42_2).f1))) = some r := by rw [if_pos rfl] at H; exact H
    clear H
    have H := H1
    clear H1
    replace H := Option.bind_eq_some_iff.mp H
    obtain ⟨t297, A400, H⟩ := H
    replace H : (impl_Item_isGood.j2 k2 x42_2 l0_3 (l0_3.length : Int) x42_2 (!t297) a0_0 a0_1 a0_2 l0_3 ((rd_T46 l0_3 x42_2).f0) ((rd_T46 l0_3 x42_2).f1)) = some r := H
    have A40 := Aside0.mk A400
    clear A400
    have H' := Aside0.mk H
    clear H
    have hnb41 := NB295_291.out
    have hnc41 := NB291_295.out
    obtain ⟨⟨hcz42_0, hcz42_1⟩, hfz42_0, hfz42_1⟩ := blkC2 BK295.out
    go_wp2_with (first | ((with_reducible refine gate_callee (f := 97) rfl ?_); refine goesL_ (some 49) rfl rfl Tryd.func97 dq23 rfl #[.string ((rd_T46 l0_3 x42_2).f0)] rfl dq22 ?_; (with_reducible refine (impl_isQualified.calls k2 ((rd_T46 l0_3 x42_2).f0) true _ A38.out).mono ?_); rintro e w43 ⟨rfl, hb⟩; refine ⟨_, rfl, ?_⟩; have n0_ := Aside0.mk (blk_below (g := gb291) (o := .cells #[.int .i64 a0_0, .string a0_1, .string a0_2, .slice (some ad294) l0_3.length c0_3] 39 (0, 0)) dq36 hb); have n1_ := Aside0.mk (blk_below (g := gb295) (o := .cells #[.string ((rd_T46 l0_3 x42_2).f0), .string ((rd_T46 l0_3 x42_2).f1)] 46 (0, 0)) dq35 hb); have n2_ := Aside0.mk (below_step dq33 hb); clear BK291; clear BK295; clear HB; have BK291 := n0_; have BK295 := n1_; have HB := n2_; clear n0_ n1_ n2_; (try clear hb); (try clear hb2); (try clear hk); (try clear hi); obtain ⟨⟨hcz44_0, hcz44_1⟩, hfz44_0, hfz44_1⟩ := blkC2 BK295.out) | (go_at_call 96; (with_reducible refine (impl_isPlain.calls k2 ((rd_T46 l0_3 x42_2).f1) t297 _ ?side1 A40.out).mono ?_); (case side1 => exact Gl_below HT.out dq33); rintro e w45 ⟨rfl, hb⟩; have n0_ := Aside0.mk (blk_below (g := gb291) (o := .cells #[.int .i64 a0_0, .string a0_1, .string a0_2, .slice (some ad294) l0_3.length c0_3] 39 (0, 0)) dq29 hb); have n1_ := Aside0.mk (blk_below (g := gb295) (o := .cells #[.string ((rd_T46 l0_3 x42_2).f0), .string ((rd_T46 l0_3 x42_2).f1)] 46 (0, 0)) dq34 hb); have n2_ := Aside0.mk (below_step dq33 hb); clear BK291; clear BK295; clear HB; have BK291 := n0_; have BK295 := n1_; have HB := n2_; clear n0_ n1_ n2_; (try clear hb); (try clear hb2); (try clear hk); (try clear hi)))
    go_meet
    case rel => exact ⟨_, (!t297), dq18, H', ⟨by have := HJ14.out; have := HK2.out; first | omega | exact Nat.le_refl _⟩, ⟨dq29⟩, ⟨dq34⟩, ⟨dq33⟩⟩
   clear HC34
   try clear c31b0
   try clear c32b0
   try clear c33b0
   try clear hcz37_0
   try clear hcz37_1
   try clear hfz37_0
   try clear hfz37_1
   try clear hx294_0
   try clear hx294_1
   try clear p294
   try clear q294
   obtain ⟨kq, x56_33, rfl, HA, HJ33, BK291, BK295, HB⟩ := hcut
   cases kq with
   | zero => exact absurd HA.out (by simp [impl_Item_isGood.j2])
   | succ kj33 =>
    have H := HA.out
    clear HA
    simp only [impl_Item_isGood.j2] at H
    by_cases c49 : x56_33 = true
    ·subst c49
     have H1 : (some false) = some r := by rw [if_pos rfl] at H; exact H
     clear H
     have H := H1
     clear H1
     obtain rfl := Option.some.inj H
     go_wp2
     go_ret
     exact ⟨dq26, dq33⟩
    replace c49 := Bool.eq_false_iff.mpr c49
    subst c49
    have H1 : (if 0 ≤ x42_2 then (if x42_2 ≤ (l0_3.length : Int) then ((some (l0_3.take (x42_2 : Int).toNat : List (S46))).bind fun y298 => (impl_Item_isGood.l1 kj33 l0_3 (l0_3.length : Int) x42_2 y298 (y298.length : Int) 0 a0_0 a0_1 a0_2 l0_3 ((rd_T46 l0_3 x42_2).f0) ((rd_T46 l0_3 x42_2).f1))) else (none)) else (none)) = some r := by rw [if_neg (show ¬ (false = true) by decide)] at H; exact H
    clear H
    have H := H1
    clear H1
    by_cases c50 : 0 ≤ x42_2
    rotate_left
    ·rw [if_neg c50] at H
     exact absurd H dq21
    rw [if_pos c50] at H
    have c50b0 := eq_true c50
    have c50b1 := decide_eq_true c50
    clear c50
    by_cases c51 : x42_2 ≤ (l0_3.length : Int)
    rotate_left
    ·rw [if_neg c51] at H
     exact absurd H dq21
    rw [if_pos c51] at H
    have c51b0 := eq_true c51
    have c51b1 := decide_eq_true c51
    clear c51
    obtain ⟨y298, hy298⟩ : ∃ y_ : List (S46), y_ = (l0_3.take (x42_2 : Int).toNat) := ⟨_, rfl⟩
    replace H : (impl_Item_isGood.l1 kj33 l0_3 (l0_3.length : Int) x42_2 y298 (y298.length : Int) 0 a0_0 a0_1 a0_2 l0_3 ((rd_T46 l0_3 x42_2).f0) ((rd_T46 l0_3 x42_2).f1)) = some r := by first | (rw [hy298]; with_reducible exact H) | (have H2_ := (Option.bind_some _ _).symm.trans H; rw [hy298]; with_reducible exact H2_) | (have H2_ := (Option.bind_some _ _).symm.trans H; with_reducible exact H2_) | with_reducible exact H | (rw [hy298]; exact H) | exact H
    have Ny298 := Aside0.mk hy298
    clear hy298
    have H' := Aside0.mk H
    clear H
    have hnb52 := NB291_295.out
    have hnc52 := NB295_291.out
    obtain ⟨⟨hcz53_0, hcz53_1, hcz53_2, hcz53_3⟩, hfz53_0, hfz53_1, hfz53_2, hfz53_3⟩ := blkC4 BK291.out
    have q54 : (x42_2 : Int) ≤ ((l0_3.length : Int) : Int) := of_decide_eq_true dq19
    obtain ⟨i054, hi054, _, hsz54, _⟩ := info_parts info46
    have hroom54 : l0_3.length ≤ c0_3 := HC0_3.out
    have hC54 : Kd.C k46 _ (some ad294) l0_3.length l0_3 := HR0_3.out
    have hcut54 := cut_to (P := Tryd.prog) 37 46 .i64 Tryd.underlying37 hi054 (some ad294) l0_3.length c0_3 x42_2 (of_decide_eq_true dq19) q54 hroom54
    have hr54 := Kd.C_take (m := (x42_2 : Int).toNat) hC54 dq37
    have hy54 : y298.length = (x42_2 : Int).toNat := (by rw [Ny298.out, List.length_take]; omega)
    rw [← Ny298.out] at hr54
    rw [← hy54] at hcut54
    have HR301 := Aside0.mk hr54
    have HC301 := Aside0.mk (show y298.length ≤ c0_3 from by omega)
    clear hr54 hC54 hroom54 hi054 hsz54
    have KY54 := Aside0.mk hy54
    clear hy54
    replace q54 := eq_true q54
    go_wp2
    go_loopg [62] kj33 (fun kq v62 w' => ∃ (x62_4 : Int), v62 = .int .i64 x62_4 ∧ Aside0 (impl_Item_isGood.l1 kq l0_3 (l0_3.length : Int) x42_2 y298 (y298.length : Int) x62_4 a0_0 a0_1 a0_2 l0_3 ((rd_T46 l0_3 x42_2).f0) ((rd_T46 l0_3 x42_2).f1) = some r) ∧ Aside0 (kq ≤ kj33) ∧ Aside0 (w'.heap[gb291]? = some (.cells #[.int .i64 a0_0, .string a0_1, .string a0_2, (.slice (some ad294) l0_3.length c0_3)] 39 (0, 0))) ∧ Aside0 (w'.heap[gb295]? = some (.cells #[.string ((rd_T46 l0_3 x42_2).f0), .string ((rd_T46 l0_3 x42_2).f1)] 46 (0, 0))) ∧ Aside0 (Below w.heap.size w w'))
    case atStart => exact ⟨(0), dq18, H', ⟨Nat.le_refl _⟩, ⟨dq29⟩, ⟨dq34⟩, ⟨dq33⟩⟩
    clear H'
    try clear c50b0
    try clear c50b1
    try clear c51b0
    try clear c51b1
    try clear q54
    try clear hcz53_0
    try clear hcz53_1
    try clear hcz53_2
    try clear hcz53_3
    try clear hfz53_0
    try clear hfz53_1
    try clear hfz53_2
    try clear hfz53_3
    obtain ⟨x62_4, rfl, HA, HK4, BK291, BK295, HB⟩ := hrel
    cases gk with
    | zero => exact absurd HA.out (by simp [impl_Item_isGood.l1])
    | succ k4 =>
     have H := HA.out
     clear HA
     simp only [impl_Item_isGood.l1] at H
     by_cases c55 : x62_4 < (y298.length : Int)
     rotate_left
     ·rw [if_neg c55] at H
      have c55b0 := decide_eq_false c55
      clear c55
      have H' := Aside0.mk H
      clear H
      go_wp2
      go_roundg k4
      case measure => have := HJ14.out; have := HK2.out; have := HJ33.out; have := HK4.out; omega
      case rel => exact ⟨(wrap64 (x42_2 + 1)), dq18, H', ⟨by have := HJ14.out; have := HK2.out; have := HJ33.out; have := HK4.out; omega⟩, ⟨dq29⟩, ⟨dq33⟩⟩
     rw [if_pos c55] at H
     have c55b0 := decide_eq_true c55
     clear c55
     by_cases c56 : 0 ≤ x62_4
     rotate_left
     ·rw [if_neg c56] at H
      exact absurd H dq21
     rw [if_pos c56] at H
     have c56b0 := decide_eq_true c56
     clear c56
     by_cases c57 : x62_4 < (y298.length : Int)
     rotate_left
     ·rw [if_neg c57] at H
      exact absurd H dq21
     rw [if_pos c57] at H
     have c57b0 := decide_eq_true c57
     clear c57
     by_cases c58 : ((rd_T46 l0_3 x42_2).f0).toList = ((rd_T46 y298 x62_4).f0).toList
     ·rw [if_pos c58] at H
      have c58b0 := beq_iff_eq.mpr c58
      have c58b1 := bne_eq_false_iff_eq.mpr c58
      clear c58
      obtain rfl := Option.some.inj H
      have p302 : 0 ≤ (x62_4 : Int) := of_decide_eq_true dq19
      have q302 : x62_4 < (y298.length : Int) := of_decide_eq_true dq19
      obtain ⟨ad302, e302, hx302_0, hx302_1⟩ := at_T46 HR301.out x62_4 p302 q302
      obtain rfl : ad294 = ad302 := (by injection e302)
      replace hx302_0 := (HB.out.cell (World.block_lt_of_cell? w _ hx302_0)).trans hx302_0
      replace hx302_1 := (HB.out.cell (World.block_lt_of_cell? w _ hx302_1)).trans hx302_1
      replace p302 := eq_true p302
      replace q302 := eq_true q302
      go_wp2_with (first | ((with_reducible refine gate_dst (N := 6) rfl ?_); (try (refine gate_guard (by rfl) ?_; dsimp only)); refine box_event ?hg (N := 6) ?hd (cs := #[.string (⟨#[]⟩ : ByteArray), .string (⟨#[]⟩ : ByteArray)]) (t := 46) ?hr ?_; (case hd => rfl); (case hg => rfl); (case hr => exact dq1); intro gb303 hg w59 hbox hb; have n0_ := Aside0.mk (blk_below (g := gb291) (o := .cells #[.int .i64 a0_0, .string a0_1, .string a0_2, .slice (some ad294) l0_3.length c0_3] 39 (0, 0)) dq29 hb); have n1_ := Aside0.mk (blk_below (g := gb295) (o := .cells #[.string ((rd_T46 l0_3 x42_2).f0), .string ((rd_T46 l0_3 x42_2).f1)] 46 (0, 0)) dq34 hb); have n2_ := Aside0.mk (below_step dq33 hb); have n3_ := Aside0.mk (hbox); have n4_ := Aside0.mk ((dq40 : w.heap.size ≤ gb303)); have n5_ := Aside0.mk ((dq40 : w.heap.size ≤ gb303)); have n6_ := Aside0.mk ((dq31 : gb291 ≠ gb303)); have n7_ := Aside0.mk ((dq30 : gb303 ≠ gb291)); have n8_ := Aside0.mk ((dq39 : gb295 ≠ gb303)); have n9_ := Aside0.mk ((dq38 : gb303 ≠ gb295)); clear BK291; clear BK295; clear HB; have BK291 := n0_; have BK295 := n1_; have HB := n2_; have BK303 := n3_; have GW303 := n4_; have GE303 := n5_; have NB291_303 := n6_; have NB303_291 := n7_; have NB295_303 := n8_; have NB303_295 := n9_; clear n0_ n1_ n2_ n3_ n4_ n5_ n6_ n7_ n8_ n9_; clear hb hbox hg; have hnb60 := NB303_291.out; have hnc60 := NB291_303.out; have hnb61 := NB303_295.out; have hnc61 := NB295_303.out; obtain ⟨⟨hcz62_0, hcz62_1⟩, hfz62_0, hfz62_1⟩ := blkC2 BK303.out; have hnb63 := NB295_291.out; have hnc63 := NB291_295.out; obtain ⟨⟨hcz64_0, hcz64_1⟩, hfz64_0, hfz64_1⟩ := blkC2 BK295.out))
      go_ret
      exact ⟨dq26, dq41⟩
     rw [if_neg c58] at H
     have c58b0 := beq_eq_false_iff_ne.mpr c58
     have c58b1 := bne_iff_ne.mpr c58
     have H' := Aside0.mk H
     clear H
     have p302 : 0 ≤ (x62_4 : Int) := of_decide_eq_true dq19
     have q302 : x62_4 < (y298.length : Int) := of_decide_eq_true dq19
     obtain ⟨ad302, e302, hx302_0, hx302_1⟩ := at_T46 HR301.out x62_4 p302 q302
     obtain rfl : ad294 = ad302 := (by injection e302)
     replace hx302_0 := (HB.out.cell (World.block_lt_of_cell? w _ hx302_0)).trans hx302_0
     replace hx302_1 := (HB.out.cell (World.block_lt_of_cell? w _ hx302_1)).trans hx302_1
     replace p302 := eq_true p302
     replace q302 := eq_true q302
     go_wp2_with (first | ((with_reducible refine gate_dst (N := 6) rfl ?_); (try (refine gate_guard (by rfl) ?_; dsimp only)); refine box_event ?hg (N := 6) ?hd (cs := #[.string (⟨#[]⟩ : ByteArray), .string (⟨#[]⟩ : ByteArray)]) (t := 46) ?hr ?_; (case hd => rfl); (case hg => rfl); (case hr => exact dq1); intro gb303 hg w65 hbox hb; have n0_ := Aside0.mk (blk_below (g := gb291) (o := .cells #[.int .i64 a0_0, .string a0_1, .string a0_2, .slice (some ad294) l0_3.length c0_3] 39 (0, 0)) dq29 hb); have n1_ := Aside0.mk (blk_below (g := gb295) (o := .cells #[.string ((rd_T46 l0_3 x42_2).f0), .string ((rd_T46 l0_3 x42_2).f1)] 46 (0, 0)) dq34 hb); have n2_ := Aside0.mk (below_step dq33 hb); have n3_ := Aside0.mk (hbox); have n4_ := Aside0.mk ((dq40 : w.heap.size ≤ gb303)); have n5_ := Aside0.mk ((dq40 : w.heap.size ≤ gb303)); have n6_ := Aside0.mk ((dq31 : gb291 ≠ gb303)); have n7_ := Aside0.mk ((dq30 : gb303 ≠ gb291)); have n8_ := Aside0.mk ((dq39 : gb295 ≠ gb303)); have n9_ := Aside0.mk ((dq38 : gb303 ≠ gb295)); clear BK291; clear BK295; clear HB; have BK291 := n0_; have BK295 := n1_; have HB := n2_; have BK303 := n3_; have GW303 := n4_; have GE303 := n5_; have NB291_303 := n6_; have NB303_291 := n7_; have NB295_303 := n8_; have NB303_295 := n9_; clear n0_ n1_ n2_ n3_ n4_ n5_ n6_ n7_ n8_ n9_; clear hb hbox hg; have hnb66 := NB303_291.out; have hnc66 := NB291_303.out; have hnb67 := NB303_295.out; have hnc67 := NB295_303.out; obtain ⟨⟨hcz68_0, hcz68_1⟩, hfz68_0, hfz68_1⟩ := blkC2 BK303.out; have hnb69 := NB295_291.out; have hnc69 := NB291_295.out; obtain ⟨⟨hcz70_0, hcz70_1⟩, hfz70_0, hfz70_1⟩ := blkC2 BK295.out))
     go_roundg k4
     case measure => have := HJ14.out; have := HK2.out; have := HJ33.out; have := HK4.out; omega
     case rel => exact ⟨(wrap64 (x62_4 + 1)), dq18, H', ⟨by have := HJ14.out; have := HK2.out; have := HJ33.out; have := HK4.out; omega⟩, ⟨by refine blk_up ?_; refine blk_far ?_ NB291_303.out _; refine blk_up ?_; refine blk_far ?_ NB291_303.out _; refine blk_up ?_; exact BK291.out⟩, ⟨by refine blk_up ?_; refine blk_far ?_ NB295_303.out _; refine blk_up ?_; refine blk_far ?_ NB295_303.out _; refine blk_up ?_; exact BK295.out⟩, ⟨dq41⟩⟩

/-! ### impl_Item_bytes: function 72 -/
def impl_Item_bytes.l0 : Nat → Int → List (S46) → Int → Int → Option (Int)
 | 0, _, _, _, _ => none
 | k + 1, x3, x14, x15, x16 => if x16 < x15 then (if 0 ≤ x16 then (if x16 < (x14.length : Int) then (impl_Item_bytes.l0 k (wrap64 (x3 + (wrap64 ((((rd_T46 x14 x16).f0).size : Int) + (((rd_T46 x14 x16).f1).size : Int))))) x14 x15 (wrap64 (x16 + 1))) else (none)) else (none)) else (some x3)
def impl_Item_bytes.f (k : Nat) (a0_0 : Int) (a0_1 : ByteArray) (a0_2 : ByteArray) (l0_3 : List (S46)) : Option (Int) := impl_Item_bytes.l0 k (wrap64 ((a0_1.size : Int) + (a0_2.size : Int))) l0_3 (l0_3.length : Int) 0
set_option maxHeartbeats 8000000 in
set_option maxRecDepth 100000 in
theorem impl_Item_bytes.calls (k : Nat) (a0_0 : Int) (a0_1 : ByteArray) (a0_2 : ByteArray) (A0_3 : Option Addr) (c0_3 : Nat) (l0_3 : List (S46)) (r : Int) (w : World) (hr0_3 : Kd.C k46 w A0_3 l0_3.length l0_3) (hc0_3 : l0_3.length ≤ c0_3) (h : impl_Item_bytes.f k a0_0 a0_1 a0_2 l0_3 = some r) :
  Calls Tryd.prog 72 #[.agg #[.int .i64 a0_0, .string a0_1, .string a0_2, .slice A0_3 l0_3.length c0_3]] w fun e w' => e = .returned (.int .i64 r) ∧ Below w.heap.size w w' := by
 have hu39 := Tryd.underlying39
 have hu46 := Tryd.underlying46
 have HR0_3 := Aside0.mk hr0_3
 have HC0_3 := Aside0.mk hc0_3
 clear hr0_3 hc0_3
 have HB := Aside0.mk (Below.refl w.heap.size w)
 have H : (impl_Item_bytes.l0 k (wrap64 ((a0_1.size : Int) + (a0_2.size : Int))) l0_3 (l0_3.length : Int) 0) = some r := h
 clear h
 have H' := Aside0.mk H
 clear H
 go_enter Tryd.func72, Tryd.ntmps72
 go_wp2_with (first | ((with_reducible refine gate_dst (N := 1) rfl ?_); refine box_event ?hg (N := 1) ?hd (cs := #[.int .i64 a0_0, .string a0_1, .string a0_2, .slice A0_3 l0_3.length c0_3]) (t := 39) ?hr ?_; (case hd => rfl); (case hg => rfl); (case hr => exact dq1); intro gb304 hg w2 hbox hb; have n0_ := Aside0.mk (below_step dq24 hb); have n1_ := Aside0.mk (hbox); have n2_ := Aside0.mk ((dq27 : w.heap.size ≤ gb304)); have n3_ := Aside0.mk ((dq27 : w.heap.size ≤ gb304)); clear HB; have HB := n0_; have BK304 := n1_; have GW304 := n2_; have GE304 := n3_; clear n0_ n1_ n2_ n3_; clear hb hbox hg; obtain ⟨⟨hcz3_0, hcz3_1, hcz3_2, hcz3_3⟩, hfz3_0, hfz3_1, hfz3_2, hfz3_3⟩ := blkC4 BK304.out))
 go_loopg [3, 16] k (fun kq v3 v16 w' => ∃ (x3_1 : Int) (x16_1 : Int), v3 = .int .i64 x3_1 ∧ v16 = .int .i64 x16_1 ∧ Aside0 (impl_Item_bytes.l0 kq x3_1 l0_3 (l0_3.length : Int) x16_1 = some r) ∧ Aside0 (kq ≤ k) ∧ Aside0 (w'.heap[gb304]? = some (.cells #[.int .i64 a0_0, .string a0_1, .string a0_2, (.slice A0_3 l0_3.length c0_3)] 39 (0, 0))) ∧ Aside0 (Below w.heap.size w w'))
 case atStart => exact ⟨(wrap64 ((a0_1.size : Int) + (a0_2.size : Int))), (0), dq18, dq18, H', ⟨Nat.le_refl _⟩, ⟨by refine blk_up ?_; exact BK304.out⟩, ⟨dq42⟩⟩
 clear H'
 try clear p2
 try clear hcz3_0
 try clear hcz3_1
 try clear hcz3_2
 try clear hcz3_3
 try clear hfz3_0
 try clear hfz3_1
 try clear hfz3_2
 try clear hfz3_3
 obtain ⟨x3_1, x16_1, rfl, rfl, HA, HK1, BK304, HB⟩ := hrel
 cases gk with
 | zero => exact absurd HA.out (by simp [impl_Item_bytes.l0])
 | succ k1 =>
  have H := HA.out
  clear HA
  simp only [impl_Item_bytes.l0] at H
  by_cases c4 : x16_1 < (l0_3.length : Int)
  rotate_left
  ·rw [if_neg c4] at H
   have c4b0 := decide_eq_false c4
   clear c4
   obtain rfl := Option.some.inj H
   go_wp2
   go_ret
   exact ⟨dq26, dq42⟩
  rw [if_pos c4] at H
  have c4b0 := decide_eq_true c4
  clear c4
  by_cases c5 : 0 ≤ x16_1
  rotate_left
  ·rw [if_neg c5] at H
   exact absurd H dq21
  rw [if_pos c5] at H
  have c5b0 := decide_eq_true c5
  clear c5
  by_cases c6 : x16_1 < (l0_3.length : Int)
  rotate_left
  ·rw [if_neg c6] at H
   exact absurd H dq21
  rw [if_pos c6] at H
  have c6b0 := decide_eq_true c6
  clear c6
  have H' := Aside0.mk H
  clear H
  have p305 : 0 ≤ (x16_1 : Int) := of_decide_eq_true dq19
  have q305 : x16_1 < (l0_3.length : Int) := of_decide_eq_true dq19
  obtain ⟨ad305, e305, hx305_0, hx305_1⟩ := at_T46 HR0_3.out x16_1 p305 q305
  cases e305
  replace hx305_0 := (HB.out.cell (World.block_lt_of_cell? w _ hx305_0)).trans hx305_0
  replace hx305_1 := (HB.out.cell (World.block_lt_of_cell? w _ hx305_1)).trans hx305_1
  replace p305 := eq_true p305
  replace q305 := eq_true q305
  go_wp2_with (first | ((with_reducible refine gate_dst (N := 5) rfl ?_); refine box_event ?hg (N := 5) ?hd (cs := #[.string (⟨#[]⟩ : ByteArray), .string (⟨#[]⟩ : ByteArray)]) (t := 46) ?hr ?_; (case hd => rfl); (case hg => rfl); (case hr => exact dq1); intro gb306 hg w7 hbox hb; have n0_ := Aside0.mk (blk_below (g := gb304) (o := .cells #[.int .i64 a0_0, .string a0_1, .string a0_2, .slice (some ad305) l0_3.length c0_3] 39 (0, 0)) (by refine blk_up ?_; exact BK304.out) hb); have n1_ := Aside0.mk (below_step dq42 hb); have n2_ := Aside0.mk (hbox); have n3_ := Aside0.mk ((dq43 : w.heap.size ≤ gb306)); have n4_ := Aside0.mk ((dq43 : w.heap.size ≤ gb306)); have n5_ := Aside0.mk ((by rw [hg]; exact Nat.ne_of_lt (blk_lt (g := gb304) (o := .cells #[.int .i64 a0_0, .string a0_1, .string a0_2, .slice (some ad305) l0_3.length c0_3] 39 (0, 0)) (by refine blk_up ?_; exact BK304.out)) : gb304 ≠ gb306)); have n6_ := Aside0.mk ((by rw [hg]; exact Nat.ne_of_gt (blk_lt (g := gb304) (o := .cells #[.int .i64 a0_0, .string a0_1, .string a0_2, .slice (some ad305) l0_3.length c0_3] 39 (0, 0)) (by refine blk_up ?_; exact BK304.out)) : gb306 ≠ gb304)); clear BK304; clear HB; have BK304 := n0_; have HB := n1_; have BK306 := n2_; have GW306 := n3_; have GE306 := n4_; have NB304_306 := n5_; have NB306_304 := n6_; clear n0_ n1_ n2_ n3_ n4_ n5_ n6_; clear hb hbox hg; have hnb8 := NB306_304.out; have hnc8 := NB304_306.out; obtain ⟨⟨hcz9_0, hcz9_1⟩, hfz9_0, hfz9_1⟩ := blkC2 BK306.out))
  go_roundg k1
  case measure => have := HK1.out; omega
  case rel => exact ⟨(wrap64 (x3_1 + (wrap64 ((((rd_T46 l0_3 x16_1).f0).size : Int) + (((rd_T46 l0_3 x16_1).f1).size : Int))))), (wrap64 (x16_1 + 1)), dq18, dq18, H', ⟨dq20⟩, ⟨by refine blk_up ?_; refine blk_far ?_ NB304_306.out _; refine blk_up ?_; refine blk_far ?_ NB304_306.out _; refine blk_up ?_; exact BK304.out⟩, ⟨by repeat (first | (with_reducible first | exact HB.out | apply below_alloc | apply pw_below_drewN | apply below_drew1 | refine below_set ?_ GE304.out | refine below_set ?_ GE306.out) | exact HB.out)⟩⟩

/-! ### impl_DocOk: function 34 -/
mutual
def impl_DocOk.j0 : Nat → List (S39) → Bool → Option (Bool)
 | 0, _, _ => none
 | k + 1, x0, x24 => if x24 = true then (some false) else (impl_DocOk.l0 k x0 0 (([] : List Int)) x0 (x0.length : Int) 0)
def impl_DocOk.l0 : Nat → List (S39) → Int → List Int → List (S39) → Int → Int → Option (Bool)
 | 0, _, _, _, _, _, _ => none
 | k + 1, x0, x3, x4, x26, x27, x28 => if x28 < x27 then (if 0 ≤ x28 then (if x28 < (x26.length : Int) then ((impl_Item_isGood.f k ((rd_T39 x26 x28).f0) ((rd_T39 x26 x28).f1) ((rd_T39 x26 x28).f2) ((rd_T39 x26 x28).f3)).bind fun t315 => (if t315 = true then ((impl_Item_bytes.f k ((rd_T39 x26 x28).f0) ((rd_T39 x26 x28).f1) ((rd_T39 x26 x28).f2) ((rd_T39 x26 x28).f3)).bind fun t316 => (impl_DocOk.l1 k x0 (wrap64 (x3 + t316)) x4 x28 x26 x27 x28 ((rd_T39 x26 x28).f0) ((rd_T39 x26 x28).f1) ((rd_T39 x26 x28).f2) ((rd_T39 x26 x28).f3))) else (some false))) else (none)) else (none)) else (some (decide (x3 ≤ 2500)))
def impl_DocOk.j3 : Nat → List (S39) → Int → List Int → Int → List (S39) → Int → Int → Int → ByteArray → ByteArray → List (S46) → Option (Bool)
 | 0, _, _, _, _, _, _, _, _, _, _, _ => none
 | k + 1, x0, x3, x4, x5, x26, x27, x28, x315000, x315001, x315002, x315003 => if x5 > 0 then (if (x4.length : Int) = 0 then (impl_DocOk.j4 k x0 x3 x4 x5 x26 x27 x28 true x315000 x315001 x315002 x315003) else (impl_DocOk.j4 k x0 x3 x4 x5 x26 x27 x28 (decide ((x4.length : Int) ≥ 20)) x315000 x315001 x315002 x315003)) else (impl_DocOk.j4 k x0 x3 x4 x5 x26 x27 x28 (decide ((x4.length : Int) ≥ 20)) x315000 x315001 x315002 x315003)
def impl_DocOk.j4 : Nat → List (S39) → Int → List Int → Int → List (S39) → Int → Int → Bool → Int → ByteArray → ByteArray → List (S46) → Option (Bool)
 | 0, _, _, _, _, _, _, _, _, _, _, _, _ => none
 | k + 1, x0, x3, x4, x5, x26, x27, x28, x70, x315000, x315001, x315002, x315003 => if x70 = true then (some false) else (if x315001.toList = ([] : List UInt8) then (if x5 > 0 then (if 0 ≤ (wrap64 (x5 - 1)) then (if (wrap64 (x5 - 1)) < (x0.length : Int) then (if ((rd_T39 x0 (wrap64 (x5 - 1))).f1).toList = ([] : List UInt8) then (if ((rd_T39 x0 (wrap64 (x5 - 1))).f0) = x315000 then (some false) else (impl_DocOk.l0 k x0 x3 x4 x26 x27 (wrap64 (x28 + 1)))) else (impl_DocOk.l0 k x0 x3 x4 x26 x27 (wrap64 (x28 + 1)))) else (none)) else (none)) else (impl_DocOk.l0 k x0 x3 x4 x26 x27 (wrap64 (x28 + 1)))) else (if x4.length < 17592186044416 then (impl_DocOk.l0 k x0 x3 (x4 ++ [x5]) x26 x27 (wrap64 (x28 + 1))) else (none)))
def impl_DocOk.l1 : Nat → List (S39) → Int → List Int → Int → List (S39) → Int → Int → Int → ByteArray → ByteArray → List (S46) → Option (Bool)
 | 0, _, _, _, _, _, _, _, _, _, _, _ => none
 | k + 1, x0, x3, x4, x5, x26, x27, x28, x315000, x315001, x315002, x315003 => if (x4.length : Int) > 0 then (if 0 ≤ (wrap64 ((x4.length : Int) - 1)) then (if (wrap64 ((x4.length : Int) - 1)) < (x4.length : Int) then (if (rd x4 (wrap64 ((x4.length : Int) - 1))) = x315000 then (impl_DocOk.j3 k x0 x3 x4 x5 x26 x27 x28 x315000 x315001 x315002 x315003) else (if (wrap64 ((x4.length : Int) - 1)) ≤ (x4.length : Int) then (impl_DocOk.l1 k x0 x3 (x4.take ((wrap64 ((x4.length : Int) - 1)) : Int).toNat) x5 x26 x27 x28 x315000 x315001 x315002 x315003) else (none))) else (none)) else (none)) else (impl_DocOk.j3 k x0 x3 x4 x5 x26 x27 x28 x315000 x315001 x315002 x315003)
end
def impl_DocOk.f (k : Nat) (l0 : List (S39)) : Option (Bool) := (impl_in.f (l0.length : Int) 1 200).bind fun t307 => (if t307 = true then (if 0 < (l0.length : Int) then (if ((rd_T39 l0 0).f0) = (-1) then (impl_DocOk.j0 k l0 (((rd_T39 l0 0).f1).toList == ([] : List UInt8))) else (impl_DocOk.j0 k l0 true)) else (none)) else (impl_DocOk.j0 k l0 true))
set_option maxHeartbeats 8000000 in
set_option maxRecDepth 100000 in
theorem impl_DocOk.calls (k : Nat) (A0 : Option Addr) (c0 : Nat) (l0 : List (S39)) (r : Bool) (w : World) (hT : Gl w) (hr0 : Kd.C k39 w A0 l0.length l0) (hc0 : l0.length ≤ c0) (h : impl_DocOk.f k l0 = some r) :
  Calls Tryd.prog 34 #[.slice A0 l0.length c0] w fun e w' => e = .returned (.bool r) ∧ Below w.heap.size w w' := by
 have hu39 := Tryd.underlying39
 have HR0 := Aside0.mk hr0
 have HC0 := Aside0.mk hc0
 clear hr0 hc0
 have HT := Aside0.mk hT
 clear hT
 have HB := Aside0.mk (Below.refl w.heap.size w)
 have H : ((impl_in.f (l0.length : Int) 1 200).bind fun t307 => (if t307 = true then (if 0 < (l0.length : Int) then (if ((rd_T39 l0 0).f0) = (-1) then (impl_DocOk.j0 k l0 (((rd_T39 l0 0).f1).toList == ([] : List UInt8))) else (impl_DocOk.j0 k l0 true)) else (none)) else (impl_DocOk.j0 k l0 true))) = some r := h
 clear h
 have HC2 := Aside0.mk H
 clear H
 go_enter Tryd.func34, Tryd.ntmps34
 go_upto_region 1 with (fail)
 go_cut [24] (fun v24 wc => ∃ (kq : Nat) (x24_1 : Bool), v24 = .bool x24_1 ∧ Aside0 (impl_DocOk.j0 kq l0 x24_1 = some r) ∧ Aside0 (kq ≤ k) ∧ Aside0 (Below w.heap.size w wc))
 case first =>
  have H := HC2.out
  clear HC2
  replace H := Option.bind_eq_some_iff.mp H
  obtain ⟨t307, A30, H⟩ := H
  replace H : (if t307 = true then (if 0 < (l0.length : Int) then (if ((rd_T39 l0 0).f0) = (-1) then (impl_DocOk.j0 k l0 (((rd_T39 l0 0).f1).toList == ([] : List UInt8))) else (impl_DocOk.j0 k l0 true)) else (none)) else (impl_DocOk.j0 k l0 true)) = some r := H
  have A3 := Aside0.mk A30
  clear A30
  by_cases c4 : t307 = true
  rotate_left
  ·replace c4 := Bool.eq_false_iff.mpr c4
   subst c4
   have H1 : (impl_DocOk.j0 k l0 true) = some r := by rw [if_neg (show ¬ (false = true) by decide)] at H; exact H
   clear H
   have H := H1
   clear H1
   have H' := Aside0.mk H
   clear H
   go_wp2_with (first | (go_at_call 56; (with_reducible refine (impl_in.calls (l0.length : Int) 1 200 false _ A3.out).mono ?_); rintro e w' ⟨rfl, ⟨nd, rfl⟩⟩; (try first | exact ⟨rfl, _, World.drewN_drewN _ _ _⟩ | exact ⟨rfl, _, Eq.trans (World.drewN_drewN _ _ _) (congrArg (World.drewN _) (Nat.add_assoc _ _ _))⟩)))
   go_meet
   case rel => exact ⟨_, (true), dq18, H', ⟨dq25⟩, ⟨dq24⟩⟩
  subst c4
  have H1 : (if 0 < (l0.length : Int) then (if ((rd_T39 l0 0).f0) = (-1) then (impl_DocOk.j0 k l0 (((rd_T39 l0 0).f1).toList == ([] : List UInt8))) else (impl_DocOk.j0 k l0 true)) else (none)) = some r := by rw [if_pos rfl] at H; exact H
  clear H
  have H := H1
  clear H1
  by_cases c5 : 0 < (l0.length : Int)
  rotate_left
  ·rw [if_neg c5] at H
   exact absurd H dq21
  rw [if_pos c5] at H
  have c5b0 := decide_eq_true c5
  have c5b1 : decide (0 < l0.length) = true := decide_eq_true dq37
  clear c5
  (first | rw [c5b0] | (simp only [i64_w, i32_w]; rw [c5b0]) | skip)
  by_cases c6 : ((rd_T39 l0 0).f0) = (-1)
  rotate_left
  ·rw [if_neg c6] at H
   have c6b0 := beq_eq_false_iff_ne.mpr c6
   have c6b1 := bne_iff_ne.mpr c6
   have H' := Aside0.mk H
   clear H
   go_wp2_with (first | (go_at_call 56; (with_reducible refine (impl_in.calls (l0.length : Int) 1 200 true _ A3.out).mono ?_); rintro e w' ⟨rfl, ⟨nd, rfl⟩⟩; (try first | exact ⟨rfl, _, World.drewN_drewN _ _ _⟩ | exact ⟨rfl, _, Eq.trans (World.drewN_drewN _ _ _) (congrArg (World.drewN _) (Nat.add_assoc _ _ _))⟩); have p308 : 0 ≤ (0 : Int) := dq37; have q308 : 0 < (l0.length : Int) := of_decide_eq_true dq19; obtain ⟨ad308, A308_3, c308_3, e308, hx308_0, hx308_1, hx308_2, hx308_3, hl308_3, hi308_3⟩ := at_T39 HR0.out 0 p308 q308; cases e308; have qi308 : (0 < l0.length) = True := eq_true dq37; (try rw [show ((0 : Int)).toNat = 0 from rfl] at hx308_0); (try rw [show 0 * 4 = 0 from rfl] at hx308_0); (try rw [Addr.add_zero'] at hx308_0); (try rw [show ((0 : Int)).toNat = 0 from rfl] at hx308_1); (try rw [show 0 * 4 = 0 from rfl] at hx308_1); (try rw [Addr.add_zero'] at hx308_1); (try rw [show ((0 : Int)).toNat = 0 from rfl] at hx308_2); (try rw [show 0 * 4 = 0 from rfl] at hx308_2); (try rw [Addr.add_zero'] at hx308_2); (try rw [show ((0 : Int)).toNat = 0 from rfl] at hx308_3); (try rw [show 0 * 4 = 0 from rfl] at hx308_3); (try rw [Addr.add_zero'] at hx308_3); replace hx308_0 := (HB.out.cell (World.block_lt_of_cell? w _ hx308_0)).trans hx308_0; replace hx308_1 := (HB.out.cell (World.block_lt_of_cell? w _ hx308_1)).trans hx308_1; replace hx308_2 := (HB.out.cell (World.block_lt_of_cell? w _ hx308_2)).trans hx308_2; replace hx308_3 := (HB.out.cell (World.block_lt_of_cell? w _ hx308_3)).trans hx308_3; have HR308_3 := Aside0.mk hi308_3; have HC308_3 := Aside0.mk hl308_3; clear hi308_3 hl308_3; replace p308 := eq_true p308; replace q308 := eq_true q308))
   go_meet
   case rel => exact ⟨_, (true), dq18, H', ⟨dq25⟩, ⟨dq24⟩⟩
  rw [if_pos c6] at H
  have c6b0 := beq_iff_eq.mpr c6
  have c6b1 := bne_eq_false_iff_eq.mpr c6
  clear c6
  have H' := Aside0.mk H
  clear H
  go_wp2_with (first | (go_at_call 56; (with_reducible refine (impl_in.calls (l0.length : Int) 1 200 true _ A3.out).mono ?_); rintro e w' ⟨rfl, ⟨nd, rfl⟩⟩; (try first | exact ⟨rfl, _, World.drewN_drewN _ _ _⟩ | exact ⟨rfl, _, Eq.trans (World.drewN_drewN _ _ _) (congrArg (World.drewN _) (Nat.add_assoc _ _ _))⟩); have p308 : 0 ≤ (0 : Int) := dq37; have q308 : 0 < (l0.length : Int) := of_decide_eq_true dq19; obtain ⟨ad308, A308_3, c308_3, e308, hx308_0, hx308_1, hx308_2, hx308_3, hl308_3, hi308_3⟩ := at_T39 HR0.out 0 p308 q308; cases e308; have qi308 : (0 < l0.length) = True := eq_true dq37; (try rw [show ((0 : Int)).toNat = 0 from rfl] at hx308_0); (try rw [show 0 * 4 = 0 from rfl] at hx308_0); (try rw [Addr.add_zero'] at hx308_0); (try rw [show ((0 : Int)).toNat = 0 from rfl] at hx308_1); (try rw [show 0 * 4 = 0 from rfl] at hx308_1); (try rw [Addr.add_zero'] at hx308_1); (try rw [show ((0 : Int)).toNat = 0 from rfl] at hx308_2); (try rw [show 0 * 4 = 0 from rfl] at hx308_2); (try rw [Addr.add_zero'] at hx308_2); (try rw [show ((0 : Int)).toNat = 0 from rfl] at hx308_3); (try rw [show 0 * 4 = 0 from rfl] at hx308_3); (try rw [Addr.add_zero'] at hx308_3); replace hx308_0 := (HB.out.cell (World.block_lt_of_cell? w _ hx308_0)).trans hx308_0; replace hx308_1 := (HB.out.cell (World.block_lt_of_cell? w _ hx308_1)).trans hx308_1; replace hx308_2 := (HB.out.cell (World.block_lt_of_cell? w _ hx308_2)).trans hx308_2; replace hx308_3 := (HB.out.cell (World.block_lt_of_cell? w _ hx308_3)).trans hx308_3; have HR308_3 := Aside0.mk hi308_3; have HC308_3 := Aside0.mk hl308_3; clear hi308_3 hl308_3; replace p308 := eq_true p308; replace q308 := eq_true q308; have p309 : 0 ≤ (0 : Int) := dq37; have q309 : 0 < (l0.length : Int) := of_decide_eq_true dq19; obtain ⟨ad309, A309_3, c309_3, e309, hx309_0, hx309_1, hx309_2, hx309_3, hl309_3, hi309_3⟩ := at_T39 HR0.out 0 p309 q309; obtain rfl : ad308 = ad309 := (by injection e309); have qi309 : (0 < l0.length) = True := eq_true dq37; (try rw [show ((0 : Int)).toNat = 0 from rfl] at hx309_0); (try rw [show 0 * 4 = 0 from rfl] at hx309_0); (try rw [Addr.add_zero'] at hx309_0); (try rw [show ((0 : Int)).toNat = 0 from rfl] at hx309_1); (try rw [show 0 * 4 = 0 from rfl] at hx309_1); (try rw [Addr.add_zero'] at hx309_1); (try rw [show ((0 : Int)).toNat = 0 from rfl] at hx309_2); (try rw [show 0 * 4 = 0 from rfl] at hx309_2); (try rw [Addr.add_zero'] at hx309_2); (try rw [show ((0 : Int)).toNat = 0 from rfl] at hx309_3); (try rw [show 0 * 4 = 0 from rfl] at hx309_3); (try rw [Addr.add_zero'] at hx309_3); replace hx309_0 := (HB.out.cell (World.block_lt_of_cell? w _ hx309_0)).trans hx309_0; replace hx309_1 := (HB.out.cell (World.block_lt_of_cell? w _ hx309_1)).trans hx309_1; replace hx309_2 := (HB.out.cell (World.block_lt_of_cell? w _ hx309_2)).trans hx309_2; replace hx309_3 := (HB.out.cell (World.block_lt_of_cell? w _ hx309_3)).trans hx309_3; have HR309_3 := Aside0.mk hi309_3; have HC309_3 := Aside0.mk hl309_3; clear hi309_3 hl309_3; replace p309 := eq_true p309; replace q309 := eq_true q309; have ea_ := Option.some.inj (hx308_3.symm.trans hx309_3); injection ea_ with ea_ en_ ec_; subst ea_; subst ec_; clear en_))
  go_meet
  case rel => exact ⟨_, ((((rd_T39 l0 0).f1).toList == ([] : List UInt8))), dq18, H', ⟨dq25⟩, ⟨dq24⟩⟩
 clear HC2
 obtain ⟨kq, x24_1, rfl, HA, HJ1, HB⟩ := hcut
 cases kq with
 | zero => exact absurd HA.out (by simp [impl_DocOk.j0])
 | succ kj1 =>
  have H := HA.out
  clear HA
  simp only [impl_DocOk.j0] at H
  by_cases c7 : x24_1 = true
  ·subst c7
   have H1 : (some false) = some r := by rw [if_pos rfl] at H; exact H
   clear H
   have H := H1
   clear H1
   obtain rfl := Option.some.inj H
   go_wp2
   go_ret
   exact ⟨dq26, dq24⟩
  replace c7 := Bool.eq_false_iff.mpr c7
  subst c7
  have H1 : (impl_DocOk.l0 kj1 l0 0 (([] : List Int)) l0 (l0.length : Int) 0) = some r := by rw [if_neg (show ¬ (false = true) by decide)] at H; exact H
  clear H
  have H := H1
  clear H1
  obtain ⟨y310, hy310⟩ : ∃ y_ : List Int, y_ = (([] : List Int)) := ⟨_, rfl⟩
  replace H : (impl_DocOk.l0 kj1 l0 0 y310 l0 (l0.length : Int) 0) = some r := by first | (rw [hy310]; with_reducible exact H) | (have H2_ := (Option.bind_some _ _).symm.trans H; rw [hy310]; with_reducible exact H2_) | (have H2_ := (Option.bind_some _ _).symm.trans H; with_reducible exact H2_) | with_reducible exact H | (rw [hy310]; exact H) | exact H
  have Ny310 := Aside0.mk hy310
  clear hy310
  have H' := Aside0.mk H
  clear H
  go_wp2_with (first | ((with_reducible refine gate_dst (N := 25) rfl ?_); (try (refine gate_guard (by rfl) ?_; dsimp only)); refine Kd.R_lit (Kd.int .i64) _ 2 ?hg (N := 25) ?hd (xs := ([] : List Int)) (inner := []) (ok := fun _ => True) (okp := fun _ => True) ?hr ?hp (fun _ hk => hk) trivial (Below.refl _ _) (Nat.le_refl _) dq21 ?_; (case hd => rfl); (case hg => rfl); (case hr => exact dq1); (case hp => exact (Reps.none _ _)); intro v311 w8 ho9 hb hg_ hnew_; clear hg_ hnew_; (first | rw [← Ny310.out] at ho9 | (simp only [Int.reduceToNat] at ho9; rw [← Ny310.out] at ho9)); have n0_ := Aside0.mk (Kd.R_lower ho9 (below_size dq24)); have n1_ := Aside0.mk (below_step dq24 hb); clear HB; have HO312 := n0_; have HB := n1_; clear n0_ n1_; clear hb ho9))
  go_loopg [3, 4, 28] kj1 (fun kq v3 v4 v28 w' => ∃ (x3_2 : Int) (x4_2 : List Int) (x28_2 : Int), v3 = .int .i64 x3_2 ∧ v28 = .int .i64 x28_2 ∧ Aside0 (impl_DocOk.l0 kq l0 x3_2 x4_2 l0 (l0.length : Int) x28_2 = some r) ∧ Aside0 (kq ≤ kj1) ∧ Aside0 (Kd.R (Kd.int .i64) 2 w' w.heap.size (fun _ => True) v4 x4_2) ∧ Aside0 (Below w.heap.size w w'))
  case atStart => exact ⟨(0), (y310), (0), dq18, dq18, H', ⟨Nat.le_refl _⟩, ⟨by (with_reducible repeat (first | apply Kd.R_alloc | apply Kd.R_drewN | apply Kd.R_drew)); exact HO312.out⟩, ⟨dq24⟩⟩
  clear H'
  obtain ⟨x3_2, x4_2, x28_2, rfl, rfl, HA, HK2, HO_4, HB⟩ := hrel
  cases gk with
  | zero => exact absurd HA.out (by simp [impl_DocOk.l0])
  | succ k2 =>
   have H := HA.out
   clear HA
   simp only [impl_DocOk.l0] at H
   by_cases c10 : x28_2 < (l0.length : Int)
   rotate_left
   ·rw [if_neg c10] at H
    have c10b0 := decide_eq_false c10
    clear c10
    obtain rfl := Option.some.inj H
    go_wp2
    go_ret
    exact ⟨dq26, dq24⟩
   rw [if_pos c10] at H
   have c10b0 := decide_eq_true c10
   clear c10
   by_cases c11 : 0 ≤ x28_2
   rotate_left
   ·rw [if_neg c11] at H
    exact absurd H dq21
   rw [if_pos c11] at H
   have c11b0 := decide_eq_true c11
   clear c11
   by_cases c12 : x28_2 < (l0.length : Int)
   rotate_left
   ·rw [if_neg c12] at H
    exact absurd H dq21
   rw [if_pos c12] at H
   have c12b0 := decide_eq_true c12
   clear c12
   replace H := Option.bind_eq_some_iff.mp H
   obtain ⟨t315, A130, H⟩ := H
   replace H : (if t315 = true then ((impl_Item_bytes.f k2 ((rd_T39 l0 x28_2).f0) ((rd_T39 l0 x28_2).f1) ((rd_T39 l0 x28_2).f2) ((rd_T39 l0 x28_2).f3)).bind fun t316 => (impl_DocOk.l1 k2 l0 (wrap64 (x3_2 + t316)) x4_2 x28_2 l0 (l0.length : Int) x28_2 ((rd_T39 l0 x28_2).f0) ((rd_T39 l0 x28_2).f1) ((rd_T39 l0 x28_2).f2) ((rd_T39 l0 x28_2).f3))) else (some false)) = some r := H
   have A13 := Aside0.mk A130
   clear A130
   by_cases c14 : t315 = true
   rotate_left
   ·replace c14 := Bool.eq_false_iff.mpr c14
    subst c14
    have H1 : (some false) = some r := by rw [if_neg (show ¬ (false = true) by decide)] at H; exact H
    clear H
    have H := H1
    clear H1
    obtain rfl := Option.some.inj H
    have p313 : 0 ≤ (x28_2 : Int) := of_decide_eq_true dq19
    have q313 : x28_2 < (l0.length : Int) := of_decide_eq_true dq19
    obtain ⟨ad313, A313_3, c313_3, e313, hx313_0, hx313_1, hx313_2, hx313_3, hl313_3, hi313_3⟩ := at_T39 HR0.out x28_2 p313 q313
    cases e313
    replace hx313_0 := (HB.out.cell (World.block_lt_of_cell? w _ hx313_0)).trans hx313_0
    replace hx313_1 := (HB.out.cell (World.block_lt_of_cell? w _ hx313_1)).trans hx313_1
    replace hx313_2 := (HB.out.cell (World.block_lt_of_cell? w _ hx313_2)).trans hx313_2
    replace hx313_3 := (HB.out.cell (World.block_lt_of_cell? w _ hx313_3)).trans hx313_3
    have HR313_3 := Aside0.mk hi313_3
    have HC313_3 := Aside0.mk hl313_3
    clear hi313_3 hl313_3
    replace p313 := eq_true p313
    replace q313 := eq_true q313
    go_wp2_with (first | ((with_reducible refine gate_dst (N := 6) rfl ?_); (try (refine gate_guard (by rfl) ?_; dsimp only)); refine box_event ?hg (N := 6) ?hd (cs := #[.int .i64 0, .string (⟨#[]⟩ : ByteArray), .string (⟨#[]⟩ : ByteArray), .slice none 0 0]) (t := 39) ?hr ?_; (case hd => rfl); (case hg => rfl); (case hr => exact dq1); intro gb314 hg w55 hbox hb; have n0_ := Aside0.mk (Kd.R_below dq46 hb); have n1_ := Aside0.mk (below_step dq24 hb); have n2_ := Aside0.mk (hbox); have n3_ := Aside0.mk ((dq27 : w.heap.size ≤ gb314)); have n4_ := Aside0.mk ((dq27 : w.heap.size ≤ gb314)); clear HO_4; clear HB; have HO_4 := n0_; have HB := n1_; have BK314 := n2_; have GW314 := n3_; have GE314 := n4_; clear n0_ n1_ n2_ n3_ n4_; clear hb hbox hg; obtain ⟨⟨hcz56_0, hcz56_1, hcz56_2, hcz56_3⟩, hfz56_0, hfz56_1, hfz56_2, hfz56_3⟩ := blkC4 BK314.out) | (go_at_call 71; (with_reducible refine (impl_Item_isGood.calls k2 ((rd_T39 l0 x28_2).f0) ((rd_T39 l0 x28_2).f1) ((rd_T39 l0 x28_2).f2) _ _ ((rd_T39 l0 x28_2).f3) false _ ?side3 ?side1 ?side2 A13.out).mono ?_); (case side1 => exact dq3); (case side2 => exact HC313_3.out); (case side3 => exact dq4); rintro e w57 ⟨rfl, hb⟩; have n0_ := Aside0.mk (Kd.R_below dq48 hb); have n1_ := Aside0.mk (blk_below (g := gb314) (o := .cells #[.int .i64 ((rd_T39 l0 x28_2).f0), .string ((rd_T39 l0 x28_2).f1), .string ((rd_T39 l0 x28_2).f2), .slice A313_3 ((rd_T39 l0 x28_2).f3).length c313_3] 39 (0, 0)) dq47 hb); have n2_ := Aside0.mk (below_step dq44 hb); clear HO_4; clear BK314; clear HB; have HO_4 := n0_; have BK314 := n1_; have HB := n2_; clear n0_ n1_ n2_; (try clear hb); (try clear hb2); (try clear hk); (try clear hi)))
    go_ret
    exact ⟨dq26, dq44⟩
   subst c14
   have H1 : ((impl_Item_bytes.f k2 ((rd_T39 l0 x28_2).f0) ((rd_T39 l0 x28_2).f1) ((rd_T39 l0 x28_2).f2) ((rd_T39 l0 x28_2).f3)).bind fun t316 => (impl_DocOk.l1 k2 l0 (wrap64 (x3_2 + t316)) x4_2 x28_2 l0 (l0.length : Int) x28_2 ((rd_T39 l0 x28_2).f0) ((rd_T39 l0 x28_2).f1) ((rd_T39 l0 x28_2).f2) ((rd_T39 l0 x28_2).f3))) = some r := by rw [if_pos rfl] at H; exact H
   clear H
   have H := H1
   clear H1
   replace H := Option.bind_eq_some_iff.mp H
   obtain ⟨t316, A150, H⟩ := H
   replace H : (impl_DocOk.l1 k2 l0 (wrap64 (x3_2 + t316)) x4_2 x28_2 l0 (l0.length : Int) x28_2 ((rd_T39 l0 x28_2).f0) ((rd_T39 l0 x28_2).f1) ((rd_T39 l0 x28_2).f2) ((rd_T39 l0 x28_2).f3)) = some r := H
   have A15 := Aside0.mk A150
   clear A150
   have HC16 := Aside0.mk H
   clear H
   have p313 : 0 ≤ (x28_2 : Int) := of_decide_eq_true dq19
   have q313 : x28_2 < (l0.length : Int) := of_decide_eq_true dq19
   obtain ⟨ad313, A313_3, c313_3, e313, hx313_0, hx313_1, hx313_2, hx313_3, hl313_3, hi313_3⟩ := at_T39 HR0.out x28_2 p313 q313
   cases e313
   replace hx313_0 := (HB.out.cell (World.block_lt_of_cell? w _ hx313_0)).trans hx313_0
   replace hx313_1 := (HB.out.cell (World.block_lt_of_cell? w _ hx313_1)).trans hx313_1
   replace hx313_2 := (HB.out.cell (World.block_lt_of_cell? w _ hx313_2)).trans hx313_2
   replace hx313_3 := (HB.out.cell (World.block_lt_of_cell? w _ hx313_3)).trans hx313_3
   have HR313_3 := Aside0.mk hi313_3
   have HC313_3 := Aside0.mk hl313_3
   clear hi313_3 hl313_3
   replace p313 := eq_true p313
   replace q313 := eq_true q313
   go_upto_block 2 with (first | ((with_reducible refine gate_dst (N := 6) rfl ?_); (try (refine gate_guard (by rfl) ?_; dsimp only)); refine box_event ?hg (N := 6) ?hd (cs := #[.int .i64 0, .string (⟨#[]⟩ : ByteArray), .string (⟨#[]⟩ : ByteArray), .slice none 0 0]) (t := 39) ?hr ?_; (case hd => rfl); (case hg => rfl); (case hr => exact dq1); intro gb314 hg w17 hbox hb; have n0_ := Aside0.mk (Kd.R_below dq46 hb); have n1_ := Aside0.mk (below_step dq24 hb); have n2_ := Aside0.mk (hbox); have n3_ := Aside0.mk ((dq27 : w.heap.size ≤ gb314)); have n4_ := Aside0.mk ((dq27 : w.heap.size ≤ gb314)); clear HO_4; clear HB; have HO_4 := n0_; have HB := n1_; have BK314 := n2_; have GW314 := n3_; have GE314 := n4_; clear n0_ n1_ n2_ n3_ n4_; clear hb hbox hg; obtain ⟨⟨hcz18_0, hcz18_1, hcz18_2, hcz18_3⟩, hfz18_0, hfz18_1, hfz18_2, hfz18_3⟩ := blkC4 BK314.out) | (go_at_call 71; (with_reducible refine (impl_Item_isGood.calls k2 ((rd_T39 l0 x28_2).f0) ((rd_T39 l0 x28_2).f1) ((rd_T39 l0 x28_2).f2) _ _ ((rd_T39 l0 x28_2).f3) true _ ?side3 ?side1 ?side2 A13.out).mono ?_); (case side1 => exact dq3); (case side2 => exact HC313_3.out); (case side3 => exact dq4); rintro e w19 ⟨rfl, hb⟩; have n0_ := Aside0.mk (Kd.R_below dq48 hb); have n1_ := Aside0.mk (blk_below (g := gb314) (o := .cells #[.int .i64 ((rd_T39 l0 x28_2).f0), .string ((rd_T39 l0 x28_2).f1), .string ((rd_T39 l0 x28_2).f2), .slice A313_3 ((rd_T39 l0 x28_2).f3).length c313_3] 39 (0, 0)) dq47 hb); have n2_ := Aside0.mk (below_step dq44 hb); clear HO_4; clear BK314; clear HB; have HO_4 := n0_; have BK314 := n1_; have HB := n2_; clear n0_ n1_ n2_; (try clear hb); (try clear hb2); (try clear hk); (try clear hi); obtain ⟨⟨hcz20_0, hcz20_1, hcz20_2, hcz20_3⟩, hfz20_0, hfz20_1, hfz20_2, hfz20_3⟩ := blkC4 BK314.out) | (go_at_call 72; (with_reducible refine (impl_Item_bytes.calls k2 ((rd_T39 l0 x28_2).f0) ((rd_T39 l0 x28_2).f1) ((rd_T39 l0 x28_2).f2) _ _ ((rd_T39 l0 x28_2).f3) t316 _ ?side1 ?side2 A15.out).mono ?_); (case side1 => repeat (first | exact (Kd.C_below HR313_3.out HB.out) | (with_reducible refine Kd.C_alloc ?_ _) | (with_reducible refine Kd.C_drewN ?_ _) | (with_reducible refine Kd.C_drew ?_))); (case side2 => exact HC313_3.out); rintro e w21 ⟨rfl, hb⟩; have n0_ := Aside0.mk (Kd.R_below dq46 hb); have n1_ := Aside0.mk (blk_below (g := gb314) (o := .cells #[.int .i64 ((rd_T39 l0 x28_2).f0), .string ((rd_T39 l0 x28_2).f1), .string ((rd_T39 l0 x28_2).f2), .slice A313_3 ((rd_T39 l0 x28_2).f3).length c313_3] 39 (0, 0)) dq45 hb); have n2_ := Aside0.mk (below_step dq44 hb); clear HO_4; clear BK314; clear HB; have HO_4 := n0_; have BK314 := n1_; have HB := n2_; clear n0_ n1_ n2_; (try clear hb); (try clear hb2); (try clear hk); (try clear hi)))
   (try simp only [Act.put, List.setIfInBounds_toArray, List.set_cons_zero, List.set_cons_succ])
   go_cut [4] (fun v4 wc => ∃ (kq : Nat) (x4_15 : List Int), Aside0 (impl_DocOk.j3 kq l0 (wrap64 (x3_2 + t316)) x4_15 x28_2 l0 (l0.length : Int) x28_2 ((rd_T39 l0 x28_2).f0) ((rd_T39 l0 x28_2).f1) ((rd_T39 l0 x28_2).f2) ((rd_T39 l0 x28_2).f3) = some r) ∧ Aside0 (kq ≤ k2) ∧ Aside0 (Kd.R (Kd.int .i64) 2 wc w.heap.size (fun _ => True) v4 x4_15) ∧ Aside0 (wc.heap[gb314]? = some (.cells #[.int .i64 ((rd_T39 l0 x28_2).f0), .string ((rd_T39 l0 x28_2).f1), .string ((rd_T39 l0 x28_2).f2), (.slice A313_3 ((rd_T39 l0 x28_2).f3).length c313_3)] 39 (0, 0))) ∧ Aside0 (Below w.heap.size w wc))
   case first =>
    have H := HC16.out
    clear HC16
    have H' := Aside0.mk H
    clear H
    go_wp2
    go_loopg [4] k2 (fun kq v4 w' => ∃ (x4_3 : List Int), Aside0 (impl_DocOk.l1 kq l0 (wrap64 (x3_2 + t316)) x4_3 x28_2 l0 (l0.length : Int) x28_2 ((rd_T39 l0 x28_2).f0) ((rd_T39 l0 x28_2).f1) ((rd_T39 l0 x28_2).f2) ((rd_T39 l0 x28_2).f3) = some r) ∧ Aside0 (kq ≤ k2) ∧ Aside0 (Kd.R (Kd.int .i64) 2 w' w.heap.size (fun _ => True) v4 x4_3) ∧ Aside0 (w'.heap[gb314]? = some (.cells #[.int .i64 ((rd_T39 l0 x28_2).f0), .string ((rd_T39 l0 x28_2).f1), .string ((rd_T39 l0 x28_2).f2), (.slice A313_3 ((rd_T39 l0 x28_2).f3).length c313_3)] 39 (0, 0))) ∧ Aside0 (Below w.heap.size w w'))
    case atStart => exact ⟨(x4_2), H', ⟨Nat.le_refl _⟩, ⟨dq46⟩, ⟨dq45⟩, ⟨dq44⟩⟩
    clear H'
    try clear c10b0
    try clear c11b0
    try clear c12b0
    try clear hcz18_0
    try clear hcz18_1
    try clear hcz18_2
    try clear hcz18_3
    try clear hcz20_0
    try clear hcz20_1
    try clear hcz20_2
    try clear hcz20_3
    try clear hfz18_0
    try clear hfz18_1
    try clear hfz18_2
    try clear hfz18_3
    try clear hfz20_0
    try clear hfz20_1
    try clear hfz20_2
    try clear hfz20_3
    try clear hx313_0
    try clear hx313_1
    try clear hx313_2
    try clear hx313_3
    try clear p313
    try clear q313
    obtain ⟨x4_3, HA, HK3, HO_4, BK314, HB⟩ := hrel
    cases gk with
    | zero => exact absurd HA.out (by simp [impl_DocOk.l1])
    | succ k3 =>
     have H := HA.out
     clear HA
     simp only [impl_DocOk.l1] at H
     by_cases c22 : (x4_3.length : Int) > 0
     rotate_left
     ·rw [if_neg c22] at H
      have c22b0 : decide (0 < (x4_3.length : Int)) = false := decide_eq_false c22
      have c22b1 : decide (0 < x4_3.length) = false := decide_eq_false dq37
      clear c22
      (first | rw [c22b0] | (simp only [i64_w, i32_w]; rw [c22b0]) | skip)
      have H' := Aside0.mk H
      clear H
      obtain ⟨Ao33, co33, eo33⟩ := Kd.R_slice HO_4.out
      subst eo33
      go_wp2
      repeat (go_quiet (fail); try go_wp2)
      go_meet
      case rel => exact ⟨_, (x4_3), H', ⟨dq49⟩, ⟨dq46⟩, ⟨dq45⟩, ⟨dq44⟩⟩
     rw [if_pos c22] at H
     have c22b0 : decide (0 < (x4_3.length : Int)) = true := decide_eq_true c22
     have c22b1 : decide (0 < x4_3.length) = true := decide_eq_true dq37
     clear c22
     (first | rw [c22b0] | (simp only [i64_w, i32_w]; rw [c22b0]) | skip)
     obtain ⟨ji23, hji23⟩ : ∃ j_ : Int, (wrap64 ((x4_3.length : Int) - 1)) = j_ := ⟨_, rfl⟩
     replace H : (if 0 ≤ (ji23) then (if (ji23) < (x4_3.length : Int) then (if (rd x4_3 (ji23)) = ((rd_T39 l0 x28_2).f0) then (impl_DocOk.j3 k3 l0 (wrap64 (x3_2 + t316)) x4_3 x28_2 l0 (l0.length : Int) x28_2 ((rd_T39 l0 x28_2).f0) ((rd_T39 l0 x28_2).f1) ((rd_T39 l0 x28_2).f2) ((rd_T39 l0 x28_2).f3)) else (if (ji23) ≤ (x4_3.length : Int) then (impl_DocOk.l1 k3 l0 (wrap64 (x3_2 + t316)) (x4_3.take ((ji23) : Int).toNat) x28_2 l0 (l0.length : Int) x28_2 ((rd_T39 l0 x28_2).f0) ((rd_T39 l0 x28_2).f1) ((rd_T39 l0 x28_2).f2) ((rd_T39 l0 x28_2).f3)) else (none))) else (none)) else (none)) = some r := by first | (rw [hji23] at H; exact H) | (simp only [hji23] at H ⊢; exact H)
     have hji23w : (IntKind.i64.wrap ((x4_3.length : Int) - 1)) = ji23 := (i64_w _).trans hji23
     by_cases c24 : 0 ≤ (ji23)
     rotate_left
     ·rw [if_neg c24] at H
      exact absurd H dq21
     rw [if_pos c24] at H
     have c24b0 := decide_eq_true c24
     clear c24
     by_cases c25 : (ji23) < (x4_3.length : Int)
     rotate_left
     ·rw [if_neg c25] at H
      exact absurd H dq21
     rw [if_pos c25] at H
     have c25b0 := decide_eq_true c25
     clear c25
     by_cases c26 : (rd x4_3 (ji23)) = ((rd_T39 l0 x28_2).f0)
     ·rw [if_pos c26] at H
      have c26b0 := beq_iff_eq.mpr c26
      have c26b1 := bne_eq_false_iff_eq.mpr c26
      clear c26
      have H' := Aside0.mk H
      clear H
      obtain ⟨Ao27, co27, eo27⟩ := Kd.R_slice HO_4.out
      subst eo27
      have p317 : 0 ≤ ((ji23) : Int) := of_decide_eq_true dq19
      have q317 : (ji23) < (x4_3.length : Int) := of_decide_eq_true dq19
      obtain ⟨ad317, e317, hx317_0⟩ := Kd.at_int (Kd.R_reads' HO_4.out).2.2 (ji23) p317 q317
      cases e317
      replace p317 := eq_true p317
      replace q317 := eq_true q317
      obtain ⟨⟨hcz28_0, hcz28_1, hcz28_2, hcz28_3⟩, hfz28_0, hfz28_1, hfz28_2, hfz28_3⟩ := blkC4 BK314.out
      go_wp2
      repeat (go_quiet (fail); try go_wp2)
      go_meet
      case rel => exact ⟨_, (x4_3), H', ⟨dq49⟩, ⟨dq46⟩, ⟨dq45⟩, ⟨dq44⟩⟩
     rw [if_neg c26] at H
     have c26b0 := beq_eq_false_iff_ne.mpr c26
     have c26b1 := bne_iff_ne.mpr c26
     by_cases c29 : (ji23) ≤ (x4_3.length : Int)
     rotate_left
     ·rw [if_neg c29] at H
      exact absurd H dq21
     rw [if_pos c29] at H
     have c29b0 := eq_true c29
     have c29b1 := decide_eq_true c29
     clear c29
     obtain ⟨y318, hy318⟩ : ∃ y_ : List Int, y_ = (x4_3.take ((ji23) : Int).toNat) := ⟨_, rfl⟩
     replace H : (impl_DocOk.l1 k3 l0 (wrap64 (x3_2 + t316)) y318 x28_2 l0 (l0.length : Int) x28_2 ((rd_T39 l0 x28_2).f0) ((rd_T39 l0 x28_2).f1) ((rd_T39 l0 x28_2).f2) ((rd_T39 l0 x28_2).f3)) = some r := by first | (rw [hy318]; with_reducible exact H) | (have H2_ := (Option.bind_some _ _).symm.trans H; rw [hy318]; with_reducible exact H2_) | (have H2_ := (Option.bind_some _ _).symm.trans H; with_reducible exact H2_) | with_reducible exact H | (rw [hy318]; exact H) | exact H
     have Ny318 := Aside0.mk hy318
     clear hy318
     have H' := Aside0.mk H
     clear H
     obtain ⟨Ao30, co30, eo30⟩ := Kd.R_slice HO_4.out
     subst eo30
     have p317 : 0 ≤ ((ji23) : Int) := of_decide_eq_true dq19
     have q317 : (ji23) < (x4_3.length : Int) := of_decide_eq_true dq19
     obtain ⟨ad317, e317, hx317_0⟩ := Kd.at_int (Kd.R_reads' HO_4.out).2.2 (ji23) p317 q317
     cases e317
     replace p317 := eq_true p317
     replace q317 := eq_true q317
     obtain ⟨⟨hcz31_0, hcz31_1, hcz31_2, hcz31_3⟩, hfz31_0, hfz31_1, hfz31_2, hfz31_3⟩ := blkC4 BK314.out
     have q32 : ((ji23) : Int) ≤ ((x4_3.length : Int) : Int) := of_decide_eq_true dq19
     obtain ⟨i032, hi032, _, hsz32, _⟩ := info_parts info2
     have hcut32 := cut_to (P := Tryd.prog) 24 2 .i64 Tryd.underlying24 hi032 (some ad317) x4_3.length co30 (ji23) (of_decide_eq_true dq19) q32 (Kd.R_reads' HO_4.out).2.1
     have hr32 := Kd.R_take (m := ((ji23) : Int).toNat) HO_4.out dq37
     have hy32 : y318.length = ((ji23) : Int).toNat := (by rw [Ny318.out, List.length_take]; omega)
     rw [← Ny318.out] at hr32
     rw [← hy32] at hr32 hcut32
     clear hy32 hi032 hsz32 HO_4
     have HO320 := Aside0.mk hr32
     clear hr32
     replace q32 := eq_true q32
     go_wp2
     repeat (go_quiet (fail); try go_wp2)
     go_roundg k3
     case measure => have := HJ1.out; have := HK2.out; have := HK3.out; omega
     case rel => exact ⟨(y318), H', ⟨by have := HJ1.out; have := HK2.out; have := HK3.out; omega⟩, ⟨by (with_reducible repeat (first | apply Kd.R_alloc | apply Kd.R_drewN | apply Kd.R_drew)); exact HO320.out⟩, ⟨dq45⟩, ⟨dq44⟩⟩
   clear HC16
   try clear c10b0
   try clear c11b0
   try clear c12b0
   try clear hcz18_0
   try clear hcz18_1
   try clear hcz18_2
   try clear hcz18_3
   try clear hcz20_0
   try clear hcz20_1
   try clear hcz20_2
   try clear hcz20_3
   try clear hfz18_0
   try clear hfz18_1
   try clear hfz18_2
   try clear hfz18_3
   try clear hfz20_0
   try clear hfz20_1
   try clear hfz20_2
   try clear hfz20_3
   try clear hx313_0
   try clear hx313_1
   try clear hx313_2
   try clear hx313_3
   try clear p313
   try clear q313
   obtain ⟨kq, x4_15, HA, HJ15, HO_4, BK314, HB⟩ := hcut
   cases kq with
   | zero => exact absurd HA.out (by simp [impl_DocOk.j3])
   | succ kj15 =>
    have H := HA.out
    clear HA
    simp only [impl_DocOk.j3] at H
    have HC34 := Aside0.mk H
    clear H
    go_upto_region 12 with (fail)
    go_cut [70] (fun v70 wc => ∃ (kq : Nat) (x70_33 : Bool), v70 = .bool x70_33 ∧ Aside0 (impl_DocOk.j4 kq l0 (wrap64 (x3_2 + t316)) x4_15 x28_2 l0 (l0.length : Int) x28_2 x70_33 ((rd_T39 l0 x28_2).f0) ((rd_T39 l0 x28_2).f1) ((rd_T39 l0 x28_2).f2) ((rd_T39 l0 x28_2).f3) = some r) ∧ Aside0 (kq ≤ kj15) ∧ Aside0 (Kd.R (Kd.int .i64) 2 wc w.heap.size (fun _ => True) u4 x4_15) ∧ Aside0 (wc.heap[gb314]? = some (.cells #[.int .i64 ((rd_T39 l0 x28_2).f0), .string ((rd_T39 l0 x28_2).f1), .string ((rd_T39 l0 x28_2).f2), (.slice A313_3 ((rd_T39 l0 x28_2).f3).length c313_3)] 39 (0, 0))) ∧ Aside0 (Below w.heap.size w wc))
    case first =>
     have H := HC34.out
     clear HC34
     by_cases c35 : x28_2 > 0
     rotate_left
     ·rw [if_neg c35] at H
      have c35b0 : decide (0 < x28_2) = false := decide_eq_false c35
      clear c35
      (first | rw [c35b0] | (simp only [i64_w, i32_w]; rw [c35b0]) | skip)
      have H' := Aside0.mk H
      clear H
      obtain ⟨Ao39, co39, eo39⟩ := Kd.R_slice HO_4.out
      subst eo39
      go_wp2
      go_meet
      case rel => exact ⟨_, (decide ((x4_15.length : Int) ≥ 20)), dq18, H', ⟨dq50⟩, ⟨dq46⟩, ⟨dq45⟩, ⟨dq44⟩⟩
     rw [if_pos c35] at H
     have c35b0 : decide (0 < x28_2) = true := decide_eq_true c35
     clear c35
     (first | rw [c35b0] | (simp only [i64_w, i32_w]; rw [c35b0]) | skip)
     by_cases c36 : (x4_15.length : Int) = 0
     ·rw [if_pos c36] at H
      have c36b0 := beq_iff_eq.mpr c36
      have c36b1 := bne_eq_false_iff_eq.mpr c36
      clear c36
      have H' := Aside0.mk H
      clear H
      obtain ⟨Ao37, co37, eo37⟩ := Kd.R_slice HO_4.out
      subst eo37
      go_wp2
      go_meet
      case rel => exact ⟨_, (true), dq18, H', ⟨dq50⟩, ⟨dq46⟩, ⟨dq45⟩, ⟨dq44⟩⟩
     rw [if_neg c36] at H
     have c36b0 := beq_eq_false_iff_ne.mpr c36
     have c36b1 := bne_iff_ne.mpr c36
     have c36b2 : ¬ (x4_15 = []) := fun h_ => c36 (by rw [h_]; rfl)
     have H' := Aside0.mk H
     clear H
     obtain ⟨Ao38, co38, eo38⟩ := Kd.R_slice HO_4.out
     subst eo38
     go_wp2
     go_meet
     case rel => exact ⟨_, (decide ((x4_15.length : Int) ≥ 20)), dq18, H', ⟨dq50⟩, ⟨dq46⟩, ⟨dq45⟩, ⟨dq44⟩⟩
    clear HC34
    obtain ⟨kq, x70_33, rfl, HA, HJ33, HO_4, BK314, HB⟩ := hcut
    cases kq with
    | zero => exact absurd HA.out (by simp [impl_DocOk.j4])
    | succ kj33 =>
     have H := HA.out
     clear HA
     simp only [impl_DocOk.j4] at H
     by_cases c40 : x70_33 = true
     ·subst c40
      have H1 : (some false) = some r := by rw [if_pos rfl] at H; exact H
      clear H
      have H := H1
      clear H1
      obtain rfl := Option.some.inj H
      go_wp2
      go_ret
      exact ⟨dq26, dq44⟩
     replace c40 := Bool.eq_false_iff.mpr c40
     subst c40
     have H1 : (if ((rd_T39 l0 x28_2).f1).toList = ([] : List UInt8) then (if x28_2 > 0 then (if 0 ≤ (wrap64 (x28_2 - 1)) then (if (wrap64 (x28_2 - 1)) < (l0.length : Int) then (if ((rd_T39 l0 (wrap64 (x28_2 - 1))).f1).toList = ([] : List UInt8) then (if ((rd_T39 l0 (wrap64 (x28_2 - 1))).f0) = ((rd_T39 l0 x28_2).f0) then (some false) else (impl_DocOk.l0 kj33 l0 (wrap64 (x3_2 + t316)) x4_15 l0 (l0.length : Int) (wrap64 (x28_2 + 1)))) else (impl_DocOk.l0 kj33 l0 (wrap64 (x3_2 + t316)) x4_15 l0 (l0.length : Int) (wrap64 (x28_2 + 1)))) else (none)) else (none)) else (impl_DocOk.l0 kj33 l0 (wrap64 (x3_2 + t316)) x4_15 l0 (l0.length : Int) (wrap64 (x28_2 + 1)))) else (if x4_15.length < 17592186044416 then (impl_DocOk.l0 kj33 l0 (wrap64 (x3_2 + t316)) (x4_15 ++ [x28_2]) l0 (l0.length : Int) (wrap64 (x28_2 + 1))) else (none))) = some r := by rw [if_neg (show ¬ (false = true) by decide)] at H; exact H
     clear H
     have H := H1
     clear H1
     by_cases c41 : ((rd_T39 l0 x28_2).f1).toList = ([] : List UInt8)
     rotate_left
     ·rw [if_neg c41] at H
      have c41b0 := beq_eq_false_iff_ne.mpr c41
      have c41b1 := bne_iff_ne.mpr c41
      by_cases c52 : x4_15.length < 17592186044416
      rotate_left
      ·rw [if_neg c52] at H
       exact absurd H dq21
      rw [if_pos c52] at H
      have LMc52 := Aside0.mk c52
      clear c52
      obtain ⟨y323, hy323⟩ : ∃ y_ : List Int, y_ = (x4_15 ++ [x28_2]) := ⟨_, rfl⟩
      replace H : (impl_DocOk.l0 kj33 l0 (wrap64 (x3_2 + t316)) y323 l0 (l0.length : Int) (wrap64 (x28_2 + 1))) = some r := by first | (rw [hy323]; with_reducible exact H) | (have H2_ := (Option.bind_some _ _).symm.trans H; rw [hy323]; with_reducible exact H2_) | (have H2_ := (Option.bind_some _ _).symm.trans H; with_reducible exact H2_) | with_reducible exact H | (rw [hy323]; exact H) | exact H
      have Ny323 := Aside0.mk hy323
      clear hy323
      have H' := Aside0.mk H
      clear H
      obtain ⟨⟨hcz53_0, hcz53_1, hcz53_2, hcz53_3⟩, hfz53_0, hfz53_1, hfz53_2, hfz53_3⟩ := blkC4 BK314.out
      go_wp2_with (first | ((with_reducible refine gate_builtin (b := .append) (xs := #[.tmp 74, .tmp 76]) rfl ?_); (try (refine gate_guard (by rfl) ?_; dsimp only)); at_builtin; refine Kd.R_append (Kd.int .i64) (w0 := w) w.heap.size rfl (.tmp 74) (.tmp 76) 24 2 (.int .i64 0) 8 rfl Tryd.underlying24 info2 rfl dq52 dq37 u4 x4_15 x28_2 [.int .i64 x28_2] (fun _ => True) (fun _ => False) rfl rfl ?aP (fun _ hk => hk.elim) ?aF ?aO ?aB ?aS ?aL ?_; (case aP => exact rfl); (case aB => exact dq44); (case aF => exact (fun _ _ => trivial)); (case aO => exact dq46); (case aS => exact (below_size dq44)); (case aL => have := LMc52.out; omega); intro v324 w54 ho hb hg hat; rw [← Ny323.out] at ho; have n0_ := Aside0.mk (blk_grown (g := gb314) (o := .cells #[.int .i64 ((rd_T39 l0 x28_2).f0), .string ((rd_T39 l0 x28_2).f1), .string ((rd_T39 l0 x28_2).f2), .slice A313_3 ((rd_T39 l0 x28_2).f3).length c313_3] 39 (0, 0)) dq45 hg (Kd.R_ne HO_4.out BK314.out dq52)); have n1_ := Aside0.mk (hb); have n2_ := Aside0.mk (ho); clear BK314; clear HB; clear HO_4; have BK314 := n0_; have HB := n1_; have HO325 := n2_; clear n0_ n1_ n2_; clear ho hb hg hat))
      go_roundg kj33
      case measure => have := HJ1.out; have := HK2.out; have := HJ15.out; have := HJ33.out; omega
      case rel => exact ⟨((wrap64 (x3_2 + t316))), (y323), (wrap64 (x28_2 + 1)), dq18, dq18, H', ⟨dq51⟩, ⟨by (with_reducible repeat (first | apply Kd.R_alloc | apply Kd.R_drewN | apply Kd.R_drew)); exact HO325.out⟩, ⟨dq44⟩⟩
     rw [if_pos c41] at H
     have c41b0 := beq_iff_eq.mpr c41
     have c41b1 := bne_eq_false_iff_eq.mpr c41
     clear c41
     by_cases c42 : x28_2 > 0
     rotate_left
     ·rw [if_neg c42] at H
      have c42b0 : decide (0 < x28_2) = false := decide_eq_false c42
      clear c42
      have H' := Aside0.mk H
      clear H
      obtain ⟨⟨hcz51_0, hcz51_1, hcz51_2, hcz51_3⟩, hfz51_0, hfz51_1, hfz51_2, hfz51_3⟩ := blkC4 BK314.out
      go_wp2
      repeat (go_quiet (fail); try go_wp2)
      go_roundg kj33
      case measure => have := HJ1.out; have := HK2.out; have := HJ15.out; have := HJ33.out; omega
      case rel => exact ⟨((wrap64 (x3_2 + t316))), (x4_15), (wrap64 (x28_2 + 1)), dq18, dq18, H', ⟨dq51⟩, ⟨dq46⟩, ⟨dq44⟩⟩
     rw [if_pos c42] at H
     have c42b0 : decide (0 < x28_2) = true := decide_eq_true c42
     clear c42
     obtain ⟨ji43, hji43⟩ : ∃ j_ : Int, (wrap64 (x28_2 - 1)) = j_ := ⟨_, rfl⟩
     replace H : (if 0 ≤ (ji43) then (if (ji43) < (l0.length : Int) then (if ((rd_T39 l0 (ji43)).f1).toList = ([] : List UInt8) then (if ((rd_T39 l0 (ji43)).f0) = ((rd_T39 l0 x28_2).f0) then (some false) else (impl_DocOk.l0 kj33 l0 (wrap64 (x3_2 + t316)) x4_15 l0 (l0.length : Int) (wrap64 (x28_2 + 1)))) else (impl_DocOk.l0 kj33 l0 (wrap64 (x3_2 + t316)) x4_15 l0 (l0.length : Int) (wrap64 (x28_2 + 1)))) else (none)) else (none)) = some r := by first | (rw [hji43] at H; exact H) | (simp only [hji43] at H ⊢; exact H)
     have hji43w : (IntKind.i64.wrap (x28_2 - 1)) = ji43 := (i64_w _).trans hji43
     by_cases c44 : 0 ≤ (ji43)
     rotate_left
     ·rw [if_neg c44] at H
      exact absurd H dq21
     rw [if_pos c44] at H
     have c44b0 := decide_eq_true c44
     clear c44
     by_cases c45 : (ji43) < (l0.length : Int)
     rotate_left
     ·rw [if_neg c45] at H
      exact absurd H dq21
     rw [if_pos c45] at H
     have c45b0 := decide_eq_true c45
     clear c45
     by_cases c46 : ((rd_T39 l0 (ji43)).f1).toList = ([] : List UInt8)
     rotate_left
     ·rw [if_neg c46] at H
      have c46b0 := beq_eq_false_iff_ne.mpr c46
      have c46b1 := bne_iff_ne.mpr c46
      have H' := Aside0.mk H
      clear H
      obtain ⟨⟨hcz50_0, hcz50_1, hcz50_2, hcz50_3⟩, hfz50_0, hfz50_1, hfz50_2, hfz50_3⟩ := blkC4 BK314.out
      have p321 : 0 ≤ ((ji43) : Int) := of_decide_eq_true dq19
      have q321 : (ji43) < (l0.length : Int) := of_decide_eq_true dq19
      obtain ⟨ad321, A321_3, c321_3, e321, hx321_0, hx321_1, hx321_2, hx321_3, hl321_3, hi321_3⟩ := at_T39 HR0.out (ji43) p321 q321
      obtain rfl : ad313 = ad321 := (by injection e321)
      replace hx321_0 := (HB.out.cell (World.block_lt_of_cell? w _ hx321_0)).trans hx321_0
      replace hx321_1 := (HB.out.cell (World.block_lt_of_cell? w _ hx321_1)).trans hx321_1
      replace hx321_2 := (HB.out.cell (World.block_lt_of_cell? w _ hx321_2)).trans hx321_2
      replace hx321_3 := (HB.out.cell (World.block_lt_of_cell? w _ hx321_3)).trans hx321_3
      have HR321_3 := Aside0.mk hi321_3
      have HC321_3 := Aside0.mk hl321_3
      clear hi321_3 hl321_3
      replace p321 := eq_true p321
      replace q321 := eq_true q321
      go_wp2
      repeat (go_quiet (fail); try go_wp2)
      go_roundg kj33
      case measure => have := HJ1.out; have := HK2.out; have := HJ15.out; have := HJ33.out; omega
      case rel => exact ⟨((wrap64 (x3_2 + t316))), (x4_15), (wrap64 (x28_2 + 1)), dq18, dq18, H', ⟨dq51⟩, ⟨dq46⟩, ⟨dq44⟩⟩
     rw [if_pos c46] at H
     have c46b0 := beq_iff_eq.mpr c46
     have c46b1 := bne_eq_false_iff_eq.mpr c46
     clear c46
     by_cases c47 : ((rd_T39 l0 (ji43)).f0) = ((rd_T39 l0 x28_2).f0)
     ·rw [if_pos c47] at H
      have c47b0 := beq_iff_eq.mpr c47
      have c47b1 := bne_eq_false_iff_eq.mpr c47
      clear c47
      obtain rfl := Option.some.inj H
      obtain ⟨⟨hcz48_0, hcz48_1, hcz48_2, hcz48_3⟩, hfz48_0, hfz48_1, hfz48_2, hfz48_3⟩ := blkC4 BK314.out
      have p321 : 0 ≤ ((ji43) : Int) := of_decide_eq_true dq19
      have q321 : (ji43) < (l0.length : Int) := of_decide_eq_true dq19
      obtain ⟨ad321, A321_3, c321_3, e321, hx321_0, hx321_1, hx321_2, hx321_3, hl321_3, hi321_3⟩ := at_T39 HR0.out (ji43) p321 q321
      obtain rfl : ad313 = ad321 := (by injection e321)
      replace hx321_0 := (HB.out.cell (World.block_lt_of_cell? w _ hx321_0)).trans hx321_0
      replace hx321_1 := (HB.out.cell (World.block_lt_of_cell? w _ hx321_1)).trans hx321_1
      replace hx321_2 := (HB.out.cell (World.block_lt_of_cell? w _ hx321_2)).trans hx321_2
      replace hx321_3 := (HB.out.cell (World.block_lt_of_cell? w _ hx321_3)).trans hx321_3
      have HR321_3 := Aside0.mk hi321_3
      have HC321_3 := Aside0.mk hl321_3
      clear hi321_3 hl321_3
      replace p321 := eq_true p321
      replace q321 := eq_true q321
      have p322 : 0 ≤ ((ji43) : Int) := of_decide_eq_true dq19
      have q322 : (ji43) < (l0.length : Int) := of_decide_eq_true dq19
      obtain ⟨ad322, A322_3, c322_3, e322, hx322_0, hx322_1, hx322_2, hx322_3, hl322_3, hi322_3⟩ := at_T39 HR0.out (ji43) p322 q322
      obtain rfl : ad313 = ad322 := (by injection e322)
      replace hx322_0 := (HB.out.cell (World.block_lt_of_cell? w _ hx322_0)).trans hx322_0
      replace hx322_1 := (HB.out.cell (World.block_lt_of_cell? w _ hx322_1)).trans hx322_1
      replace hx322_2 := (HB.out.cell (World.block_lt_of_cell? w _ hx322_2)).trans hx322_2
      replace hx322_3 := (HB.out.cell (World.block_lt_of_cell? w _ hx322_3)).trans hx322_3
      have HR322_3 := Aside0.mk hi322_3
      have HC322_3 := Aside0.mk hl322_3
      clear hi322_3 hl322_3
      replace p322 := eq_true p322
      replace q322 := eq_true q322
      have ea_ := Option.some.inj (hx321_3.symm.trans hx322_3)
      injection ea_ with ea_ en_ ec_
      subst ea_
      subst ec_
      clear en_
      go_wp2
      repeat (go_quiet (fail); try go_wp2)
      go_ret
      exact ⟨by first | rfl | (simp [errW_none, errW_some] <;> rfl) | (simp only [← hji43]; first | rfl | (simp [errW_none, errW_some] <;> rfl)) | (simp [*, errW_none, errW_some] <;> rfl), dq44⟩
     rw [if_neg c47] at H
     have c47b0 := beq_eq_false_iff_ne.mpr c47
     have c47b1 := bne_iff_ne.mpr c47
     have H' := Aside0.mk H
     clear H
     obtain ⟨⟨hcz49_0, hcz49_1, hcz49_2, hcz49_3⟩, hfz49_0, hfz49_1, hfz49_2, hfz49_3⟩ := blkC4 BK314.out
     have p321 : 0 ≤ ((ji43) : Int) := of_decide_eq_true dq19
     have q321 : (ji43) < (l0.length : Int) := of_decide_eq_true dq19
     obtain ⟨ad321, A321_3, c321_3, e321, hx321_0, hx321_1, hx321_2, hx321_3, hl321_3, hi321_3⟩ := at_T39 HR0.out (ji43) p321 q321
     obtain rfl : ad313 = ad321 := (by injection e321)
     replace hx321_0 := (HB.out.cell (World.block_lt_of_cell? w _ hx321_0)).trans hx321_0
     replace hx321_1 := (HB.out.cell (World.block_lt_of_cell? w _ hx321_1)).trans hx321_1
     replace hx321_2 := (HB.out.cell (World.block_lt_of_cell? w _ hx321_2)).trans hx321_2
     replace hx321_3 := (HB.out.cell (World.block_lt_of_cell? w _ hx321_3)).trans hx321_3
     have HR321_3 := Aside0.mk hi321_3
     have HC321_3 := Aside0.mk hl321_3
     clear hi321_3 hl321_3
     replace p321 := eq_true p321
     replace q321 := eq_true q321
     have p322 : 0 ≤ ((ji43) : Int) := of_decide_eq_true dq19
     have q322 : (ji43) < (l0.length : Int) := of_decide_eq_true dq19
     obtain ⟨ad322, A322_3, c322_3, e322, hx322_0, hx322_1, hx322_2, hx322_3, hl322_3, hi322_3⟩ := at_T39 HR0.out (ji43) p322 q322
     obtain rfl : ad313 = ad322 := (by injection e322)
     replace hx322_0 := (HB.out.cell (World.block_lt_of_cell? w _ hx322_0)).trans hx322_0
     replace hx322_1 := (HB.out.cell (World.block_lt_of_cell? w _ hx322_1)).trans hx322_1
     replace hx322_2 := (HB.out.cell (World.block_lt_of_cell? w _ hx322_2)).trans hx322_2
     replace hx322_3 := (HB.out.cell (World.block_lt_of_cell? w _ hx322_3)).trans hx322_3
     have HR322_3 := Aside0.mk hi322_3
     have HC322_3 := Aside0.mk hl322_3
     clear hi322_3 hl322_3
     replace p322 := eq_true p322
     replace q322 := eq_true q322
     have ea_ := Option.some.inj (hx321_3.symm.trans hx322_3)
     injection ea_ with ea_ en_ ec_
     subst ea_
     subst ec_
     clear en_
     go_wp2
     repeat (go_quiet (fail); try go_wp2)
     go_roundg kj33
     case measure => have := HJ1.out; have := HK2.out; have := HJ15.out; have := HJ33.out; omega
     case rel => exact ⟨((wrap64 (x3_2 + t316))), (x4_15), (wrap64 (x28_2 + 1)), dq18, dq18, H', ⟨dq51⟩, ⟨dq46⟩, ⟨dq44⟩⟩

/-! ### impl_has: function 64 -/
def impl_has.f (k : Nat) (l0 : List (S39)) (a1 : Int) : Option (Bool) := (impl_DocOk.f k l0).bind fun t326 => (if t326 = true then ((impl_in.f a1 0 (wrap64 ((l0.length : Int) - 1))).bind fun t327 => (some t327)) else (some false))
set_option maxHeartbeats 8000000 in
set_option maxRecDepth 100000 in
theorem impl_has.calls (k : Nat) (A0 : Option Addr) (c0 : Nat) (l0 : List (S39)) (a1 : Int) (r : Bool) (w : World) (hT : Gl w) (hr0 : Kd.C k39 w A0 l0.length l0) (hc0 : l0.length ≤ c0) (h : impl_has.f k l0 a1 = some r) :
  Calls Tryd.prog 64 #[.slice A0 l0.length c0, .int .i64 a1] w fun e w' => e = .returned (.bool r) ∧ Below w.heap.size w w' := by
 have HR0 := Aside0.mk hr0
 have HC0 := Aside0.mk hc0
 clear hr0 hc0
 have HT := Aside0.mk hT
 clear hT
 have HB := Aside0.mk (Below.refl w.heap.size w)
 have H : ((impl_DocOk.f k l0).bind fun t326 => (if t326 = true then ((impl_in.f a1 0 (wrap64 ((l0.length : Int) - 1))).bind fun t327 => (some t327)) else (some false))) = some r := h
 clear h
 replace H := Option.bind_eq_some_iff.mp H
 obtain ⟨t326, A30, H⟩ := H
 replace H : (if t326 = true then ((impl_in.f a1 0 (wrap64 ((l0.length : Int) - 1))).bind fun t327 => (some t327)) else (some false)) = some r := H
 have A3 := Aside0.mk A30
 clear A30
 by_cases c4 : t326 = true
 rotate_left
 ·replace c4 := Bool.eq_false_iff.mpr c4
  subst c4
  have H1 : (some false) = some r := by rw [if_neg (show ¬ (false = true) by decide)] at H; exact H
  clear H
  have H := H1
  clear H1
  obtain rfl := Option.some.inj H
  go_enter Tryd.func64, Tryd.ntmps64
  go_wp2_with (first | ((with_reducible refine gate_callee (f := 34) rfl ?_); refine goesL_ (some 6) rfl rfl Tryd.func34 dq23 rfl #[.slice A0 l0.length c0] rfl dq22 ?_; (with_reducible refine (impl_DocOk.calls k _ _ l0 false _ ?side3 ?side1 ?side2 A3.out).mono ?_); (case side1 => exact dq5); (case side2 => exact HC0.out); (case side3 => exact dq0); rintro e w7 ⟨rfl, hb⟩; refine ⟨_, rfl, ?_⟩; have n0_ := Aside0.mk (below_step dq24 hb); clear HB; have HB := n0_; clear n0_; (try clear hb); (try clear hb2); (try clear hk); (try clear hi)))
  go_ret
  exact ⟨dq26, dq24⟩
 subst c4
 have H1 : ((impl_in.f a1 0 (wrap64 ((l0.length : Int) - 1))).bind fun t327 => (some t327)) = some r := by rw [if_pos rfl] at H; exact H
 clear H
 have H := H1
 clear H1
 replace H := Option.bind_eq_some_iff.mp H
 obtain ⟨t327, A50, H⟩ := H
 replace H : (some t327) = some r := H
 have A5 := Aside0.mk A50
 clear A50
 obtain rfl := Option.some.inj H
 go_enter Tryd.func64, Tryd.ntmps64
 go_wp2_with (first | ((with_reducible refine gate_callee (f := 34) rfl ?_); refine goesL_ (some 6) rfl rfl Tryd.func34 dq23 rfl #[.slice A0 l0.length c0] rfl dq22 ?_; (with_reducible refine (impl_DocOk.calls k _ _ l0 true _ ?side3 ?side1 ?side2 A3.out).mono ?_); (case side1 => exact dq5); (case side2 => exact HC0.out); (case side3 => exact dq0); rintro e w6 ⟨rfl, hb⟩; refine ⟨_, rfl, ?_⟩; have n0_ := Aside0.mk (below_step dq24 hb); clear HB; have HB := n0_; clear n0_; (try clear hb); (try clear hb2); (try clear hk); (try clear hi)) | (go_at_call 56; (with_reducible refine (impl_in.calls a1 0 (wrap64 ((l0.length : Int) - 1)) t327 _ A5.out).mono ?_); rintro e w' ⟨rfl, ⟨nd, rfl⟩⟩))
 go_ret
 exact ⟨dq26, dq24⟩

theorem bne_nilE61 (l : List UInt8) : (l != ([] : List UInt8)) = !l.isEmpty := by cases l <;> rfl
/-! ### impl_bound: function 65 -/
mutual
def impl_bound.j0 : Nat → List (S39) → Int → ByteArray → ByteArray → Option (ByteArray × Bool)
 | 0, _, _, _, _ => none
 | k + 1, x0, x1, x2, x8 => impl_bound.l0 k x0 x1 x2 x8
def impl_bound.l0 : Nat → List (S39) → Int → ByteArray → ByteArray → Option (ByteArray × Bool)
 | 0, _, _, _, _ => none
 | k + 1, x0, x1, x2, x8 => if x1 ≥ 0 then (if 0 ≤ x1 then (if x1 < (x0.length : Int) then (impl_bound.l1 k x0 x1 x2 x8 ((rd_T39 x0 x1).f3) (((rd_T39 x0 x1).f3).length : Int) 0) else (none)) else (none)) else (some ((⟨#[]⟩ : ByteArray), (x2.toList == ([] : List UInt8))))
def impl_bound.l1 : Nat → List (S39) → Int → ByteArray → ByteArray → List (S46) → Int → Int → Option (ByteArray × Bool)
 | 0, _, _, _, _, _, _, _ => none
 | k + 1, x0, x1, x2, x8, x30, x31, x32 => if x32 < x31 then (if 0 ≤ x32 then (if x32 < (x30.length : Int) then (if ((rd_T46 x30 x32).f0).toList = x8.toList then (if x2.toList = ([] : List UInt8) then (some ((rd_T46 x30 x32).f1, true)) else (some ((rd_T46 x30 x32).f1, (((rd_T46 x30 x32).f1).toList != ([] : List UInt8))))) else (impl_bound.l1 k x0 x1 x2 x8 x30 x31 (wrap64 (x32 + 1)))) else (none)) else (none)) else (if 0 ≤ x1 then (if x1 < (x0.length : Int) then (impl_bound.l0 k x0 ((rd_T39 x0 x1).f0) x2 x8) else (none)) else (none))
end
def impl_bound.f (k : Nat) (l0 : List (S39)) (a1 : Int) (a2 : ByteArray) : Option (ByteArray × Bool) := if a2.toList = ([120, 109, 108] : List UInt8) then (some ((⟨#[104, 116, 116, 112, 58, 47, 47, 119, 119, 119, 46, 119, 51, 46, 111, 114, 103, 47, 88, 77, 76, 47, 49, 57, 57, 56, 47, 110, 97, 109, 101, 115, 112, 97, 99, 101]⟩ : ByteArray), true)) else (if a2.toList = ([] : List UInt8) then (impl_bound.j0 k l0 a1 a2 (⟨#[120, 109, 108, 110, 115]⟩ : ByteArray)) else (if 1 + a2.size ≤ 9223372036854775807 then (if 5 + ((⟨#[58]⟩ : ByteArray) ++ a2).size ≤ 9223372036854775807 then (impl_bound.j0 k l0 a1 a2 ((⟨#[120, 109, 108, 110, 115]⟩ : ByteArray) ++ ((⟨#[58]⟩ : ByteArray) ++ a2))) else (none)) else (none)))
set_option maxHeartbeats 8000000 in
set_option maxRecDepth 100000 in
theorem impl_bound.calls (k : Nat) (A0 : Option Addr) (c0 : Nat) (l0 : List (S39)) (a1 : Int) (a2 : ByteArray) (r1 : ByteArray) (r2 : Bool) (w : World) (hr0 : Kd.C k39 w A0 l0.length l0) (hc0 : l0.length ≤ c0) (h : impl_bound.f k l0 a1 a2 = some (r1, r2)) :
  Calls Tryd.prog 65 #[.slice A0 l0.length c0, .int .i64 a1, .string a2] w fun e w' => e = .returned (.tuple #[.string r1, .bool r2]) ∧ Below w.heap.size w w' := by
 have hu46 := Tryd.underlying46
 have HR0 := Aside0.mk hr0
 have HC0 := Aside0.mk hc0
 clear hr0 hc0
 have HB := Aside0.mk (Below.refl w.heap.size w)
 have H : (if a2.toList = ([120, 109, 108] : List UInt8) then (some ((⟨#[104, 116, 116, 112, 58, 47, 47, 119, 119, 119, 46, 119, 51, 46, 111, 114, 103, 47, 88, 77, 76, 47, 49, 57, 57, 56, 47, 110, 97, 109, 101, 115, 112, 97, 99, 101]⟩ : ByteArray), true)) else (if a2.toList = ([] : List UInt8) then (impl_bound.j0 k l0 a1 a2 (⟨#[120, 109, 108, 110, 115]⟩ : ByteArray)) else (if 1 + a2.size ≤ 9223372036854775807 then (if 5 + ((⟨#[58]⟩ : ByteArray) ++ a2).size ≤ 9223372036854775807 then (impl_bound.j0 k l0 a1 a2 ((⟨#[120, 109, 108, 110, 115]⟩ : ByteArray) ++ ((⟨#[58]⟩ : ByteArray) ++ a2))) else (none)) else (none)))) = some (r1, r2) := h
 clear h
 by_cases c4 : a2.toList = ([120, 109, 108] : List UInt8)
 ·rw [if_pos c4] at H
  have c4b0 := beq_iff_eq.mpr c4
  have c4b1 := bne_eq_false_iff_eq.mpr c4
  clear c4
  simp only [Option.some.injEq, Prod.mk.injEq] at H
  obtain ⟨rfl, rfl⟩ := H
  go_enter Tryd.func65, Tryd.ntmps65
  go_wp2
  go_ret2
  exact ⟨dq26, dq24⟩
 rw [if_neg c4] at H
 have c4b0 := beq_eq_false_iff_ne.mpr c4
 have c4b1 := bne_iff_ne.mpr c4
 have HC5 := Aside0.mk H
 clear H
 go_enter Tryd.func65, Tryd.ntmps65
 go_upto_if 14 with (fail)
 go_cut [8] (fun v8 wc => ∃ (kq : Nat) (x8_4 : ByteArray), v8 = .string x8_4 ∧ Aside0 (impl_bound.j0 kq l0 a1 a2 x8_4 = some (r1, r2)) ∧ Aside0 (kq ≤ k) ∧ Aside0 (Below w.heap.size w wc))
 case first =>
  have H := HC5.out
  clear HC5
  by_cases c6 : a2.toList = ([] : List UInt8)
  ·rw [if_pos c6] at H
   have c6b0 := beq_iff_eq.mpr c6
   have c6b1 := bne_eq_false_iff_eq.mpr c6
   have c6b3 : (!a2.toList.isEmpty) = false := (bne_nilE61 a2.toList).symm.trans c6b1
   clear c6
   (first | rw [c6b0] | rw [c6b3] | (simp only [i64_w, i32_w]; rw [c6b0]) | skip)
   have H' := Aside0.mk H
   clear H
   go_wp2
   go_meet
   case rel => exact ⟨_, ((⟨#[120, 109, 108, 110, 115]⟩ : ByteArray)), dq18, H', ⟨dq25⟩, ⟨dq24⟩⟩
  rw [if_neg c6] at H
  have c6b0 := beq_eq_false_iff_ne.mpr c6
  have c6b1 := bne_iff_ne.mpr c6
  have c6b3 : (!a2.toList.isEmpty) = true := (bne_nilE61 a2.toList).symm.trans c6b1
  (first | rw [c6b0] | rw [c6b3] | (simp only [i64_w, i32_w]; rw [c6b0]) | skip)
  by_cases c7 : 1 + a2.size ≤ 9223372036854775807
  rotate_left
  ·rw [if_neg c7] at H
   exact absurd H dq21
  rw [if_pos c7] at H
  have c7b0 := eq_true c7
  have c7b1 := decide_eq_true c7
  try have c7b2 : (9223372036854775807 < 1 + a2.size) = False := eq_false (Nat.not_lt.2 c7)
  by_cases c8 : 5 + ((⟨#[58]⟩ : ByteArray) ++ a2).size ≤ 9223372036854775807
  rotate_left
  ·rw [if_neg c8] at H
   exact absurd H dq21
  rw [if_pos c8] at H
  have c8b0 := eq_true c8
  have c8b1 := decide_eq_true c8
  try have c8b2 : (9223372036854775807 < 5 + ((⟨#[58]⟩ : ByteArray) ++ a2).size) = False := eq_false (Nat.not_lt.2 c8)
  try have c8b9 : (9223372036854775807 < (5 + (1 + a2.size))) = False := eq_false (Nat.not_lt.2 (by have h_ := c8; simp only [ByteArray.size_append] at h_; exact h_))
  have H' := Aside0.mk H
  clear H
  go_wp2
  go_meet
  case rel => exact ⟨_, ((⟨#[120, 109, 108, 110, 115]⟩ : ByteArray) ++ ((⟨#[58]⟩ : ByteArray) ++ a2)), dq18, H', ⟨dq25⟩, ⟨dq24⟩⟩
 clear HC5
 try clear c4
 try clear c4b0
 try clear c4b1
 obtain ⟨kq, x8_4, rfl, HA, HJ4, HB⟩ := hcut
 cases kq with
 | zero => exact absurd HA.out (by simp [impl_bound.j0])
 | succ kj4 =>
  have H := HA.out
  clear HA
  simp only [impl_bound.j0] at H
  have H' := Aside0.mk H
  clear H
  go_wp2
  go_loopg [1] kj4 (fun kq v1 w' => ∃ (x1_2 : Int), v1 = .int .i64 x1_2 ∧ Aside0 (impl_bound.l0 kq l0 x1_2 a2 x8_4 = some (r1, r2)) ∧ Aside0 (kq ≤ kj4) ∧ Aside0 (Below w.heap.size w w'))
  case atStart => exact ⟨(a1), dq18, H', ⟨Nat.le_refl _⟩, ⟨dq24⟩⟩
  clear H'
  obtain ⟨x1_2, rfl, HA, HK2, HB⟩ := hrel
  cases gk with
  | zero => exact absurd HA.out (by simp [impl_bound.l0])
  | succ k2 =>
   have H := HA.out
   clear HA
   simp only [impl_bound.l0] at H
   by_cases c9 : x1_2 ≥ 0
   rotate_left
   ·rw [if_neg c9] at H
    have c9b0 : decide (0 ≤ x1_2) = false := decide_eq_false c9
    clear c9
    simp only [Option.some.injEq, Prod.mk.injEq] at H
    obtain ⟨rfl, rfl⟩ := H
    go_wp2
    go_ret2
    exact ⟨dq26, dq24⟩
   rw [if_pos c9] at H
   have c9b0 : decide (0 ≤ x1_2) = true := decide_eq_true c9
   clear c9
   by_cases c10 : 0 ≤ x1_2
   rotate_left
   ·rw [if_neg c10] at H
    exact absurd H dq21
   rw [if_pos c10] at H
   have c10b0 := decide_eq_true c10
   clear c10
   by_cases c11 : x1_2 < (l0.length : Int)
   rotate_left
   ·rw [if_neg c11] at H
    exact absurd H dq21
   rw [if_pos c11] at H
   have c11b0 := decide_eq_true c11
   clear c11
   have H' := Aside0.mk H
   clear H
   have p580 : 0 ≤ (x1_2 : Int) := of_decide_eq_true dq19
   have q580 : x1_2 < (l0.length : Int) := of_decide_eq_true dq19
   obtain ⟨ad580, A580_3, c580_3, e580, hx580_0, hx580_1, hx580_2, hx580_3, hl580_3, hi580_3⟩ := at_T39 HR0.out x1_2 p580 q580
   cases e580
   replace hx580_0 := (HB.out.cell (World.block_lt_of_cell? w _ hx580_0)).trans hx580_0
   replace hx580_1 := (HB.out.cell (World.block_lt_of_cell? w _ hx580_1)).trans hx580_1
   replace hx580_2 := (HB.out.cell (World.block_lt_of_cell? w _ hx580_2)).trans hx580_2
   replace hx580_3 := (HB.out.cell (World.block_lt_of_cell? w _ hx580_3)).trans hx580_3
   have HR580_3 := Aside0.mk hi580_3
   have HC580_3 := Aside0.mk hl580_3
   clear hi580_3 hl580_3
   replace p580 := eq_true p580
   replace q580 := eq_true q580
   go_wp2
   go_loopg [32] k2 (fun kq v32 w' => ∃ (x32_3 : Int), v32 = .int .i64 x32_3 ∧ Aside0 (impl_bound.l1 kq l0 x1_2 a2 x8_4 ((rd_T39 l0 x1_2).f3) (((rd_T39 l0 x1_2).f3).length : Int) x32_3 = some (r1, r2)) ∧ Aside0 (kq ≤ k2) ∧ Aside0 (Below w.heap.size w w'))
   case atStart => exact ⟨(0), dq18, H', ⟨Nat.le_refl _⟩, ⟨dq24⟩⟩
   clear H'
   try clear c9b0
   try clear c10b0
   try clear c11b0
   try clear hx580_0
   try clear hx580_1
   try clear hx580_2
   try clear hx580_3
   try clear p580
   try clear q580
   obtain ⟨x32_3, rfl, HA, HK3, HB⟩ := hrel
   cases gk with
   | zero => exact absurd HA.out (by simp [impl_bound.l1])
   | succ k3 =>
    have H := HA.out
    clear HA
    simp only [impl_bound.l1] at H
    by_cases c12 : x32_3 < (((rd_T39 l0 x1_2).f3).length : Int)
    rotate_left
    ·rw [if_neg c12] at H
     have c12b0 := decide_eq_false c12
     clear c12
     by_cases c23 : 0 ≤ x1_2
     rotate_left
     ·rw [if_neg c23] at H
      exact absurd H dq21
     rw [if_pos c23] at H
     have c23b0 := decide_eq_true c23
     clear c23
     by_cases c24 : x1_2 < (l0.length : Int)
     rotate_left
     ·rw [if_neg c24] at H
      exact absurd H dq21
     rw [if_pos c24] at H
     have c24b0 := decide_eq_true c24
     clear c24
     have H' := Aside0.mk H
     clear H
     have p583 : 0 ≤ (x1_2 : Int) := of_decide_eq_true dq19
     have q583 : x1_2 < (l0.length : Int) := of_decide_eq_true dq19
     obtain ⟨ad583, A583_3, c583_3, e583, hx583_0, hx583_1, hx583_2, hx583_3, hl583_3, hi583_3⟩ := at_T39 HR0.out x1_2 p583 q583
     obtain rfl : ad580 = ad583 := (by injection e583)
     replace hx583_0 := (HB.out.cell (World.block_lt_of_cell? w _ hx583_0)).trans hx583_0
     replace hx583_1 := (HB.out.cell (World.block_lt_of_cell? w _ hx583_1)).trans hx583_1
     replace hx583_2 := (HB.out.cell (World.block_lt_of_cell? w _ hx583_2)).trans hx583_2
     replace hx583_3 := (HB.out.cell (World.block_lt_of_cell? w _ hx583_3)).trans hx583_3
     have HR583_3 := Aside0.mk hi583_3
     have HC583_3 := Aside0.mk hl583_3
     clear hi583_3 hl583_3
     replace p583 := eq_true p583
     replace q583 := eq_true q583
     go_wp2
     go_roundg k3
     case measure => have := HJ4.out; have := HK2.out; have := HK3.out; omega
     case rel => exact ⟨((rd_T39 l0 x1_2).f0), dq18, H', ⟨dq54⟩, ⟨dq24⟩⟩
    rw [if_pos c12] at H
    have c12b0 := decide_eq_true c12
    clear c12
    by_cases c13 : 0 ≤ x32_3
    rotate_left
    ·rw [if_neg c13] at H
     exact absurd H dq21
    rw [if_pos c13] at H
    have c13b0 := decide_eq_true c13
    clear c13
    by_cases c14 : x32_3 < (((rd_T39 l0 x1_2).f3).length : Int)
    rotate_left
    ·rw [if_neg c14] at H
     exact absurd H dq21
    rw [if_pos c14] at H
    have c14b0 := decide_eq_true c14
    clear c14
    by_cases c15 : ((rd_T46 ((rd_T39 l0 x1_2).f3) x32_3).f0).toList = x8_4.toList
    rotate_left
    ·rw [if_neg c15] at H
     have c15b0 := beq_eq_false_iff_ne.mpr c15
     have c15b1 := bne_iff_ne.mpr c15
     have H' := Aside0.mk H
     clear H
     have p581 : 0 ≤ (x32_3 : Int) := of_decide_eq_true dq19
     have q581 : x32_3 < (((rd_T39 l0 x1_2).f3).length : Int) := of_decide_eq_true dq19
     obtain ⟨ad581, e581, hx581_0, hx581_1⟩ := at_T46 HR580_3.out x32_3 p581 q581
     cases e581
     replace hx581_0 := (HB.out.cell (World.block_lt_of_cell? w _ hx581_0)).trans hx581_0
     replace hx581_1 := (HB.out.cell (World.block_lt_of_cell? w _ hx581_1)).trans hx581_1
     replace p581 := eq_true p581
     replace q581 := eq_true q581
     go_wp2_with (first | ((with_reducible refine gate_dst (N := 10) rfl ?_); refine box_event ?hg (N := 10) ?hd (cs := #[.string (⟨#[]⟩ : ByteArray), .string (⟨#[]⟩ : ByteArray)]) (t := 46) ?hr ?_; (case hd => rfl); (case hg => rfl); (case hr => exact dq1); intro gb582 hg w21 hbox hb; have n0_ := Aside0.mk (below_step dq24 hb); have n1_ := Aside0.mk (hbox); have n2_ := Aside0.mk ((dq27 : w.heap.size ≤ gb582)); have n3_ := Aside0.mk ((dq27 : w.heap.size ≤ gb582)); clear HB; have HB := n0_; have BK582 := n1_; have GW582 := n2_; have GE582 := n3_; clear n0_ n1_ n2_ n3_; clear hb hbox hg; obtain ⟨⟨hcz22_0, hcz22_1⟩, hfz22_0, hfz22_1⟩ := blkC2 BK582.out))
     go_roundg k3
     case measure => have := HJ4.out; have := HK2.out; have := HK3.out; omega
     case rel => exact ⟨(wrap64 (x32_3 + 1)), dq18, H', ⟨dq54⟩, ⟨dq53⟩⟩
    rw [if_pos c15] at H
    have c15b0 := beq_iff_eq.mpr c15
    have c15b1 := bne_eq_false_iff_eq.mpr c15
    clear c15
    by_cases c16 : a2.toList = ([] : List UInt8)
    ·rw [if_pos c16] at H
     have c16b0 := beq_iff_eq.mpr c16
     have c16b1 := bne_eq_false_iff_eq.mpr c16
     have c16b3 : (!a2.toList.isEmpty) = false := (bne_nilE61 a2.toList).symm.trans c16b1
     clear c16
     simp only [Option.some.injEq, Prod.mk.injEq] at H
     obtain ⟨rfl, rfl⟩ := H
     have p581 : 0 ≤ (x32_3 : Int) := of_decide_eq_true dq19
     have q581 : x32_3 < (((rd_T39 l0 x1_2).f3).length : Int) := of_decide_eq_true dq19
     obtain ⟨ad581, e581, hx581_0, hx581_1⟩ := at_T46 HR580_3.out x32_3 p581 q581
     cases e581
     replace hx581_0 := (HB.out.cell (World.block_lt_of_cell? w _ hx581_0)).trans hx581_0
     replace hx581_1 := (HB.out.cell (World.block_lt_of_cell? w _ hx581_1)).trans hx581_1
     replace p581 := eq_true p581
     replace q581 := eq_true q581
     go_wp2_with (first | ((with_reducible refine gate_dst (N := 10) rfl ?_); refine box_event ?hg (N := 10) ?hd (cs := #[.string (⟨#[]⟩ : ByteArray), .string (⟨#[]⟩ : ByteArray)]) (t := 46) ?hr ?_; (case hd => rfl); (case hg => rfl); (case hr => exact dq1); intro gb582 hg w17 hbox hb; have n0_ := Aside0.mk (below_step dq24 hb); have n1_ := Aside0.mk (hbox); have n2_ := Aside0.mk ((dq27 : w.heap.size ≤ gb582)); have n3_ := Aside0.mk ((dq27 : w.heap.size ≤ gb582)); clear HB; have HB := n0_; have BK582 := n1_; have GW582 := n2_; have GE582 := n3_; clear n0_ n1_ n2_ n3_; clear hb hbox hg; obtain ⟨⟨hcz18_0, hcz18_1⟩, hfz18_0, hfz18_1⟩ := blkC2 BK582.out))
     repeat (go_quiet (fail); try go_wp2_with (fail))
     go_ret2
     exact ⟨dq26, dq53⟩
    rw [if_neg c16] at H
    have c16b0 := beq_eq_false_iff_ne.mpr c16
    have c16b1 := bne_iff_ne.mpr c16
    have c16b3 : (!a2.toList.isEmpty) = true := (bne_nilE61 a2.toList).symm.trans c16b1
    simp only [Option.some.injEq, Prod.mk.injEq] at H
    obtain ⟨rfl, rfl⟩ := H
    have p581 : 0 ≤ (x32_3 : Int) := of_decide_eq_true dq19
    have q581 : x32_3 < (((rd_T39 l0 x1_2).f3).length : Int) := of_decide_eq_true dq19
    obtain ⟨ad581, e581, hx581_0, hx581_1⟩ := at_T46 HR580_3.out x32_3 p581 q581
    cases e581
    replace hx581_0 := (HB.out.cell (World.block_lt_of_cell? w _ hx581_0)).trans hx581_0
    replace hx581_1 := (HB.out.cell (World.block_lt_of_cell? w _ hx581_1)).trans hx581_1
    replace p581 := eq_true p581
    replace q581 := eq_true q581
    go_wp2_with (first | ((with_reducible refine gate_dst (N := 10) rfl ?_); refine box_event ?hg (N := 10) ?hd (cs := #[.string (⟨#[]⟩ : ByteArray), .string (⟨#[]⟩ : ByteArray)]) (t := 46) ?hr ?_; (case hd => rfl); (case hg => rfl); (case hr => exact dq1); intro gb582 hg w19 hbox hb; have n0_ := Aside0.mk (below_step dq24 hb); have n1_ := Aside0.mk (hbox); have n2_ := Aside0.mk ((dq27 : w.heap.size ≤ gb582)); have n3_ := Aside0.mk ((dq27 : w.heap.size ≤ gb582)); clear HB; have HB := n0_; have BK582 := n1_; have GW582 := n2_; have GE582 := n3_; clear n0_ n1_ n2_ n3_; clear hb hbox hg; obtain ⟨⟨hcz20_0, hcz20_1⟩, hfz20_0, hfz20_1⟩ := blkC2 BK582.out))
    repeat (go_quiet (fail); try go_wp2_with (fail))
    go_ret2
    exact ⟨by first | rfl | (simp [bne_nilE61]; done) | (rw [bne_nilE61]; simp; done) | (simp [errW_none, errW_some] <;> rfl) | (simp [*, errW_none, errW_some] <;> rfl), dq53⟩

/-! ### impl_BoundAt: function 27 -/
def impl_BoundAt.f (k : Nat) (l0 : List (S39)) (a1 : Int) (a2 : ByteArray) : Option (ByteArray × Bool) := (impl_has.f k l0 a1).bind fun t584 => (if t584 = true then ((impl_bound.f k l0 a1 a2).bind fun bt585 => (some (bt585.1, bt585.2))) else (some ((⟨#[]⟩ : ByteArray), false)))
set_option maxHeartbeats 8000000 in
set_option maxRecDepth 100000 in
theorem impl_BoundAt.calls (k : Nat) (A0 : Option Addr) (c0 : Nat) (l0 : List (S39)) (a1 : Int) (a2 : ByteArray) (r1 : ByteArray) (r2 : Bool) (w : World) (hT : Gl w) (hr0 : Kd.C k39 w A0 l0.length l0) (hc0 : l0.length ≤ c0) (h : impl_BoundAt.f k l0 a1 a2 = some (r1, r2)) :
  Calls Tryd.prog 27 #[.slice A0 l0.length c0, .int .i64 a1, .string a2] w fun e w' => e = .returned (.tuple #[.string r1, .bool r2]) ∧ Below w.heap.size w w' := by
 have HR0 := Aside0.mk hr0
 have HC0 := Aside0.mk hc0
 clear hr0 hc0
 have HT := Aside0.mk hT
 clear hT
 have HB := Aside0.mk (Below.refl w.heap.size w)
 have H : ((impl_has.f k l0 a1).bind fun t584 => (if t584 = true then ((impl_bound.f k l0 a1 a2).bind fun bt585 => (some (bt585.1, bt585.2))) else (some ((⟨#[]⟩ : ByteArray), false)))) = some (r1, r2) := h
 clear h
 replace H := Option.bind_eq_some_iff.mp H
 obtain ⟨t584, A40, H⟩ := H
 replace H : (if t584 = true then ((impl_bound.f k l0 a1 a2).bind fun bt585 => (some (bt585.1, bt585.2))) else (some ((⟨#[]⟩ : ByteArray), false))) = some (r1, r2) := H
 have A4 := Aside0.mk A40
 clear A40
 by_cases c5 : t584 = true
 rotate_left
 ·replace c5 := Bool.eq_false_iff.mpr c5
  subst c5
  have H1 : (some ((⟨#[]⟩ : ByteArray), false)) = some (r1, r2) := by rw [if_neg (show ¬ (false = true) by decide)] at H; exact H
  clear H
  have H := H1
  clear H1
  simp only [Option.some.injEq, Prod.mk.injEq] at H
  obtain ⟨rfl, rfl⟩ := H
  go_enter Tryd.func27, Tryd.ntmps27
  go_wp2_with (first | ((with_reducible refine gate_callee (f := 64) rfl ?_); refine goesL_ (some 10) rfl rfl Tryd.func64 dq23 rfl #[.slice A0 l0.length c0, .int .i64 a1] rfl dq22 ?_; (with_reducible refine (impl_has.calls k _ _ l0 a1 false _ ?side3 ?side1 ?side2 A4.out).mono ?_); (case side1 => exact dq5); (case side2 => exact HC0.out); (case side3 => exact dq0); rintro e w9 ⟨rfl, hb⟩; refine ⟨_, rfl, ?_⟩; have n0_ := Aside0.mk (below_step dq24 hb); clear HB; have HB := n0_; clear n0_; (try clear hb); (try clear hb2); (try clear hk); (try clear hi)))
  go_ret2
  exact ⟨dq26, dq24⟩
 subst c5
 have H1 : ((impl_bound.f k l0 a1 a2).bind fun bt585 => (some (bt585.1, bt585.2))) = some (r1, r2) := by rw [if_pos rfl] at H; exact H
 clear H
 have H := H1
 clear H1
 replace H := Option.bind_eq_some_iff.mp H
 obtain ⟨⟨t585, t586⟩, A60, H⟩ := H
 replace H : (some (t585, t586)) = some (r1, r2) := H
 have A6 := Aside0.mk A60
 clear A60
 simp only [Option.some.injEq, Prod.mk.injEq] at H
 obtain ⟨rfl, rfl⟩ := H
 go_enter Tryd.func27, Tryd.ntmps27
 go_wp2_with (first | ((with_reducible refine gate_callee (f := 64) rfl ?_); refine goesL_ (some 10) rfl rfl Tryd.func64 dq23 rfl #[.slice A0 l0.length c0, .int .i64 a1] rfl dq22 ?_; (with_reducible refine (impl_has.calls k _ _ l0 a1 true _ ?side3 ?side1 ?side2 A4.out).mono ?_); (case side1 => exact dq5); (case side2 => exact HC0.out); (case side3 => exact dq0); rintro e w7 ⟨rfl, hb⟩; refine ⟨_, rfl, ?_⟩; have n0_ := Aside0.mk (below_step dq24 hb); clear HB; have HB := n0_; clear n0_; (try clear hb); (try clear hb2); (try clear hk); (try clear hi)) | ((with_reducible refine gate_callee (f := 65) rfl ?_); refine goesL_ (some 15) rfl rfl Tryd.func65 dq23 rfl #[.slice A0 l0.length c0, .int .i64 a1, .string a2] rfl dq22 ?_; (with_reducible refine (impl_bound.calls k _ _ l0 a1 a2 t585 t586 _ ?side1 ?side2 A6.out).mono ?_); (case side1 => exact dq6); (case side2 => exact HC0.out); rintro e w8 ⟨rfl, hb⟩; refine ⟨_, rfl, ?_⟩; have n0_ := Aside0.mk (below_step dq24 hb); clear HB; have HB := n0_; clear n0_; (try clear hb); (try clear hb2); (try clear hk); (try clear hi)))
 go_ret2
 exact ⟨dq26, dq24⟩

/-- A state of type 99 at block g of W; what its slices lead to came in by w0. -/
def IsS99 (w0 W : World) (g : Nat) (f0 : List Int) (f1 : Int) : Prop := ∃ A0 c0, W.heap[g]? = some (.cells #[.slice A0 f0.length c0, .int .i64 f1] 99 (0, 0)) ∧ w0.heap.size ≤ g ∧ Kd.C (Kd.int .u8) w0 A0 f0.length f0
theorem IsS99.grown {w0 W : World} {g : Nat} {f0 : List Int} {f1 : Int} {W1 : World} {row : Option Nat} (h : IsS99 w0 W g f0 f1) (hw : W.grownBy W1 row) (hne : some g ≠ row) : IsS99 w0 W1 g f0 f1 := by
 obtain ⟨A0, c0, hb, hg, hr0⟩ := h
 exact ⟨A0, c0, blk_grown hb hw hne, hg, hr0⟩
theorem IsS99.below {w0 W : World} {g : Nat} {f0 : List Int} {f1 : Int} {W1 : World} (h : IsS99 w0 W g f0 f1) (hw : Below W.heap.size W W1) : IsS99 w0 W1 g f0 f1 := h.grown (grown_of_below hw none) dq21
theorem IsS99.alloc {w0 W : World} {g : Nat} {f0 : List Int} {f1 : Int} (h : IsS99 w0 W g f0 f1) (o : Obj) : IsS99 w0 (W.alloc o) g f0 f1 := h.below (below_alloc (Below.refl _ _) o)
theorem IsS99.drewN {w0 W : World} {g : Nat} {f0 : List Int} {f1 : Int} (h : IsS99 w0 W g f0 f1) (m : Nat) : IsS99 w0 (W.drewN m) g f0 f1 := h
theorem IsS99.drew {w0 W : World} {g : Nat} {f0 : List Int} {f1 : Int} (h : IsS99 w0 W g f0 f1) : IsS99 w0 W.drew g f0 f1 := h
theorem IsS99.apart {w0 W : World} {g : Nat} {f0 : List Int} {f1 : Int} {α : Type} {d : Kd α} {e : Nat} {base : Nat} {ok : Nat → Prop} {v : Value} {xs : List α} (h : IsS99 w0 W g f0 f1) (ho : d.R e W base ok v xs) (ht : ∀ q, q ∈ e :: d.E → q ≠ 99) : d.R e W base (fun k => ok k ∧ k ≠ g) v xs := by
 obtain ⟨A0, c0, hb, hg, hr0⟩ := h
 exact Kd.R_types ho hb ht
theorem IsS99.own_ne {w0 W : World} {g : Nat} {f0 : List Int} {f1 : Int} {α : Type} {d : Kd α} {e : Nat} {base : Nat} {ok : Nat → Prop} {v : Value} {xs : List α} (h : IsS99 w0 W g f0 f1) (ho : d.R e W base ok v xs) (ht : e ≠ 99) : some g ≠ v.ownBlock := by
 obtain ⟨A0, c0, hb, hg, hr0⟩ := h
 exact Kd.R_ne ho hb ht
theorem IsS99.apartQ {w0 W : World} {g : Nat} {f0 : List Int} {f1 : Int} {α : Type} {d : Kd α} {e : Nat} {base : Nat} {ok : Nat → Prop} {v : Value} {xs : List α} (h : IsS99 w0 W g f0 f1) (ho : d.Q e W base ok v xs) (ht : ∀ q, q ∈ e :: d.E → q ≠ 99) : d.Q e W base (fun k => ok k ∧ k ≠ g) v xs := by
 obtain ⟨A0, c0, hb, hg, hr0⟩ := h
 exact Kd.Q_types ho hb ht
theorem IsS99.apartS {w0 W : World} {g : Nat} {f0 : List Int} {f1 : Int} {α : Type} {d : Kd α} {e : Nat} {base : Nat} {ok : Nat → Prop} {v : Value} {xs : List α} (h : IsS99 w0 W g f0 f1) (ho : d.S e W base ok v xs) (ht : ∀ q, q ∈ e :: d.E → q ≠ 99) : d.S e W base (fun k => ok k ∧ k ≠ g) v xs := by
 obtain ⟨A0, c0, hb, hg, hr0⟩ := h
 exact Kd.S_types ho hb ht
theorem IsS99.own_neS {w0 W : World} {g : Nat} {f0 : List Int} {f1 : Int} {α : Type} {d : Kd α} {e : Nat} {base : Nat} {ok : Nat → Prop} {v : Value} {xs : List α} (h : IsS99 w0 W g f0 f1) (ho : d.S e W base ok v xs) (ht : e ≠ 99) : some g ≠ v.ownBlock := by
 obtain ⟨A0, c0, hb, hg, hr0⟩ := h
 exact Kd.S_ne ho hb ht
theorem IsS99.lt {w0 W : World} {g : Nat} {f0 : List Int} {f1 : Int} (h : IsS99 w0 W g f0 f1) : g < W.heap.size := by
 obtain ⟨A0, c0, hb, hg, hr0⟩ := h
 exact blk_lt hb
theorem IsS99.ge {w0 W : World} {g : Nat} {f0 : List Int} {f1 : Int} (h : IsS99 w0 W g f0 f1) : w0.heap.size ≤ g := by
 obtain ⟨A0, c0, hb, hg, hr0⟩ := h
 exact hg
theorem IsS99.far {w0 W : World} {g : Nat} {f0 : List Int} {f1 : Int} {p : Addr} (h : IsS99 w0 W g f0 f1) (hne : g ≠ p.block) (u : Value) : IsS99 w0 (W.setCell p u) g f0 f1 := by
 obtain ⟨A0, c0, hb, hg, hr0⟩ := h
 exact ⟨A0, c0, blk_far hb hne u, hg, hr0⟩
theorem cellS99_0 {W : World} {g : Nat} {A0 : Option Addr} {c0 : Nat} {f0 : List Int} {f1 : Int} (h : W.heap[g]? = some (.cells #[.slice A0 f0.length c0, .int .i64 f1] 99 (0, 0))) : W.cell? ⟨g, 0, none⟩ = some (.slice A0 f0.length c0) := (blk_cell h 0).trans rfl
theorem cellS99_1 {W : World} {g : Nat} {A0 : Option Addr} {c0 : Nat} {f0 : List Int} {f1 : Int} (h : W.heap[g]? = some (.cells #[.slice A0 f0.length c0, .int .i64 f1] 99 (0, 0))) : W.cell? ⟨g, 1, none⟩ = some (.int .i64 f1) := (blk_cell h 1).trans rfl
theorem IsS99.set_1 {w0 W : World} {g : Nat} {f0 : List Int} {f1 : Int} (h : IsS99 w0 W g f0 f1) (x : Int) : IsS99 w0 (W.setCell ⟨g, 1, none⟩ (.int .i64 x)) g f0 x := by
 obtain ⟨A0, c0, hb, hg, hr0⟩ := h
 exact ⟨A0, c0, by simpa using blk_set hb 1 (.int .i64 x), hg, hr0⟩
/-! ### spec_l1Open: function 50 -/
def spec_l1Open.f (l0 : List Int) : Option (List Int × Int) := some (l0, 0)
set_option maxHeartbeats 8000000 in
set_option maxRecDepth 100000 in
theorem spec_l1Open.calls (A0 : Option Addr) (c0 : Nat) (l0 : List Int) (r1 : List Int) (r2 : Int) (w0 w : World) (hB : Below w0.heap.size w0 w) (hr0 : Kd.C (Kd.int .u8) w0 A0 l0.length l0) (hc0 : l0.length ≤ c0) (h : spec_l1Open.f l0 = some (r1, r2)) :
  Calls Tryd.prog 50 #[.slice A0 l0.length c0] w fun e w' => ∃ g_ : Nat, e = .returned (.pointer (some ⟨g_, 0, none⟩)) ∧ IsS99 w0 w' g_ r1 r2 ∧ Below w0.heap.size w0 w' ∧ Below w.heap.size w w' := by
 have hu99 := Tryd.underlying99
 have HR0 := Aside0.mk hr0
 have HC0 := Aside0.mk hc0
 clear hr0 hc0
 have HBW := Aside0.mk (Below.refl w.heap.size w)
 have HW0 := Aside0.mk hB.size
 have HB := Aside0.mk hB
 clear hB
 have H : (some (l0, 0)) = some (r1, r2) := h
 clear h
 simp only [Option.some.injEq, Prod.mk.injEq] at H
 obtain ⟨rfl, rfl⟩ := H
 go_enter Tryd.func50, Tryd.ntmps50
 go_wp2_with (first | ((with_reducible refine gate_dst (N := 5) rfl ?_); refine box_event ?hg (N := 5) ?hd (cs := #[.slice A0 l0.length c0, .int .i64 0]) (t := 99) ?hr ?_; (case hd => rfl); (case hg => rfl); (case hr => exact dq1); intro gb367 hg w2 hbox hb; have n0_ := Aside0.mk (below_step HBW.out hb); have n1_ := Aside0.mk (below_step dq24 hb); have n2_ := Aside0.mk (hbox); have n3_ := Aside0.mk ((dq55 : w.heap.size ≤ gb367)); have n4_ := Aside0.mk ((Nat.le_trans HW0.out (dq55 : w.heap.size ≤ gb367) : w0.heap.size ≤ gb367)); clear HBW; clear HB; have HBW := n0_; have HB := n1_; have BK367 := n2_; have GW367 := n3_; have GE367 := n4_; clear n0_ n1_ n2_ n3_ n4_; clear hb hbox hg))
 go_ret
 exact ⟨_, rfl, (show IsS99 w0 _ gb367 l0 0 from ⟨_, _, by refine blk_up ?_; exact BK367.out, GE367.out, HR0.out⟩), by repeat (first | (with_reducible first | exact HB.out | apply below_alloc | apply pw_below_drewN | apply below_drew1 | refine below_set ?_ GE367.out) | exact HB.out), by repeat (first | (with_reducible first | exact HBW.out | apply below_alloc | apply pw_below_drewN | apply below_drew1 | refine below_set ?_ GW367.out) | exact HBW.out)⟩

/-! ### spec_l1First: function 109 -/
def spec_l1First.f (a0 : Int) : Option (Bool) := if a0 ≥ 97 then (if a0 ≤ 122 then (some true) else (if a0 ≥ 65 then (if a0 ≤ 90 then (some true) else (some (a0 == 95))) else (some (a0 == 95)))) else (if a0 ≥ 65 then (if a0 ≤ 90 then (some true) else (some (a0 == 95))) else (some (a0 == 95)))
set_option maxHeartbeats 8000000 in
set_option maxRecDepth 100000 in
theorem spec_l1First.calls (a0 : Int) (r : Bool) (w : World) (h : spec_l1First.f a0 = some r) :
  Calls Tryd.prog 109 #[.int .u8 a0] w fun e w' => e = .returned (.bool r) ∧ Drawn0 w w' := by
 have H : (if a0 ≥ 97 then (if a0 ≤ 122 then (some true) else (if a0 ≥ 65 then (if a0 ≤ 90 then (some true) else (some (a0 == 95))) else (some (a0 == 95)))) else (if a0 ≥ 65 then (if a0 ≤ 90 then (some true) else (some (a0 == 95))) else (some (a0 == 95)))) = some r := h
 clear h
 by_cases c2 : a0 ≥ 97
 rotate_left
 ·rw [if_neg c2] at H
  have c2b0 : decide (97 ≤ a0) = false := decide_eq_false c2
  clear c2
  by_cases c6 : a0 ≥ 65
  rotate_left
  ·rw [if_neg c6] at H
   have c6b0 : decide (65 ≤ a0) = false := decide_eq_false c6
   clear c6
   obtain rfl := Option.some.inj H
   go_enter Tryd.func109, Tryd.ntmps109
   go_wp2
   go_ret
   exact ⟨dq18, dq17⟩
  rw [if_pos c6] at H
  have c6b0 : decide (65 ≤ a0) = true := decide_eq_true c6
  clear c6
  by_cases c7 : a0 ≤ 90
  ·rw [if_pos c7] at H
   have c7b0 := decide_eq_true c7
   clear c7
   obtain rfl := Option.some.inj H
   go_enter Tryd.func109, Tryd.ntmps109
   go_wp2
   go_ret
   exact ⟨dq18, dq17⟩
  rw [if_neg c7] at H
  have c7b0 := decide_eq_false c7
  clear c7
  obtain rfl := Option.some.inj H
  go_enter Tryd.func109, Tryd.ntmps109
  go_wp2
  go_ret
  exact ⟨dq18, dq17⟩
 rw [if_pos c2] at H
 have c2b0 : decide (97 ≤ a0) = true := decide_eq_true c2
 clear c2
 by_cases c3 : a0 ≤ 122
 ·rw [if_pos c3] at H
  have c3b0 := decide_eq_true c3
  clear c3
  obtain rfl := Option.some.inj H
  go_enter Tryd.func109, Tryd.ntmps109
  go_wp2
  go_ret
  exact ⟨dq18, dq17⟩
 rw [if_neg c3] at H
 have c3b0 := decide_eq_false c3
 clear c3
 by_cases c4 : a0 ≥ 65
 rotate_left
 ·rw [if_neg c4] at H
  have c4b0 : decide (65 ≤ a0) = false := decide_eq_false c4
  clear c4
  obtain rfl := Option.some.inj H
  go_enter Tryd.func109, Tryd.ntmps109
  go_wp2
  go_ret
  exact ⟨dq18, dq17⟩
 rw [if_pos c4] at H
 have c4b0 : decide (65 ≤ a0) = true := decide_eq_true c4
 clear c4
 by_cases c5 : a0 ≤ 90
 ·rw [if_pos c5] at H
  have c5b0 := decide_eq_true c5
  clear c5
  obtain rfl := Option.some.inj H
  go_enter Tryd.func109, Tryd.ntmps109
  go_wp2
  go_ret
  exact ⟨dq18, dq17⟩
 rw [if_neg c5] at H
 have c5b0 := decide_eq_false c5
 clear c5
 obtain rfl := Option.some.inj H
 go_enter Tryd.func109, Tryd.ntmps109
 go_wp2
 go_ret
 exact ⟨dq18, dq17⟩

/-! ### spec_l1Digit: function 121 -/
def spec_l1Digit.f (a0 : Int) : Option (Bool) := if a0 ≥ 48 then (some (decide (a0 ≤ 57))) else (some false)
set_option maxHeartbeats 8000000 in
set_option maxRecDepth 100000 in
theorem spec_l1Digit.calls (a0 : Int) (r : Bool) (w : World) (h : spec_l1Digit.f a0 = some r) :
  Calls Tryd.prog 121 #[.int .u8 a0] w fun e w' => e = .returned (.bool r) ∧ Drawn0 w w' := by
 have H : (if a0 ≥ 48 then (some (decide (a0 ≤ 57))) else (some false)) = some r := h
 clear h
 by_cases c2 : a0 ≥ 48
 ·rw [if_pos c2] at H
  have c2b0 : decide (48 ≤ a0) = true := decide_eq_true c2
  clear c2
  obtain rfl := Option.some.inj H
  go_enter Tryd.func121, Tryd.ntmps121
  go_wp2
  go_ret
  exact ⟨dq18, dq17⟩
 rw [if_neg c2] at H
 have c2b0 : decide (48 ≤ a0) = false := decide_eq_false c2
 clear c2
 obtain rfl := Option.some.inj H
 go_enter Tryd.func121, Tryd.ntmps121
 go_wp2
 go_ret
 exact ⟨dq18, dq17⟩

/-! ### spec_l1More: function 110 -/
def spec_l1More.f (a0 : Int) : Option (Bool) := (spec_l1First.f a0).bind fun t123 => (if t123 = true then (some true) else ((spec_l1Digit.f a0).bind fun t124 => (if t124 = true then (some true) else (if a0 = 46 then (some true) else (some (a0 == 45))))))
set_option maxHeartbeats 8000000 in
set_option maxRecDepth 100000 in
theorem spec_l1More.calls (a0 : Int) (r : Bool) (w : World) (h : spec_l1More.f a0 = some r) :
  Calls Tryd.prog 110 #[.int .u8 a0] w fun e w' => e = .returned (.bool r) ∧ Drawn0 w w' := by
 have H : ((spec_l1First.f a0).bind fun t123 => (if t123 = true then (some true) else ((spec_l1Digit.f a0).bind fun t124 => (if t124 = true then (some true) else (if a0 = 46 then (some true) else (some (a0 == 45))))))) = some r := h
 clear h
 replace H := Option.bind_eq_some_iff.mp H
 obtain ⟨t123, A20, H⟩ := H
 replace H : (if t123 = true then (some true) else ((spec_l1Digit.f a0).bind fun t124 => (if t124 = true then (some true) else (if a0 = 46 then (some true) else (some (a0 == 45)))))) = some r := H
 have A2 := Aside0.mk A20
 clear A20
 by_cases c3 : t123 = true
 ·subst c3
  have H1 : (some true) = some r := by rw [if_pos rfl] at H; exact H
  clear H
  have H := H1
  clear H1
  obtain rfl := Option.some.inj H
  go_enter Tryd.func110, Tryd.ntmps110
  go_wp2_with (first | ((with_reducible refine gate_callee (f := 109) rfl ?_); refine goesL_ (some 4) rfl rfl Tryd.func109 dq23 rfl #[.int .u8 a0] rfl dq22 ?_; (with_reducible refine (spec_l1First.calls a0 true _ A2.out).mono ?_); rintro e w' ⟨rfl, ⟨nd, rfl⟩⟩; refine ⟨_, rfl, ?_⟩))
  go_ret
  exact ⟨dq18, dq17⟩
 replace c3 := Bool.eq_false_iff.mpr c3
 subst c3
 have H1 : ((spec_l1Digit.f a0).bind fun t124 => (if t124 = true then (some true) else (if a0 = 46 then (some true) else (some (a0 == 45))))) = some r := by rw [if_neg (show ¬ (false = true) by decide)] at H; exact H
 clear H
 have H := H1
 clear H1
 replace H := Option.bind_eq_some_iff.mp H
 obtain ⟨t124, A40, H⟩ := H
 replace H : (if t124 = true then (some true) else (if a0 = 46 then (some true) else (some (a0 == 45)))) = some r := H
 have A4 := Aside0.mk A40
 clear A40
 by_cases c5 : t124 = true
 ·subst c5
  have H1 : (some true) = some r := by rw [if_pos rfl] at H; exact H
  clear H
  have H := H1
  clear H1
  obtain rfl := Option.some.inj H
  go_enter Tryd.func110, Tryd.ntmps110
  go_wp2_with (first | ((with_reducible refine gate_callee (f := 109) rfl ?_); refine goesL_ (some 4) rfl rfl Tryd.func109 dq23 rfl #[.int .u8 a0] rfl dq22 ?_; (with_reducible refine (spec_l1First.calls a0 false _ A2.out).mono ?_); rintro e w' ⟨rfl, ⟨nd, rfl⟩⟩; refine ⟨_, rfl, ?_⟩) | (go_at_call 121; (with_reducible refine (spec_l1Digit.calls a0 true _ A4.out).mono ?_); rintro e w' ⟨rfl, ⟨nd, rfl⟩⟩))
  go_ret
  exact ⟨dq18, dq17⟩
 replace c5 := Bool.eq_false_iff.mpr c5
 subst c5
 have H1 : (if a0 = 46 then (some true) else (some (a0 == 45))) = some r := by rw [if_neg (show ¬ (false = true) by decide)] at H; exact H
 clear H
 have H := H1
 clear H1
 by_cases c6 : a0 = 46
 rotate_left
 ·rw [if_neg c6] at H
  have c6b0 := beq_eq_false_iff_ne.mpr c6
  have c6b1 := bne_iff_ne.mpr c6
  obtain rfl := Option.some.inj H
  go_enter Tryd.func110, Tryd.ntmps110
  go_wp2_with (first | ((with_reducible refine gate_callee (f := 109) rfl ?_); refine goesL_ (some 4) rfl rfl Tryd.func109 dq23 rfl #[.int .u8 a0] rfl dq22 ?_; (with_reducible refine (spec_l1First.calls a0 false _ A2.out).mono ?_); rintro e w' ⟨rfl, ⟨nd, rfl⟩⟩; refine ⟨_, rfl, ?_⟩) | (go_at_call 121; (with_reducible refine (spec_l1Digit.calls a0 false _ A4.out).mono ?_); rintro e w' ⟨rfl, ⟨nd, rfl⟩⟩))
  go_ret
  exact ⟨dq18, dq17⟩
 rw [if_pos c6] at H
 have c6b0 := beq_iff_eq.mpr c6
 have c6b1 := bne_eq_false_iff_eq.mpr c6
 clear c6
 obtain rfl := Option.some.inj H
 go_enter Tryd.func110, Tryd.ntmps110
 go_wp2_with (first | ((with_reducible refine gate_callee (f := 109) rfl ?_); refine goesL_ (some 4) rfl rfl Tryd.func109 dq23 rfl #[.int .u8 a0] rfl dq22 ?_; (with_reducible refine (spec_l1First.calls a0 false _ A2.out).mono ?_); rintro e w' ⟨rfl, ⟨nd, rfl⟩⟩; refine ⟨_, rfl, ?_⟩) | (go_at_call 121; (with_reducible refine (spec_l1Digit.calls a0 false _ A4.out).mono ?_); rintro e w' ⟨rfl, ⟨nd, rfl⟩⟩))
 go_ret
 exact ⟨dq18, dq17⟩

/-! ### spec_NameOk: function 92 -/
mutual
def spec_NameOk.j0 : Nat → ByteArray → Bool → Option (Bool)
 | 0, _, _ => none
 | k + 1, x0, x17 => if x17 = true then (some false) else (spec_NameOk.l0 k x0 1)
def spec_NameOk.l0 : Nat → ByteArray → Int → Option (Bool)
 | 0, _, _ => none
 | k + 1, x0, x3 => if x3 < (x0.size : Int) then (if 0 ≤ x3 then ((spec_l1More.f (bt x0 x3)).bind fun t126 => (if t126 = true then (spec_NameOk.l0 k x0 (wrap64 (x3 + 1))) else (some false))) else (none)) else (some true)
end
def spec_NameOk.f (k : Nat) (a0 : ByteArray) : Option (Bool) := if (a0.size : Int) < 1 then (spec_NameOk.j0 k a0 true) else (if (a0.size : Int) > 40 then (spec_NameOk.j0 k a0 true) else (if 0 < (a0.size : Int) then ((spec_l1First.f (bt a0 0)).bind fun t125 => (spec_NameOk.j0 k a0 (!t125))) else (none)))
set_option maxHeartbeats 8000000 in
set_option maxRecDepth 100000 in
theorem spec_NameOk.calls (k : Nat) (a0 : ByteArray) (r : Bool) (w : World) (h : spec_NameOk.f k a0 = some r) :
  Calls Tryd.prog 92 #[.string a0] w fun e w' => e = .returned (.bool r) ∧ Drawn0 w w' := by
 have H : (if (a0.size : Int) < 1 then (spec_NameOk.j0 k a0 true) else (if (a0.size : Int) > 40 then (spec_NameOk.j0 k a0 true) else (if 0 < (a0.size : Int) then ((spec_l1First.f (bt a0 0)).bind fun t125 => (spec_NameOk.j0 k a0 (!t125))) else (none)))) = some r := h
 clear h
 have HC2 := Aside0.mk H
 clear H
 go_enter Tryd.func92, Tryd.ntmps92
 go_upto_region 1 with (fail)
 go_cut [17] (fun v17 wc => ∃ (kq : Nat) (x17_1 : Bool), v17 = .bool x17_1 ∧ Aside0 (spec_NameOk.j0 kq a0 x17_1 = some r) ∧ Aside0 (kq ≤ k) ∧ Drawn0 w wc)
 case first =>
  have H := HC2.out
  clear HC2
  by_cases c3 : (a0.size : Int) < 1
  ·rw [if_pos c3] at H
   have c3b0 := decide_eq_true c3
   have c3b1 : decide (a0.size < 1) = true := decide_eq_true dq37
   clear c3
   (first | rw [c3b0] | (simp only [i64_w, i32_w]; rw [c3b0]) | skip)
   have H' := Aside0.mk H
   clear H
   go_wp2
   go_meet
   case rel => exact ⟨_, (true), dq18, H', ⟨dq25⟩, dq17⟩
  rw [if_neg c3] at H
  have c3b0 := decide_eq_false c3
  have c3b1 : decide (a0.size < 1) = false := decide_eq_false dq37
  clear c3
  (first | rw [c3b0] | (simp only [i64_w, i32_w]; rw [c3b0]) | skip)
  by_cases c4 : (a0.size : Int) > 40
  ·rw [if_pos c4] at H
   have c4b0 : decide (40 < (a0.size : Int)) = true := decide_eq_true c4
   have c4b1 : decide (40 < a0.size) = true := decide_eq_true dq37
   clear c4
   have H' := Aside0.mk H
   clear H
   go_wp2
   go_meet
   case rel => exact ⟨_, (true), dq18, H', ⟨dq25⟩, dq17⟩
  rw [if_neg c4] at H
  have c4b0 : decide (40 < (a0.size : Int)) = false := decide_eq_false c4
  have c4b1 : decide (40 < a0.size) = false := decide_eq_false dq37
  clear c4
  by_cases c5 : 0 < (a0.size : Int)
  rotate_left
  ·rw [if_neg c5] at H
   exact absurd H dq21
  rw [if_pos c5] at H
  have c5b0 := decide_eq_true c5
  have c5b1 : decide (0 < a0.size) = true := decide_eq_true dq37
  clear c5
  replace H := Option.bind_eq_some_iff.mp H
  obtain ⟨t125, A70, H⟩ := H
  replace H : (spec_NameOk.j0 k a0 (!t125)) = some r := H
  have A7 := Aside0.mk A70
  clear A70
  have H' := Aside0.mk H
  clear H
  have p6 : 0 ≤ (0 : Int) := dq37
  have q6 : 0 < a0.size := (by have : (0 : Int) < (a0.size : Int) := of_decide_eq_true dq19; omega)
  have hx6 : ∀ h : 0 < a0.size, ((a0[0]'h).toNat : Int) = bt a0 0 := bt_at a0 0
  clear p6
  have qi6 : (0 < (a0.size : Int)) = True := eq_true (of_decide_eq_true dq19)
  replace q6 := eq_true q6
  go_wp2_with (first | (go_at_call 109; (with_reducible refine (spec_l1First.calls (bt a0 0) t125 _ A7.out).mono ?_); rintro e w' ⟨rfl, ⟨nd, rfl⟩⟩))
  go_meet
  case rel => exact ⟨_, (!t125), dq18, H', ⟨dq25⟩, dq17⟩
 clear HC2
 try clear p2
 try clear c3
 try clear c3b0
 try clear c3b1
 try clear c4
 try clear c4b0
 try clear c4b1
 try clear c5
 try clear c5b0
 try clear c5b1
 try clear p6
 try clear q6
 try clear hx6
 try clear qi6
 try clear p6
 try clear q6
 obtain ⟨kq, x17_1, rfl, HA, HJ1, ⟨mc1, rfl⟩⟩ := hcut
 cases kq with
 | zero => exact absurd HA.out (by simp [spec_NameOk.j0])
 | succ kj1 =>
  have H := HA.out
  clear HA
  simp only [spec_NameOk.j0] at H
  by_cases c8 : x17_1 = true
  ·subst c8
   have H1 : (some false) = some r := by rw [if_pos rfl] at H; exact H
   clear H
   have H := H1
   clear H1
   obtain rfl := Option.some.inj H
   go_wp2
   go_ret
   exact ⟨dq18, dq17⟩
  replace c8 := Bool.eq_false_iff.mpr c8
  subst c8
  have H1 : (spec_NameOk.l0 kj1 a0 1) = some r := by rw [if_neg (show ¬ (false = true) by decide)] at H; exact H
  clear H
  have H := H1
  clear H1
  have H' := Aside0.mk H
  clear H
  go_wp2
  go_loopg [3] kj1 (fun kq v3 w' => ∃ (x3_2 : Int), v3 = .int .i64 x3_2 ∧ Aside0 (spec_NameOk.l0 kq a0 x3_2 = some r) ∧ Aside0 (kq ≤ kj1) ∧ Drawn0 w w')
  case atStart => exact ⟨(1), dq18, H', ⟨Nat.le_refl _⟩, dq17⟩
  clear H'
  try clear c1
  try clear p2
  try clear c3
  try clear c3b0
  try clear c3b1
  try clear c4
  try clear c4b0
  try clear c4b1
  try clear c5
  try clear c5b0
  try clear c5b1
  try clear p6
  try clear q6
  try clear hx6
  try clear qi6
  try clear c8
  try clear p2
  try clear p6
  try clear q6
  obtain ⟨x3_2, rfl, HA, HK2, ⟨m2, rfl⟩⟩ := hrel
  cases gk with
  | zero => exact absurd HA.out (by simp [spec_NameOk.l0])
  | succ k2 =>
   have H := HA.out
   clear HA
   simp only [spec_NameOk.l0] at H
   by_cases c9 : x3_2 < (a0.size : Int)
   rotate_left
   ·rw [if_neg c9] at H
    have c9b0 := decide_eq_false c9
    clear c9
    obtain rfl := Option.some.inj H
    go_wp2
    go_ret
    exact ⟨dq18, dq17⟩
   rw [if_pos c9] at H
   have c9b0 := decide_eq_true c9
   clear c9
   by_cases c10 : 0 ≤ x3_2
   rotate_left
   ·rw [if_neg c10] at H
    exact absurd H dq21
   rw [if_pos c10] at H
   have c10b0 := decide_eq_true c10
   clear c10
   replace H := Option.bind_eq_some_iff.mp H
   obtain ⟨t126, A120, H⟩ := H
   replace H : (if t126 = true then (spec_NameOk.l0 k2 a0 (wrap64 (x3_2 + 1))) else (some false)) = some r := H
   have A12 := Aside0.mk A120
   clear A120
   by_cases c13 : t126 = true
   rotate_left
   ·replace c13 := Bool.eq_false_iff.mpr c13
    subst c13
    have H1 : (some false) = some r := by rw [if_neg (show ¬ (false = true) by decide)] at H; exact H
    clear H
    have H := H1
    clear H1
    obtain rfl := Option.some.inj H
    have p11 : 0 ≤ (x3_2 : Int) := of_decide_eq_true dq19
    have q11 : x3_2 < (a0.size : Int) := of_decide_eq_true dq19
    have hx11 := bt_at a0 x3_2
    replace p11 := eq_true p11
    replace q11 := eq_true q11
    go_wp2_with (first | ((with_reducible refine gate_callee (f := 110) rfl ?_); refine goesL_ (some 27) rfl rfl Tryd.func110 dq23 rfl #[.int .u8 (bt a0 x3_2)] rfl dq22 ?_; (with_reducible refine (spec_l1More.calls (bt a0 x3_2) false _ A12.out).mono ?_); rintro e w' ⟨rfl, ⟨nd, rfl⟩⟩; refine ⟨_, rfl, ?_⟩))
    go_ret
    exact ⟨dq18, dq17⟩
   subst c13
   have H1 : (spec_NameOk.l0 k2 a0 (wrap64 (x3_2 + 1))) = some r := by rw [if_pos rfl] at H; exact H
   clear H
   have H := H1
   clear H1
   have H' := Aside0.mk H
   clear H
   have p11 : 0 ≤ (x3_2 : Int) := of_decide_eq_true dq19
   have q11 : x3_2 < (a0.size : Int) := of_decide_eq_true dq19
   have hx11 := bt_at a0 x3_2
   replace p11 := eq_true p11
   replace q11 := eq_true q11
   go_wp2_with (first | ((with_reducible refine gate_callee (f := 110) rfl ?_); refine goesL_ (some 27) rfl rfl Tryd.func110 dq23 rfl #[.int .u8 (bt a0 x3_2)] rfl dq22 ?_; (with_reducible refine (spec_l1More.calls (bt a0 x3_2) true _ A12.out).mono ?_); rintro e w' ⟨rfl, ⟨nd, rfl⟩⟩; refine ⟨_, rfl, ?_⟩))
   go_roundg k2
   case measure => have := HJ1.out; have := HK2.out; omega
   case rel => exact ⟨(wrap64 (x3_2 + 1)), dq18, H', ⟨by have := HJ1.out; have := HK2.out; omega⟩, dq17⟩

end Go.Proofs.YtpmjpbaeecnpiaaDoor.L
