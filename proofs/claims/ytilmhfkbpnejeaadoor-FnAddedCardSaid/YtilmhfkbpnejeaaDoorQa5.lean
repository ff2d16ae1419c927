/- Words and contracts for the row RowFnAdded: what the Go functions answer that it calls; printed by programs of the kit and of this session, and merged. -/
import Derived.Test.YtilmhfkbpnejeaaDoorQa4
import Derived.Sort.Walk0
import Derived.Lib.PathFns
import Derived.Lib.IndexBytes
namespace Go.Proofs.YtilmhfkbpnejeaaDoor.L
open Go.RowKit Go.Proofs.YtilmhfkbpnejeaaDoorW.PrintWords Go.Proofs.YtilmhfkbpnejeaaDoorW.PrintLast Go.Proofs.YtilmhfkbpnejeaaDoorW.PrintMore
attribute [local go_sem] max2_int min2_int max_two min_two max_three min_three max_four min_four
attribute [local go_sem] Go.Proofs.YtilmhfkbpnejeaaDoor.H.str_leq Go.Proofs.YtilmhfkbpnejeaaDoor.H.str_gtr Go.Proofs.YtilmhfkbpnejeaaDoor.H.str_geq
set_option linter.unusedVariables false
set_option linter.unusedSimpArgs false

/-! ### spec_AddDec: function 23 -/
def spec_AddDec.j0 : Nat → Bool → Bool → ByteArray → Int → Bool → ByteArray → Int → Option (Bool × ByteArray × Int × Bool)
  | 0, _, _, _, _, _, _, _ => none
  | k + 1, x16, x447000, x447001, x447002, x448000, x448001, x448002 => if x16 = true then (some (false, (⟨#[]⟩ : ByteArray), 0, false)) else ((spec_l4Same.f k x447000 x447001 x447002 x448000 x448001 x448002).bind fun bt451 => (if (x447000 == x448000) = true then ((spec_l4Sum.f k bt451.1 bt451.2.1).bind fun t454 => ((spec_l4Norm.f k x447000 t454 bt451.2.2).bind fun bt455 => (some (bt455.1, bt455.2.1, bt455.2.2.1, bt455.2.2.2)))) else (if (Op.bytesLess bt451.1.toList bt451.2.1.toList) = true then ((spec_l4Less.f k bt451.2.1 bt451.1).bind fun t459 => ((spec_l4Norm.f k x448000 t459 bt451.2.2).bind fun bt460 => (some (bt460.1, bt460.2.1, bt460.2.2.1, bt460.2.2.2)))) else ((spec_l4Less.f k bt451.1 bt451.2.1).bind fun t464 => ((spec_l4Norm.f k x447000 t464 bt451.2.2).bind fun bt465 => (some (bt465.1, bt465.2.1, bt465.2.2.1, bt465.2.2.2)))))))
def spec_AddDec.f (k : Nat) (a0_0 : Bool) (a0_1 : ByteArray) (a0_2 : Int) (a1_0 : Bool) (a1_1 : ByteArray) (a1_2 : Int) : Option (Bool × ByteArray × Int × Bool) := (spec_DecOk.f k a0_0 a0_1 a0_2).bind fun t449 => (if t449 = true then ((spec_DecOk.f k a1_0 a1_1 a1_2).bind fun t450 => (spec_AddDec.j0 k (!t450) a0_0 a0_1 a0_2 a1_0 a1_1 a1_2)) else (spec_AddDec.j0 k true a0_0 a0_1 a0_2 a1_0 a1_1 a1_2))
def spec_AddDec.T5 : Bool × List (List Nat × List Nat) := (true, [([], []), ([0], [0]), ([], []), ([], []), ([2, 3], [2, 3]), ([], []), ([1, 4, 5, 4], [1, 4, 5]), ([6], [6]), ([6], [6]), ([7, 6, 0, 1, 2, 3, 4, 5, 6, 7, 8], [7]), ([8, 9, 0, 1, 2, 3, 4, 5, 6, 7, 8, 9], [8])])
def spec_AddDec.B5 : List Nat := [0, 1, 0, 0, 12, 0, 63, 127, 127, 511, 1023]
theorem spec_AddDec.tab5 : rtab .any (opsOf Tryd.f23 5) = spec_AddDec.T5 := by kernel_rfl
theorem spec_AddDec.bits5 : waitsOk spec_AddDec.T5.2 spec_AddDec.B5 = true := by kernel_rfl
def spec_AddDec.T7 : Bool × List (List Nat × List Nat) := (true, [([], []), ([0], [0]), ([], []), ([], []), ([2, 3], [2, 3]), ([], []), ([1, 4, 5, 4], [1, 4, 5]), ([6], [6]), ([6], [6]), ([7, 6, 0, 1, 2, 3, 4, 5, 6, 7, 8], [7]), ([8, 9, 0, 1, 2, 3, 4, 5, 6, 7, 8, 9], [8])])
def spec_AddDec.B7 : List Nat := [0, 1, 0, 0, 12, 0, 63, 127, 127, 511, 1023]
theorem spec_AddDec.tab7 : rtab .any (opsOf Tryd.f23 7) = spec_AddDec.T7 := by kernel_rfl
theorem spec_AddDec.bits7 : waitsOk spec_AddDec.T7.2 spec_AddDec.B7 = true := by kernel_rfl
def spec_AddDec.T8 : Bool × List (List Nat × List Nat) := (true, [([], []), ([0], [0]), ([], []), ([], []), ([2, 3], [2, 3]), ([], []), ([1, 4, 5, 4], [1, 4, 5]), ([6], [6]), ([6], [6]), ([7, 6, 0, 1, 2, 3, 4, 5, 6, 7, 8], [7]), ([8, 9, 0, 1, 2, 3, 4, 5, 6, 7, 8, 9], [8])])
def spec_AddDec.B8 : List Nat := [0, 1, 0, 0, 12, 0, 63, 127, 127, 511, 1023]
theorem spec_AddDec.tab8 : rtab .any (opsOf Tryd.f23 8) = spec_AddDec.T8 := by kernel_rfl
theorem spec_AddDec.bits8 : waitsOk spec_AddDec.T8.2 spec_AddDec.B8 = true := by kernel_rfl
set_option maxHeartbeats 8000000 in
set_option maxRecDepth 100000 in
theorem spec_AddDec.calls (k : Nat) (a0_0 : Bool) (a0_1 : ByteArray) (a0_2 : Int) (a1_0 : Bool) (a1_1 : ByteArray) (a1_2 : Int) (r1 : Bool) (r2 : ByteArray) (r3 : Int) (r4 : Bool) (w : World) (h : spec_AddDec.f k a0_0 a0_1 a0_2 a1_0 a1_1 a1_2 = some (r1, r2, r3, r4)) :
    Calls Tryd.prog 23 #[.agg #[.bool a0_0, .string a0_1, .int .i64 a0_2], .agg #[.bool a1_0, .string a1_1, .int .i64 a1_2]] w fun e w' => e = .returned (.tuple #[.agg #[.bool r1, .string r2, .int .i64 r3], .bool r4]) ∧ Below w.heap.size w w' := by
  have hu26 := Tryd.underlying26
  have HB := Aside0.mk (Below.refl w.heap.size w)
  have H : ((spec_DecOk.f k a0_0 a0_1 a0_2).bind fun t449 => (if t449 = true then ((spec_DecOk.f k a1_0 a1_1 a1_2).bind fun t450 => (spec_AddDec.j0 k (!t450) a0_0 a0_1 a0_2 a1_0 a1_1 a1_2)) else (spec_AddDec.j0 k true a0_0 a0_1 a0_2 a1_0 a1_1 a1_2))) = some (r1, r2, r3, r4) := h
  clear h
  have HC3 := Aside0.mk H
  clear H
  go_enter Tryd.func23, Tryd.ntmps23
  go_upto_region 1 with (first | ((with_reducible refine gate_dst (N := 2) rfl ?_); refine box_event ?hg (N := 2) ?hd (cs := #[.bool a0_0, .string a0_1, .int .i64 a0_2]) (t := 26) ?hr ?_; (case hd => rfl); (case hg => rfl); (case hr => first | (go_simp; done) | (go_simp; rfl)); intro gb446 hg w4 hbox hb; have n0_ := Aside0.mk (below_step (by repeat (first | (with_reducible first | exact HB.out | apply below_alloc | apply pw_below_drewN | apply below_drew1) | exact HB.out)) hb); have n1_ := Aside0.mk (hbox); have n2_ := Aside0.mk ((by rw [hg]; exact (below_size (by repeat (first | (with_reducible first | exact HB.out | apply below_alloc | apply pw_below_drewN | apply below_drew1) | exact HB.out))) : w.heap.size ≤ gb446)); have n3_ := Aside0.mk ((by rw [hg]; exact (below_size (by repeat (first | (with_reducible first | exact HB.out | apply below_alloc | apply pw_below_drewN | apply below_drew1) | exact HB.out))) : w.heap.size ≤ gb446)); clear HB; have HB := n0_; have BK446 := n1_; have GW446 := n2_; have GE446 := n3_; clear n0_ n1_ n2_ n3_; clear hb hbox hg) | ((with_reducible refine gate_dst (N := 3) rfl ?_); refine box_event ?hg (N := 3) ?hd (cs := #[.bool a1_0, .string a1_1, .int .i64 a1_2]) (t := 26) ?hr ?_; (case hd => rfl); (case hg => rfl); (case hr => first | (go_simp; done) | (go_simp; rfl)); intro gb447 hg w5 hbox hb; have n0_ := Aside0.mk (blk_below (g := gb446) (o := .cells #[.bool a0_0, .string a0_1, .int .i64 a0_2] 26 (0, 0)) (by refine blk_up ?_; exact BK446.out) hb); have n1_ := Aside0.mk (below_step (by repeat (first | (with_reducible first | exact HB.out | apply below_alloc | apply pw_below_drewN | apply below_drew1 | refine below_set ?_ GE446.out) | exact HB.out)) hb); have n2_ := Aside0.mk (hbox); have n3_ := Aside0.mk ((by rw [hg]; exact (below_size (by repeat (first | (with_reducible first | exact HB.out | apply below_alloc | apply pw_below_drewN | apply below_drew1 | refine below_set ?_ GE446.out) | exact HB.out))) : w.heap.size ≤ gb447)); have n4_ := Aside0.mk ((by rw [hg]; exact (below_size (by repeat (first | (with_reducible first | exact HB.out | apply below_alloc | apply pw_below_drewN | apply below_drew1 | refine below_set ?_ GE446.out) | exact HB.out))) : w.heap.size ≤ gb447)); have n5_ := Aside0.mk ((by rw [hg]; exact Nat.ne_of_lt (blk_lt (g := gb446) (o := .cells #[.bool a0_0, .string a0_1, .int .i64 a0_2] 26 (0, 0)) (by refine blk_up ?_; exact BK446.out)) : gb446 ≠ gb447)); have n6_ := Aside0.mk ((by rw [hg]; exact Nat.ne_of_gt (blk_lt (g := gb446) (o := .cells #[.bool a0_0, .string a0_1, .int .i64 a0_2] 26 (0, 0)) (by refine blk_up ?_; exact BK446.out)) : gb447 ≠ gb446)); clear BK446; clear HB; have BK446 := n0_; have HB := n1_; have BK447 := n2_; have GW447 := n3_; have GE447 := n4_; have NB446_447 := n5_; have NB447_446 := n6_; clear n0_ n1_ n2_ n3_ n4_ n5_ n6_; clear hb hbox hg) | ((with_reducible refine gate_dst (N := 4) rfl ?_); refine box_event ?hg (N := 4) ?hd (cs := #[.bool false, .string (⟨#[]⟩ : ByteArray), .int .i64 0]) (t := 26) ?hr ?_; (case hd => rfl); (case hg => rfl); (case hr => first | (go_simp; done) | (go_simp; rfl)); intro gb448 hg w6 hbox hb; have n0_ := Aside0.mk (blk_below (g := gb446) (o := .cells #[.bool a0_0, .string a0_1, .int .i64 a0_2] 26 (0, 0)) (by refine blk_up ?_; exact BK446.out) hb); have n1_ := Aside0.mk (blk_below (g := gb447) (o := .cells #[.bool a1_0, .string a1_1, .int .i64 a1_2] 26 (0, 0)) (by refine blk_up ?_; exact BK447.out) hb); have n2_ := Aside0.mk (below_step (by repeat (first | (with_reducible first | exact HB.out | apply below_alloc | apply pw_below_drewN | apply below_drew1 | refine below_set ?_ GE446.out | refine below_set ?_ GE447.out) | exact HB.out)) hb); have n3_ := Aside0.mk (hbox); have n4_ := Aside0.mk ((by rw [hg]; exact (below_size (by repeat (first | (with_reducible first | exact HB.out | apply below_alloc | apply pw_below_drewN | apply below_drew1 | refine below_set ?_ GE446.out | refine below_set ?_ GE447.out) | exact HB.out))) : w.heap.size ≤ gb448)); have n5_ := Aside0.mk ((by rw [hg]; exact (below_size (by repeat (first | (with_reducible first | exact HB.out | apply below_alloc | apply pw_below_drewN | apply below_drew1 | refine below_set ?_ GE446.out | refine below_set ?_ GE447.out) | exact HB.out))) : w.heap.size ≤ gb448)); have n6_ := Aside0.mk ((by rw [hg]; exact Nat.ne_of_lt (blk_lt (g := gb446) (o := .cells #[.bool a0_0, .string a0_1, .int .i64 a0_2] 26 (0, 0)) (by refine blk_up ?_; exact BK446.out)) : gb446 ≠ gb448)); have n7_ := Aside0.mk ((by rw [hg]; exact Nat.ne_of_gt (blk_lt (g := gb446) (o := .cells #[.bool a0_0, .string a0_1, .int .i64 a0_2] 26 (0, 0)) (by refine blk_up ?_; exact BK446.out)) : gb448 ≠ gb446)); have n8_ := Aside0.mk ((by rw [hg]; exact Nat.ne_of_lt (blk_lt (g := gb447) (o := .cells #[.bool a1_0, .string a1_1, .int .i64 a1_2] 26 (0, 0)) (by refine blk_up ?_; exact BK447.out)) : gb447 ≠ gb448)); have n9_ := Aside0.mk ((by rw [hg]; exact Nat.ne_of_gt (blk_lt (g := gb447) (o := .cells #[.bool a1_0, .string a1_1, .int .i64 a1_2] 26 (0, 0)) (by refine blk_up ?_; exact BK447.out)) : gb448 ≠ gb447)); clear BK446; clear BK447; clear HB; have BK446 := n0_; have BK447 := n1_; have HB := n2_; have BK448 := n3_; have GW448 := n4_; have GE448 := n5_; have NB446_448 := n6_; have NB448_446 := n7_; have NB447_448 := n8_; have NB448_447 := n9_; clear n0_ n1_ n2_ n3_ n4_ n5_ n6_ n7_ n8_ n9_; clear hb hbox hg))
  (try simp only [Act.put, List.setIfInBounds_toArray, List.set_cons_zero, List.set_cons_succ])
  go_cut [16] (fun v16 wc => ∃ (kq : Nat) (x16_2 : Bool), v16 = .bool x16_2 ∧ Aside0 (spec_AddDec.j0 kq x16_2 a0_0 a0_1 a0_2 a1_0 a1_1 a1_2 = some (r1, r2, r3, r4)) ∧ Aside0 (kq ≤ k) ∧ Aside0 (wc.heap[gb446]? = some (.cells #[.bool a0_0, .string a0_1, .int .i64 a0_2] 26 (0, 0))) ∧ Aside0 (wc.heap[gb447]? = some (.cells #[.bool a1_0, .string a1_1, .int .i64 a1_2] 26 (0, 0))) ∧ Aside0 (wc.heap[gb448]? = some (.cells #[.bool false, .string (⟨#[]⟩ : ByteArray), .int .i64 0] 26 (0, 0))) ∧ Aside0 (Below w.heap.size w wc))
  case first =>
    have H := HC3.out
    clear HC3
    replace H := Option.bind_eq_some_iff.mp H
    obtain ⟨t449, A70, H⟩ := H
    replace H : (if t449 = true then ((spec_DecOk.f k a1_0 a1_1 a1_2).bind fun t450 => (spec_AddDec.j0 k (!t450) a0_0 a0_1 a0_2 a1_0 a1_1 a1_2)) else (spec_AddDec.j0 k true a0_0 a0_1 a0_2 a1_0 a1_1 a1_2)) = some (r1, r2, r3, r4) := H
    have A7 := Aside0.mk A70
    clear A70
    by_cases c8 : t449 = true
    · subst c8
      have H1 : ((spec_DecOk.f k a1_0 a1_1 a1_2).bind fun t450 => (spec_AddDec.j0 k (!t450) a0_0 a0_1 a0_2 a1_0 a1_1 a1_2)) = some (r1, r2, r3, r4) := by rw [if_pos rfl] at H; exact H
      clear H
      have H := H1
      clear H1
      replace H := Option.bind_eq_some_iff.mp H
      obtain ⟨t450, A90, H⟩ := H
      replace H : (spec_AddDec.j0 k (!t450) a0_0 a0_1 a0_2 a1_0 a1_1 a1_2) = some (r1, r2, r3, r4) := H
      have A9 := Aside0.mk A90
      clear A90
      have H' := Aside0.mk H
      clear H
      have hnb10 := NB446_447.out
      have hnc10 := NB447_446.out
      have hnb11 := NB446_448.out
      have hnc11 := NB448_446.out
      have hcz12_0 : w6.cell? ⟨gb446, 0, none⟩ = some (.bool a0_0) := (blk_cell BK446.out 0).trans rfl
      have hcz12_1 : w6.cell? ⟨gb446, 1, none⟩ = some (.string a0_1) := (blk_cell BK446.out 1).trans rfl
      have hcz12_2 : w6.cell? ⟨gb446, 2, none⟩ = some (.int .i64 a0_2) := (blk_cell BK446.out 2).trans rfl
      have hfz12_0 := blk_frozen BK446.out 0
      have hfz12_1 := blk_frozen BK446.out 1
      have hfz12_2 := blk_frozen BK446.out 2
      go_wp2_with (first | ((with_reducible refine gate_callee (f := 47) rfl ?_); refine goesL_ (some 10) rfl rfl Tryd.func47 (by kernel_rfl) rfl #[.agg #[.bool a0_0, .string a0_1, .int .i64 a0_2]] rfl (by (try simp only [List.map_toArray, List.map_cons, List.map_nil]); first | done | rfl | (simp only [List.length_drop, List.length_take]; rfl)) ?_; (with_reducible refine (spec_DecOk.calls k a0_0 a0_1 a0_2 true _ A7.out).mono ?_); rintro e w13 ⟨rfl, hb⟩; refine ⟨_, rfl, ?_⟩; have n0_ := Aside0.mk (blk_below (g := gb446) (o := .cells #[.bool a0_0, .string a0_1, .int .i64 a0_2] 26 (0, 0)) (by refine blk_up ?_; exact BK446.out) hb); have n1_ := Aside0.mk (blk_below (g := gb447) (o := .cells #[.bool a1_0, .string a1_1, .int .i64 a1_2] 26 (0, 0)) (by refine blk_up ?_; exact BK447.out) hb); have n2_ := Aside0.mk (blk_below (g := gb448) (o := .cells #[.bool false, .string (⟨#[]⟩ : ByteArray), .int .i64 0] 26 (0, 0)) (by refine blk_up ?_; exact BK448.out) hb); have n3_ := Aside0.mk (below_step (by repeat (first | (with_reducible first | exact HB.out | apply below_alloc | apply pw_below_drewN | apply below_drew1 | refine below_set ?_ GE446.out | refine below_set ?_ GE447.out | refine below_set ?_ GE448.out) | exact HB.out)) hb); clear BK446; clear BK447; clear BK448; clear HB; have BK446 := n0_; have BK447 := n1_; have BK448 := n2_; have HB := n3_; clear n0_ n1_ n2_ n3_; (try clear hb); (try clear hb2); (try clear hk); (try clear hi); have hnb14 := NB447_448.out; have hnc14 := NB448_447.out; have hcz15_0 : w13.cell? ⟨gb447, 0, none⟩ = some (.bool a1_0) := (blk_cell BK447.out 0).trans rfl; have hcz15_1 : w13.cell? ⟨gb447, 1, none⟩ = some (.string a1_1) := (blk_cell BK447.out 1).trans rfl; have hcz15_2 : w13.cell? ⟨gb447, 2, none⟩ = some (.int .i64 a1_2) := (blk_cell BK447.out 2).trans rfl; have hfz15_0 := blk_frozen BK447.out 0; have hfz15_1 := blk_frozen BK447.out 1; have hfz15_2 := blk_frozen BK447.out 2) | (go_at_call 47; (with_reducible refine (spec_DecOk.calls k a1_0 a1_1 a1_2 t450 _ A9.out).mono ?_); rintro e w16 ⟨rfl, hb⟩; have n0_ := Aside0.mk (blk_below (g := gb446) (o := .cells #[.bool a0_0, .string a0_1, .int .i64 a0_2] 26 (0, 0)) (by refine blk_up ?_; exact BK446.out) hb); have n1_ := Aside0.mk (blk_below (g := gb447) (o := .cells #[.bool a1_0, .string a1_1, .int .i64 a1_2] 26 (0, 0)) (by refine blk_up ?_; exact BK447.out) hb); have n2_ := Aside0.mk (blk_below (g := gb448) (o := .cells #[.bool false, .string (⟨#[]⟩ : ByteArray), .int .i64 0] 26 (0, 0)) (by refine blk_up ?_; exact BK448.out) hb); have n3_ := Aside0.mk (below_step (by repeat (first | (with_reducible first | exact HB.out | apply below_alloc | apply pw_below_drewN | apply below_drew1 | refine below_set ?_ GE446.out | refine below_set ?_ GE447.out | refine below_set ?_ GE448.out) | exact HB.out)) hb); clear BK446; clear BK447; clear BK448; clear HB; have BK446 := n0_; have BK447 := n1_; have BK448 := n2_; have HB := n3_; clear n0_ n1_ n2_ n3_; (try clear hb); (try clear hb2); (try clear hk); (try clear hi)))
      go_meet
      case rel => exact ⟨_, (!t450), (by first | rfl | (simp; done) | (simp [*]; done)), H', ⟨by first | omega | exact Nat.le_refl _⟩, ⟨by refine blk_up ?_; exact BK446.out⟩, ⟨by refine blk_up ?_; exact BK447.out⟩, ⟨by refine blk_up ?_; exact BK448.out⟩, ⟨by repeat (first | (with_reducible first | exact HB.out | apply below_alloc | apply pw_below_drewN | apply below_drew1 | refine below_set ?_ GE446.out | refine below_set ?_ GE447.out | refine below_set ?_ GE448.out) | exact HB.out)⟩⟩
    · replace c8 := Bool.eq_false_iff.mpr c8
      subst c8
      have H1 : (spec_AddDec.j0 k true a0_0 a0_1 a0_2 a1_0 a1_1 a1_2) = some (r1, r2, r3, r4) := by rw [if_neg (show ¬ (false = true) by decide)] at H; exact H
      clear H
      have H := H1
      clear H1
      have H' := Aside0.mk H
      clear H
      have hnb17 := NB446_447.out
      have hnc17 := NB447_446.out
      have hnb18 := NB446_448.out
      have hnc18 := NB448_446.out
      have hcz19_0 : w6.cell? ⟨gb446, 0, none⟩ = some (.bool a0_0) := (blk_cell BK446.out 0).trans rfl
      have hcz19_1 : w6.cell? ⟨gb446, 1, none⟩ = some (.string a0_1) := (blk_cell BK446.out 1).trans rfl
      have hcz19_2 : w6.cell? ⟨gb446, 2, none⟩ = some (.int .i64 a0_2) := (blk_cell BK446.out 2).trans rfl
      have hfz19_0 := blk_frozen BK446.out 0
      have hfz19_1 := blk_frozen BK446.out 1
      have hfz19_2 := blk_frozen BK446.out 2
      go_wp2_with (first | ((with_reducible refine gate_callee (f := 47) rfl ?_); refine goesL_ (some 10) rfl rfl Tryd.func47 (by kernel_rfl) rfl #[.agg #[.bool a0_0, .string a0_1, .int .i64 a0_2]] rfl (by (try simp only [List.map_toArray, List.map_cons, List.map_nil]); first | done | rfl | (simp only [List.length_drop, List.length_take]; rfl)) ?_; (with_reducible refine (spec_DecOk.calls k a0_0 a0_1 a0_2 false _ A7.out).mono ?_); rintro e w20 ⟨rfl, hb⟩; refine ⟨_, rfl, ?_⟩; have n0_ := Aside0.mk (blk_below (g := gb446) (o := .cells #[.bool a0_0, .string a0_1, .int .i64 a0_2] 26 (0, 0)) (by refine blk_up ?_; exact BK446.out) hb); have n1_ := Aside0.mk (blk_below (g := gb447) (o := .cells #[.bool a1_0, .string a1_1, .int .i64 a1_2] 26 (0, 0)) (by refine blk_up ?_; exact BK447.out) hb); have n2_ := Aside0.mk (blk_below (g := gb448) (o := .cells #[.bool false, .string (⟨#[]⟩ : ByteArray), .int .i64 0] 26 (0, 0)) (by refine blk_up ?_; exact BK448.out) hb); have n3_ := Aside0.mk (below_step (by repeat (first | (with_reducible first | exact HB.out | apply below_alloc | apply pw_below_drewN | apply below_drew1 | refine below_set ?_ GE446.out | refine below_set ?_ GE447.out | refine below_set ?_ GE448.out) | exact HB.out)) hb); clear BK446; clear BK447; clear BK448; clear HB; have BK446 := n0_; have BK447 := n1_; have BK448 := n2_; have HB := n3_; clear n0_ n1_ n2_ n3_; (try clear hb); (try clear hb2); (try clear hk); (try clear hi)))
      go_meet
      case rel => exact ⟨_, (true), (by first | rfl | (simp; done) | (simp [*]; done)), H', ⟨by first | omega | exact Nat.le_refl _⟩, ⟨by refine blk_up ?_; exact BK446.out⟩, ⟨by refine blk_up ?_; exact BK447.out⟩, ⟨by refine blk_up ?_; exact BK448.out⟩, ⟨by repeat (first | (with_reducible first | exact HB.out | apply below_alloc | apply pw_below_drewN | apply below_drew1 | refine below_set ?_ GE446.out | refine below_set ?_ GE447.out | refine below_set ?_ GE448.out) | exact HB.out)⟩⟩
  case rest =>
    clear HC3
    try clear c1
    try clear c2
    try clear p2
    try clear c4
    try clear c8
    try clear c10
    try clear c11
    try clear c14
    try clear c17
    try clear c18
    try clear hcz12_0
    try clear hcz12_1
    try clear hcz12_2
    try clear hcz15_0
    try clear hcz15_1
    try clear hcz15_2
    try clear hcz19_0
    try clear hcz19_1
    try clear hcz19_2
    try clear hfz12_0
    try clear hfz12_1
    try clear hfz12_2
    try clear hfz15_0
    try clear hfz15_1
    try clear hfz15_2
    try clear hfz19_0
    try clear hfz19_1
    try clear hfz19_2
    obtain ⟨kq, x16_2, rfl, HA, HJ2, BK446, BK447, BK448, HB⟩ := hcut
    cases kq with
    | zero => exact absurd HA.out (by simp [spec_AddDec.j0])
    | succ kj2 =>
      have H := HA.out
      clear HA
      simp only [spec_AddDec.j0] at H
      by_cases c21 : x16_2 = true
      · subst c21
        have H1 : (some (false, (⟨#[]⟩ : ByteArray), 0, false)) = some (r1, r2, r3, r4) := by rw [if_pos rfl] at H; exact H
        clear H
        have H := H1
        clear H1
        simp only [Option.some.injEq, Prod.mk.injEq] at H
        obtain ⟨rfl, rfl, rfl, rfl⟩ := H
        have hnb22 := NB448_446.out
        have hnc22 := NB446_448.out
        have hnb23 := NB448_447.out
        have hnc23 := NB447_448.out
        have hcz24_0 : wc.cell? ⟨gb448, 0, none⟩ = some (.bool false) := (blk_cell BK448.out 0).trans rfl
        have hcz24_1 : wc.cell? ⟨gb448, 1, none⟩ = some (.string (⟨#[]⟩ : ByteArray)) := (blk_cell BK448.out 1).trans rfl
        have hcz24_2 : wc.cell? ⟨gb448, 2, none⟩ = some (.int .i64 0) := (blk_cell BK448.out 2).trans rfl
        have hfz24_0 := blk_frozen BK448.out 0
        have hfz24_1 := blk_frozen BK448.out 1
        have hfz24_2 := blk_frozen BK448.out 2
        go_wp2
        refine bodyPost_ret (results_ct rfl _ _ gb448 26 #[.bool false, .string (⟨#[]⟩ : ByteArray), .int .i64 0] (0, 0) _ rfl (by refine blk_up ?_; refine blk_put (cs := #[.bool false, .string (⟨#[]⟩ : ByteArray), .int .i64 0]) ?_ 2 _ rfl; refine blk_up ?_; refine blk_put (cs := #[.bool false, .string (⟨#[]⟩ : ByteArray), .int .i64 0]) ?_ 1 _ rfl; refine blk_up ?_; refine blk_put (cs := #[.bool false, .string (⟨#[]⟩ : ByteArray), .int .i64 0]) ?_ 0 _ rfl; refine blk_up ?_; exact BK448.out) Tryd.underlying26 rfl (by kernel_rfl)) rfl ?_
        exact ⟨by first | rfl | (simp [errW_none, errW_some] <;> rfl) | (simp [*, errW_none, errW_some] <;> rfl), by repeat (first | (with_reducible first | exact HB.out | apply below_alloc | apply pw_below_drewN | apply below_drew1 | refine below_set ?_ GE446.out | refine below_set ?_ GE447.out | refine below_set ?_ GE448.out) | exact HB.out)⟩
      · replace c21 := Bool.eq_false_iff.mpr c21
        subst c21
        have H1 : ((spec_l4Same.f kj2 a0_0 a0_1 a0_2 a1_0 a1_1 a1_2).bind fun bt451 => (if (a0_0 == a1_0) = true then ((spec_l4Sum.f kj2 bt451.1 bt451.2.1).bind fun t454 => ((spec_l4Norm.f kj2 a0_0 t454 bt451.2.2).bind fun bt455 => (some (bt455.1, bt455.2.1, bt455.2.2.1, bt455.2.2.2)))) else (if (Op.bytesLess bt451.1.toList bt451.2.1.toList) = true then ((spec_l4Less.f kj2 bt451.2.1 bt451.1).bind fun t459 => ((spec_l4Norm.f kj2 a1_0 t459 bt451.2.2).bind fun bt460 => (some (bt460.1, bt460.2.1, bt460.2.2.1, bt460.2.2.2)))) else ((spec_l4Less.f kj2 bt451.1 bt451.2.1).bind fun t464 => ((spec_l4Norm.f kj2 a0_0 t464 bt451.2.2).bind fun bt465 => (some (bt465.1, bt465.2.1, bt465.2.2.1, bt465.2.2.2))))))) = some (r1, r2, r3, r4) := by rw [if_neg (show ¬ (false = true) by decide)] at H; exact H
        clear H
        have H := H1
        clear H1
        replace H := Option.bind_eq_some_iff.mp H
        obtain ⟨⟨t451, t452, t453⟩, A250, H⟩ := H
        replace H : (if (a0_0 == a1_0) = true then ((spec_l4Sum.f kj2 t451 t452).bind fun t454 => ((spec_l4Norm.f kj2 a0_0 t454 t453).bind fun bt455 => (some (bt455.1, bt455.2.1, bt455.2.2.1, bt455.2.2.2)))) else (if (Op.bytesLess t451.toList t452.toList) = true then ((spec_l4Less.f kj2 t452 t451).bind fun t459 => ((spec_l4Norm.f kj2 a1_0 t459 t453).bind fun bt460 => (some (bt460.1, bt460.2.1, bt460.2.2.1, bt460.2.2.2)))) else ((spec_l4Less.f kj2 t451 t452).bind fun t464 => ((spec_l4Norm.f kj2 a0_0 t464 t453).bind fun bt465 => (some (bt465.1, bt465.2.1, bt465.2.2.1, bt465.2.2.2)))))) = some (r1, r2, r3, r4) := H
        have A25 := Aside0.mk A250
        clear A250
        by_cases c26 : (a0_0 == a1_0) = true
        · rw [if_pos c26] at H
          have c26b0 : (a0_0 == a1_0) = true := c26
          (try (have c26b1 : decide (a0_0 = a1_0) = true := by simpa using c26))
          (try (have c26b2 : (a0_0 == a1_0) = true := by simpa using c26))
          clear c26
          replace H := Option.bind_eq_some_iff.mp H
          obtain ⟨t454, A270, H⟩ := H
          replace H : ((spec_l4Norm.f kj2 a0_0 t454 t453).bind fun bt455 => (some (bt455.1, bt455.2.1, bt455.2.2.1, bt455.2.2.2))) = some (r1, r2, r3, r4) := H
          have A27 := Aside0.mk A270
          clear A270
          replace H := Option.bind_eq_some_iff.mp H
          obtain ⟨⟨t455, t456, t457, t458⟩, A280, H⟩ := H
          replace H : (some (t455, t456, t457, t458)) = some (r1, r2, r3, r4) := H
          have A28 := Aside0.mk A280
          clear A280
          simp only [Option.some.injEq, Prod.mk.injEq] at H
          obtain ⟨rfl, rfl, rfl, rfl⟩ := H
          have hnb29 := NB446_447.out
          have hnc29 := NB447_446.out
          have hnb30 := NB446_448.out
          have hnc30 := NB448_446.out
          have hcz31_0 : wc.cell? ⟨gb446, 0, none⟩ = some (.bool a0_0) := (blk_cell BK446.out 0).trans rfl
          have hcz31_1 : wc.cell? ⟨gb446, 1, none⟩ = some (.string a0_1) := (blk_cell BK446.out 1).trans rfl
          have hcz31_2 : wc.cell? ⟨gb446, 2, none⟩ = some (.int .i64 a0_2) := (blk_cell BK446.out 2).trans rfl
          have hfz31_0 := blk_frozen BK446.out 0
          have hfz31_1 := blk_frozen BK446.out 1
          have hfz31_2 := blk_frozen BK446.out 2
          have hnb32 := NB447_448.out
          have hnc32 := NB448_447.out
          have hcz33_0 : wc.cell? ⟨gb447, 0, none⟩ = some (.bool a1_0) := (blk_cell BK447.out 0).trans rfl
          have hcz33_1 : wc.cell? ⟨gb447, 1, none⟩ = some (.string a1_1) := (blk_cell BK447.out 1).trans rfl
          have hcz33_2 : wc.cell? ⟨gb447, 2, none⟩ = some (.int .i64 a1_2) := (blk_cell BK447.out 2).trans rfl
          have hfz33_0 := blk_frozen BK447.out 0
          have hfz33_1 := blk_frozen BK447.out 1
          have hfz33_2 := blk_frozen BK447.out 2
          try go_wp2_with (first | ((with_reducible refine gate_callee (f := 62) rfl ?_); refine goesL_ (some 21) rfl rfl Tryd.func62 (by kernel_rfl) rfl #[.agg #[.bool a0_0, .string a0_1, .int .i64 a0_2], .agg #[.bool a1_0, .string a1_1, .int .i64 a1_2]] rfl (by (try simp only [List.map_toArray, List.map_cons, List.map_nil]); first | done | rfl | (simp only [List.length_drop, List.length_take]; rfl)) ?_; (with_reducible refine (spec_l4Same.calls kj2 a0_0 a0_1 a0_2 a1_0 a1_1 a1_2 t451 t452 t453 _ A25.out).mono ?_); rintro e w34 ⟨rfl, hb⟩; refine ⟨_, rfl, ?_⟩; have n0_ := Aside0.mk (blk_below (g := gb446) (o := .cells #[.bool a0_0, .string a0_1, .int .i64 a0_2] 26 (0, 0)) (by refine blk_up ?_; exact BK446.out) hb); have n1_ := Aside0.mk (blk_below (g := gb447) (o := .cells #[.bool a1_0, .string a1_1, .int .i64 a1_2] 26 (0, 0)) (by refine blk_up ?_; exact BK447.out) hb); have n2_ := Aside0.mk (blk_below (g := gb448) (o := .cells #[.bool false, .string (⟨#[]⟩ : ByteArray), .int .i64 0] 26 (0, 0)) (by refine blk_up ?_; exact BK448.out) hb); have n3_ := Aside0.mk (below_step (by repeat (first | (with_reducible first | exact HB.out | apply below_alloc | apply pw_below_drewN | apply below_drew1 | refine below_set ?_ GE446.out | refine below_set ?_ GE447.out | refine below_set ?_ GE448.out) | exact HB.out)) hb); clear BK446; clear BK447; clear BK448; clear HB; have BK446 := n0_; have BK447 := n1_; have BK448 := n2_; have HB := n3_; clear n0_ n1_ n2_ n3_; (try clear hb); (try clear hb2); (try clear hk); (try clear hi); have hcz35_0 : w34.cell? ⟨gb446, 0, none⟩ = some (.bool a0_0) := (blk_cell BK446.out 0).trans rfl; have hcz35_1 : w34.cell? ⟨gb446, 1, none⟩ = some (.string a0_1) := (blk_cell BK446.out 1).trans rfl; have hcz35_2 : w34.cell? ⟨gb446, 2, none⟩ = some (.int .i64 a0_2) := (blk_cell BK446.out 2).trans rfl; have hfz35_0 := blk_frozen BK446.out 0; have hfz35_1 := blk_frozen BK446.out 1; have hfz35_2 := blk_frozen BK446.out 2; have hcz36_0 : w34.cell? ⟨gb447, 0, none⟩ = some (.bool a1_0) := (blk_cell BK447.out 0).trans rfl; have hcz36_1 : w34.cell? ⟨gb447, 1, none⟩ = some (.string a1_1) := (blk_cell BK447.out 1).trans rfl; have hcz36_2 : w34.cell? ⟨gb447, 2, none⟩ = some (.int .i64 a1_2) := (blk_cell BK447.out 2).trans rfl; have hfz36_0 := blk_frozen BK447.out 0; have hfz36_1 := blk_frozen BK447.out 1; have hfz36_2 := blk_frozen BK447.out 2))
          have n0_ := Aside0.mk (blk_drew BK446.out)
          have n1_ := Aside0.mk (blk_drew BK447.out)
          have n2_ := Aside0.mk (blk_drew BK448.out)
          have n3_ := Aside0.mk (below_drew1 HB.out)
          clear BK446
          clear BK447
          clear BK448
          clear HB
          have BK446 := n0_
          have BK447 := n1_
          have BK448 := n2_
          have HB := n3_
          clear n0_ n1_ n2_ n3_
          refine start_ (n := 11) (S := fun w' => w'.cell? ⟨gb446, 0, none⟩ = some (.bool a0_0) ∧ w'.cell? ⟨gb446, 1, none⟩ = some (.string a0_1) ∧ w'.cell? ⟨gb446, 2, none⟩ = some (.int .i64 a0_2)) (ds := []) #[false, false, false, false, false, false, false, false, false, false, false] (by kernel_rfl) rfl rfl ⟨(blk_cell BK446.out 0).trans rfl, (blk_cell BK446.out 1).trans rfl, (blk_cell BK446.out 2).trans rfl⟩ (fun hHeld => ?_); refine with_tabW spec_AddDec.tab5 spec_AddDec.bits5 (fun HT_ HW_ => ?_)
          generalize w34.drew = w37 at BK446 BK447 BK448 HB hHeld ⊢
          refine pure_ (i := 0) (N := some 30) (v := ?_) (a' := ?_) #[true, false, false, false, false, false, false, false, false, false, false] rfl rfl (any_of HT_.out (by kernel_rfl)) (fun _ _ _ h => h) (Or.inl ⟨by rfl, ?_⟩) ?_ ?_
          rotate_left
          · intro w'
            go_simp
            with_reducible rfl
          rotate_left
          · simp only [Act.put, List.setIfInBounds_toArray, List.set_cons_zero, List.set_cons_succ, i64_w, i32_w]
            rfl
          refine pure_ (i := 2) (N := some 32) (v := ?_) (a' := ?_) #[true, false, true, false, false, false, false, false, false, false, false] rfl rfl (any_of HT_.out (by kernel_rfl)) (fun _ _ _ h => h) (Or.inl ⟨by rfl, ?_⟩) ?_ ?_
          rotate_left
          · intro w'
            go_simp
            with_reducible rfl
          rotate_left
          · simp only [Act.put, List.setIfInBounds_toArray, List.set_cons_zero, List.set_cons_succ, i64_w, i32_w]
            rfl
          refine pure_ (i := 3) (N := some 33) (v := ?_) (a' := ?_) #[true, false, true, true, false, false, false, false, false, false, false] rfl rfl (any_of HT_.out (by kernel_rfl)) (fun _ _ _ h => h) (Or.inl ⟨by rfl, ?_⟩) ?_ ?_
          rotate_left
          · intro w'
            go_simp
            with_reducible rfl
          rotate_left
          · simp only [Act.put, List.setIfInBounds_toArray, List.set_cons_zero, List.set_cons_succ, i64_w, i32_w]
            rfl
          refine pure_ (i := 5) (N := some 35) (v := ?_) (a' := ?_) #[true, false, true, true, false, true, false, false, false, false, false] rfl rfl (any_of HT_.out (by kernel_rfl)) (fun _ _ _ h => h) (Or.inl ⟨by rfl, ?_⟩) ?_ ?_
          rotate_left
          · intro w'
            go_simp
            with_reducible rfl
          rotate_left
          · simp only [Act.put, List.setIfInBounds_toArray, List.set_cons_zero, List.set_cons_succ, i64_w, i32_w]
            rfl
          refine take_ (i := 1) (N := some 31) (v := ?_) (a' := ?_) #[true, true, true, true, false, true, false, false, false, false, false] rfl rfl (take_ofW HT_.out HW_.out (by kernel_rfl)) (fun _ _ _ h => h) (Or.inl ⟨by rfl, ?_⟩) hHeld ?_ ?_
          rotate_left
          · rintro w' ⟨s0, s1, s2⟩
            go_simp
            with_reducible rfl
          rotate_left
          · simp only [Act.put, List.setIfInBounds_toArray, List.set_cons_zero, List.set_cons_succ, i64_w, i32_w]
            rfl
          refine one_ (i := 4) (N := some 34) #[true, true, true, true, true, true, false, false, false, false, false] rfl rfl (one_of HT_.out (by kernel_rfl)) (by decide) (fun K hK => ?_)
          refine goes_ Tryd.func63 (by kernel_rfl) rfl #[.string t451, .string t452] (by rfl) rfl rfl (by (try simp only [List.map_toArray, List.map_cons, List.map_nil]); first | done | rfl | (simp only [List.length_drop, List.length_take]; rfl)) ?_
          with_reducible refine (spec_l4Sum.calls kj2 t451 t452 t454 _ A27.out).mono ?_
          rintro e w38 ⟨rfl, hb⟩
          refine ⟨_, rfl, ?_⟩
          have n0_ := Aside0.mk (blk_below (g := gb446) (o := .cells #[.bool a0_0, .string a0_1, .int .i64 a0_2] 26 (0, 0)) (by refine blk_up ?_; exact BK446.out) hb)
          have n1_ := Aside0.mk (blk_below (g := gb447) (o := .cells #[.bool a1_0, .string a1_1, .int .i64 a1_2] 26 (0, 0)) (by refine blk_up ?_; exact BK447.out) hb)
          have n2_ := Aside0.mk (blk_below (g := gb448) (o := .cells #[.bool false, .string (⟨#[]⟩ : ByteArray), .int .i64 0] 26 (0, 0)) (by refine blk_up ?_; exact BK448.out) hb)
          have n3_ := Aside0.mk (below_step (by repeat (first | (with_reducible first | exact HB.out | apply below_alloc | apply pw_below_drewN | apply below_drew1 | refine below_set ?_ GE446.out | refine below_set ?_ GE447.out | refine below_set ?_ GE448.out) | exact HB.out)) hb)
          clear BK446
          clear BK447
          clear BK448
          clear HB
          have BK446 := n0_
          have BK447 := n1_
          have BK448 := n2_
          have HB := n3_
          clear n0_ n1_ n2_ n3_
          (try clear hb)
          (try clear hb2)
          (try clear hk)
          (try clear hi)
          refine hK.out _ _ ⟨(blk_cell BK446.out 0).trans rfl, (blk_cell BK446.out 1).trans rfl, (blk_cell BK446.out 2).trans rfl⟩ (fun hHeld => ?_)
          clear hK K
          refine norm_ (a' := ?_) ?_ ?_
          rotate_left
          · show Act.put _ (some 34) _ = _
            simp only [Act.put, List.setIfInBounds_toArray, List.set_cons_zero, List.set_cons_succ, i64_w, i32_w]
            rfl
          refine one_ (i := 6) (N := some 36) #[true, true, true, true, true, true, true, false, false, false, false] rfl rfl (one_of HT_.out (by kernel_rfl)) (by decide) (fun K hK => ?_)
          refine goes_ Tryd.func56 (by kernel_rfl) rfl #[.bool a0_0, .string t454, .int .i64 t453] (by rfl) rfl rfl (by (try simp only [List.map_toArray, List.map_cons, List.map_nil]); first | done | rfl | (simp only [List.length_drop, List.length_take]; rfl)) ?_
          with_reducible refine (spec_l4Norm.calls kj2 a0_0 t454 t453 t455 t456 t457 t458 _ A28.out).mono ?_
          rintro e w39 ⟨rfl, hb⟩
          refine ⟨_, rfl, ?_⟩
          have n0_ := Aside0.mk (blk_below (g := gb446) (o := .cells #[.bool a0_0, .string a0_1, .int .i64 a0_2] 26 (0, 0)) (by refine blk_up ?_; exact BK446.out) hb)
          have n1_ := Aside0.mk (blk_below (g := gb447) (o := .cells #[.bool a1_0, .string a1_1, .int .i64 a1_2] 26 (0, 0)) (by refine blk_up ?_; exact BK447.out) hb)
          have n2_ := Aside0.mk (blk_below (g := gb448) (o := .cells #[.bool false, .string (⟨#[]⟩ : ByteArray), .int .i64 0] 26 (0, 0)) (by refine blk_up ?_; exact BK448.out) hb)
          have n3_ := Aside0.mk (below_step (by repeat (first | (with_reducible first | exact HB.out | apply below_alloc | apply pw_below_drewN | apply below_drew1 | refine below_set ?_ GE446.out | refine below_set ?_ GE447.out | refine below_set ?_ GE448.out) | exact HB.out)) hb)
          clear BK446
          clear BK447
          clear BK448
          clear HB
          have BK446 := n0_
          have BK447 := n1_
          have BK448 := n2_
          have HB := n3_
          clear n0_ n1_ n2_ n3_
          (try clear hb)
          (try clear hb2)
          (try clear hk)
          (try clear hi)
          refine hK.out _ _ ⟨(blk_cell BK446.out 0).trans rfl, (blk_cell BK446.out 1).trans rfl, (blk_cell BK446.out 2).trans rfl⟩ (fun hHeld => ?_)
          clear hK K
          refine norm_ (a' := ?_) ?_ ?_
          rotate_left
          · show Act.put _ (some 36) _ = _
            simp only [Act.put, List.setIfInBounds_toArray, List.set_cons_zero, List.set_cons_succ, i64_w, i32_w]
            rfl
          refine pure_ (i := 7) (N := some 37) (v := ?_) (a' := ?_) #[true, true, true, true, true, true, true, true, false, false, false] rfl rfl (any_of HT_.out (by kernel_rfl)) (fun _ _ _ h => h) (Or.inl ⟨by rfl, ?_⟩) ?_ ?_
          rotate_left
          · intro w'
            go_simp
            with_reducible rfl
          rotate_left
          · simp only [Act.put, List.setIfInBounds_toArray, List.set_cons_zero, List.set_cons_succ, i64_w, i32_w]
            rfl
          refine pure_ (i := 8) (N := some 38) (v := ?_) (a' := ?_) #[true, true, true, true, true, true, true, true, true, false, false] rfl rfl (any_of HT_.out (by kernel_rfl)) (fun _ _ _ h => h) (Or.inl ⟨by rfl, ?_⟩) ?_ ?_
          rotate_left
          · intro w'
            go_simp
            with_reducible rfl
          rotate_left
          · simp only [Act.put, List.setIfInBounds_toArray, List.set_cons_zero, List.set_cons_succ, i64_w, i32_w]
            rfl
          refine one_ (i := 9) (N := none) #[true, true, true, true, true, true, true, true, true, true, false] rfl rfl (one_of HT_.out (by kernel_rfl)) (by decide) (fun K hK => ?_)
          have hs40 : w39.cell? ⟨gb448, 0, none⟩ = some (.bool false) := (blk_cell BK448.out 0).trans rfl
          have hfs40 := blk_frozen BK448.out 0
          have hns40_0 := NB446_448.out
          have hns40_1 := NB447_448.out
          have hms40_0 := NB448_446.out
          have hms40_1 := NB448_447.out
          have hs41 : w39.cell? ⟨gb448, 1, none⟩ = some (.string (⟨#[]⟩ : ByteArray)) := (blk_cell BK448.out 1).trans rfl
          have hfs41 := blk_frozen BK448.out 1
          have hns41_0 := NB446_448.out
          have hns41_1 := NB447_448.out
          have hms41_0 := NB448_446.out
          have hms41_1 := NB448_447.out
          have hs42 : w39.cell? ⟨gb448, 2, none⟩ = some (.int .i64 0) := (blk_cell BK448.out 2).trans rfl
          have hfs42 := blk_frozen BK448.out 2
          have hns42_0 := NB446_448.out
          have hns42_1 := NB447_448.out
          have hms42_0 := NB448_446.out
          have hms42_1 := NB448_447.out
          refine skip_ (w1 := ?_) (by rfl) rfl ?_ ?_
          rotate_left
          · go_simp
            rfl
          refine hK.out _ _ ⟨((cell_far (p := ⟨gb448, _, none⟩) NB446_448.out _).trans (((cell_far (p := ⟨gb448, _, none⟩) NB446_448.out _).trans (((cell_far (p := ⟨gb448, _, none⟩) NB446_448.out _).trans (hHeld.1)))))), ((cell_far (p := ⟨gb448, _, none⟩) NB446_448.out _).trans (((cell_far (p := ⟨gb448, _, none⟩) NB446_448.out _).trans (((cell_far (p := ⟨gb448, _, none⟩) NB446_448.out _).trans (hHeld.2.1)))))), ((cell_far (p := ⟨gb448, _, none⟩) NB446_448.out _).trans (((cell_far (p := ⟨gb448, _, none⟩) NB446_448.out _).trans (((cell_far (p := ⟨gb448, _, none⟩) NB446_448.out _).trans (hHeld.2.2))))))⟩ (fun hHeld => ?_)
          clear hK K
          refine pure_ (i := 10) (N := some 5) (v := ?_) (a' := ?_) #[true, true, true, true, true, true, true, true, true, true, true] rfl rfl (any_of HT_.out (by kernel_rfl)) (fun _ _ _ h => h) (Or.inl ⟨by rfl, ?_⟩) ?_ ?_
          rotate_left
          · intro w'
            go_simp
            with_reducible rfl
          rotate_left
          · simp only [Act.put, List.setIfInBounds_toArray, List.set_cons_zero, List.set_cons_succ, i64_w, i32_w]
            rfl
          refine done_ (done_of HT_.out (by kernel_rfl)) ?_
          try go_wp2
          refine bodyPost_ret (results_ct rfl _ _ gb448 26 #[.bool t455, .string t456, .int .i64 t457] (0, 0) _ rfl (by refine blk_up ?_; refine blk_put (cs := #[.bool t455, .string t456, .int .i64 0]) ?_ 2 _ rfl; refine blk_up ?_; refine blk_put (cs := #[.bool t455, .string (⟨#[]⟩ : ByteArray), .int .i64 0]) ?_ 1 _ rfl; refine blk_up ?_; refine blk_put (cs := #[.bool false, .string (⟨#[]⟩ : ByteArray), .int .i64 0]) ?_ 0 _ rfl; refine blk_up ?_; exact BK448.out) Tryd.underlying26 rfl (by kernel_rfl)) rfl ?_
          exact ⟨by first | rfl | (simp [errW_none, errW_some] <;> rfl) | (simp [*, errW_none, errW_some] <;> rfl), by repeat (first | (with_reducible first | exact HB.out | apply below_alloc | apply pw_below_drewN | apply below_drew1 | refine below_set ?_ GE446.out | refine below_set ?_ GE447.out | refine below_set ?_ GE448.out) | exact HB.out)⟩
        · rw [if_neg c26] at H
          have c26b0 : (a0_0 == a1_0) = false := by simpa using c26
          (try (have c26b1 : decide (a0_0 = a1_0) = false := by simpa using c26))
          (try (have c26b2 : (a0_0 == a1_0) = false := by simpa using c26))
          (try (have c26b3 : ¬ (a0_0 = a1_0) := by simpa using c26))
          clear c26
          by_cases c43 : (Op.bytesLess t451.toList t452.toList) = true
          · rw [if_pos c43] at H
            have c43b0 : (Op.bytesLess t451.toList t452.toList) = true := c43
            clear c43
            replace H := Option.bind_eq_some_iff.mp H
            obtain ⟨t459, A440, H⟩ := H
            replace H : ((spec_l4Norm.f kj2 a1_0 t459 t453).bind fun bt460 => (some (bt460.1, bt460.2.1, bt460.2.2.1, bt460.2.2.2))) = some (r1, r2, r3, r4) := H
            have A44 := Aside0.mk A440
            clear A440
            replace H := Option.bind_eq_some_iff.mp H
            obtain ⟨⟨t460, t461, t462, t463⟩, A450, H⟩ := H
            replace H : (some (t460, t461, t462, t463)) = some (r1, r2, r3, r4) := H
            have A45 := Aside0.mk A450
            clear A450
            simp only [Option.some.injEq, Prod.mk.injEq] at H
            obtain ⟨rfl, rfl, rfl, rfl⟩ := H
            have hnb46 := NB446_447.out
            have hnc46 := NB447_446.out
            have hnb47 := NB446_448.out
            have hnc47 := NB448_446.out
            have hcz48_0 : wc.cell? ⟨gb446, 0, none⟩ = some (.bool a0_0) := (blk_cell BK446.out 0).trans rfl
            have hcz48_1 : wc.cell? ⟨gb446, 1, none⟩ = some (.string a0_1) := (blk_cell BK446.out 1).trans rfl
            have hcz48_2 : wc.cell? ⟨gb446, 2, none⟩ = some (.int .i64 a0_2) := (blk_cell BK446.out 2).trans rfl
            have hfz48_0 := blk_frozen BK446.out 0
            have hfz48_1 := blk_frozen BK446.out 1
            have hfz48_2 := blk_frozen BK446.out 2
            have hnb49 := NB447_448.out
            have hnc49 := NB448_447.out
            have hcz50_0 : wc.cell? ⟨gb447, 0, none⟩ = some (.bool a1_0) := (blk_cell BK447.out 0).trans rfl
            have hcz50_1 : wc.cell? ⟨gb447, 1, none⟩ = some (.string a1_1) := (blk_cell BK447.out 1).trans rfl
            have hcz50_2 : wc.cell? ⟨gb447, 2, none⟩ = some (.int .i64 a1_2) := (blk_cell BK447.out 2).trans rfl
            have hfz50_0 := blk_frozen BK447.out 0
            have hfz50_1 := blk_frozen BK447.out 1
            have hfz50_2 := blk_frozen BK447.out 2
            try go_wp2_with (first | ((with_reducible refine gate_callee (f := 62) rfl ?_); refine goesL_ (some 21) rfl rfl Tryd.func62 (by kernel_rfl) rfl #[.agg #[.bool a0_0, .string a0_1, .int .i64 a0_2], .agg #[.bool a1_0, .string a1_1, .int .i64 a1_2]] rfl (by (try simp only [List.map_toArray, List.map_cons, List.map_nil]); first | done | rfl | (simp only [List.length_drop, List.length_take]; rfl)) ?_; (with_reducible refine (spec_l4Same.calls kj2 a0_0 a0_1 a0_2 a1_0 a1_1 a1_2 t451 t452 t453 _ A25.out).mono ?_); rintro e w51 ⟨rfl, hb⟩; refine ⟨_, rfl, ?_⟩; have n0_ := Aside0.mk (blk_below (g := gb446) (o := .cells #[.bool a0_0, .string a0_1, .int .i64 a0_2] 26 (0, 0)) (by refine blk_up ?_; exact BK446.out) hb); have n1_ := Aside0.mk (blk_below (g := gb447) (o := .cells #[.bool a1_0, .string a1_1, .int .i64 a1_2] 26 (0, 0)) (by refine blk_up ?_; exact BK447.out) hb); have n2_ := Aside0.mk (blk_below (g := gb448) (o := .cells #[.bool false, .string (⟨#[]⟩ : ByteArray), .int .i64 0] 26 (0, 0)) (by refine blk_up ?_; exact BK448.out) hb); have n3_ := Aside0.mk (below_step (by repeat (first | (with_reducible first | exact HB.out | apply below_alloc | apply pw_below_drewN | apply below_drew1 | refine below_set ?_ GE446.out | refine below_set ?_ GE447.out | refine below_set ?_ GE448.out) | exact HB.out)) hb); clear BK446; clear BK447; clear BK448; clear HB; have BK446 := n0_; have BK447 := n1_; have BK448 := n2_; have HB := n3_; clear n0_ n1_ n2_ n3_; (try clear hb); (try clear hb2); (try clear hk); (try clear hi); have hcz52_0 : w51.cell? ⟨gb446, 0, none⟩ = some (.bool a0_0) := (blk_cell BK446.out 0).trans rfl; have hcz52_1 : w51.cell? ⟨gb446, 1, none⟩ = some (.string a0_1) := (blk_cell BK446.out 1).trans rfl; have hcz52_2 : w51.cell? ⟨gb446, 2, none⟩ = some (.int .i64 a0_2) := (blk_cell BK446.out 2).trans rfl; have hfz52_0 := blk_frozen BK446.out 0; have hfz52_1 := blk_frozen BK446.out 1; have hfz52_2 := blk_frozen BK446.out 2; have hcz53_0 : w51.cell? ⟨gb447, 0, none⟩ = some (.bool a1_0) := (blk_cell BK447.out 0).trans rfl; have hcz53_1 : w51.cell? ⟨gb447, 1, none⟩ = some (.string a1_1) := (blk_cell BK447.out 1).trans rfl; have hcz53_2 : w51.cell? ⟨gb447, 2, none⟩ = some (.int .i64 a1_2) := (blk_cell BK447.out 2).trans rfl; have hfz53_0 := blk_frozen BK447.out 0; have hfz53_1 := blk_frozen BK447.out 1; have hfz53_2 := blk_frozen BK447.out 2))
            have n0_ := Aside0.mk (blk_drew BK446.out)
            have n1_ := Aside0.mk (blk_drew BK447.out)
            have n2_ := Aside0.mk (blk_drew BK448.out)
            have n3_ := Aside0.mk (below_drew1 HB.out)
            clear BK446
            clear BK447
            clear BK448
            clear HB
            have BK446 := n0_
            have BK447 := n1_
            have BK448 := n2_
            have HB := n3_
            clear n0_ n1_ n2_ n3_
            refine start_ (n := 11) (S := fun w' => w'.cell? ⟨gb447, 0, none⟩ = some (.bool a1_0) ∧ w'.cell? ⟨gb447, 1, none⟩ = some (.string a1_1) ∧ w'.cell? ⟨gb447, 2, none⟩ = some (.int .i64 a1_2)) (ds := []) #[false, false, false, false, false, false, false, false, false, false, false] (by kernel_rfl) rfl rfl ⟨(blk_cell BK447.out 0).trans rfl, (blk_cell BK447.out 1).trans rfl, (blk_cell BK447.out 2).trans rfl⟩ (fun hHeld => ?_); refine with_tabW spec_AddDec.tab7 spec_AddDec.bits7 (fun HT_ HW_ => ?_)
            generalize w51.drew = w54 at BK446 BK447 BK448 HB hHeld ⊢
            refine pure_ (i := 0) (N := some 42) (v := ?_) (a' := ?_) #[true, false, false, false, false, false, false, false, false, false, false] rfl rfl (any_of HT_.out (by kernel_rfl)) (fun _ _ _ h => h) (Or.inl ⟨by rfl, ?_⟩) ?_ ?_
            rotate_left
            · intro w'
              go_simp
              with_reducible rfl
            rotate_left
            · simp only [Act.put, List.setIfInBounds_toArray, List.set_cons_zero, List.set_cons_succ, i64_w, i32_w]
              rfl
            refine pure_ (i := 2) (N := some 44) (v := ?_) (a' := ?_) #[true, false, true, false, false, false, false, false, false, false, false] rfl rfl (any_of HT_.out (by kernel_rfl)) (fun _ _ _ h => h) (Or.inl ⟨by rfl, ?_⟩) ?_ ?_
            rotate_left
            · intro w'
              go_simp
              with_reducible rfl
            rotate_left
            · simp only [Act.put, List.setIfInBounds_toArray, List.set_cons_zero, List.set_cons_succ, i64_w, i32_w]
              rfl
            refine pure_ (i := 3) (N := some 45) (v := ?_) (a' := ?_) #[true, false, true, true, false, false, false, false, false, false, false] rfl rfl (any_of HT_.out (by kernel_rfl)) (fun _ _ _ h => h) (Or.inl ⟨by rfl, ?_⟩) ?_ ?_
            rotate_left
            · intro w'
              go_simp
              with_reducible rfl
            rotate_left
            · simp only [Act.put, List.setIfInBounds_toArray, List.set_cons_zero, List.set_cons_succ, i64_w, i32_w]
              rfl
            refine pure_ (i := 5) (N := some 47) (v := ?_) (a' := ?_) #[true, false, true, true, false, true, false, false, false, false, false] rfl rfl (any_of HT_.out (by kernel_rfl)) (fun _ _ _ h => h) (Or.inl ⟨by rfl, ?_⟩) ?_ ?_
            rotate_left
            · intro w'
              go_simp
              with_reducible rfl
            rotate_left
            · simp only [Act.put, List.setIfInBounds_toArray, List.set_cons_zero, List.set_cons_succ, i64_w, i32_w]
              rfl
            refine take_ (i := 1) (N := some 43) (v := ?_) (a' := ?_) #[true, true, true, true, false, true, false, false, false, false, false] rfl rfl (take_ofW HT_.out HW_.out (by kernel_rfl)) (fun _ _ _ h => h) (Or.inl ⟨by rfl, ?_⟩) hHeld ?_ ?_
            rotate_left
            · rintro w' ⟨s0, s1, s2⟩
              go_simp
              with_reducible rfl
            rotate_left
            · simp only [Act.put, List.setIfInBounds_toArray, List.set_cons_zero, List.set_cons_succ, i64_w, i32_w]
              rfl
            refine one_ (i := 4) (N := some 46) #[true, true, true, true, true, true, false, false, false, false, false] rfl rfl (one_of HT_.out (by kernel_rfl)) (by decide) (fun K hK => ?_)
            refine goes_ Tryd.func64 (by kernel_rfl) rfl #[.string t452, .string t451] (by rfl) rfl rfl (by (try simp only [List.map_toArray, List.map_cons, List.map_nil]); first | done | rfl | (simp only [List.length_drop, List.length_take]; rfl)) ?_
            with_reducible refine (spec_l4Less.calls kj2 t452 t451 t459 _ A44.out).mono ?_
            rintro e w55 ⟨rfl, hb⟩
            refine ⟨_, rfl, ?_⟩
            have n0_ := Aside0.mk (blk_below (g := gb446) (o := .cells #[.bool a0_0, .string a0_1, .int .i64 a0_2] 26 (0, 0)) (by refine blk_up ?_; exact BK446.out) hb)
            have n1_ := Aside0.mk (blk_below (g := gb447) (o := .cells #[.bool a1_0, .string a1_1, .int .i64 a1_2] 26 (0, 0)) (by refine blk_up ?_; exact BK447.out) hb)
            have n2_ := Aside0.mk (blk_below (g := gb448) (o := .cells #[.bool false, .string (⟨#[]⟩ : ByteArray), .int .i64 0] 26 (0, 0)) (by refine blk_up ?_; exact BK448.out) hb)
            have n3_ := Aside0.mk (below_step (by repeat (first | (with_reducible first | exact HB.out | apply below_alloc | apply pw_below_drewN | apply below_drew1 | refine below_set ?_ GE446.out | refine below_set ?_ GE447.out | refine below_set ?_ GE448.out) | exact HB.out)) hb)
            clear BK446
            clear BK447
            clear BK448
            clear HB
            have BK446 := n0_
            have BK447 := n1_
            have BK448 := n2_
            have HB := n3_
            clear n0_ n1_ n2_ n3_
            (try clear hb)
            (try clear hb2)
            (try clear hk)
            (try clear hi)
            refine hK.out _ _ ⟨(blk_cell BK447.out 0).trans rfl, (blk_cell BK447.out 1).trans rfl, (blk_cell BK447.out 2).trans rfl⟩ (fun hHeld => ?_)
            clear hK K
            refine norm_ (a' := ?_) ?_ ?_
            rotate_left
            · show Act.put _ (some 46) _ = _
              simp only [Act.put, List.setIfInBounds_toArray, List.set_cons_zero, List.set_cons_succ, i64_w, i32_w]
              rfl
            refine one_ (i := 6) (N := some 48) #[true, true, true, true, true, true, true, false, false, false, false] rfl rfl (one_of HT_.out (by kernel_rfl)) (by decide) (fun K hK => ?_)
            refine goes_ Tryd.func56 (by kernel_rfl) rfl #[.bool a1_0, .string t459, .int .i64 t453] (by rfl) rfl rfl (by (try simp only [List.map_toArray, List.map_cons, List.map_nil]); first | done | rfl | (simp only [List.length_drop, List.length_take]; rfl)) ?_
            with_reducible refine (spec_l4Norm.calls kj2 a1_0 t459 t453 t460 t461 t462 t463 _ A45.out).mono ?_
            rintro e w56 ⟨rfl, hb⟩
            refine ⟨_, rfl, ?_⟩
            have n0_ := Aside0.mk (blk_below (g := gb446) (o := .cells #[.bool a0_0, .string a0_1, .int .i64 a0_2] 26 (0, 0)) (by refine blk_up ?_; exact BK446.out) hb)
            have n1_ := Aside0.mk (blk_below (g := gb447) (o := .cells #[.bool a1_0, .string a1_1, .int .i64 a1_2] 26 (0, 0)) (by refine blk_up ?_; exact BK447.out) hb)
            have n2_ := Aside0.mk (blk_below (g := gb448) (o := .cells #[.bool false, .string (⟨#[]⟩ : ByteArray), .int .i64 0] 26 (0, 0)) (by refine blk_up ?_; exact BK448.out) hb)
            have n3_ := Aside0.mk (below_step (by repeat (first | (with_reducible first | exact HB.out | apply below_alloc | apply pw_below_drewN | apply below_drew1 | refine below_set ?_ GE446.out | refine below_set ?_ GE447.out | refine below_set ?_ GE448.out) | exact HB.out)) hb)
            clear BK446
            clear BK447
            clear BK448
            clear HB
            have BK446 := n0_
            have BK447 := n1_
            have BK448 := n2_
            have HB := n3_
            clear n0_ n1_ n2_ n3_
            (try clear hb)
            (try clear hb2)
            (try clear hk)
            (try clear hi)
            refine hK.out _ _ ⟨(blk_cell BK447.out 0).trans rfl, (blk_cell BK447.out 1).trans rfl, (blk_cell BK447.out 2).trans rfl⟩ (fun hHeld => ?_)
            clear hK K
            refine norm_ (a' := ?_) ?_ ?_
            rotate_left
            · show Act.put _ (some 48) _ = _
              simp only [Act.put, List.setIfInBounds_toArray, List.set_cons_zero, List.set_cons_succ, i64_w, i32_w]
              rfl
            refine pure_ (i := 7) (N := some 49) (v := ?_) (a' := ?_) #[true, true, true, true, true, true, true, true, false, false, false] rfl rfl (any_of HT_.out (by kernel_rfl)) (fun _ _ _ h => h) (Or.inl ⟨by rfl, ?_⟩) ?_ ?_
            rotate_left
            · intro w'
              go_simp
              with_reducible rfl
            rotate_left
            · simp only [Act.put, List.setIfInBounds_toArray, List.set_cons_zero, List.set_cons_succ, i64_w, i32_w]
              rfl
            refine pure_ (i := 8) (N := some 50) (v := ?_) (a' := ?_) #[true, true, true, true, true, true, true, true, true, false, false] rfl rfl (any_of HT_.out (by kernel_rfl)) (fun _ _ _ h => h) (Or.inl ⟨by rfl, ?_⟩) ?_ ?_
            rotate_left
            · intro w'
              go_simp
              with_reducible rfl
            rotate_left
            · simp only [Act.put, List.setIfInBounds_toArray, List.set_cons_zero, List.set_cons_succ, i64_w, i32_w]
              rfl
            refine one_ (i := 9) (N := none) #[true, true, true, true, true, true, true, true, true, true, false] rfl rfl (one_of HT_.out (by kernel_rfl)) (by decide) (fun K hK => ?_)
            have hs57 : w56.cell? ⟨gb448, 0, none⟩ = some (.bool false) := (blk_cell BK448.out 0).trans rfl
            have hfs57 := blk_frozen BK448.out 0
            have hns57_0 := NB446_448.out
            have hns57_1 := NB447_448.out
            have hms57_0 := NB448_446.out
            have hms57_1 := NB448_447.out
            have hs58 : w56.cell? ⟨gb448, 1, none⟩ = some (.string (⟨#[]⟩ : ByteArray)) := (blk_cell BK448.out 1).trans rfl
            have hfs58 := blk_frozen BK448.out 1
            have hns58_0 := NB446_448.out
            have hns58_1 := NB447_448.out
            have hms58_0 := NB448_446.out
            have hms58_1 := NB448_447.out
            have hs59 : w56.cell? ⟨gb448, 2, none⟩ = some (.int .i64 0) := (blk_cell BK448.out 2).trans rfl
            have hfs59 := blk_frozen BK448.out 2
            have hns59_0 := NB446_448.out
            have hns59_1 := NB447_448.out
            have hms59_0 := NB448_446.out
            have hms59_1 := NB448_447.out
            refine skip_ (w1 := ?_) (by rfl) rfl ?_ ?_
            rotate_left
            · go_simp
              rfl
            refine hK.out _ _ ⟨((cell_far (p := ⟨gb448, _, none⟩) NB447_448.out _).trans (((cell_far (p := ⟨gb448, _, none⟩) NB447_448.out _).trans (((cell_far (p := ⟨gb448, _, none⟩) NB447_448.out _).trans (hHeld.1)))))), ((cell_far (p := ⟨gb448, _, none⟩) NB447_448.out _).trans (((cell_far (p := ⟨gb448, _, none⟩) NB447_448.out _).trans (((cell_far (p := ⟨gb448, _, none⟩) NB447_448.out _).trans (hHeld.2.1)))))), ((cell_far (p := ⟨gb448, _, none⟩) NB447_448.out _).trans (((cell_far (p := ⟨gb448, _, none⟩) NB447_448.out _).trans (((cell_far (p := ⟨gb448, _, none⟩) NB447_448.out _).trans (hHeld.2.2))))))⟩ (fun hHeld => ?_)
            clear hK K
            refine pure_ (i := 10) (N := some 5) (v := ?_) (a' := ?_) #[true, true, true, true, true, true, true, true, true, true, true] rfl rfl (any_of HT_.out (by kernel_rfl)) (fun _ _ _ h => h) (Or.inl ⟨by rfl, ?_⟩) ?_ ?_
            rotate_left
            · intro w'
              go_simp
              with_reducible rfl
            rotate_left
            · simp only [Act.put, List.setIfInBounds_toArray, List.set_cons_zero, List.set_cons_succ, i64_w, i32_w]
              rfl
            refine done_ (done_of HT_.out (by kernel_rfl)) ?_
            try go_wp2
            refine bodyPost_ret (results_ct rfl _ _ gb448 26 #[.bool t460, .string t461, .int .i64 t462] (0, 0) _ rfl (by refine blk_up ?_; refine blk_put (cs := #[.bool t460, .string t461, .int .i64 0]) ?_ 2 _ rfl; refine blk_up ?_; refine blk_put (cs := #[.bool t460, .string (⟨#[]⟩ : ByteArray), .int .i64 0]) ?_ 1 _ rfl; refine blk_up ?_; refine blk_put (cs := #[.bool false, .string (⟨#[]⟩ : ByteArray), .int .i64 0]) ?_ 0 _ rfl; refine blk_up ?_; exact BK448.out) Tryd.underlying26 rfl (by kernel_rfl)) rfl ?_
            exact ⟨by first | rfl | (simp [errW_none, errW_some] <;> rfl) | (simp [*, errW_none, errW_some] <;> rfl), by repeat (first | (with_reducible first | exact HB.out | apply below_alloc | apply pw_below_drewN | apply below_drew1 | refine below_set ?_ GE446.out | refine below_set ?_ GE447.out | refine below_set ?_ GE448.out) | exact HB.out)⟩
          · rw [if_neg c43] at H
            have c43b0 : (Op.bytesLess t451.toList t452.toList) = false := by simpa using c43
            clear c43
            replace H := Option.bind_eq_some_iff.mp H
            obtain ⟨t464, A600, H⟩ := H
            replace H : ((spec_l4Norm.f kj2 a0_0 t464 t453).bind fun bt465 => (some (bt465.1, bt465.2.1, bt465.2.2.1, bt465.2.2.2))) = some (r1, r2, r3, r4) := H
            have A60 := Aside0.mk A600
            clear A600
            replace H := Option.bind_eq_some_iff.mp H
            obtain ⟨⟨t465, t466, t467, t468⟩, A610, H⟩ := H
            replace H : (some (t465, t466, t467, t468)) = some (r1, r2, r3, r4) := H
            have A61 := Aside0.mk A610
            clear A610
            simp only [Option.some.injEq, Prod.mk.injEq] at H
            obtain ⟨rfl, rfl, rfl, rfl⟩ := H
            have hnb62 := NB446_447.out
            have hnc62 := NB447_446.out
            have hnb63 := NB446_448.out
            have hnc63 := NB448_446.out
            have hcz64_0 : wc.cell? ⟨gb446, 0, none⟩ = some (.bool a0_0) := (blk_cell BK446.out 0).trans rfl
            have hcz64_1 : wc.cell? ⟨gb446, 1, none⟩ = some (.string a0_1) := (blk_cell BK446.out 1).trans rfl
            have hcz64_2 : wc.cell? ⟨gb446, 2, none⟩ = some (.int .i64 a0_2) := (blk_cell BK446.out 2).trans rfl
            have hfz64_0 := blk_frozen BK446.out 0
            have hfz64_1 := blk_frozen BK446.out 1
            have hfz64_2 := blk_frozen BK446.out 2
            have hnb65 := NB447_448.out
            have hnc65 := NB448_447.out
            have hcz66_0 : wc.cell? ⟨gb447, 0, none⟩ = some (.bool a1_0) := (blk_cell BK447.out 0).trans rfl
            have hcz66_1 : wc.cell? ⟨gb447, 1, none⟩ = some (.string a1_1) := (blk_cell BK447.out 1).trans rfl
            have hcz66_2 : wc.cell? ⟨gb447, 2, none⟩ = some (.int .i64 a1_2) := (blk_cell BK447.out 2).trans rfl
            have hfz66_0 := blk_frozen BK447.out 0
            have hfz66_1 := blk_frozen BK447.out 1
            have hfz66_2 := blk_frozen BK447.out 2
            try go_wp2_with (first | ((with_reducible refine gate_callee (f := 62) rfl ?_); refine goesL_ (some 21) rfl rfl Tryd.func62 (by kernel_rfl) rfl #[.agg #[.bool a0_0, .string a0_1, .int .i64 a0_2], .agg #[.bool a1_0, .string a1_1, .int .i64 a1_2]] rfl (by (try simp only [List.map_toArray, List.map_cons, List.map_nil]); first | done | rfl | (simp only [List.length_drop, List.length_take]; rfl)) ?_; (with_reducible refine (spec_l4Same.calls kj2 a0_0 a0_1 a0_2 a1_0 a1_1 a1_2 t451 t452 t453 _ A25.out).mono ?_); rintro e w67 ⟨rfl, hb⟩; refine ⟨_, rfl, ?_⟩; have n0_ := Aside0.mk (blk_below (g := gb446) (o := .cells #[.bool a0_0, .string a0_1, .int .i64 a0_2] 26 (0, 0)) (by refine blk_up ?_; exact BK446.out) hb); have n1_ := Aside0.mk (blk_below (g := gb447) (o := .cells #[.bool a1_0, .string a1_1, .int .i64 a1_2] 26 (0, 0)) (by refine blk_up ?_; exact BK447.out) hb); have n2_ := Aside0.mk (blk_below (g := gb448) (o := .cells #[.bool false, .string (⟨#[]⟩ : ByteArray), .int .i64 0] 26 (0, 0)) (by refine blk_up ?_; exact BK448.out) hb); have n3_ := Aside0.mk (below_step (by repeat (first | (with_reducible first | exact HB.out | apply below_alloc | apply pw_below_drewN | apply below_drew1 | refine below_set ?_ GE446.out | refine below_set ?_ GE447.out | refine below_set ?_ GE448.out) | exact HB.out)) hb); clear BK446; clear BK447; clear BK448; clear HB; have BK446 := n0_; have BK447 := n1_; have BK448 := n2_; have HB := n3_; clear n0_ n1_ n2_ n3_; (try clear hb); (try clear hb2); (try clear hk); (try clear hi); have hcz68_0 : w67.cell? ⟨gb446, 0, none⟩ = some (.bool a0_0) := (blk_cell BK446.out 0).trans rfl; have hcz68_1 : w67.cell? ⟨gb446, 1, none⟩ = some (.string a0_1) := (blk_cell BK446.out 1).trans rfl; have hcz68_2 : w67.cell? ⟨gb446, 2, none⟩ = some (.int .i64 a0_2) := (blk_cell BK446.out 2).trans rfl; have hfz68_0 := blk_frozen BK446.out 0; have hfz68_1 := blk_frozen BK446.out 1; have hfz68_2 := blk_frozen BK446.out 2; have hcz69_0 : w67.cell? ⟨gb447, 0, none⟩ = some (.bool a1_0) := (blk_cell BK447.out 0).trans rfl; have hcz69_1 : w67.cell? ⟨gb447, 1, none⟩ = some (.string a1_1) := (blk_cell BK447.out 1).trans rfl; have hcz69_2 : w67.cell? ⟨gb447, 2, none⟩ = some (.int .i64 a1_2) := (blk_cell BK447.out 2).trans rfl; have hfz69_0 := blk_frozen BK447.out 0; have hfz69_1 := blk_frozen BK447.out 1; have hfz69_2 := blk_frozen BK447.out 2))
            have n0_ := Aside0.mk (blk_drew BK446.out)
            have n1_ := Aside0.mk (blk_drew BK447.out)
            have n2_ := Aside0.mk (blk_drew BK448.out)
            have n3_ := Aside0.mk (below_drew1 HB.out)
            clear BK446
            clear BK447
            clear BK448
            clear HB
            have BK446 := n0_
            have BK447 := n1_
            have BK448 := n2_
            have HB := n3_
            clear n0_ n1_ n2_ n3_
            refine start_ (n := 11) (S := fun w' => w'.cell? ⟨gb446, 0, none⟩ = some (.bool a0_0) ∧ w'.cell? ⟨gb446, 1, none⟩ = some (.string a0_1) ∧ w'.cell? ⟨gb446, 2, none⟩ = some (.int .i64 a0_2)) (ds := []) #[false, false, false, false, false, false, false, false, false, false, false] (by kernel_rfl) rfl rfl ⟨(blk_cell BK446.out 0).trans rfl, (blk_cell BK446.out 1).trans rfl, (blk_cell BK446.out 2).trans rfl⟩ (fun hHeld => ?_); refine with_tabW spec_AddDec.tab8 spec_AddDec.bits8 (fun HT_ HW_ => ?_)
            generalize w67.drew = w70 at BK446 BK447 BK448 HB hHeld ⊢
            refine pure_ (i := 0) (N := some 51) (v := ?_) (a' := ?_) #[true, false, false, false, false, false, false, false, false, false, false] rfl rfl (any_of HT_.out (by kernel_rfl)) (fun _ _ _ h => h) (Or.inl ⟨by rfl, ?_⟩) ?_ ?_
            rotate_left
            · intro w'
              go_simp
              with_reducible rfl
            rotate_left
            · simp only [Act.put, List.setIfInBounds_toArray, List.set_cons_zero, List.set_cons_succ, i64_w, i32_w]
              rfl
            refine pure_ (i := 2) (N := some 53) (v := ?_) (a' := ?_) #[true, false, true, false, false, false, false, false, false, false, false] rfl rfl (any_of HT_.out (by kernel_rfl)) (fun _ _ _ h => h) (Or.inl ⟨by rfl, ?_⟩) ?_ ?_
            rotate_left
            · intro w'
              go_simp
              with_reducible rfl
            rotate_left
            · simp only [Act.put, List.setIfInBounds_toArray, List.set_cons_zero, List.set_cons_succ, i64_w, i32_w]
              rfl
            refine pure_ (i := 3) (N := some 54) (v := ?_) (a' := ?_) #[true, false, true, true, false, false, false, false, false, false, false] rfl rfl (any_of HT_.out (by kernel_rfl)) (fun _ _ _ h => h) (Or.inl ⟨by rfl, ?_⟩) ?_ ?_
            rotate_left
            · intro w'
              go_simp
              with_reducible rfl
            rotate_left
            · simp only [Act.put, List.setIfInBounds_toArray, List.set_cons_zero, List.set_cons_succ, i64_w, i32_w]
              rfl
            refine pure_ (i := 5) (N := some 56) (v := ?_) (a' := ?_) #[true, false, true, true, false, true, false, false, false, false, false] rfl rfl (any_of HT_.out (by kernel_rfl)) (fun _ _ _ h => h) (Or.inl ⟨by rfl, ?_⟩) ?_ ?_
            rotate_left
            · intro w'
              go_simp
              with_reducible rfl
            rotate_left
            · simp only [Act.put, List.setIfInBounds_toArray, List.set_cons_zero, List.set_cons_succ, i64_w, i32_w]
              rfl
            refine take_ (i := 1) (N := some 52) (v := ?_) (a' := ?_) #[true, true, true, true, false, true, false, false, false, false, false] rfl rfl (take_ofW HT_.out HW_.out (by kernel_rfl)) (fun _ _ _ h => h) (Or.inl ⟨by rfl, ?_⟩) hHeld ?_ ?_
            rotate_left
            · rintro w' ⟨s0, s1, s2⟩
              go_simp
              with_reducible rfl
            rotate_left
            · simp only [Act.put, List.setIfInBounds_toArray, List.set_cons_zero, List.set_cons_succ, i64_w, i32_w]
              rfl
            refine one_ (i := 4) (N := some 55) #[true, true, true, true, true, true, false, false, false, false, false] rfl rfl (one_of HT_.out (by kernel_rfl)) (by decide) (fun K hK => ?_)
            refine goes_ Tryd.func64 (by kernel_rfl) rfl #[.string t451, .string t452] (by rfl) rfl rfl (by (try simp only [List.map_toArray, List.map_cons, List.map_nil]); first | done | rfl | (simp only [List.length_drop, List.length_take]; rfl)) ?_
            with_reducible refine (spec_l4Less.calls kj2 t451 t452 t464 _ A60.out).mono ?_
            rintro e w71 ⟨rfl, hb⟩
            refine ⟨_, rfl, ?_⟩
            have n0_ := Aside0.mk (blk_below (g := gb446) (o := .cells #[.bool a0_0, .string a0_1, .int .i64 a0_2] 26 (0, 0)) (by refine blk_up ?_; exact BK446.out) hb)
            have n1_ := Aside0.mk (blk_below (g := gb447) (o := .cells #[.bool a1_0, .string a1_1, .int .i64 a1_2] 26 (0, 0)) (by refine blk_up ?_; exact BK447.out) hb)
            have n2_ := Aside0.mk (blk_below (g := gb448) (o := .cells #[.bool false, .string (⟨#[]⟩ : ByteArray), .int .i64 0] 26 (0, 0)) (by refine blk_up ?_; exact BK448.out) hb)
            have n3_ := Aside0.mk (below_step (by repeat (first | (with_reducible first | exact HB.out | apply below_alloc | apply pw_below_drewN | apply below_drew1 | refine below_set ?_ GE446.out | refine below_set ?_ GE447.out | refine below_set ?_ GE448.out) | exact HB.out)) hb)
            clear BK446
            clear BK447
            clear BK448
            clear HB
            have BK446 := n0_
            have BK447 := n1_
            have BK448 := n2_
            have HB := n3_
            clear n0_ n1_ n2_ n3_
            (try clear hb)
            (try clear hb2)
            (try clear hk)
            (try clear hi)
            refine hK.out _ _ ⟨(blk_cell BK446.out 0).trans rfl, (blk_cell BK446.out 1).trans rfl, (blk_cell BK446.out 2).trans rfl⟩ (fun hHeld => ?_)
            clear hK K
            refine norm_ (a' := ?_) ?_ ?_
            rotate_left
            · show Act.put _ (some 55) _ = _
              simp only [Act.put, List.setIfInBounds_toArray, List.set_cons_zero, List.set_cons_succ, i64_w, i32_w]
              rfl
            refine one_ (i := 6) (N := some 57) #[true, true, true, true, true, true, true, false, false, false, false] rfl rfl (one_of HT_.out (by kernel_rfl)) (by decide) (fun K hK => ?_)
            refine goes_ Tryd.func56 (by kernel_rfl) rfl #[.bool a0_0, .string t464, .int .i64 t453] (by rfl) rfl rfl (by (try simp only [List.map_toArray, List.map_cons, List.map_nil]); first | done | rfl | (simp only [List.length_drop, List.length_take]; rfl)) ?_
            with_reducible refine (spec_l4Norm.calls kj2 a0_0 t464 t453 t465 t466 t467 t468 _ A61.out).mono ?_
            rintro e w72 ⟨rfl, hb⟩
            refine ⟨_, rfl, ?_⟩
            have n0_ := Aside0.mk (blk_below (g := gb446) (o := .cells #[.bool a0_0, .string a0_1, .int .i64 a0_2] 26 (0, 0)) (by refine blk_up ?_; exact BK446.out) hb)
            have n1_ := Aside0.mk (blk_below (g := gb447) (o := .cells #[.bool a1_0, .string a1_1, .int .i64 a1_2] 26 (0, 0)) (by refine blk_up ?_; exact BK447.out) hb)
            have n2_ := Aside0.mk (blk_below (g := gb448) (o := .cells #[.bool false, .string (⟨#[]⟩ : ByteArray), .int .i64 0] 26 (0, 0)) (by refine blk_up ?_; exact BK448.out) hb)
            have n3_ := Aside0.mk (below_step (by repeat (first | (with_reducible first | exact HB.out | apply below_alloc | apply pw_below_drewN | apply below_drew1 | refine below_set ?_ GE446.out | refine below_set ?_ GE447.out | refine below_set ?_ GE448.out) | exact HB.out)) hb)
            clear BK446
            clear BK447
            clear BK448
            clear HB
            have BK446 := n0_
            have BK447 := n1_
            have BK448 := n2_
            have HB := n3_
            clear n0_ n1_ n2_ n3_
            (try clear hb)
            (try clear hb2)
            (try clear hk)
            (try clear hi)
            refine hK.out _ _ ⟨(blk_cell BK446.out 0).trans rfl, (blk_cell BK446.out 1).trans rfl, (blk_cell BK446.out 2).trans rfl⟩ (fun hHeld => ?_)
            clear hK K
            refine norm_ (a' := ?_) ?_ ?_
            rotate_left
            · show Act.put _ (some 57) _ = _
              simp only [Act.put, List.setIfInBounds_toArray, List.set_cons_zero, List.set_cons_succ, i64_w, i32_w]
              rfl
            refine pure_ (i := 7) (N := some 58) (v := ?_) (a' := ?_) #[true, true, true, true, true, true, true, true, false, false, false] rfl rfl (any_of HT_.out (by kernel_rfl)) (fun _ _ _ h => h) (Or.inl ⟨by rfl, ?_⟩) ?_ ?_
            rotate_left
            · intro w'
              go_simp
              with_reducible rfl
            rotate_left
            · simp only [Act.put, List.setIfInBounds_toArray, List.set_cons_zero, List.set_cons_succ, i64_w, i32_w]
              rfl
            refine pure_ (i := 8) (N := some 59) (v := ?_) (a' := ?_) #[true, true, true, true, true, true, true, true, true, false, false] rfl rfl (any_of HT_.out (by kernel_rfl)) (fun _ _ _ h => h) (Or.inl ⟨by rfl, ?_⟩) ?_ ?_
            rotate_left
            · intro w'
              go_simp
              with_reducible rfl
            rotate_left
            · simp only [Act.put, List.setIfInBounds_toArray, List.set_cons_zero, List.set_cons_succ, i64_w, i32_w]
              rfl
            refine one_ (i := 9) (N := none) #[true, true, true, true, true, true, true, true, true, true, false] rfl rfl (one_of HT_.out (by kernel_rfl)) (by decide) (fun K hK => ?_)
            have hs73 : w72.cell? ⟨gb448, 0, none⟩ = some (.bool false) := (blk_cell BK448.out 0).trans rfl
            have hfs73 := blk_frozen BK448.out 0
            have hns73_0 := NB446_448.out
            have hns73_1 := NB447_448.out
            have hms73_0 := NB448_446.out
            have hms73_1 := NB448_447.out
            have hs74 : w72.cell? ⟨gb448, 1, none⟩ = some (.string (⟨#[]⟩ : ByteArray)) := (blk_cell BK448.out 1).trans rfl
            have hfs74 := blk_frozen BK448.out 1
            have hns74_0 := NB446_448.out
            have hns74_1 := NB447_448.out
            have hms74_0 := NB448_446.out
            have hms74_1 := NB448_447.out
            have hs75 : w72.cell? ⟨gb448, 2, none⟩ = some (.int .i64 0) := (blk_cell BK448.out 2).trans rfl
            have hfs75 := blk_frozen BK448.out 2
            have hns75_0 := NB446_448.out
            have hns75_1 := NB447_448.out
            have hms75_0 := NB448_446.out
            have hms75_1 := NB448_447.out
            refine skip_ (w1 := ?_) (by rfl) rfl ?_ ?_
            rotate_left
            · go_simp
              rfl
            refine hK.out _ _ ⟨((cell_far (p := ⟨gb448, _, none⟩) NB446_448.out _).trans (((cell_far (p := ⟨gb448, _, none⟩) NB446_448.out _).trans (((cell_far (p := ⟨gb448, _, none⟩) NB446_448.out _).trans (hHeld.1)))))), ((cell_far (p := ⟨gb448, _, none⟩) NB446_448.out _).trans (((cell_far (p := ⟨gb448, _, none⟩) NB446_448.out _).trans (((cell_far (p := ⟨gb448, _, none⟩) NB446_448.out _).trans (hHeld.2.1)))))), ((cell_far (p := ⟨gb448, _, none⟩) NB446_448.out _).trans (((cell_far (p := ⟨gb448, _, none⟩) NB446_448.out _).trans (((cell_far (p := ⟨gb448, _, none⟩) NB446_448.out _).trans (hHeld.2.2))))))⟩ (fun hHeld => ?_)
            clear hK K
            refine pure_ (i := 10) (N := some 5) (v := ?_) (a' := ?_) #[true, true, true, true, true, true, true, true, true, true, true] rfl rfl (any_of HT_.out (by kernel_rfl)) (fun _ _ _ h => h) (Or.inl ⟨by rfl, ?_⟩) ?_ ?_
            rotate_left
            · intro w'
              go_simp
              with_reducible rfl
            rotate_left
            · simp only [Act.put, List.setIfInBounds_toArray, List.set_cons_zero, List.set_cons_succ, i64_w, i32_w]
              rfl
            refine done_ (done_of HT_.out (by kernel_rfl)) ?_
            try go_wp2
            refine bodyPost_ret (results_ct rfl _ _ gb448 26 #[.bool t465, .string t466, .int .i64 t467] (0, 0) _ rfl (by refine blk_up ?_; refine blk_put (cs := #[.bool t465, .string t466, .int .i64 0]) ?_ 2 _ rfl; refine blk_up ?_; refine blk_put (cs := #[.bool t465, .string (⟨#[]⟩ : ByteArray), .int .i64 0]) ?_ 1 _ rfl; refine blk_up ?_; refine blk_put (cs := #[.bool false, .string (⟨#[]⟩ : ByteArray), .int .i64 0]) ?_ 0 _ rfl; refine blk_up ?_; exact BK448.out) Tryd.underlying26 rfl (by kernel_rfl)) rfl ?_
            exact ⟨by first | rfl | (simp [errW_none, errW_some] <;> rfl) | (simp [*, errW_none, errW_some] <;> rfl), by repeat (first | (with_reducible first | exact HB.out | apply below_alloc | apply pw_below_drewN | apply below_drew1 | refine below_set ?_ GE446.out | refine below_set ?_ GE447.out | refine below_set ?_ GE448.out) | exact HB.out)⟩

end Go.Proofs.YtilmhfkbpnejeaaDoor.L

namespace Go.Proofs.YtilmhfkbpnejeaaDoor.L
open Go.RowKit Go.Proofs.YtilmhfkbpnejeaaDoorW.PrintWords Go.Proofs.YtilmhfkbpnejeaaDoorW.PrintLast Go.Proofs.YtilmhfkbpnejeaaDoorW.PrintMore
attribute [local go_sem] max2_int min2_int max_two min_two max_three min_three max_four min_four
attribute [local go_sem] Go.Proofs.YtilmhfkbpnejeaaDoor.H.str_leq Go.Proofs.YtilmhfkbpnejeaaDoor.H.str_gtr Go.Proofs.YtilmhfkbpnejeaaDoor.H.str_geq
set_option linter.unusedVariables false
set_option linter.unusedSimpArgs false

attribute [local go_sem high] eqA26
/-! ### laws_FnAdded: function 6 -/
def laws_FnAdded.j0 : Nat → Bool → Bool → Bool → Bool → ByteArray → Int → Bool → ByteArray → Int → Bool → ByteArray → Int → Bool → ByteArray → Int → Option (Bool)
  | 0, _, _, _, _, _, _, _, _, _, _, _, _, _, _, _ => none
  | k + 1, x6, x8, x43, x477000, x477001, x477002, x478000, x478001, x478002, x483000, x483001, x483002, x488000, x488001, x488002 => if x43 = true then (if (x483000 == x488000 && (x483001.toList == x488001.toList && (x483002 == x488002))) = true then (some (x6 == x8)) else (none)) else ((impl_AddDec.f k x478000 x478001 x478002 x477000 x477001 x477002).bind fun bt488 => (if x478001.toList = ([] : List UInt8) then ((impl_AddDec.f k x483000 x483001 x483002 false x478001 x478002).bind fun bt493 => (if bt488.2.2.2 = true then (if (bt488.1 == x483000 && (bt488.2.1.toList == x483001.toList && (bt488.2.2.1 == x483002))) = true then (if bt493.2.2.2 = true then (if (bt493.1 == x477000 && (bt493.2.1.toList == x477001.toList && (bt493.2.2.1 == x477002))) = true then ((impl_CompareDec.f k x483000 x483001 x483002 x477000 x477001 x477002).bind fun t503 => ((impl_CompareDec.f k false (⟨#[]⟩ : ByteArray) 0 x478000 x478001 x478002).bind fun t504 => (some (t503 == (wrap64 (-t504)))))) else (none)) else (none)) else (none)) else (none))) else ((impl_AddDec.f k x483000 x483001 x483002 (!x478000) x478001 x478002).bind fun bt498 => (if bt488.2.2.2 = true then (if (bt488.1 == x483000 && (bt488.2.1.toList == x483001.toList && (bt488.2.2.1 == x483002))) = true then (if bt498.2.2.2 = true then (if (bt498.1 == x477000 && (bt498.2.1.toList == x477001.toList && (bt498.2.2.1 == x477002))) = true then ((impl_CompareDec.f k x483000 x483001 x483002 x477000 x477001 x477002).bind fun t505 => ((impl_CompareDec.f k false (⟨#[]⟩ : ByteArray) 0 x478000 x478001 x478002).bind fun t506 => (some (t505 == (wrap64 (-t506)))))) else (none)) else (none)) else (none)) else (none)))))
def laws_FnAdded.f (k : Nat) (l0 : List Int) : Option (Bool) := (laws_big.f l0).bind fun t469 => (if t469 = true then (some true) else ((spec_DrawAddDec.f k l0).bind fun bt470 => ((impl_AddDec.f k bt470.1 bt470.2.1 bt470.2.2.1 bt470.2.2.2.1 bt470.2.2.2.2.1 bt470.2.2.2.2.2).bind fun bt478 => ((spec_AddDec.f k bt470.1 bt470.2.1 bt470.2.2.1 bt470.2.2.2.1 bt470.2.2.2.2.1 bt470.2.2.2.2.2).bind fun bt483 => (if (!(bt478.1 == bt483.1) || (!(bt478.2.1.toList == bt483.2.1.toList) || (!(bt478.2.2.1 == bt483.2.2.1)))) = true then (laws_FnAdded.j0 k bt478.2.2.2 bt483.2.2.2 true bt470.1 bt470.2.1 bt470.2.2.1 bt470.2.2.2.1 bt470.2.2.2.2.1 bt470.2.2.2.2.2 bt478.1 bt478.2.1 bt478.2.2.1 bt483.1 bt483.2.1 bt483.2.2.1) else (if (bt478.2.2.2 != bt483.2.2.2) = true then (laws_FnAdded.j0 k bt478.2.2.2 bt483.2.2.2 true bt470.1 bt470.2.1 bt470.2.2.1 bt470.2.2.2.1 bt470.2.2.2.2.1 bt470.2.2.2.2.2 bt478.1 bt478.2.1 bt478.2.2.1 bt483.1 bt483.2.1 bt483.2.2.1) else (laws_FnAdded.j0 k bt478.2.2.2 bt483.2.2.2 (!bt478.2.2.2) bt470.1 bt470.2.1 bt470.2.2.1 bt470.2.2.2.1 bt470.2.2.2.2.1 bt470.2.2.2.2.2 bt478.1 bt478.2.1 bt478.2.2.1 bt483.1 bt483.2.1 bt483.2.2.1)))))))
def laws_FnAdded.T10 : Bool × List (List Nat × List Nat) := (true, [([], []), ([0], [0]), ([1], [1]), ([1], [1]), ([2, 3, 1], [1, 2, 3]), ([1, 4], [1, 4]), ([5, 1], [5]), ([6], [6]), ([6, 7], [6, 7]), ([8, 6], [8]), ([9], [9]), ([9], [9]), ([10, 11, 9], [9, 10, 11]), ([9, 12], [9, 12]), ([13, 9], [13]), ([14], [14]), ([14], [14]), ([15, 16, 14, 14], [14, 15, 16]), ([14], [14]), ([14], [14]), ([18, 19, 17, 14], [14, 18, 19]), ([20, 14], [14, 20]), ([17, 21, 14], [14, 17, 21]), ([14, 22], [14, 22]), ([23, 20, 0, 1, 2, 3, 4, 5, 6, 7, 8, 9, 10, 11, 12, 13, 14, 15, 16, 17, 18, 19, 20, 21, 22, 23], [23])])
def laws_FnAdded.B10 : List Nat := [0, 1, 3, 3, 15, 31, 63, 127, 255, 511, 1023, 1023, 4095, 8191, 16383, 32767, 32767, 131071, 32767, 32767, 1048575, 2097151, 4194303, 8388607, 16777215]
theorem laws_FnAdded.tab10 : rtab .any (opsOf Tryd.f6 10) = laws_FnAdded.T10 := by kernel_rfl
theorem laws_FnAdded.bits10 : waitsOk laws_FnAdded.T10.2 laws_FnAdded.B10 = true := by kernel_rfl
set_option maxHeartbeats 8000000 in
set_option maxRecDepth 100000 in
theorem laws_FnAdded.calls (k : Nat) (A0 : Option Addr) (c0 : Nat) (l0 : List Int) (r : Bool) (w : World) (hr0 : Kd.C (Kd.int .u8) w A0 l0.length l0) (hc0 : l0.length ≤ c0) (h : laws_FnAdded.f k l0 = some r) :
    Calls Tryd.prog 6 #[.slice A0 l0.length c0] w fun e w' => e = .returned (.bool r) ∧ Below w.heap.size w w' := by
  have hu26 := Tryd.underlying26
  have HR0 := Aside0.mk hr0
  have HC0 := Aside0.mk hc0
  clear hr0 hc0
  have HB := Aside0.mk (Below.refl w.heap.size w)
  have H : ((laws_big.f l0).bind fun t469 => (if t469 = true then (some true) else ((spec_DrawAddDec.f k l0).bind fun bt470 => ((impl_AddDec.f k bt470.1 bt470.2.1 bt470.2.2.1 bt470.2.2.2.1 bt470.2.2.2.2.1 bt470.2.2.2.2.2).bind fun bt478 => ((spec_AddDec.f k bt470.1 bt470.2.1 bt470.2.2.1 bt470.2.2.2.1 bt470.2.2.2.2.1 bt470.2.2.2.2.2).bind fun bt483 => (if (!(bt478.1 == bt483.1) || (!(bt478.2.1.toList == bt483.2.1.toList) || (!(bt478.2.2.1 == bt483.2.2.1)))) = true then (laws_FnAdded.j0 k bt478.2.2.2 bt483.2.2.2 true bt470.1 bt470.2.1 bt470.2.2.1 bt470.2.2.2.1 bt470.2.2.2.2.1 bt470.2.2.2.2.2 bt478.1 bt478.2.1 bt478.2.2.1 bt483.1 bt483.2.1 bt483.2.2.1) else (if (bt478.2.2.2 != bt483.2.2.2) = true then (laws_FnAdded.j0 k bt478.2.2.2 bt483.2.2.2 true bt470.1 bt470.2.1 bt470.2.2.1 bt470.2.2.2.1 bt470.2.2.2.2.1 bt470.2.2.2.2.2 bt478.1 bt478.2.1 bt478.2.2.1 bt483.1 bt483.2.1 bt483.2.2.1) else (laws_FnAdded.j0 k bt478.2.2.2 bt483.2.2.2 (!bt478.2.2.2) bt470.1 bt470.2.1 bt470.2.2.1 bt470.2.2.2.1 bt470.2.2.2.2.1 bt470.2.2.2.2.2 bt478.1 bt478.2.1 bt478.2.2.1 bt483.1 bt483.2.1 bt483.2.2.1)))))))) = some r := h
  clear h
  replace H := Option.bind_eq_some_iff.mp H
  obtain ⟨t469, A20, H⟩ := H
  replace H : (if t469 = true then (some true) else ((spec_DrawAddDec.f k l0).bind fun bt470 => ((impl_AddDec.f k bt470.1 bt470.2.1 bt470.2.2.1 bt470.2.2.2.1 bt470.2.2.2.2.1 bt470.2.2.2.2.2).bind fun bt478 => ((spec_AddDec.f k bt470.1 bt470.2.1 bt470.2.2.1 bt470.2.2.2.1 bt470.2.2.2.2.1 bt470.2.2.2.2.2).bind fun bt483 => (if (!(bt478.1 == bt483.1) || (!(bt478.2.1.toList == bt483.2.1.toList) || (!(bt478.2.2.1 == bt483.2.2.1)))) = true then (laws_FnAdded.j0 k bt478.2.2.2 bt483.2.2.2 true bt470.1 bt470.2.1 bt470.2.2.1 bt470.2.2.2.1 bt470.2.2.2.2.1 bt470.2.2.2.2.2 bt478.1 bt478.2.1 bt478.2.2.1 bt483.1 bt483.2.1 bt483.2.2.1) else (if (bt478.2.2.2 != bt483.2.2.2) = true then (laws_FnAdded.j0 k bt478.2.2.2 bt483.2.2.2 true bt470.1 bt470.2.1 bt470.2.2.1 bt470.2.2.2.1 bt470.2.2.2.2.1 bt470.2.2.2.2.2 bt478.1 bt478.2.1 bt478.2.2.1 bt483.1 bt483.2.1 bt483.2.2.1) else (laws_FnAdded.j0 k bt478.2.2.2 bt483.2.2.2 (!bt478.2.2.2) bt470.1 bt470.2.1 bt470.2.2.1 bt470.2.2.2.1 bt470.2.2.2.2.1 bt470.2.2.2.2.2 bt478.1 bt478.2.1 bt478.2.2.1 bt483.1 bt483.2.1 bt483.2.2.1))))))) = some r := H
  have A2 := Aside0.mk A20
  clear A20
  by_cases c3 : t469 = true
  · subst c3
    have H1 : (some true) = some r := by rw [if_pos rfl] at H; exact H
    clear H
    have H := H1
    clear H1
    obtain rfl := Option.some.inj H
    go_enter Tryd.func6, Tryd.ntmps6
    go_wp2_with (first | ((with_reducible refine gate_callee (f := 15) rfl ?_); refine goesL_ (some 14) rfl rfl Tryd.func15 (by kernel_rfl) rfl #[.slice A0 l0.length c0] rfl (by (try simp only [List.map_toArray, List.map_cons, List.map_nil]); first | done | rfl | (simp only [List.length_drop, List.length_take]; rfl)) ?_; (with_reducible refine (laws_big.calls _ _ l0 true _ ?side1 ?side2 A2.out).mono ?_); (case side1 => repeat (first | exact HR0.out | (with_reducible refine Kd.C_alloc ?_ _) | (with_reducible refine Kd.C_drewN ?_ _) | (with_reducible refine Kd.C_drew ?_))); (case side2 => exact HC0.out); rintro e w' ⟨rfl, ⟨nd, rfl⟩⟩; refine ⟨_, rfl, ?_⟩))
    go_ret
    exact ⟨by first | rfl | (simp [errW_none, errW_some] <;> rfl) | (simp [*, errW_none, errW_some] <;> rfl), by repeat (first | (with_reducible first | exact HB.out | apply below_alloc | apply pw_below_drewN | apply below_drew1) | exact HB.out)⟩
  · replace c3 := Bool.eq_false_iff.mpr c3
    subst c3
    have H1 : ((spec_DrawAddDec.f k l0).bind fun bt470 => ((impl_AddDec.f k bt470.1 bt470.2.1 bt470.2.2.1 bt470.2.2.2.1 bt470.2.2.2.2.1 bt470.2.2.2.2.2).bind fun bt478 => ((spec_AddDec.f k bt470.1 bt470.2.1 bt470.2.2.1 bt470.2.2.2.1 bt470.2.2.2.2.1 bt470.2.2.2.2.2).bind fun bt483 => (if (!(bt478.1 == bt483.1) || (!(bt478.2.1.toList == bt483.2.1.toList) || (!(bt478.2.2.1 == bt483.2.2.1)))) = true then (laws_FnAdded.j0 k bt478.2.2.2 bt483.2.2.2 true bt470.1 bt470.2.1 bt470.2.2.1 bt470.2.2.2.1 bt470.2.2.2.2.1 bt470.2.2.2.2.2 bt478.1 bt478.2.1 bt478.2.2.1 bt483.1 bt483.2.1 bt483.2.2.1) else (if (bt478.2.2.2 != bt483.2.2.2) = true then (laws_FnAdded.j0 k bt478.2.2.2 bt483.2.2.2 true bt470.1 bt470.2.1 bt470.2.2.1 bt470.2.2.2.1 bt470.2.2.2.2.1 bt470.2.2.2.2.2 bt478.1 bt478.2.1 bt478.2.2.1 bt483.1 bt483.2.1 bt483.2.2.1) else (laws_FnAdded.j0 k bt478.2.2.2 bt483.2.2.2 (!bt478.2.2.2) bt470.1 bt470.2.1 bt470.2.2.1 bt470.2.2.2.1 bt470.2.2.2.2.1 bt470.2.2.2.2.2 bt478.1 bt478.2.1 bt478.2.2.1 bt483.1 bt483.2.1 bt483.2.2.1)))))) = some r := by rw [if_neg (show ¬ (false = true) by decide)] at H; exact H
    clear H
    have H := H1
    clear H1
    replace H := Option.bind_eq_some_iff.mp H
    obtain ⟨⟨t470, t471, t472, t473, t474, t475⟩, A40, H⟩ := H
    replace H : ((impl_AddDec.f k t470 t471 t472 t473 t474 t475).bind fun bt478 => ((spec_AddDec.f k t470 t471 t472 t473 t474 t475).bind fun bt483 => (if (!(bt478.1 == bt483.1) || (!(bt478.2.1.toList == bt483.2.1.toList) || (!(bt478.2.2.1 == bt483.2.2.1)))) = true then (laws_FnAdded.j0 k bt478.2.2.2 bt483.2.2.2 true t470 t471 t472 t473 t474 t475 bt478.1 bt478.2.1 bt478.2.2.1 bt483.1 bt483.2.1 bt483.2.2.1) else (if (bt478.2.2.2 != bt483.2.2.2) = true then (laws_FnAdded.j0 k bt478.2.2.2 bt483.2.2.2 true t470 t471 t472 t473 t474 t475 bt478.1 bt478.2.1 bt478.2.2.1 bt483.1 bt483.2.1 bt483.2.2.1) else (laws_FnAdded.j0 k bt478.2.2.2 bt483.2.2.2 (!bt478.2.2.2) t470 t471 t472 t473 t474 t475 bt478.1 bt478.2.1 bt478.2.2.1 bt483.1 bt483.2.1 bt483.2.2.1))))) = some r := H
    have A4 := Aside0.mk A40
    clear A40
    replace H := Option.bind_eq_some_iff.mp H
    obtain ⟨⟨t478, t479, t480, t481⟩, A50, H⟩ := H
    replace H : ((spec_AddDec.f k t470 t471 t472 t473 t474 t475).bind fun bt483 => (if (!(t478 == bt483.1) || (!(t479.toList == bt483.2.1.toList) || (!(t480 == bt483.2.2.1)))) = true then (laws_FnAdded.j0 k t481 bt483.2.2.2 true t470 t471 t472 t473 t474 t475 t478 t479 t480 bt483.1 bt483.2.1 bt483.2.2.1) else (if (t481 != bt483.2.2.2) = true then (laws_FnAdded.j0 k t481 bt483.2.2.2 true t470 t471 t472 t473 t474 t475 t478 t479 t480 bt483.1 bt483.2.1 bt483.2.2.1) else (laws_FnAdded.j0 k t481 bt483.2.2.2 (!t481) t470 t471 t472 t473 t474 t475 t478 t479 t480 bt483.1 bt483.2.1 bt483.2.2.1)))) = some r := H
    have A5 := Aside0.mk A50
    clear A50
    replace H := Option.bind_eq_some_iff.mp H
    obtain ⟨⟨t483, t484, t485, t486⟩, A60, H⟩ := H
    replace H : (if (!(t478 == t483) || (!(t479.toList == t484.toList) || (!(t480 == t485)))) = true then (laws_FnAdded.j0 k t481 t486 true t470 t471 t472 t473 t474 t475 t478 t479 t480 t483 t484 t485) else (if (t481 != t486) = true then (laws_FnAdded.j0 k t481 t486 true t470 t471 t472 t473 t474 t475 t478 t479 t480 t483 t484 t485) else (laws_FnAdded.j0 k t481 t486 (!t481) t470 t471 t472 t473 t474 t475 t478 t479 t480 t483 t484 t485))) = some r := H
    have A6 := Aside0.mk A60
    clear A60
    have HC7 := Aside0.mk H
    clear H
    go_enter Tryd.func6, Tryd.ntmps6
    go_upto_region 6 with (first | ((with_reducible refine gate_callee (f := 15) rfl ?_); refine goesL_ (some 14) rfl rfl Tryd.func15 (by kernel_rfl) rfl #[.slice A0 l0.length c0] rfl (by (try simp only [List.map_toArray, List.map_cons, List.map_nil]); first | done | rfl | (simp only [List.length_drop, List.length_take]; rfl)) ?_; (with_reducible refine (laws_big.calls _ _ l0 false _ ?side1 ?side2 A2.out).mono ?_); (case side1 => repeat (first | exact HR0.out | (with_reducible refine Kd.C_alloc ?_ _) | (with_reducible refine Kd.C_drewN ?_ _) | (with_reducible refine Kd.C_drew ?_))); (case side2 => exact HC0.out); rintro e w' ⟨rfl, ⟨nd, rfl⟩⟩; refine ⟨_, rfl, ?_⟩) | ((with_reducible refine gate_callee (f := 22) rfl ?_); refine goesL_ (some 17) rfl rfl Tryd.func22 (by kernel_rfl) rfl #[.slice A0 l0.length c0] rfl (by (try simp only [List.map_toArray, List.map_cons, List.map_nil]); first | done | rfl | (simp only [List.length_drop, List.length_take]; rfl)) ?_; (with_reducible refine (spec_DrawAddDec.calls k _ _ l0 t470 t471 t472 t473 t474 t475 _ ?side1 ?side2 A4.out).mono ?_); (case side1 => repeat (first | exact HR0.out | (with_reducible refine Kd.C_alloc ?_ _) | (with_reducible refine Kd.C_drewN ?_ _) | (with_reducible refine Kd.C_drew ?_))); (case side2 => exact HC0.out); rintro e w8 ⟨rfl, hb⟩; refine ⟨_, rfl, ?_⟩; have n0_ := Aside0.mk (below_step (by repeat (first | (with_reducible first | exact HB.out | apply below_alloc | apply pw_below_drewN | apply below_drew1) | exact HB.out)) hb); clear HB; have HB := n0_; clear n0_; (try clear hb); (try clear hb2); (try clear hk); (try clear hi)) | ((with_reducible refine gate_dst (N := 3) rfl ?_); refine box_event ?hg (N := 3) ?hd (cs := #[.bool false, .string (⟨#[]⟩ : ByteArray), .int .i64 0]) (t := 26) ?hr ?_; (case hd => rfl); (case hg => rfl); (case hr => first | (go_simp; done) | (go_simp; rfl)); intro gb476 hg w9 hbox hb; have n0_ := Aside0.mk (below_step (by repeat (first | (with_reducible first | exact HB.out | apply below_alloc | apply pw_below_drewN | apply below_drew1) | exact HB.out)) hb); have n1_ := Aside0.mk (hbox); have n2_ := Aside0.mk ((by rw [hg]; exact (below_size (by repeat (first | (with_reducible first | exact HB.out | apply below_alloc | apply pw_below_drewN | apply below_drew1) | exact HB.out))) : w.heap.size ≤ gb476)); have n3_ := Aside0.mk ((by rw [hg]; exact (below_size (by repeat (first | (with_reducible first | exact HB.out | apply below_alloc | apply pw_below_drewN | apply below_drew1) | exact HB.out))) : w.heap.size ≤ gb476)); clear HB; have HB := n0_; have BK476 := n1_; have GW476 := n2_; have GE476 := n3_; clear n0_ n1_ n2_ n3_; clear hb hbox hg) | ((with_reducible refine gate_dst (N := 4) rfl ?_); refine box_event ?hg (N := 4) ?hd (cs := #[.bool false, .string (⟨#[]⟩ : ByteArray), .int .i64 0]) (t := 26) ?hr ?_; (case hd => rfl); (case hg => rfl); (case hr => first | (go_simp; done) | (go_simp; rfl)); intro gb477 hg w10 hbox hb; have n0_ := Aside0.mk (blk_below (g := gb476) (o := .cells #[.bool false, .string (⟨#[]⟩ : ByteArray), .int .i64 0] 26 (0, 0)) (by refine blk_up ?_; exact BK476.out) hb); have n1_ := Aside0.mk (below_step (by repeat (first | (with_reducible first | exact HB.out | apply below_alloc | apply pw_below_drewN | apply below_drew1 | refine below_set ?_ GE476.out) | exact HB.out)) hb); have n2_ := Aside0.mk (hbox); have n3_ := Aside0.mk ((by rw [hg]; exact (below_size (by repeat (first | (with_reducible first | exact HB.out | apply below_alloc | apply pw_below_drewN | apply below_drew1 | refine below_set ?_ GE476.out) | exact HB.out))) : w.heap.size ≤ gb477)); have n4_ := Aside0.mk ((by rw [hg]; exact (below_size (by repeat (first | (with_reducible first | exact HB.out | apply below_alloc | apply pw_below_drewN | apply below_drew1 | refine below_set ?_ GE476.out) | exact HB.out))) : w.heap.size ≤ gb477)); have n5_ := Aside0.mk ((by rw [hg]; exact Nat.ne_of_lt (blk_lt (g := gb476) (o := .cells #[.bool false, .string (⟨#[]⟩ : ByteArray), .int .i64 0] 26 (0, 0)) (by refine blk_up ?_; exact BK476.out)) : gb476 ≠ gb477)); have n6_ := Aside0.mk ((by rw [hg]; exact Nat.ne_of_gt (blk_lt (g := gb476) (o := .cells #[.bool false, .string (⟨#[]⟩ : ByteArray), .int .i64 0] 26 (0, 0)) (by refine blk_up ?_; exact BK476.out)) : gb477 ≠ gb476)); clear BK476; clear HB; have BK476 := n0_; have HB := n1_; have BK477 := n2_; have GW477 := n3_; have GE477 := n4_; have NB476_477 := n5_; have NB477_476 := n6_; clear n0_ n1_ n2_ n3_ n4_ n5_ n6_; clear hb hbox hg; have hnb11 := NB476_477.out; have hnc11 := NB477_476.out; have hcz12_0 : w10.cell? ⟨gb476, 0, none⟩ = some (.bool false) := (blk_cell BK476.out 0).trans rfl; have hcz12_1 : w10.cell? ⟨gb476, 1, none⟩ = some (.string (⟨#[]⟩ : ByteArray)) := (blk_cell BK476.out 1).trans rfl; have hcz12_2 : w10.cell? ⟨gb476, 2, none⟩ = some (.int .i64 0) := (blk_cell BK476.out 2).trans rfl; have hfz12_0 := blk_frozen BK476.out 0; have hfz12_1 := blk_frozen BK476.out 1; have hfz12_2 := blk_frozen BK476.out 2; have hcz13_0 : w10.cell? ⟨gb477, 0, none⟩ = some (.bool false) := (blk_cell BK477.out 0).trans rfl; have hcz13_1 : w10.cell? ⟨gb477, 1, none⟩ = some (.string (⟨#[]⟩ : ByteArray)) := (blk_cell BK477.out 1).trans rfl; have hcz13_2 : w10.cell? ⟨gb477, 2, none⟩ = some (.int .i64 0) := (blk_cell BK477.out 2).trans rfl; have hfz13_0 := blk_frozen BK477.out 0; have hfz13_1 := blk_frozen BK477.out 1; have hfz13_2 := blk_frozen BK477.out 2) | ((with_reducible refine gate_callee (f := 20) rfl ?_); refine goesL_ (some 23) rfl rfl Tryd.func20 (by kernel_rfl) rfl #[.agg #[.bool t470, .string t471, .int .i64 t472], .agg #[.bool t473, .string t474, .int .i64 t475]] rfl (by (try simp only [List.map_toArray, List.map_cons, List.map_nil]); first | done | rfl | (simp only [List.length_drop, List.length_take]; rfl)) ?_; (with_reducible refine (impl_AddDec.calls k t470 t471 t472 t473 t474 t475 t478 t479 t480 t481 _ A5.out).mono ?_); rintro e w14 ⟨rfl, hb⟩; refine ⟨_, rfl, ?_⟩; have n0_ := Aside0.mk (blk_below (g := gb476) (o := .cells #[.bool t470, .string t471, .int .i64 t472] 26 (0, 0)) (by refine blk_up ?_; refine blk_far ?_ NB476_477.out _; refine blk_up ?_; refine blk_far ?_ NB476_477.out _; refine blk_up ?_; refine blk_far ?_ NB476_477.out _; refine blk_up ?_; refine blk_put (cs := #[.bool t470, .string t471, .int .i64 0]) ?_ 2 _ rfl; refine blk_up ?_; refine blk_put (cs := #[.bool t470, .string (⟨#[]⟩ : ByteArray), .int .i64 0]) ?_ 1 _ rfl; refine blk_up ?_; refine blk_put (cs := #[.bool false, .string (⟨#[]⟩ : ByteArray), .int .i64 0]) ?_ 0 _ rfl; refine blk_up ?_; exact BK476.out) hb); have n1_ := Aside0.mk (blk_below (g := gb477) (o := .cells #[.bool t473, .string t474, .int .i64 t475] 26 (0, 0)) (by refine blk_up ?_; refine blk_put (cs := #[.bool t473, .string t474, .int .i64 0]) ?_ 2 _ rfl; refine blk_up ?_; refine blk_put (cs := #[.bool t473, .string (⟨#[]⟩ : ByteArray), .int .i64 0]) ?_ 1 _ rfl; refine blk_up ?_; refine blk_put (cs := #[.bool false, .string (⟨#[]⟩ : ByteArray), .int .i64 0]) ?_ 0 _ rfl; refine blk_up ?_; refine blk_far ?_ NB477_476.out _; refine blk_up ?_; refine blk_far ?_ NB477_476.out _; refine blk_up ?_; refine blk_far ?_ NB477_476.out _; refine blk_up ?_; exact BK477.out) hb); have n2_ := Aside0.mk (below_step (by repeat (first | (with_reducible first | exact HB.out | apply below_alloc | apply pw_below_drewN | apply below_drew1 | refine below_set ?_ GE476.out | refine below_set ?_ GE477.out) | exact HB.out)) hb); clear BK476; clear BK477; clear HB; have BK476 := n0_; have BK477 := n1_; have HB := n2_; clear n0_ n1_ n2_; (try clear hb); (try clear hb2); (try clear hk); (try clear hi)) | ((with_reducible refine gate_dst (N := 5) rfl ?_); refine box_event ?hg (N := 5) ?hd (cs := #[.bool false, .string (⟨#[]⟩ : ByteArray), .int .i64 0]) (t := 26) ?hr ?_; (case hd => rfl); (case hg => rfl); (case hr => first | (go_simp; done) | (go_simp; rfl)); intro gb482 hg w15 hbox hb; have n0_ := Aside0.mk (blk_below (g := gb476) (o := .cells #[.bool t470, .string t471, .int .i64 t472] 26 (0, 0)) (by refine blk_up ?_; exact BK476.out) hb); have n1_ := Aside0.mk (blk_below (g := gb477) (o := .cells #[.bool t473, .string t474, .int .i64 t475] 26 (0, 0)) (by refine blk_up ?_; exact BK477.out) hb); have n2_ := Aside0.mk (below_step (by repeat (first | (with_reducible first | exact HB.out | apply below_alloc | apply pw_below_drewN | apply below_drew1 | refine below_set ?_ GE476.out | refine below_set ?_ GE477.out) | exact HB.out)) hb); have n3_ := Aside0.mk (hbox); have n4_ := Aside0.mk ((by rw [hg]; exact (below_size (by repeat (first | (with_reducible first | exact HB.out | apply below_alloc | apply pw_below_drewN | apply below_drew1 | refine below_set ?_ GE476.out | refine below_set ?_ GE477.out) | exact HB.out))) : w.heap.size ≤ gb482)); have n5_ := Aside0.mk ((by rw [hg]; exact (below_size (by repeat (first | (with_reducible first | exact HB.out | apply below_alloc | apply pw_below_drewN | apply below_drew1 | refine below_set ?_ GE476.out | refine below_set ?_ GE477.out) | exact HB.out))) : w.heap.size ≤ gb482)); have n6_ := Aside0.mk ((by rw [hg]; exact Nat.ne_of_lt (blk_lt (g := gb476) (o := .cells #[.bool t470, .string t471, .int .i64 t472] 26 (0, 0)) (by refine blk_up ?_; exact BK476.out)) : gb476 ≠ gb482)); have n7_ := Aside0.mk ((by rw [hg]; exact Nat.ne_of_gt (blk_lt (g := gb476) (o := .cells #[.bool t470, .string t471, .int .i64 t472] 26 (0, 0)) (by refine blk_up ?_; exact BK476.out)) : gb482 ≠ gb476)); have n8_ := Aside0.mk ((by rw [hg]; exact Nat.ne_of_lt (blk_lt (g := gb477) (o := .cells #[.bool t473, .string t474, .int .i64 t475] 26 (0, 0)) (by refine blk_up ?_; exact BK477.out)) : gb477 ≠ gb482)); have n9_ := Aside0.mk ((by rw [hg]; exact Nat.ne_of_gt (blk_lt (g := gb477) (o := .cells #[.bool t473, .string t474, .int .i64 t475] 26 (0, 0)) (by refine blk_up ?_; exact BK477.out)) : gb482 ≠ gb477)); clear BK476; clear BK477; clear HB; have BK476 := n0_; have BK477 := n1_; have HB := n2_; have BK482 := n3_; have GW482 := n4_; have GE482 := n5_; have NB476_482 := n6_; have NB482_476 := n7_; have NB477_482 := n8_; have NB482_477 := n9_; clear n0_ n1_ n2_ n3_ n4_ n5_ n6_ n7_ n8_ n9_; clear hb hbox hg; have hnb16 := NB482_476.out; have hnc16 := NB476_482.out; have hnb17 := NB482_477.out; have hnc17 := NB477_482.out; have hcz18_0 : w15.cell? ⟨gb482, 0, none⟩ = some (.bool false) := (blk_cell BK482.out 0).trans rfl; have hcz18_1 : w15.cell? ⟨gb482, 1, none⟩ = some (.string (⟨#[]⟩ : ByteArray)) := (blk_cell BK482.out 1).trans rfl; have hcz18_2 : w15.cell? ⟨gb482, 2, none⟩ = some (.int .i64 0) := (blk_cell BK482.out 2).trans rfl; have hfz18_0 := blk_frozen BK482.out 0; have hfz18_1 := blk_frozen BK482.out 1; have hfz18_2 := blk_frozen BK482.out 2; have hcz19_0 : w15.cell? ⟨gb476, 0, none⟩ = some (.bool t470) := (blk_cell BK476.out 0).trans rfl; have hcz19_1 : w15.cell? ⟨gb476, 1, none⟩ = some (.string t471) := (blk_cell BK476.out 1).trans rfl; have hcz19_2 : w15.cell? ⟨gb476, 2, none⟩ = some (.int .i64 t472) := (blk_cell BK476.out 2).trans rfl; have hfz19_0 := blk_frozen BK476.out 0; have hfz19_1 := blk_frozen BK476.out 1; have hfz19_2 := blk_frozen BK476.out 2; have hcz20_0 : w15.cell? ⟨gb477, 0, none⟩ = some (.bool t473) := (blk_cell BK477.out 0).trans rfl; have hcz20_1 : w15.cell? ⟨gb477, 1, none⟩ = some (.string t474) := (blk_cell BK477.out 1).trans rfl; have hcz20_2 : w15.cell? ⟨gb477, 2, none⟩ = some (.int .i64 t475) := (blk_cell BK477.out 2).trans rfl; have hfz20_0 := blk_frozen BK477.out 0; have hfz20_1 := blk_frozen BK477.out 1; have hfz20_2 := blk_frozen BK477.out 2) | ((with_reducible refine gate_callee (f := 23) rfl ?_); refine goesL_ (some 29) rfl rfl Tryd.func23 (by kernel_rfl) rfl #[.agg #[.bool t470, .string t471, .int .i64 t472], .agg #[.bool t473, .string t474, .int .i64 t475]] rfl (by (try simp only [List.map_toArray, List.map_cons, List.map_nil]); first | done | rfl | (simp only [List.length_drop, List.length_take]; rfl)) ?_; (with_reducible refine (spec_AddDec.calls k t470 t471 t472 t473 t474 t475 t483 t484 t485 t486 _ A6.out).mono ?_); rintro e w21 ⟨rfl, hb⟩; refine ⟨_, rfl, ?_⟩; have n0_ := Aside0.mk (blk_below (g := gb476) (o := .cells #[.bool t470, .string t471, .int .i64 t472] 26 (0, 0)) (by refine blk_up ?_; refine blk_far ?_ NB476_482.out _; refine blk_up ?_; refine blk_far ?_ NB476_482.out _; refine blk_up ?_; refine blk_far ?_ NB476_482.out _; refine blk_up ?_; exact BK476.out) hb); have n1_ := Aside0.mk (blk_below (g := gb477) (o := .cells #[.bool t473, .string t474, .int .i64 t475] 26 (0, 0)) (by refine blk_up ?_; refine blk_far ?_ NB477_482.out _; refine blk_up ?_; refine blk_far ?_ NB477_482.out _; refine blk_up ?_; refine blk_far ?_ NB477_482.out _; refine blk_up ?_; exact BK477.out) hb); have n2_ := Aside0.mk (blk_below (g := gb482) (o := .cells #[.bool t478, .string t479, .int .i64 t480] 26 (0, 0)) (by refine blk_up ?_; refine blk_put (cs := #[.bool t478, .string t479, .int .i64 0]) ?_ 2 _ rfl; refine blk_up ?_; refine blk_put (cs := #[.bool t478, .string (⟨#[]⟩ : ByteArray), .int .i64 0]) ?_ 1 _ rfl; refine blk_up ?_; refine blk_put (cs := #[.bool false, .string (⟨#[]⟩ : ByteArray), .int .i64 0]) ?_ 0 _ rfl; refine blk_up ?_; exact BK482.out) hb); have n3_ := Aside0.mk (below_step (by repeat (first | (with_reducible first | exact HB.out | apply below_alloc | apply pw_below_drewN | apply below_drew1 | refine below_set ?_ GE476.out | refine below_set ?_ GE477.out | refine below_set ?_ GE482.out) | exact HB.out)) hb); clear BK476; clear BK477; clear BK482; clear HB; have BK476 := n0_; have BK477 := n1_; have BK482 := n2_; have HB := n3_; clear n0_ n1_ n2_ n3_; (try clear hb); (try clear hb2); (try clear hk); (try clear hi)) | ((with_reducible refine gate_dst (N := 7) rfl ?_); refine box_event ?hg (N := 7) ?hd (cs := #[.bool false, .string (⟨#[]⟩ : ByteArray), .int .i64 0]) (t := 26) ?hr ?_; (case hd => rfl); (case hg => rfl); (case hr => first | (go_simp; done) | (go_simp; rfl)); intro gb487 hg w22 hbox hb; have n0_ := Aside0.mk (blk_below (g := gb476) (o := .cells #[.bool t470, .string t471, .int .i64 t472] 26 (0, 0)) (by refine blk_up ?_; exact BK476.out) hb); have n1_ := Aside0.mk (blk_below (g := gb477) (o := .cells #[.bool t473, .string t474, .int .i64 t475] 26 (0, 0)) (by refine blk_up ?_; exact BK477.out) hb); have n2_ := Aside0.mk (blk_below (g := gb482) (o := .cells #[.bool t478, .string t479, .int .i64 t480] 26 (0, 0)) (by refine blk_up ?_; exact BK482.out) hb); have n3_ := Aside0.mk (below_step (by repeat (first | (with_reducible first | exact HB.out | apply below_alloc | apply pw_below_drewN | apply below_drew1 | refine below_set ?_ GE476.out | refine below_set ?_ GE477.out | refine below_set ?_ GE482.out) | exact HB.out)) hb); have n4_ := Aside0.mk (hbox); have n5_ := Aside0.mk ((by rw [hg]; exact (below_size (by repeat (first | (with_reducible first | exact HB.out | apply below_alloc | apply pw_below_drewN | apply below_drew1 | refine below_set ?_ GE476.out | refine below_set ?_ GE477.out | refine below_set ?_ GE482.out) | exact HB.out))) : w.heap.size ≤ gb487)); have n6_ := Aside0.mk ((by rw [hg]; exact (below_size (by repeat (first | (with_reducible first | exact HB.out | apply below_alloc | apply pw_below_drewN | apply below_drew1 | refine below_set ?_ GE476.out | refine below_set ?_ GE477.out | refine below_set ?_ GE482.out) | exact HB.out))) : w.heap.size ≤ gb487)); have n7_ := Aside0.mk ((by rw [hg]; exact Nat.ne_of_lt (blk_lt (g := gb476) (o := .cells #[.bool t470, .string t471, .int .i64 t472] 26 (0, 0)) (by refine blk_up ?_; exact BK476.out)) : gb476 ≠ gb487)); have n8_ := Aside0.mk ((by rw [hg]; exact Nat.ne_of_gt (blk_lt (g := gb476) (o := .cells #[.bool t470, .string t471, .int .i64 t472] 26 (0, 0)) (by refine blk_up ?_; exact BK476.out)) : gb487 ≠ gb476)); have n9_ := Aside0.mk ((by rw [hg]; exact Nat.ne_of_lt (blk_lt (g := gb477) (o := .cells #[.bool t473, .string t474, .int .i64 t475] 26 (0, 0)) (by refine blk_up ?_; exact BK477.out)) : gb477 ≠ gb487)); have n10_ := Aside0.mk ((by rw [hg]; exact Nat.ne_of_gt (blk_lt (g := gb477) (o := .cells #[.bool t473, .string t474, .int .i64 t475] 26 (0, 0)) (by refine blk_up ?_; exact BK477.out)) : gb487 ≠ gb477)); have n11_ := Aside0.mk ((by rw [hg]; exact Nat.ne_of_lt (blk_lt (g := gb482) (o := .cells #[.bool t478, .string t479, .int .i64 t480] 26 (0, 0)) (by refine blk_up ?_; exact BK482.out)) : gb482 ≠ gb487)); have n12_ := Aside0.mk ((by rw [hg]; exact Nat.ne_of_gt (blk_lt (g := gb482) (o := .cells #[.bool t478, .string t479, .int .i64 t480] 26 (0, 0)) (by refine blk_up ?_; exact BK482.out)) : gb487 ≠ gb482)); clear BK476; clear BK477; clear BK482; clear HB; have BK476 := n0_; have BK477 := n1_; have BK482 := n2_; have HB := n3_; have BK487 := n4_; have GW487 := n5_; have GE487 := n6_; have NB476_487 := n7_; have NB487_476 := n8_; have NB477_487 := n9_; have NB487_477 := n10_; have NB482_487 := n11_; have NB487_482 := n12_; clear n0_ n1_ n2_ n3_ n4_ n5_ n6_ n7_ n8_ n9_ n10_ n11_ n12_; clear hb hbox hg; have hnb23 := NB487_476.out; have hnc23 := NB476_487.out; have hnb24 := NB487_477.out; have hnc24 := NB477_487.out; have hnb25 := NB487_482.out; have hnc25 := NB482_487.out; have hcz26_0 : w22.cell? ⟨gb487, 0, none⟩ = some (.bool false) := (blk_cell BK487.out 0).trans rfl; have hcz26_1 : w22.cell? ⟨gb487, 1, none⟩ = some (.string (⟨#[]⟩ : ByteArray)) := (blk_cell BK487.out 1).trans rfl; have hcz26_2 : w22.cell? ⟨gb487, 2, none⟩ = some (.int .i64 0) := (blk_cell BK487.out 2).trans rfl; have hfz26_0 := blk_frozen BK487.out 0; have hfz26_1 := blk_frozen BK487.out 1; have hfz26_2 := blk_frozen BK487.out 2))
    (try simp only [Act.put, List.setIfInBounds_toArray, List.set_cons_zero, List.set_cons_succ])
    go_cut [43] (fun v43 wc => ∃ (kq : Nat) (x43_6 : Bool), v43 = .bool x43_6 ∧ Aside0 (laws_FnAdded.j0 kq t481 t486 x43_6 t470 t471 t472 t473 t474 t475 t478 t479 t480 t483 t484 t485 = some r) ∧ Aside0 (kq ≤ k) ∧ Aside0 (wc.heap[gb476]? = some (.cells #[.bool t470, .string t471, .int .i64 t472] 26 (0, 0))) ∧ Aside0 (wc.heap[gb477]? = some (.cells #[.bool t473, .string t474, .int .i64 t475] 26 (0, 0))) ∧ Aside0 (wc.heap[gb482]? = some (.cells #[.bool t478, .string t479, .int .i64 t480] 26 (0, 0))) ∧ Aside0 (wc.heap[gb487]? = some (.cells #[.bool t483, .string t484, .int .i64 t485] 26 (0, 0))) ∧ Aside0 (Below w.heap.size w wc))
    case first =>
      have H := HC7.out
      clear HC7
      by_cases c27 : (!(t478 == t483) || (!(t479.toList == t484.toList) || (!(t480 == t485)))) = true
      · rw [if_pos c27] at H
        have c27b0 : (!(t478 == t483) || (!(t479.toList == t484.toList) || (!(t480 == t485)))) = true := c27
        clear c27
        (first | rw [c27b0] | (simp only [i64_w, i32_w]; rw [c27b0]) | skip)
        have H' := Aside0.mk H
        clear H
        have hnb28 := NB482_476.out
        have hnc28 := NB476_482.out
        have hnb29 := NB482_477.out
        have hnc29 := NB477_482.out
        have hnb30 := NB482_487.out
        have hnc30 := NB487_482.out
        have hcz31_0 : w22.cell? ⟨gb482, 0, none⟩ = some (.bool t478) := (blk_cell BK482.out 0).trans rfl
        have hcz31_1 : w22.cell? ⟨gb482, 1, none⟩ = some (.string t479) := (blk_cell BK482.out 1).trans rfl
        have hcz31_2 : w22.cell? ⟨gb482, 2, none⟩ = some (.int .i64 t480) := (blk_cell BK482.out 2).trans rfl
        have hfz31_0 := blk_frozen BK482.out 0
        have hfz31_1 := blk_frozen BK482.out 1
        have hfz31_2 := blk_frozen BK482.out 2
        have hnb32 := NB487_476.out
        have hnc32 := NB476_487.out
        have hnb33 := NB487_477.out
        have hnc33 := NB477_487.out
        have hcz34_0 : w22.cell? ⟨gb487, 0, none⟩ = some (.bool false) := (blk_cell BK487.out 0).trans rfl
        have hcz34_1 : w22.cell? ⟨gb487, 1, none⟩ = some (.string (⟨#[]⟩ : ByteArray)) := (blk_cell BK487.out 1).trans rfl
        have hcz34_2 : w22.cell? ⟨gb487, 2, none⟩ = some (.int .i64 0) := (blk_cell BK487.out 2).trans rfl
        have hfz34_0 := blk_frozen BK487.out 0
        have hfz34_1 := blk_frozen BK487.out 1
        have hfz34_2 := blk_frozen BK487.out 2
        go_wp2
        go_meet
        case rel => exact ⟨_, (true), (by first | rfl | (simp; done) | (simp [*]; done)), H', ⟨by first | omega | exact Nat.le_refl _⟩, ⟨by refine blk_up ?_; refine blk_far ?_ NB476_487.out _; refine blk_up ?_; refine blk_far ?_ NB476_487.out _; refine blk_up ?_; refine blk_far ?_ NB476_487.out _; refine blk_up ?_; exact BK476.out⟩, ⟨by refine blk_up ?_; refine blk_far ?_ NB477_487.out _; refine blk_up ?_; refine blk_far ?_ NB477_487.out _; refine blk_up ?_; refine blk_far ?_ NB477_487.out _; refine blk_up ?_; exact BK477.out⟩, ⟨by refine blk_up ?_; refine blk_far ?_ NB482_487.out _; refine blk_up ?_; refine blk_far ?_ NB482_487.out _; refine blk_up ?_; refine blk_far ?_ NB482_487.out _; refine blk_up ?_; exact BK482.out⟩, ⟨by refine blk_up ?_; refine blk_put (cs := #[.bool t483, .string t484, .int .i64 0]) ?_ 2 _ rfl; refine blk_up ?_; refine blk_put (cs := #[.bool t483, .string (⟨#[]⟩ : ByteArray), .int .i64 0]) ?_ 1 _ rfl; refine blk_up ?_; refine blk_put (cs := #[.bool false, .string (⟨#[]⟩ : ByteArray), .int .i64 0]) ?_ 0 _ rfl; refine blk_up ?_; exact BK487.out⟩, ⟨by repeat (first | (with_reducible first | exact HB.out | apply below_alloc | apply pw_below_drewN | apply below_drew1 | refine below_set ?_ GE476.out | refine below_set ?_ GE477.out | refine below_set ?_ GE482.out | refine below_set ?_ GE487.out) | exact HB.out)⟩⟩
      · rw [if_neg c27] at H
        have c27b0 : (!(t478 == t483) || (!(t479.toList == t484.toList) || (!(t480 == t485)))) = false := by simpa using c27
        clear c27
        (first | rw [c27b0] | (simp only [i64_w, i32_w]; rw [c27b0]) | skip)
        by_cases c35 : (t481 != t486) = true
        · rw [if_pos c35] at H
          have c35b0 : (t481 != t486) = true := c35
          (try (have c35b1 : decide (t481 = t486) = false := by simpa using c35))
          (try (have c35b2 : (t481 == t486) = false := by simpa using c35))
          (try (have c35b3 : ¬ (t481 = t486) := by simpa using c35))
          clear c35
          have H' := Aside0.mk H
          clear H
          have hnb36 := NB482_476.out
          have hnc36 := NB476_482.out
          have hnb37 := NB482_477.out
          have hnc37 := NB477_482.out
          have hnb38 := NB482_487.out
          have hnc38 := NB487_482.out
          have hcz39_0 : w22.cell? ⟨gb482, 0, none⟩ = some (.bool t478) := (blk_cell BK482.out 0).trans rfl
          have hcz39_1 : w22.cell? ⟨gb482, 1, none⟩ = some (.string t479) := (blk_cell BK482.out 1).trans rfl
          have hcz39_2 : w22.cell? ⟨gb482, 2, none⟩ = some (.int .i64 t480) := (blk_cell BK482.out 2).trans rfl
          have hfz39_0 := blk_frozen BK482.out 0
          have hfz39_1 := blk_frozen BK482.out 1
          have hfz39_2 := blk_frozen BK482.out 2
          have hnb40 := NB487_476.out
          have hnc40 := NB476_487.out
          have hnb41 := NB487_477.out
          have hnc41 := NB477_487.out
          have hcz42_0 : w22.cell? ⟨gb487, 0, none⟩ = some (.bool false) := (blk_cell BK487.out 0).trans rfl
          have hcz42_1 : w22.cell? ⟨gb487, 1, none⟩ = some (.string (⟨#[]⟩ : ByteArray)) := (blk_cell BK487.out 1).trans rfl
          have hcz42_2 : w22.cell? ⟨gb487, 2, none⟩ = some (.int .i64 0) := (blk_cell BK487.out 2).trans rfl
          have hfz42_0 := blk_frozen BK487.out 0
          have hfz42_1 := blk_frozen BK487.out 1
          have hfz42_2 := blk_frozen BK487.out 2
          go_wp2
          go_meet
          case rel => exact ⟨_, (true), (by first | rfl | (simp; done) | (simp [*]; done)), H', ⟨by first | omega | exact Nat.le_refl _⟩, ⟨by refine blk_up ?_; refine blk_far ?_ NB476_487.out _; refine blk_up ?_; refine blk_far ?_ NB476_487.out _; refine blk_up ?_; refine blk_far ?_ NB476_487.out _; refine blk_up ?_; exact BK476.out⟩, ⟨by refine blk_up ?_; refine blk_far ?_ NB477_487.out _; refine blk_up ?_; refine blk_far ?_ NB477_487.out _; refine blk_up ?_; refine blk_far ?_ NB477_487.out _; refine blk_up ?_; exact BK477.out⟩, ⟨by refine blk_up ?_; refine blk_far ?_ NB482_487.out _; refine blk_up ?_; refine blk_far ?_ NB482_487.out _; refine blk_up ?_; refine blk_far ?_ NB482_487.out _; refine blk_up ?_; exact BK482.out⟩, ⟨by refine blk_up ?_; refine blk_put (cs := #[.bool t483, .string t484, .int .i64 0]) ?_ 2 _ rfl; refine blk_up ?_; refine blk_put (cs := #[.bool t483, .string (⟨#[]⟩ : ByteArray), .int .i64 0]) ?_ 1 _ rfl; refine blk_up ?_; refine blk_put (cs := #[.bool false, .string (⟨#[]⟩ : ByteArray), .int .i64 0]) ?_ 0 _ rfl; refine blk_up ?_; exact BK487.out⟩, ⟨by repeat (first | (with_reducible first | exact HB.out | apply below_alloc | apply pw_below_drewN | apply below_drew1 | refine below_set ?_ GE476.out | refine below_set ?_ GE477.out | refine below_set ?_ GE482.out | refine below_set ?_ GE487.out) | exact HB.out)⟩⟩
        · rw [if_neg c35] at H
          have c35b0 : (t481 != t486) = false := by simpa using c35
          (try (have c35b1 : decide (t481 = t486) = true := by simpa using c35))
          (try (have c35b2 : (t481 == t486) = true := by simpa using c35))
          clear c35
          have H' := Aside0.mk H
          clear H
          have hnb43 := NB482_476.out
          have hnc43 := NB476_482.out
          have hnb44 := NB482_477.out
          have hnc44 := NB477_482.out
          have hnb45 := NB482_487.out
          have hnc45 := NB487_482.out
          have hcz46_0 : w22.cell? ⟨gb482, 0, none⟩ = some (.bool t478) := (blk_cell BK482.out 0).trans rfl
          have hcz46_1 : w22.cell? ⟨gb482, 1, none⟩ = some (.string t479) := (blk_cell BK482.out 1).trans rfl
          have hcz46_2 : w22.cell? ⟨gb482, 2, none⟩ = some (.int .i64 t480) := (blk_cell BK482.out 2).trans rfl
          have hfz46_0 := blk_frozen BK482.out 0
          have hfz46_1 := blk_frozen BK482.out 1
          have hfz46_2 := blk_frozen BK482.out 2
          have hnb47 := NB487_476.out
          have hnc47 := NB476_487.out
          have hnb48 := NB487_477.out
          have hnc48 := NB477_487.out
          have hcz49_0 : w22.cell? ⟨gb487, 0, none⟩ = some (.bool false) := (blk_cell BK487.out 0).trans rfl
          have hcz49_1 : w22.cell? ⟨gb487, 1, none⟩ = some (.string (⟨#[]⟩ : ByteArray)) := (blk_cell BK487.out 1).trans rfl
          have hcz49_2 : w22.cell? ⟨gb487, 2, none⟩ = some (.int .i64 0) := (blk_cell BK487.out 2).trans rfl
          have hfz49_0 := blk_frozen BK487.out 0
          have hfz49_1 := blk_frozen BK487.out 1
          have hfz49_2 := blk_frozen BK487.out 2
          go_wp2
          go_meet
          case rel => exact ⟨_, (!t481), (by first | rfl | (simp; done) | (simp [*]; done)), H', ⟨by first | omega | exact Nat.le_refl _⟩, ⟨by refine blk_up ?_; refine blk_far ?_ NB476_487.out _; refine blk_up ?_; refine blk_far ?_ NB476_487.out _; refine blk_up ?_; refine blk_far ?_ NB476_487.out _; refine blk_up ?_; exact BK476.out⟩, ⟨by refine blk_up ?_; refine blk_far ?_ NB477_487.out _; refine blk_up ?_; refine blk_far ?_ NB477_487.out _; refine blk_up ?_; refine blk_far ?_ NB477_487.out _; refine blk_up ?_; exact BK477.out⟩, ⟨by refine blk_up ?_; refine blk_far ?_ NB482_487.out _; refine blk_up ?_; refine blk_far ?_ NB482_487.out _; refine blk_up ?_; refine blk_far ?_ NB482_487.out _; refine blk_up ?_; exact BK482.out⟩, ⟨by refine blk_up ?_; refine blk_put (cs := #[.bool t483, .string t484, .int .i64 0]) ?_ 2 _ rfl; refine blk_up ?_; refine blk_put (cs := #[.bool t483, .string (⟨#[]⟩ : ByteArray), .int .i64 0]) ?_ 1 _ rfl; refine blk_up ?_; refine blk_put (cs := #[.bool false, .string (⟨#[]⟩ : ByteArray), .int .i64 0]) ?_ 0 _ rfl; refine blk_up ?_; exact BK487.out⟩, ⟨by repeat (first | (with_reducible first | exact HB.out | apply below_alloc | apply pw_below_drewN | apply below_drew1 | refine below_set ?_ GE476.out | refine below_set ?_ GE477.out | refine below_set ?_ GE482.out | refine below_set ?_ GE487.out) | exact HB.out)⟩⟩
    case rest =>
      clear HC7
      try clear c1
      try clear c2
      try clear p2
      try clear c3
      try clear c4
      try clear c6
      try clear c11
      try clear c15
      try clear c16
      try clear c17
      try clear c20
      try clear c22
      try clear c23
      try clear c24
      try clear c25
      try clear c27
      try clear c27b0
      try clear c28
      try clear c29
      try clear c30
      try clear c32
      try clear c33
      try clear c35
      try clear c35b0
      try clear c35b1
      try clear c35b2
      try clear c36
      try clear c37
      try clear c38
      try clear c40
      try clear c41
      try clear c43
      try clear c44
      try clear c45
      try clear c47
      try clear c48
      try clear hcz12_0
      try clear hcz12_1
      try clear hcz12_2
      try clear hcz13_0
      try clear hcz13_1
      try clear hcz13_2
      try clear hcz18_0
      try clear hcz18_1
      try clear hcz18_2
      try clear hcz19_0
      try clear hcz19_1
      try clear hcz19_2
      try clear hcz20_0
      try clear hcz20_1
      try clear hcz20_2
      try clear hcz26_0
      try clear hcz26_1
      try clear hcz26_2
      try clear hcz31_0
      try clear hcz31_1
      try clear hcz31_2
      try clear hcz34_0
      try clear hcz34_1
      try clear hcz34_2
      try clear hcz39_0
      try clear hcz39_1
      try clear hcz39_2
      try clear hcz42_0
      try clear hcz42_1
      try clear hcz42_2
      try clear hcz46_0
      try clear hcz46_1
      try clear hcz46_2
      try clear hcz49_0
      try clear hcz49_1
      try clear hcz49_2
      try clear hfz12_0
      try clear hfz12_1
      try clear hfz12_2
      try clear hfz13_0
      try clear hfz13_1
      try clear hfz13_2
      try clear hfz18_0
      try clear hfz18_1
      try clear hfz18_2
      try clear hfz19_0
      try clear hfz19_1
      try clear hfz19_2
      try clear hfz20_0
      try clear hfz20_1
      try clear hfz20_2
      try clear hfz26_0
      try clear hfz26_1
      try clear hfz26_2
      try clear hfz31_0
      try clear hfz31_1
      try clear hfz31_2
      try clear hfz34_0
      try clear hfz34_1
      try clear hfz34_2
      try clear hfz39_0
      try clear hfz39_1
      try clear hfz39_2
      try clear hfz42_0
      try clear hfz42_1
      try clear hfz42_2
      try clear hfz46_0
      try clear hfz46_1
      try clear hfz46_2
      try clear hfz49_0
      try clear hfz49_1
      try clear hfz49_2
      obtain ⟨kq, x43_6, rfl, HA, HJ6, BK476, BK477, BK482, BK487, HB⟩ := hcut
      cases kq with
      | zero => exact absurd HA.out (by simp [laws_FnAdded.j0])
      | succ kj6 =>
        have H := HA.out
        clear HA
        simp only [laws_FnAdded.j0] at H
        by_cases c50 : x43_6 = true
        · subst c50
          have H1 : (if (t478 == t483 && (t479.toList == t484.toList && (t480 == t485))) = true then (some (t481 == t486)) else (none)) = some r := by rw [if_pos rfl] at H; exact H
          clear H
          have H := H1
          clear H1
          by_cases c51 : (t478 == t483 && (t479.toList == t484.toList && (t480 == t485))) = true
          · rw [if_pos c51] at H
            have c51b0 : (t478 == t483 && (t479.toList == t484.toList && (t480 == t485))) = true := c51
            (try (have c51b1 : decide (t478 = t483 && (t479.toList == t484.toList && (t480 == t485))) = true := by simpa using c51))
            (try (have c51b2 : (t478 == t483 && (t479.toList == t484.toList && (t480 == t485))) = true := by simpa using c51))
            clear c51
            obtain rfl := Option.some.inj H
            have hnb52 := NB482_476.out
            have hnc52 := NB476_482.out
            have hnb53 := NB482_477.out
            have hnc53 := NB477_482.out
            have hnb54 := NB482_487.out
            have hnc54 := NB487_482.out
            have hcz55_0 : wc.cell? ⟨gb482, 0, none⟩ = some (.bool t478) := (blk_cell BK482.out 0).trans rfl
            have hcz55_1 : wc.cell? ⟨gb482, 1, none⟩ = some (.string t479) := (blk_cell BK482.out 1).trans rfl
            have hcz55_2 : wc.cell? ⟨gb482, 2, none⟩ = some (.int .i64 t480) := (blk_cell BK482.out 2).trans rfl
            have hfz55_0 := blk_frozen BK482.out 0
            have hfz55_1 := blk_frozen BK482.out 1
            have hfz55_2 := blk_frozen BK482.out 2
            have hnb56 := NB487_476.out
            have hnc56 := NB476_487.out
            have hnb57 := NB487_477.out
            have hnc57 := NB477_487.out
            have hcz58_0 : wc.cell? ⟨gb487, 0, none⟩ = some (.bool t483) := (blk_cell BK487.out 0).trans rfl
            have hcz58_1 : wc.cell? ⟨gb487, 1, none⟩ = some (.string t484) := (blk_cell BK487.out 1).trans rfl
            have hcz58_2 : wc.cell? ⟨gb487, 2, none⟩ = some (.int .i64 t485) := (blk_cell BK487.out 2).trans rfl
            have hfz58_0 := blk_frozen BK487.out 0
            have hfz58_1 := blk_frozen BK487.out 1
            have hfz58_2 := blk_frozen BK487.out 2
            go_wp2
            go_ret
            exact ⟨by first | rfl | (simp [errW_none, errW_some] <;> rfl) | (simp [*, errW_none, errW_some] <;> rfl), by repeat (first | (with_reducible first | exact HB.out | apply below_alloc | apply pw_below_drewN | apply below_drew1 | refine below_set ?_ GE476.out | refine below_set ?_ GE477.out | refine below_set ?_ GE482.out | refine below_set ?_ GE487.out) | exact HB.out)⟩
          · rw [if_neg c51] at H
            exact absurd H (by simp)
        · replace c50 := Bool.eq_false_iff.mpr c50
          subst c50
          have H1 : ((impl_AddDec.f kj6 t473 t474 t475 t470 t471 t472).bind fun bt488 => (if t474.toList = ([] : List UInt8) then ((impl_AddDec.f kj6 t478 t479 t480 false t474 t475).bind fun bt493 => (if bt488.2.2.2 = true then (if (bt488.1 == t478 && (bt488.2.1.toList == t479.toList && (bt488.2.2.1 == t480))) = true then (if bt493.2.2.2 = true then (if (bt493.1 == t470 && (bt493.2.1.toList == t471.toList && (bt493.2.2.1 == t472))) = true then ((impl_CompareDec.f kj6 t478 t479 t480 t470 t471 t472).bind fun t503 => ((impl_CompareDec.f kj6 false (⟨#[]⟩ : ByteArray) 0 t473 t474 t475).bind fun t504 => (some (t503 == (wrap64 (-t504)))))) else (none)) else (none)) else (none)) else (none))) else ((impl_AddDec.f kj6 t478 t479 t480 (!t473) t474 t475).bind fun bt498 => (if bt488.2.2.2 = true then (if (bt488.1 == t478 && (bt488.2.1.toList == t479.toList && (bt488.2.2.1 == t480))) = true then (if bt498.2.2.2 = true then (if (bt498.1 == t470 && (bt498.2.1.toList == t471.toList && (bt498.2.2.1 == t472))) = true then ((impl_CompareDec.f kj6 t478 t479 t480 t470 t471 t472).bind fun t505 => ((impl_CompareDec.f kj6 false (⟨#[]⟩ : ByteArray) 0 t473 t474 t475).bind fun t506 => (some (t505 == (wrap64 (-t506)))))) else (none)) else (none)) else (none)) else (none))))) = some r := by rw [if_neg (show ¬ (false = true) by decide)] at H; exact H
          clear H
          have H := H1
          clear H1
          replace H := Option.bind_eq_some_iff.mp H
          obtain ⟨⟨t488, t489, t490, t491⟩, A590, H⟩ := H
          replace H : (if t474.toList = ([] : List UInt8) then ((impl_AddDec.f kj6 t478 t479 t480 false t474 t475).bind fun bt493 => (if t491 = true then (if (t488 == t478 && (t489.toList == t479.toList && (t490 == t480))) = true then (if bt493.2.2.2 = true then (if (bt493.1 == t470 && (bt493.2.1.toList == t471.toList && (bt493.2.2.1 == t472))) = true then ((impl_CompareDec.f kj6 t478 t479 t480 t470 t471 t472).bind fun t503 => ((impl_CompareDec.f kj6 false (⟨#[]⟩ : ByteArray) 0 t473 t474 t475).bind fun t504 => (some (t503 == (wrap64 (-t504)))))) else (none)) else (none)) else (none)) else (none))) else ((impl_AddDec.f kj6 t478 t479 t480 (!t473) t474 t475).bind fun bt498 => (if t491 = true then (if (t488 == t478 && (t489.toList == t479.toList && (t490 == t480))) = true then (if bt498.2.2.2 = true then (if (bt498.1 == t470 && (bt498.2.1.toList == t471.toList && (bt498.2.2.1 == t472))) = true then ((impl_CompareDec.f kj6 t478 t479 t480 t470 t471 t472).bind fun t505 => ((impl_CompareDec.f kj6 false (⟨#[]⟩ : ByteArray) 0 t473 t474 t475).bind fun t506 => (some (t505 == (wrap64 (-t506)))))) else (none)) else (none)) else (none)) else (none)))) = some r := H
          have A59 := Aside0.mk A590
          clear A590
          by_cases c60 : t474.toList = ([] : List UInt8)
          · rw [if_pos c60] at H
            have c60b0 : (t474.toList == ([] : List UInt8)) = true := beq_iff_eq.mpr c60
            have c60b1 : (t474.toList != ([] : List UInt8)) = false := bne_eq_false_iff_eq.mpr c60
            clear c60
            replace H := Option.bind_eq_some_iff.mp H
            obtain ⟨⟨t493, t494, t495, t496⟩, A610, H⟩ := H
            replace H : (if t491 = true then (if (t488 == t478 && (t489.toList == t479.toList && (t490 == t480))) = true then (if t496 = true then (if (t493 == t470 && (t494.toList == t471.toList && (t495 == t472))) = true then ((impl_CompareDec.f kj6 t478 t479 t480 t470 t471 t472).bind fun t503 => ((impl_CompareDec.f kj6 false (⟨#[]⟩ : ByteArray) 0 t473 t474 t475).bind fun t504 => (some (t503 == (wrap64 (-t504)))))) else (none)) else (none)) else (none)) else (none)) = some r := H
            have A61 := Aside0.mk A610
            clear A610
            by_cases c62 : t491 = true
            · subst c62
              have H1 : (if (t488 == t478 && (t489.toList == t479.toList && (t490 == t480))) = true then (if t496 = true then (if (t493 == t470 && (t494.toList == t471.toList && (t495 == t472))) = true then ((impl_CompareDec.f kj6 t478 t479 t480 t470 t471 t472).bind fun t503 => ((impl_CompareDec.f kj6 false (⟨#[]⟩ : ByteArray) 0 t473 t474 t475).bind fun t504 => (some (t503 == (wrap64 (-t504)))))) else (none)) else (none)) else (none)) = some r := by rw [if_pos rfl] at H; exact H
              clear H
              have H := H1
              clear H1
              by_cases c63 : (t488 == t478 && (t489.toList == t479.toList && (t490 == t480))) = true
              · rw [if_pos c63] at H
                have c63b0 : (t488 == t478 && (t489.toList == t479.toList && (t490 == t480))) = true := c63
                (try (have c63b1 : decide (t488 = t478 && (t489.toList == t479.toList && (t490 == t480))) = true := by simpa using c63))
                (try (have c63b2 : (t488 == t478 && (t489.toList == t479.toList && (t490 == t480))) = true := by simpa using c63))
                clear c63
                by_cases c64 : t496 = true
                · subst c64
                  have H1 : (if (t493 == t470 && (t494.toList == t471.toList && (t495 == t472))) = true then ((impl_CompareDec.f kj6 t478 t479 t480 t470 t471 t472).bind fun t503 => ((impl_CompareDec.f kj6 false (⟨#[]⟩ : ByteArray) 0 t473 t474 t475).bind fun t504 => (some (t503 == (wrap64 (-t504)))))) else (none)) = some r := by rw [if_pos rfl] at H; exact H
                  clear H
                  have H := H1
                  clear H1
                  by_cases c65 : (t493 == t470 && (t494.toList == t471.toList && (t495 == t472))) = true
                  · rw [if_pos c65] at H
                    have c65b0 : (t493 == t470 && (t494.toList == t471.toList && (t495 == t472))) = true := c65
                    (try (have c65b1 : decide (t493 = t470 && (t494.toList == t471.toList && (t495 == t472))) = true := by simpa using c65))
                    (try (have c65b2 : (t493 == t470 && (t494.toList == t471.toList && (t495 == t472))) = true := by simpa using c65))
                    clear c65
                    replace H := Option.bind_eq_some_iff.mp H
                    obtain ⟨t503, A660, H⟩ := H
                    replace H : ((impl_CompareDec.f kj6 false (⟨#[]⟩ : ByteArray) 0 t473 t474 t475).bind fun t504 => (some (t503 == (wrap64 (-t504))))) = some r := H
                    have A66 := Aside0.mk A660
                    clear A660
                    replace H := Option.bind_eq_some_iff.mp H
                    obtain ⟨t504, A670, H⟩ := H
                    replace H : (some (t503 == (wrap64 (-t504)))) = some r := H
                    have A67 := Aside0.mk A670
                    clear A670
                    obtain rfl := Option.some.inj H
                    have hnb68 := NB477_476.out
                    have hnc68 := NB476_477.out
                    have hnb69 := NB477_482.out
                    have hnc69 := NB482_477.out
                    have hnb70 := NB477_487.out
                    have hnc70 := NB487_477.out
                    have hcz71_0 : wc.cell? ⟨gb477, 0, none⟩ = some (.bool t473) := (blk_cell BK477.out 0).trans rfl
                    have hcz71_1 : wc.cell? ⟨gb477, 1, none⟩ = some (.string t474) := (blk_cell BK477.out 1).trans rfl
                    have hcz71_2 : wc.cell? ⟨gb477, 2, none⟩ = some (.int .i64 t475) := (blk_cell BK477.out 2).trans rfl
                    have hfz71_0 := blk_frozen BK477.out 0
                    have hfz71_1 := blk_frozen BK477.out 1
                    have hfz71_2 := blk_frozen BK477.out 2
                    have hnb72 := NB476_482.out
                    have hnc72 := NB482_476.out
                    have hnb73 := NB476_487.out
                    have hnc73 := NB487_476.out
                    have hcz74_0 : wc.cell? ⟨gb476, 0, none⟩ = some (.bool t470) := (blk_cell BK476.out 0).trans rfl
                    have hcz74_1 : wc.cell? ⟨gb476, 1, none⟩ = some (.string t471) := (blk_cell BK476.out 1).trans rfl
                    have hcz74_2 : wc.cell? ⟨gb476, 2, none⟩ = some (.int .i64 t472) := (blk_cell BK476.out 2).trans rfl
                    have hfz74_0 := blk_frozen BK476.out 0
                    have hfz74_1 := blk_frozen BK476.out 1
                    have hfz74_2 := blk_frozen BK476.out 2
                    try go_wp2_with (first | ((with_reducible refine gate_callee (f := 20) rfl ?_); refine goesL_ (some 55) rfl rfl Tryd.func20 (by kernel_rfl) rfl #[.agg #[.bool t473, .string t474, .int .i64 t475], .agg #[.bool t470, .string t471, .int .i64 t472]] rfl (by (try simp only [List.map_toArray, List.map_cons, List.map_nil]); first | done | rfl | (simp only [List.length_drop, List.length_take]; rfl)) ?_; (with_reducible refine (impl_AddDec.calls kj6 t473 t474 t475 t470 t471 t472 t488 t489 t490 true _ A59.out).mono ?_); rintro e w75 ⟨rfl, hb⟩; refine ⟨_, rfl, ?_⟩; have n0_ := Aside0.mk (blk_below (g := gb476) (o := .cells #[.bool t470, .string t471, .int .i64 t472] 26 (0, 0)) (by refine blk_up ?_; exact BK476.out) hb); have n1_ := Aside0.mk (blk_below (g := gb477) (o := .cells #[.bool t473, .string t474, .int .i64 t475] 26 (0, 0)) (by refine blk_up ?_; exact BK477.out) hb); have n2_ := Aside0.mk (blk_below (g := gb482) (o := .cells #[.bool t478, .string t479, .int .i64 t480] 26 (0, 0)) (by refine blk_up ?_; exact BK482.out) hb); have n3_ := Aside0.mk (blk_below (g := gb487) (o := .cells #[.bool t483, .string t484, .int .i64 t485] 26 (0, 0)) (by refine blk_up ?_; exact BK487.out) hb); have n4_ := Aside0.mk (below_step (by repeat (first | (with_reducible first | exact HB.out | apply below_alloc | apply pw_below_drewN | apply below_drew1 | refine below_set ?_ GE476.out | refine below_set ?_ GE477.out | refine below_set ?_ GE482.out | refine below_set ?_ GE487.out) | exact HB.out)) hb); clear BK476; clear BK477; clear BK482; clear BK487; clear HB; have BK476 := n0_; have BK477 := n1_; have BK482 := n2_; have BK487 := n3_; have HB := n4_; clear n0_ n1_ n2_ n3_ n4_; (try clear hb); (try clear hb2); (try clear hk); (try clear hi)) | ((with_reducible refine gate_dst (N := 9) rfl ?_); refine box_event ?hg (N := 9) ?hd (cs := #[.bool false, .string (⟨#[]⟩ : ByteArray), .int .i64 0]) (t := 26) ?hr ?_; (case hd => rfl); (case hg => rfl); (case hr => first | (go_simp; done) | (go_simp; rfl)); intro gb492 hg w76 hbox hb; have n0_ := Aside0.mk (blk_below (g := gb476) (o := .cells #[.bool t470, .string t471, .int .i64 t472] 26 (0, 0)) (by refine blk_up ?_; exact BK476.out) hb); have n1_ := Aside0.mk (blk_below (g := gb477) (o := .cells #[.bool t473, .string t474, .int .i64 t475] 26 (0, 0)) (by refine blk_up ?_; exact BK477.out) hb); have n2_ := Aside0.mk (blk_below (g := gb482) (o := .cells #[.bool t478, .string t479, .int .i64 t480] 26 (0, 0)) (by refine blk_up ?_; exact BK482.out) hb); have n3_ := Aside0.mk (blk_below (g := gb487) (o := .cells #[.bool t483, .string t484, .int .i64 t485] 26 (0, 0)) (by refine blk_up ?_; exact BK487.out) hb); have n4_ := Aside0.mk (below_step (by repeat (first | (with_reducible first | exact HB.out | apply below_alloc | apply pw_below_drewN | apply below_drew1 | refine below_set ?_ GE476.out | refine below_set ?_ GE477.out | refine below_set ?_ GE482.out | refine below_set ?_ GE487.out) | exact HB.out)) hb); have n5_ := Aside0.mk (hbox); have n6_ := Aside0.mk ((by rw [hg]; exact (below_size (by repeat (first | (with_reducible first | exact HB.out | apply below_alloc | apply pw_below_drewN | apply below_drew1 | refine below_set ?_ GE476.out | refine below_set ?_ GE477.out | refine below_set ?_ GE482.out | refine below_set ?_ GE487.out) | exact HB.out))) : w.heap.size ≤ gb492)); have n7_ := Aside0.mk ((by rw [hg]; exact (below_size (by repeat (first | (with_reducible first | exact HB.out | apply below_alloc | apply pw_below_drewN | apply below_drew1 | refine below_set ?_ GE476.out | refine below_set ?_ GE477.out | refine below_set ?_ GE482.out | refine below_set ?_ GE487.out) | exact HB.out))) : w.heap.size ≤ gb492)); have n8_ := Aside0.mk ((by rw [hg]; exact Nat.ne_of_lt (blk_lt (g := gb476) (o := .cells #[.bool t470, .string t471, .int .i64 t472] 26 (0, 0)) (by refine blk_up ?_; exact BK476.out)) : gb476 ≠ gb492)); have n9_ := Aside0.mk ((by rw [hg]; exact Nat.ne_of_gt (blk_lt (g := gb476) (o := .cells #[.bool t470, .string t471, .int .i64 t472] 26 (0, 0)) (by refine blk_up ?_; exact BK476.out)) : gb492 ≠ gb476)); have n10_ := Aside0.mk ((by rw [hg]; exact Nat.ne_of_lt (blk_lt (g := gb477) (o := .cells #[.bool t473, .string t474, .int .i64 t475] 26 (0, 0)) (by refine blk_up ?_; exact BK477.out)) : gb477 ≠ gb492)); have n11_ := Aside0.mk ((by rw [hg]; exact Nat.ne_of_gt (blk_lt (g := gb477) (o := .cells #[.bool t473, .string t474, .int .i64 t475] 26 (0, 0)) (by refine blk_up ?_; exact BK477.out)) : gb492 ≠ gb477)); have n12_ := Aside0.mk ((by rw [hg]; exact Nat.ne_of_lt (blk_lt (g := gb482) (o := .cells #[.bool t478, .string t479, .int .i64 t480] 26 (0, 0)) (by refine blk_up ?_; exact BK482.out)) : gb482 ≠ gb492)); have n13_ := Aside0.mk ((by rw [hg]; exact Nat.ne_of_gt (blk_lt (g := gb482) (o := .cells #[.bool t478, .string t479, .int .i64 t480] 26 (0, 0)) (by refine blk_up ?_; exact BK482.out)) : gb492 ≠ gb482)); have n14_ := Aside0.mk ((by rw [hg]; exact Nat.ne_of_lt (blk_lt (g := gb487) (o := .cells #[.bool t483, .string t484, .int .i64 t485] 26 (0, 0)) (by refine blk_up ?_; exact BK487.out)) : gb487 ≠ gb492)); have n15_ := Aside0.mk ((by rw [hg]; exact Nat.ne_of_gt (blk_lt (g := gb487) (o := .cells #[.bool t483, .string t484, .int .i64 t485] 26 (0, 0)) (by refine blk_up ?_; exact BK487.out)) : gb492 ≠ gb487)); clear BK476; clear BK477; clear BK482; clear BK487; clear HB; have BK476 := n0_; have BK477 := n1_; have BK482 := n2_; have BK487 := n3_; have HB := n4_; have BK492 := n5_; have GW492 := n6_; have GE492 := n7_; have NB476_492 := n8_; have NB492_476 := n9_; have NB477_492 := n10_; have NB492_477 := n11_; have NB482_492 := n12_; have NB492_482 := n13_; have NB487_492 := n14_; have NB492_487 := n15_; clear n0_ n1_ n2_ n3_ n4_ n5_ n6_ n7_ n8_ n9_ n10_ n11_ n12_ n13_ n14_ n15_; clear hb hbox hg; have hnb77 := NB492_476.out; have hnc77 := NB476_492.out; have hnb78 := NB492_477.out; have hnc78 := NB477_492.out; have hnb79 := NB492_482.out; have hnc79 := NB482_492.out; have hnb80 := NB492_487.out; have hnc80 := NB487_492.out; have hcz81_0 : w76.cell? ⟨gb492, 0, none⟩ = some (.bool false) := (blk_cell BK492.out 0).trans rfl; have hcz81_1 : w76.cell? ⟨gb492, 1, none⟩ = some (.string (⟨#[]⟩ : ByteArray)) := (blk_cell BK492.out 1).trans rfl; have hcz81_2 : w76.cell? ⟨gb492, 2, none⟩ = some (.int .i64 0) := (blk_cell BK492.out 2).trans rfl; have hfz81_0 := blk_frozen BK492.out 0; have hfz81_1 := blk_frozen BK492.out 1; have hfz81_2 := blk_frozen BK492.out 2; have hnb82 := NB482_487.out; have hnc82 := NB487_482.out; have hcz83_0 : w76.cell? ⟨gb482, 0, none⟩ = some (.bool t478) := (blk_cell BK482.out 0).trans rfl; have hcz83_1 : w76.cell? ⟨gb482, 1, none⟩ = some (.string t479) := (blk_cell BK482.out 1).trans rfl; have hcz83_2 : w76.cell? ⟨gb482, 2, none⟩ = some (.int .i64 t480) := (blk_cell BK482.out 2).trans rfl; have hfz83_0 := blk_frozen BK482.out 0; have hfz83_1 := blk_frozen BK482.out 1; have hfz83_2 := blk_frozen BK482.out 2; have hcz84_0 : w76.cell? ⟨gb477, 0, none⟩ = some (.bool t473) := (blk_cell BK477.out 0).trans rfl; have hcz84_1 : w76.cell? ⟨gb477, 1, none⟩ = some (.string t474) := (blk_cell BK477.out 1).trans rfl; have hcz84_2 : w76.cell? ⟨gb477, 2, none⟩ = some (.int .i64 t475) := (blk_cell BK477.out 2).trans rfl; have hfz84_0 := blk_frozen BK477.out 0; have hfz84_1 := blk_frozen BK477.out 1; have hfz84_2 := blk_frozen BK477.out 2) | ((with_reducible refine gate_callee (f := 20) rfl ?_); refine goesL_ (some 73) rfl rfl Tryd.func20 (by kernel_rfl) rfl #[.agg #[.bool t478, .string t479, .int .i64 t480], .agg #[.bool false, .string t474, .int .i64 t475]] rfl (by (try simp only [List.map_toArray, List.map_cons, List.map_nil]); first | done | rfl | (simp only [List.length_drop, List.length_take]; rfl)) ?_; (with_reducible refine (impl_AddDec.calls kj6 t478 t479 t480 false t474 t475 t493 t494 t495 true _ A61.out).mono ?_); rintro e w85 ⟨rfl, hb⟩; refine ⟨_, rfl, ?_⟩; have n0_ := Aside0.mk (blk_below (g := gb476) (o := .cells #[.bool t470, .string t471, .int .i64 t472] 26 (0, 0)) (by refine blk_up ?_; refine blk_far ?_ NB476_492.out _; refine blk_up ?_; refine blk_far ?_ NB476_492.out _; refine blk_up ?_; refine blk_far ?_ NB476_492.out _; refine blk_up ?_; exact BK476.out) hb); have n1_ := Aside0.mk (blk_below (g := gb477) (o := .cells #[.bool t473, .string t474, .int .i64 t475] 26 (0, 0)) (by refine blk_up ?_; refine blk_far ?_ NB477_492.out _; refine blk_up ?_; refine blk_far ?_ NB477_492.out _; refine blk_up ?_; refine blk_far ?_ NB477_492.out _; refine blk_up ?_; exact BK477.out) hb); have n2_ := Aside0.mk (blk_below (g := gb482) (o := .cells #[.bool t478, .string t479, .int .i64 t480] 26 (0, 0)) (by refine blk_up ?_; refine blk_far ?_ NB482_492.out _; refine blk_up ?_; refine blk_far ?_ NB482_492.out _; refine blk_up ?_; refine blk_far ?_ NB482_492.out _; refine blk_up ?_; exact BK482.out) hb); have n3_ := Aside0.mk (blk_below (g := gb487) (o := .cells #[.bool t483, .string t484, .int .i64 t485] 26 (0, 0)) (by refine blk_up ?_; refine blk_far ?_ NB487_492.out _; refine blk_up ?_; refine blk_far ?_ NB487_492.out _; refine blk_up ?_; refine blk_far ?_ NB487_492.out _; refine blk_up ?_; exact BK487.out) hb); have n4_ := Aside0.mk (blk_below (g := gb492) (o := .cells #[.bool t488, .string t489, .int .i64 t490] 26 (0, 0)) (by refine blk_up ?_; refine blk_put (cs := #[.bool t488, .string t489, .int .i64 0]) ?_ 2 _ rfl; refine blk_up ?_; refine blk_put (cs := #[.bool t488, .string (⟨#[]⟩ : ByteArray), .int .i64 0]) ?_ 1 _ rfl; refine blk_up ?_; refine blk_put (cs := #[.bool false, .string (⟨#[]⟩ : ByteArray), .int .i64 0]) ?_ 0 _ rfl; refine blk_up ?_; exact BK492.out) hb); have n5_ := Aside0.mk (below_step (by repeat (first | (with_reducible first | exact HB.out | apply below_alloc | apply pw_below_drewN | apply below_drew1 | refine below_set ?_ GE476.out | refine below_set ?_ GE477.out | refine below_set ?_ GE482.out | refine below_set ?_ GE487.out | refine below_set ?_ GE492.out) | exact HB.out)) hb); clear BK476; clear BK477; clear BK482; clear BK487; clear BK492; clear HB; have BK476 := n0_; have BK477 := n1_; have BK482 := n2_; have BK487 := n3_; have BK492 := n4_; have HB := n5_; clear n0_ n1_ n2_ n3_ n4_ n5_; (try clear hb); (try clear hb2); (try clear hk); (try clear hi)) | ((with_reducible refine gate_dst (N := 11) rfl ?_); refine box_event ?hg (N := 11) ?hd (cs := #[.bool false, .string (⟨#[]⟩ : ByteArray), .int .i64 0]) (t := 26) ?hr ?_; (case hd => rfl); (case hg => rfl); (case hr => first | (go_simp; done) | (go_simp; rfl)); intro gb497 hg w86 hbox hb; have n0_ := Aside0.mk (blk_below (g := gb476) (o := .cells #[.bool t470, .string t471, .int .i64 t472] 26 (0, 0)) (by refine blk_up ?_; exact BK476.out) hb); have n1_ := Aside0.mk (blk_below (g := gb477) (o := .cells #[.bool t473, .string t474, .int .i64 t475] 26 (0, 0)) (by refine blk_up ?_; exact BK477.out) hb); have n2_ := Aside0.mk (blk_below (g := gb482) (o := .cells #[.bool t478, .string t479, .int .i64 t480] 26 (0, 0)) (by refine blk_up ?_; exact BK482.out) hb); have n3_ := Aside0.mk (blk_below (g := gb487) (o := .cells #[.bool t483, .string t484, .int .i64 t485] 26 (0, 0)) (by refine blk_up ?_; exact BK487.out) hb); have n4_ := Aside0.mk (blk_below (g := gb492) (o := .cells #[.bool t488, .string t489, .int .i64 t490] 26 (0, 0)) (by refine blk_up ?_; exact BK492.out) hb); have n5_ := Aside0.mk (below_step (by repeat (first | (with_reducible first | exact HB.out | apply below_alloc | apply pw_below_drewN | apply below_drew1 | refine below_set ?_ GE476.out | refine below_set ?_ GE477.out | refine below_set ?_ GE482.out | refine below_set ?_ GE487.out | refine below_set ?_ GE492.out) | exact HB.out)) hb); have n6_ := Aside0.mk (hbox); have n7_ := Aside0.mk ((by rw [hg]; exact (below_size (by repeat (first | (with_reducible first | exact HB.out | apply below_alloc | apply pw_below_drewN | apply below_drew1 | refine below_set ?_ GE476.out | refine below_set ?_ GE477.out | refine below_set ?_ GE482.out | refine below_set ?_ GE487.out | refine below_set ?_ GE492.out) | exact HB.out))) : w.heap.size ≤ gb497)); have n8_ := Aside0.mk ((by rw [hg]; exact (below_size (by repeat (first | (with_reducible first | exact HB.out | apply below_alloc | apply pw_below_drewN | apply below_drew1 | refine below_set ?_ GE476.out | refine below_set ?_ GE477.out | refine below_set ?_ GE482.out | refine below_set ?_ GE487.out | refine below_set ?_ GE492.out) | exact HB.out))) : w.heap.size ≤ gb497)); have n9_ := Aside0.mk ((by rw [hg]; exact Nat.ne_of_lt (blk_lt (g := gb476) (o := .cells #[.bool t470, .string t471, .int .i64 t472] 26 (0, 0)) (by refine blk_up ?_; exact BK476.out)) : gb476 ≠ gb497)); have n10_ := Aside0.mk ((by rw [hg]; exact Nat.ne_of_gt (blk_lt (g := gb476) (o := .cells #[.bool t470, .string t471, .int .i64 t472] 26 (0, 0)) (by refine blk_up ?_; exact BK476.out)) : gb497 ≠ gb476)); have n11_ := Aside0.mk ((by rw [hg]; exact Nat.ne_of_lt (blk_lt (g := gb477) (o := .cells #[.bool t473, .string t474, .int .i64 t475] 26 (0, 0)) (by refine blk_up ?_; exact BK477.out)) : gb477 ≠ gb497)); have n12_ := Aside0.mk ((by rw [hg]; exact Nat.ne_of_gt (blk_lt (g := gb477) (o := .cells #[.bool t473, .string t474, .int .i64 t475] 26 (0, 0)) (by refine blk_up ?_; exact BK477.out)) : gb497 ≠ gb477)); have n13_ := Aside0.mk ((by rw [hg]; exact Nat.ne_of_lt (blk_lt (g := gb482) (o := .cells #[.bool t478, .string t479, .int .i64 t480] 26 (0, 0)) (by refine blk_up ?_; exact BK482.out)) : gb482 ≠ gb497)); have n14_ := Aside0.mk ((by rw [hg]; exact Nat.ne_of_gt (blk_lt (g := gb482) (o := .cells #[.bool t478, .string t479, .int .i64 t480] 26 (0, 0)) (by refine blk_up ?_; exact BK482.out)) : gb497 ≠ gb482)); have n15_ := Aside0.mk ((by rw [hg]; exact Nat.ne_of_lt (blk_lt (g := gb487) (o := .cells #[.bool t483, .string t484, .int .i64 t485] 26 (0, 0)) (by refine blk_up ?_; exact BK487.out)) : gb487 ≠ gb497)); have n16_ := Aside0.mk ((by rw [hg]; exact Nat.ne_of_gt (blk_lt (g := gb487) (o := .cells #[.bool t483, .string t484, .int .i64 t485] 26 (0, 0)) (by refine blk_up ?_; exact BK487.out)) : gb497 ≠ gb487)); have n17_ := Aside0.mk ((by rw [hg]; exact Nat.ne_of_lt (blk_lt (g := gb492) (o := .cells #[.bool t488, .string t489, .int .i64 t490] 26 (0, 0)) (by refine blk_up ?_; exact BK492.out)) : gb492 ≠ gb497)); have n18_ := Aside0.mk ((by rw [hg]; exact Nat.ne_of_gt (blk_lt (g := gb492) (o := .cells #[.bool t488, .string t489, .int .i64 t490] 26 (0, 0)) (by refine blk_up ?_; exact BK492.out)) : gb497 ≠ gb492)); clear BK476; clear BK477; clear BK482; clear BK487; clear BK492; clear HB; have BK476 := n0_; have BK477 := n1_; have BK482 := n2_; have BK487 := n3_; have BK492 := n4_; have HB := n5_; have BK497 := n6_; have GW497 := n7_; have GE497 := n8_; have NB476_497 := n9_; have NB497_476 := n10_; have NB477_497 := n11_; have NB497_477 := n12_; have NB482_497 := n13_; have NB497_482 := n14_; have NB487_497 := n15_; have NB497_487 := n16_; have NB492_497 := n17_; have NB497_492 := n18_; clear n0_ n1_ n2_ n3_ n4_ n5_ n6_ n7_ n8_ n9_ n10_ n11_ n12_ n13_ n14_ n15_ n16_ n17_ n18_; clear hb hbox hg; have hnb87 := NB497_476.out; have hnc87 := NB476_497.out; have hnb88 := NB497_477.out; have hnc88 := NB477_497.out; have hnb89 := NB497_482.out; have hnc89 := NB482_497.out; have hnb90 := NB497_487.out; have hnc90 := NB487_497.out; have hnb91 := NB497_492.out; have hnc91 := NB492_497.out; have hcz92_0 : w86.cell? ⟨gb497, 0, none⟩ = some (.bool false) := (blk_cell BK497.out 0).trans rfl; have hcz92_1 : w86.cell? ⟨gb497, 1, none⟩ = some (.string (⟨#[]⟩ : ByteArray)) := (blk_cell BK497.out 1).trans rfl; have hcz92_2 : w86.cell? ⟨gb497, 2, none⟩ = some (.int .i64 0) := (blk_cell BK497.out 2).trans rfl; have hfz92_0 := blk_frozen BK497.out 0; have hfz92_1 := blk_frozen BK497.out 1; have hfz92_2 := blk_frozen BK497.out 2))
                    have n0_ : Aside0 ((((w86.setCell ⟨gb497, 0, none⟩ (.bool t493)).setCell ⟨gb497, 1, none⟩ (.string t494)).setCell ⟨gb497, 2, none⟩ (.int .i64 t495)).heap[gb476]? = some (.cells #[.bool t470, .string t471, .int .i64 t472] 26 (0, 0))) := ⟨by refine blk_up ?_; refine blk_far ?_ NB476_497.out _; refine blk_up ?_; refine blk_far ?_ NB476_497.out _; refine blk_up ?_; refine blk_far ?_ NB476_497.out _; refine blk_up ?_; exact BK476.out⟩
                    have n1_ : Aside0 ((((w86.setCell ⟨gb497, 0, none⟩ (.bool t493)).setCell ⟨gb497, 1, none⟩ (.string t494)).setCell ⟨gb497, 2, none⟩ (.int .i64 t495)).heap[gb477]? = some (.cells #[.bool t473, .string t474, .int .i64 t475] 26 (0, 0))) := ⟨by refine blk_up ?_; refine blk_far ?_ NB477_497.out _; refine blk_up ?_; refine blk_far ?_ NB477_497.out _; refine blk_up ?_; refine blk_far ?_ NB477_497.out _; refine blk_up ?_; exact BK477.out⟩
                    have n2_ : Aside0 ((((w86.setCell ⟨gb497, 0, none⟩ (.bool t493)).setCell ⟨gb497, 1, none⟩ (.string t494)).setCell ⟨gb497, 2, none⟩ (.int .i64 t495)).heap[gb482]? = some (.cells #[.bool t478, .string t479, .int .i64 t480] 26 (0, 0))) := ⟨by refine blk_up ?_; refine blk_far ?_ NB482_497.out _; refine blk_up ?_; refine blk_far ?_ NB482_497.out _; refine blk_up ?_; refine blk_far ?_ NB482_497.out _; refine blk_up ?_; exact BK482.out⟩
                    have n3_ : Aside0 ((((w86.setCell ⟨gb497, 0, none⟩ (.bool t493)).setCell ⟨gb497, 1, none⟩ (.string t494)).setCell ⟨gb497, 2, none⟩ (.int .i64 t495)).heap[gb487]? = some (.cells #[.bool t483, .string t484, .int .i64 t485] 26 (0, 0))) := ⟨by refine blk_up ?_; refine blk_far ?_ NB487_497.out _; refine blk_up ?_; refine blk_far ?_ NB487_497.out _; refine blk_up ?_; refine blk_far ?_ NB487_497.out _; refine blk_up ?_; exact BK487.out⟩
                    have n4_ : Aside0 ((((w86.setCell ⟨gb497, 0, none⟩ (.bool t493)).setCell ⟨gb497, 1, none⟩ (.string t494)).setCell ⟨gb497, 2, none⟩ (.int .i64 t495)).heap[gb492]? = some (.cells #[.bool t488, .string t489, .int .i64 t490] 26 (0, 0))) := ⟨by refine blk_up ?_; refine blk_far ?_ NB492_497.out _; refine blk_up ?_; refine blk_far ?_ NB492_497.out _; refine blk_up ?_; refine blk_far ?_ NB492_497.out _; refine blk_up ?_; exact BK492.out⟩
                    have n5_ : Aside0 ((((w86.setCell ⟨gb497, 0, none⟩ (.bool t493)).setCell ⟨gb497, 1, none⟩ (.string t494)).setCell ⟨gb497, 2, none⟩ (.int .i64 t495)).heap[gb497]? = some (.cells #[.bool t493, .string t494, .int .i64 t495] 26 (0, 0))) := ⟨by refine blk_up ?_; refine blk_put (cs := #[.bool t493, .string t494, .int .i64 0]) ?_ 2 _ rfl; refine blk_up ?_; refine blk_put (cs := #[.bool t493, .string (⟨#[]⟩ : ByteArray), .int .i64 0]) ?_ 1 _ rfl; refine blk_up ?_; refine blk_put (cs := #[.bool false, .string (⟨#[]⟩ : ByteArray), .int .i64 0]) ?_ 0 _ rfl; refine blk_up ?_; exact BK497.out⟩
                    have n6_ : Aside0 (Below w.heap.size w (((w86.setCell ⟨gb497, 0, none⟩ (.bool t493)).setCell ⟨gb497, 1, none⟩ (.string t494)).setCell ⟨gb497, 2, none⟩ (.int .i64 t495))) := ⟨by repeat (first | (with_reducible first | exact HB.out | apply below_alloc | apply pw_below_drewN | apply below_drew1 | refine below_set ?_ GE476.out | refine below_set ?_ GE477.out | refine below_set ?_ GE482.out | refine below_set ?_ GE487.out | refine below_set ?_ GE492.out | refine below_set ?_ GE497.out) | exact HB.out)⟩
                    (try clear BK476)
                    (try clear BK477)
                    (try clear BK482)
                    (try clear BK487)
                    (try clear BK492)
                    (try clear BK497)
                    (try clear HB)
                    generalize (((w86.setCell ⟨gb497, 0, none⟩ (.bool t493)).setCell ⟨gb497, 1, none⟩ (.string t494)).setCell ⟨gb497, 2, none⟩ (.int .i64 t495)) = w93 at n0_ n1_ n2_ n3_ n4_ n5_ n6_ ⊢
                    have BK476 := n0_
                    have BK477 := n1_
                    have BK482 := n2_
                    have BK487 := n3_
                    have BK492 := n4_
                    have BK497 := n5_
                    have HB := n6_
                    clear n0_ n1_ n2_ n3_ n4_ n5_ n6_
                    have n0_ := Aside0.mk (blk_drew BK476.out)
                    have n1_ := Aside0.mk (blk_drew BK477.out)
                    have n2_ := Aside0.mk (blk_drew BK482.out)
                    have n3_ := Aside0.mk (blk_drew BK487.out)
                    have n4_ := Aside0.mk (blk_drew BK492.out)
                    have n5_ := Aside0.mk (blk_drew BK497.out)
                    have n6_ := Aside0.mk (below_drew1 HB.out)
                    clear BK476
                    clear BK477
                    clear BK482
                    clear BK487
                    clear BK492
                    clear BK497
                    clear HB
                    have BK476 := n0_
                    have BK477 := n1_
                    have BK482 := n2_
                    have BK487 := n3_
                    have BK492 := n4_
                    have BK497 := n5_
                    have HB := n6_
                    clear n0_ n1_ n2_ n3_ n4_ n5_ n6_
                    refine start_ (n := 25) (S := fun w' => w'.cell? ⟨gb492, 0, none⟩ = some (.bool t488) ∧ w'.cell? ⟨gb492, 1, none⟩ = some (.string t489) ∧ w'.cell? ⟨gb492, 2, none⟩ = some (.int .i64 t490) ∧ w'.cell? ⟨gb482, 0, none⟩ = some (.bool t478) ∧ w'.cell? ⟨gb482, 1, none⟩ = some (.string t479) ∧ w'.cell? ⟨gb482, 2, none⟩ = some (.int .i64 t480) ∧ w'.cell? ⟨gb497, 0, none⟩ = some (.bool t493) ∧ w'.cell? ⟨gb497, 1, none⟩ = some (.string t494) ∧ w'.cell? ⟨gb497, 2, none⟩ = some (.int .i64 t495) ∧ w'.cell? ⟨gb476, 0, none⟩ = some (.bool t470) ∧ w'.cell? ⟨gb476, 1, none⟩ = some (.string t471) ∧ w'.cell? ⟨gb476, 2, none⟩ = some (.int .i64 t472) ∧ w'.cell? ⟨gb477, 0, none⟩ = some (.bool t473) ∧ w'.cell? ⟨gb477, 1, none⟩ = some (.string t474) ∧ w'.cell? ⟨gb477, 2, none⟩ = some (.int .i64 t475)) (ds := []) #[false, false, false, false, false, false, false, false, false, false, false, false, false, false, false, false, false, false, false, false, false, false, false, false, false] (by kernel_rfl) rfl rfl ⟨(blk_cell BK492.out 0).trans rfl, (blk_cell BK492.out 1).trans rfl, (blk_cell BK492.out 2).trans rfl, (blk_cell BK482.out 0).trans rfl, (blk_cell BK482.out 1).trans rfl, (blk_cell BK482.out 2).trans rfl, (blk_cell BK497.out 0).trans rfl, (blk_cell BK497.out 1).trans rfl, (blk_cell BK497.out 2).trans rfl, (blk_cell BK476.out 0).trans rfl, (blk_cell BK476.out 1).trans rfl, (blk_cell BK476.out 2).trans rfl, (blk_cell BK477.out 0).trans rfl, (blk_cell BK477.out 1).trans rfl, (blk_cell BK477.out 2).trans rfl⟩ (fun hHeld => ?_); refine with_tabW laws_FnAdded.tab10 laws_FnAdded.bits10 (fun HT_ HW_ => ?_)
                    generalize w93.drew = w94 at BK476 BK477 BK482 BK487 BK492 BK497 HB hHeld ⊢
                    refine pure_ (i := 0) (N := some 76) (v := ?_) (a' := ?_) #[true, false, false, false, false, false, false, false, false, false, false, false, false, false, false, false, false, false, false, false, false, false, false, false, false] rfl rfl (any_of HT_.out (by kernel_rfl)) (fun _ _ _ h => h) (Or.inl ⟨by rfl, ?_⟩) ?_ ?_
                    rotate_left
                    · intro w'
                      go_simp
                      with_reducible rfl
                    rotate_left
                    · simp only [Act.put, List.setIfInBounds_toArray, List.set_cons_zero, List.set_cons_succ, i64_w, i32_w]
                      rfl
                    refine pure_ (i := 1) (N := some 77) (v := ?_) (a' := ?_) #[true, true, false, false, false, false, false, false, false, false, false, false, false, false, false, false, false, false, false, false, false, false, false, false, false] rfl rfl (any_of HT_.out (by kernel_rfl)) (fun _ _ _ h => h) (Or.inl ⟨by rfl, ?_⟩) ?_ ?_
                    rotate_left
                    · intro w'
                      go_simp
                      with_reducible rfl
                    rotate_left
                    · simp only [Act.put, List.setIfInBounds_toArray, List.set_cons_zero, List.set_cons_succ, i64_w, i32_w]
                      rfl
                    refine take_ (i := 2) (N := some 78) (v := ?_) (a' := ?_) #[true, true, true, false, false, false, false, false, false, false, false, false, false, false, false, false, false, false, false, false, false, false, false, false, false] rfl rfl (take_ofW HT_.out HW_.out (by kernel_rfl)) (fun _ _ _ h => h) (Or.inl ⟨by rfl, ?_⟩) hHeld ?_ ?_
                    rotate_left
                    · rintro w' ⟨s0, s1, s2, s3, s4, s5, s6, s7, s8, s9, s10, s11, s12, s13, s14⟩
                      go_simp
                      with_reducible rfl
                    rotate_left
                    · simp only [Act.put, List.setIfInBounds_toArray, List.set_cons_zero, List.set_cons_succ, i64_w, i32_w]
                      rfl
                    refine take_ (i := 3) (N := some 79) (v := ?_) (a' := ?_) #[true, true, true, true, false, false, false, false, false, false, false, false, false, false, false, false, false, false, false, false, false, false, false, false, false] rfl rfl (take_ofW HT_.out HW_.out (by kernel_rfl)) (fun _ _ _ h => h) (Or.inl ⟨by rfl, ?_⟩) hHeld ?_ ?_
                    rotate_left
                    · rintro w' ⟨s0, s1, s2, s3, s4, s5, s6, s7, s8, s9, s10, s11, s12, s13, s14⟩
                      go_simp
                      with_reducible rfl
                    rotate_left
                    · simp only [Act.put, List.setIfInBounds_toArray, List.set_cons_zero, List.set_cons_succ, i64_w, i32_w]
                      rfl
                    refine pure_ (i := 4) (N := some 80) (v := ?_) (a' := ?_) #[true, true, true, true, true, false, false, false, false, false, false, false, false, false, false, false, false, false, false, false, false, false, false, false, false] rfl rfl (any_of HT_.out (by kernel_rfl)) (fun _ _ _ h => h) (Or.inl ⟨by rfl, ?_⟩) ?_ ?_
                    rotate_left
                    · intro w'
                      go_simp
                      with_reducible rfl
                    rotate_left
                    · simp only [Act.put, List.setIfInBounds_toArray, List.set_cons_zero, List.set_cons_succ, i64_w, i32_w]
                      rfl
                    refine pure_ (i := 5) (N := some 81) (v := ?_) (a' := ?_) #[true, true, true, true, true, true, false, false, false, false, false, false, false, false, false, false, false, false, false, false, false, false, false, false, false] rfl rfl (any_of HT_.out (by kernel_rfl)) (fun _ _ _ h => h) (Or.inl ⟨by rfl, ?_⟩) ?_ ?_
                    rotate_left
                    · intro w'
                      go_simp
                      with_reducible rfl
                    rotate_left
                    · simp only [Act.put, List.setIfInBounds_toArray, List.set_cons_zero, List.set_cons_succ, i64_w, i32_w]
                      rfl
                    refine pure_ (i := 6) (N := some 82) (v := ?_) (a' := ?_) #[true, true, true, true, true, true, true, false, false, false, false, false, false, false, false, false, false, false, false, false, false, false, false, false, false] rfl rfl (any_of HT_.out (by kernel_rfl)) (fun _ _ _ h => h) (Or.inl ⟨by rfl, ?_⟩) ?_ ?_
                    rotate_left
                    · intro w'
                      go_simp
                      with_reducible rfl
                    rotate_left
                    · simp only [Act.put, List.setIfInBounds_toArray, List.set_cons_zero, List.set_cons_succ, i64_w, i32_w]
                      rfl
                    refine pure_ (i := 7) (N := some 83) (v := ?_) (a' := ?_) #[true, true, true, true, true, true, true, true, false, false, false, false, false, false, false, false, false, false, false, false, false, false, false, false, false] rfl rfl (any_of HT_.out (by kernel_rfl)) (fun _ _ _ h => h) (Or.inl ⟨by rfl, ?_⟩) ?_ ?_
                    rotate_left
                    · intro w'
                      go_simp
                      with_reducible rfl
                    rotate_left
                    · simp only [Act.put, List.setIfInBounds_toArray, List.set_cons_zero, List.set_cons_succ, i64_w, i32_w]
                      rfl
                    refine pure_ (i := 8) (N := some 84) (v := ?_) (a' := ?_) #[true, true, true, true, true, true, true, true, true, false, false, false, false, false, false, false, false, false, false, false, false, false, false, false, false] rfl rfl (any_of HT_.out (by kernel_rfl)) (fun _ _ _ h => h) (Or.inl ⟨by rfl, ?_⟩) ?_ ?_
                    rotate_left
                    · intro w'
                      go_simp
                      with_reducible rfl
                    rotate_left
                    · simp only [Act.put, List.setIfInBounds_toArray, List.set_cons_zero, List.set_cons_succ, i64_w, i32_w]
                      rfl
                    refine pure_ (i := 9) (N := some 85) (v := ?_) (a' := ?_) #[true, true, true, true, true, true, true, true, true, true, false, false, false, false, false, false, false, false, false, false, false, false, false, false, false] rfl rfl (any_of HT_.out (by kernel_rfl)) (fun _ _ _ h => h) (Or.inl ⟨by rfl, ?_⟩) ?_ ?_
                    rotate_left
                    · intro w'
                      go_simp
                      with_reducible rfl
                    rotate_left
                    · simp only [Act.put, List.setIfInBounds_toArray, List.set_cons_zero, List.set_cons_succ, i64_w, i32_w]
                      rfl
                    refine take_ (i := 10) (N := some 86) (v := ?_) (a' := ?_) #[true, true, true, true, true, true, true, true, true, true, true, false, false, false, false, false, false, false, false, false, false, false, false, false, false] rfl rfl (take_ofW HT_.out HW_.out (by kernel_rfl)) (fun _ _ _ h => h) (Or.inl ⟨by rfl, ?_⟩) hHeld ?_ ?_
                    rotate_left
                    · rintro w' ⟨s0, s1, s2, s3, s4, s5, s6, s7, s8, s9, s10, s11, s12, s13, s14⟩
                      go_simp
                      with_reducible rfl
                    rotate_left
                    · simp only [Act.put, List.setIfInBounds_toArray, List.set_cons_zero, List.set_cons_succ, i64_w, i32_w]
                      rfl
                    refine take_ (i := 11) (N := some 87) (v := ?_) (a' := ?_) #[true, true, true, true, true, true, true, true, true, true, true, true, false, false, false, false, false, false, false, false, false, false, false, false, false] rfl rfl (take_ofW HT_.out HW_.out (by kernel_rfl)) (fun _ _ _ h => h) (Or.inl ⟨by rfl, ?_⟩) hHeld ?_ ?_
                    rotate_left
                    · rintro w' ⟨s0, s1, s2, s3, s4, s5, s6, s7, s8, s9, s10, s11, s12, s13, s14⟩
                      go_simp
                      with_reducible rfl
                    rotate_left
                    · simp only [Act.put, List.setIfInBounds_toArray, List.set_cons_zero, List.set_cons_succ, i64_w, i32_w]
                      rfl
                    refine pure_ (i := 12) (N := some 88) (v := ?_) (a' := ?_) #[true, true, true, true, true, true, true, true, true, true, true, true, true, false, false, false, false, false, false, false, false, false, false, false, false] rfl rfl (any_of HT_.out (by kernel_rfl)) (fun _ _ _ h => h) (Or.inl ⟨by rfl, ?_⟩) ?_ ?_
                    rotate_left
                    · intro w'
                      go_simp
                      with_reducible rfl
                    rotate_left
                    · simp only [Act.put, List.setIfInBounds_toArray, List.set_cons_zero, List.set_cons_succ, i64_w, i32_w]
                      rfl
                    refine pure_ (i := 13) (N := some 89) (v := ?_) (a' := ?_) #[true, true, true, true, true, true, true, true, true, true, true, true, true, true, false, false, false, false, false, false, false, false, false, false, false] rfl rfl (any_of HT_.out (by kernel_rfl)) (fun _ _ _ h => h) (Or.inl ⟨by rfl, ?_⟩) ?_ ?_
                    rotate_left
                    · intro w'
                      go_simp
                      with_reducible rfl
                    rotate_left
                    · simp only [Act.put, List.setIfInBounds_toArray, List.set_cons_zero, List.set_cons_succ, i64_w, i32_w]
                      rfl
                    refine pure_ (i := 14) (N := some 90) (v := ?_) (a' := ?_) #[true, true, true, true, true, true, true, true, true, true, true, true, true, true, true, false, false, false, false, false, false, false, false, false, false] rfl rfl (any_of HT_.out (by kernel_rfl)) (fun _ _ _ h => h) (Or.inl ⟨by rfl, ?_⟩) ?_ ?_
                    rotate_left
                    · intro w'
                      go_simp
                      with_reducible rfl
                    rotate_left
                    · simp only [Act.put, List.setIfInBounds_toArray, List.set_cons_zero, List.set_cons_succ, i64_w, i32_w]
                      rfl
                    refine pure_ (i := 18) (N := some 94) (v := ?_) (a' := ?_) #[true, true, true, true, true, true, true, true, true, true, true, true, true, true, true, false, false, false, true, false, false, false, false, false, false] rfl rfl (any_of HT_.out (by kernel_rfl)) (fun _ _ _ h => h) (Or.inl ⟨by rfl, ?_⟩) ?_ ?_
                    rotate_left
                    · intro w'
                      go_simp
                      with_reducible rfl
                    rotate_left
                    · simp only [Act.put, List.setIfInBounds_toArray, List.set_cons_zero, List.set_cons_succ, i64_w, i32_w]
                      rfl
                    refine take_ (i := 15) (N := some 91) (v := ?_) (a' := ?_) #[true, true, true, true, true, true, true, true, true, true, true, true, true, true, true, true, false, false, true, false, false, false, false, false, false] rfl rfl (take_ofW HT_.out HW_.out (by kernel_rfl)) (fun _ _ _ h => h) (Or.inl ⟨by rfl, ?_⟩) hHeld ?_ ?_
                    rotate_left
                    · rintro w' ⟨s0, s1, s2, s3, s4, s5, s6, s7, s8, s9, s10, s11, s12, s13, s14⟩
                      go_simp
                      with_reducible rfl
                    rotate_left
                    · simp only [Act.put, List.setIfInBounds_toArray, List.set_cons_zero, List.set_cons_succ, i64_w, i32_w]
                      rfl
                    refine take_ (i := 16) (N := some 92) (v := ?_) (a' := ?_) #[true, true, true, true, true, true, true, true, true, true, true, true, true, true, true, true, true, false, true, false, false, false, false, false, false] rfl rfl (take_ofW HT_.out HW_.out (by kernel_rfl)) (fun _ _ _ h => h) (Or.inl ⟨by rfl, ?_⟩) hHeld ?_ ?_
                    rotate_left
                    · rintro w' ⟨s0, s1, s2, s3, s4, s5, s6, s7, s8, s9, s10, s11, s12, s13, s14⟩
                      go_simp
                      with_reducible rfl
                    rotate_left
                    · simp only [Act.put, List.setIfInBounds_toArray, List.set_cons_zero, List.set_cons_succ, i64_w, i32_w]
                      rfl
                    refine take_ (i := 19) (N := some 95) (v := ?_) (a' := ?_) #[true, true, true, true, true, true, true, true, true, true, true, true, true, true, true, true, true, false, true, true, false, false, false, false, false] rfl rfl (take_ofW HT_.out HW_.out (by kernel_rfl)) (fun _ _ _ h => h) (Or.inl ⟨by rfl, ?_⟩) hHeld ?_ ?_
                    rotate_left
                    · rintro w' ⟨s0, s1, s2, s3, s4, s5, s6, s7, s8, s9, s10, s11, s12, s13, s14⟩
                      go_simp
                      with_reducible rfl
                    rotate_left
                    · simp only [Act.put, List.setIfInBounds_toArray, List.set_cons_zero, List.set_cons_succ, i64_w, i32_w]
                      rfl
                    refine one_ (i := 17) (N := some 93) #[true, true, true, true, true, true, true, true, true, true, true, true, true, true, true, true, true, true, true, true, false, false, false, false, false] rfl rfl (one_of HT_.out (by kernel_rfl)) (by decide) (fun K hK => ?_)
                    refine goes_ Tryd.func14 (by kernel_rfl) rfl #[.agg #[.bool t478, .string t479, .int .i64 t480], .agg #[.bool t470, .string t471, .int .i64 t472]] (by rfl) rfl rfl (by (try simp only [List.map_toArray, List.map_cons, List.map_nil]); first | done | rfl | (simp only [List.length_drop, List.length_take]; rfl)) ?_
                    with_reducible refine (impl_CompareDec.calls kj6 t478 t479 t480 t470 t471 t472 t503 _ A66.out).mono ?_
                    rintro e w95 ⟨rfl, hb⟩
                    refine ⟨_, rfl, ?_⟩
                    have n0_ := Aside0.mk (blk_below (g := gb476) (o := .cells #[.bool t470, .string t471, .int .i64 t472] 26 (0, 0)) (by refine blk_up ?_; exact BK476.out) hb)
                    have n1_ := Aside0.mk (blk_below (g := gb477) (o := .cells #[.bool t473, .string t474, .int .i64 t475] 26 (0, 0)) (by refine blk_up ?_; exact BK477.out) hb)
                    have n2_ := Aside0.mk (blk_below (g := gb482) (o := .cells #[.bool t478, .string t479, .int .i64 t480] 26 (0, 0)) (by refine blk_up ?_; exact BK482.out) hb)
                    have n3_ := Aside0.mk (blk_below (g := gb487) (o := .cells #[.bool t483, .string t484, .int .i64 t485] 26 (0, 0)) (by refine blk_up ?_; exact BK487.out) hb)
                    have n4_ := Aside0.mk (blk_below (g := gb492) (o := .cells #[.bool t488, .string t489, .int .i64 t490] 26 (0, 0)) (by refine blk_up ?_; exact BK492.out) hb)
                    have n5_ := Aside0.mk (blk_below (g := gb497) (o := .cells #[.bool t493, .string t494, .int .i64 t495] 26 (0, 0)) (by refine blk_up ?_; exact BK497.out) hb)
                    have n6_ := Aside0.mk (below_step (by repeat (first | (with_reducible first | exact HB.out | apply below_alloc | apply pw_below_drewN | apply below_drew1 | refine below_set ?_ GE476.out | refine below_set ?_ GE477.out | refine below_set ?_ GE482.out | refine below_set ?_ GE487.out | refine below_set ?_ GE492.out | refine below_set ?_ GE497.out) | exact HB.out)) hb)
                    clear BK476
                    clear BK477
                    clear BK482
                    clear BK487
                    clear BK492
                    clear BK497
                    clear HB
                    have BK476 := n0_
                    have BK477 := n1_
                    have BK482 := n2_
                    have BK487 := n3_
                    have BK492 := n4_
                    have BK497 := n5_
                    have HB := n6_
                    clear n0_ n1_ n2_ n3_ n4_ n5_ n6_
                    (try clear hb)
                    (try clear hb2)
                    (try clear hk)
                    (try clear hi)
                    refine hK.out _ _ ⟨(blk_cell BK492.out 0).trans rfl, (blk_cell BK492.out 1).trans rfl, (blk_cell BK492.out 2).trans rfl, (blk_cell BK482.out 0).trans rfl, (blk_cell BK482.out 1).trans rfl, (blk_cell BK482.out 2).trans rfl, (blk_cell BK497.out 0).trans rfl, (blk_cell BK497.out 1).trans rfl, (blk_cell BK497.out 2).trans rfl, (blk_cell BK476.out 0).trans rfl, (blk_cell BK476.out 1).trans rfl, (blk_cell BK476.out 2).trans rfl, (blk_cell BK477.out 0).trans rfl, (blk_cell BK477.out 1).trans rfl, (blk_cell BK477.out 2).trans rfl⟩ (fun hHeld => ?_)
                    clear hK K
                    refine norm_ (a' := ?_) ?_ ?_
                    rotate_left
                    · show Act.put _ (some 93) _ = _
                      simp only [Act.put, List.setIfInBounds_toArray, List.set_cons_zero, List.set_cons_succ, i64_w, i32_w]
                      rfl
                    refine one_ (i := 20) (N := some 96) #[true, true, true, true, true, true, true, true, true, true, true, true, true, true, true, true, true, true, true, true, true, false, false, false, false] rfl rfl (one_of HT_.out (by kernel_rfl)) (by decide) (fun K hK => ?_)
                    refine goes_ Tryd.func14 (by kernel_rfl) rfl #[.agg #[.bool false, .string (⟨#[]⟩ : ByteArray), .int .i64 0], .agg #[.bool t473, .string t474, .int .i64 t475]] (by rfl) rfl rfl (by (try simp only [List.map_toArray, List.map_cons, List.map_nil]); first | done | rfl | (simp only [List.length_drop, List.length_take]; rfl)) ?_
                    with_reducible refine (impl_CompareDec.calls kj6 false (⟨#[]⟩ : ByteArray) 0 t473 t474 t475 t504 _ A67.out).mono ?_
                    rintro e w96 ⟨rfl, hb⟩
                    refine ⟨_, rfl, ?_⟩
                    have n0_ := Aside0.mk (blk_below (g := gb476) (o := .cells #[.bool t470, .string t471, .int .i64 t472] 26 (0, 0)) (by refine blk_up ?_; exact BK476.out) hb)
                    have n1_ := Aside0.mk (blk_below (g := gb477) (o := .cells #[.bool t473, .string t474, .int .i64 t475] 26 (0, 0)) (by refine blk_up ?_; exact BK477.out) hb)
                    have n2_ := Aside0.mk (blk_below (g := gb482) (o := .cells #[.bool t478, .string t479, .int .i64 t480] 26 (0, 0)) (by refine blk_up ?_; exact BK482.out) hb)
                    have n3_ := Aside0.mk (blk_below (g := gb487) (o := .cells #[.bool t483, .string t484, .int .i64 t485] 26 (0, 0)) (by refine blk_up ?_; exact BK487.out) hb)
                    have n4_ := Aside0.mk (blk_below (g := gb492) (o := .cells #[.bool t488, .string t489, .int .i64 t490] 26 (0, 0)) (by refine blk_up ?_; exact BK492.out) hb)
                    have n5_ := Aside0.mk (blk_below (g := gb497) (o := .cells #[.bool t493, .string t494, .int .i64 t495] 26 (0, 0)) (by refine blk_up ?_; exact BK497.out) hb)
                    have n6_ := Aside0.mk (below_step (by repeat (first | (with_reducible first | exact HB.out | apply below_alloc | apply pw_below_drewN | apply below_drew1 | refine below_set ?_ GE476.out | refine below_set ?_ GE477.out | refine below_set ?_ GE482.out | refine below_set ?_ GE487.out | refine below_set ?_ GE492.out | refine below_set ?_ GE497.out) | exact HB.out)) hb)
                    clear BK476
                    clear BK477
                    clear BK482
                    clear BK487
                    clear BK492
                    clear BK497
                    clear HB
                    have BK476 := n0_
                    have BK477 := n1_
                    have BK482 := n2_
                    have BK487 := n3_
                    have BK492 := n4_
                    have BK497 := n5_
                    have HB := n6_
                    clear n0_ n1_ n2_ n3_ n4_ n5_ n6_
                    (try clear hb)
                    (try clear hb2)
                    (try clear hk)
                    (try clear hi)
                    refine hK.out _ _ ⟨(blk_cell BK492.out 0).trans rfl, (blk_cell BK492.out 1).trans rfl, (blk_cell BK492.out 2).trans rfl, (blk_cell BK482.out 0).trans rfl, (blk_cell BK482.out 1).trans rfl, (blk_cell BK482.out 2).trans rfl, (blk_cell BK497.out 0).trans rfl, (blk_cell BK497.out 1).trans rfl, (blk_cell BK497.out 2).trans rfl, (blk_cell BK476.out 0).trans rfl, (blk_cell BK476.out 1).trans rfl, (blk_cell BK476.out 2).trans rfl, (blk_cell BK477.out 0).trans rfl, (blk_cell BK477.out 1).trans rfl, (blk_cell BK477.out 2).trans rfl⟩ (fun hHeld => ?_)
                    clear hK K
                    refine norm_ (a' := ?_) ?_ ?_
                    rotate_left
                    · show Act.put _ (some 96) _ = _
                      simp only [Act.put, List.setIfInBounds_toArray, List.set_cons_zero, List.set_cons_succ, i64_w, i32_w]
                      rfl
                    refine pure_ (i := 21) (N := some 97) (v := ?_) (a' := ?_) #[true, true, true, true, true, true, true, true, true, true, true, true, true, true, true, true, true, true, true, true, true, true, false, false, false] rfl rfl (any_of HT_.out (by kernel_rfl)) (fun _ _ _ h => h) (Or.inl ⟨by rfl, ?_⟩) ?_ ?_
                    rotate_left
                    · intro w'
                      go_simp
                      with_reducible rfl
                    rotate_left
                    · simp only [Act.put, List.setIfInBounds_toArray, List.set_cons_zero, List.set_cons_succ, i64_w, i32_w]
                      rfl
                    refine pure_ (i := 22) (N := some 98) (v := ?_) (a' := ?_) #[true, true, true, true, true, true, true, true, true, true, true, true, true, true, true, true, true, true, true, true, true, true, true, false, false] rfl rfl (any_of HT_.out (by kernel_rfl)) (fun _ _ _ h => h) (Or.inl ⟨by rfl, ?_⟩) ?_ ?_
                    rotate_left
                    · intro w'
                      go_simp
                      with_reducible rfl
                    rotate_left
                    · simp only [Act.put, List.setIfInBounds_toArray, List.set_cons_zero, List.set_cons_succ, i64_w, i32_w]
                      rfl
                    refine pure_ (i := 23) (N := some 99) (v := ?_) (a' := ?_) #[true, true, true, true, true, true, true, true, true, true, true, true, true, true, true, true, true, true, true, true, true, true, true, true, false] rfl rfl (any_of HT_.out (by kernel_rfl)) (fun _ _ _ h => h) (Or.inl ⟨by rfl, ?_⟩) ?_ ?_
                    rotate_left
                    · intro w'
                      go_simp
                      with_reducible rfl
                    rotate_left
                    · simp only [Act.put, List.setIfInBounds_toArray, List.set_cons_zero, List.set_cons_succ, i64_w, i32_w]
                      rfl
                    refine pure_ (i := 24) (N := some 2) (v := ?_) (a' := ?_) #[true, true, true, true, true, true, true, true, true, true, true, true, true, true, true, true, true, true, true, true, true, true, true, true, true] rfl rfl (any_of HT_.out (by kernel_rfl)) (fun _ _ _ h => h) (Or.inl ⟨by rfl, ?_⟩) ?_ ?_
                    rotate_left
                    · intro w'
                      go_simp
                      with_reducible rfl
                    rotate_left
                    · simp only [Act.put, List.setIfInBounds_toArray, List.set_cons_zero, List.set_cons_succ, i64_w, i32_w]
                      rfl
                    refine done_ (done_of HT_.out (by kernel_rfl)) ?_
                    try go_wp2
                    go_ret
                    exact ⟨by first | rfl | (simp [errW_none, errW_some] <;> rfl) | (simp [*, errW_none, errW_some] <;> rfl), by repeat (first | (with_reducible first | exact HB.out | apply below_alloc | apply pw_below_drewN | apply below_drew1 | refine below_set ?_ GE476.out | refine below_set ?_ GE477.out | refine below_set ?_ GE482.out | refine below_set ?_ GE487.out | refine below_set ?_ GE492.out | refine below_set ?_ GE497.out) | exact HB.out)⟩
                  · rw [if_neg c65] at H
                    have c65b0 : (t493 == t470 && (t494.toList == t471.toList && (t495 == t472))) = false := by simpa using c65
                    (try (have c65b1 : decide (t493 = t470 && (t494.toList == t471.toList && (t495 == t472))) = false := by simpa using c65))
                    (try (have c65b2 : (t493 == t470 && (t494.toList == t471.toList && (t495 == t472))) = false := by simpa using c65))
                    (try (have c65b3 : ¬ (t493 = t470 && (t494.toList == t471.toList && (t495 == t472))) := by simpa using c65))
                    clear c65
                    exact absurd H (by simp)
                · replace c64 := Bool.eq_false_iff.mpr c64
                  subst c64
                  have H1 : (none) = some r := by rw [if_neg (show ¬ (false = true) by decide)] at H; exact H
                  clear H
                  have H := H1
                  clear H1
                  exact absurd H (by simp)
              · rw [if_neg c63] at H
                have c63b0 : (t488 == t478 && (t489.toList == t479.toList && (t490 == t480))) = false := by simpa using c63
                (try (have c63b1 : decide (t488 = t478 && (t489.toList == t479.toList && (t490 == t480))) = false := by simpa using c63))
                (try (have c63b2 : (t488 == t478 && (t489.toList == t479.toList && (t490 == t480))) = false := by simpa using c63))
                (try (have c63b3 : ¬ (t488 = t478 && (t489.toList == t479.toList && (t490 == t480))) := by simpa using c63))
                clear c63
                exact absurd H (by simp)
            · replace c62 := Bool.eq_false_iff.mpr c62
              subst c62
              have H1 : (none) = some r := by rw [if_neg (show ¬ (false = true) by decide)] at H; exact H
              clear H
              have H := H1
              clear H1
              exact absurd H (by simp)
          · rw [if_neg c60] at H
            have c60b0 : (t474.toList == ([] : List UInt8)) = false := beq_eq_false_iff_ne.mpr c60
            have c60b1 : (t474.toList != ([] : List UInt8)) = true := bne_iff_ne.mpr c60
            replace H := Option.bind_eq_some_iff.mp H
            obtain ⟨⟨t498, t499, t500, t501⟩, A970, H⟩ := H
            replace H : (if t491 = true then (if (t488 == t478 && (t489.toList == t479.toList && (t490 == t480))) = true then (if t501 = true then (if (t498 == t470 && (t499.toList == t471.toList && (t500 == t472))) = true then ((impl_CompareDec.f kj6 t478 t479 t480 t470 t471 t472).bind fun t505 => ((impl_CompareDec.f kj6 false (⟨#[]⟩ : ByteArray) 0 t473 t474 t475).bind fun t506 => (some (t505 == (wrap64 (-t506)))))) else (none)) else (none)) else (none)) else (none)) = some r := H
            have A97 := Aside0.mk A970
            clear A970
            by_cases c98 : t491 = true
            · subst c98
              have H1 : (if (t488 == t478 && (t489.toList == t479.toList && (t490 == t480))) = true then (if t501 = true then (if (t498 == t470 && (t499.toList == t471.toList && (t500 == t472))) = true then ((impl_CompareDec.f kj6 t478 t479 t480 t470 t471 t472).bind fun t505 => ((impl_CompareDec.f kj6 false (⟨#[]⟩ : ByteArray) 0 t473 t474 t475).bind fun t506 => (some (t505 == (wrap64 (-t506)))))) else (none)) else (none)) else (none)) = some r := by rw [if_pos rfl] at H; exact H
              clear H
              have H := H1
              clear H1
              by_cases c99 : (t488 == t478 && (t489.toList == t479.toList && (t490 == t480))) = true
              · rw [if_pos c99] at H
                have c99b0 : (t488 == t478 && (t489.toList == t479.toList && (t490 == t480))) = true := c99
                (try (have c99b1 : decide (t488 = t478 && (t489.toList == t479.toList && (t490 == t480))) = true := by simpa using c99))
                (try (have c99b2 : (t488 == t478 && (t489.toList == t479.toList && (t490 == t480))) = true := by simpa using c99))
                clear c99
                by_cases c100 : t501 = true
                · subst c100
                  have H1 : (if (t498 == t470 && (t499.toList == t471.toList && (t500 == t472))) = true then ((impl_CompareDec.f kj6 t478 t479 t480 t470 t471 t472).bind fun t505 => ((impl_CompareDec.f kj6 false (⟨#[]⟩ : ByteArray) 0 t473 t474 t475).bind fun t506 => (some (t505 == (wrap64 (-t506)))))) else (none)) = some r := by rw [if_pos rfl] at H; exact H
                  clear H
                  have H := H1
                  clear H1
                  by_cases c101 : (t498 == t470 && (t499.toList == t471.toList && (t500 == t472))) = true
                  · rw [if_pos c101] at H
                    have c101b0 : (t498 == t470 && (t499.toList == t471.toList && (t500 == t472))) = true := c101
                    (try (have c101b1 : decide (t498 = t470 && (t499.toList == t471.toList && (t500 == t472))) = true := by simpa using c101))
                    (try (have c101b2 : (t498 == t470 && (t499.toList == t471.toList && (t500 == t472))) = true := by simpa using c101))
                    clear c101
                    replace H := Option.bind_eq_some_iff.mp H
                    obtain ⟨t505, A1020, H⟩ := H
                    replace H : ((impl_CompareDec.f kj6 false (⟨#[]⟩ : ByteArray) 0 t473 t474 t475).bind fun t506 => (some (t505 == (wrap64 (-t506))))) = some r := H
                    have A102 := Aside0.mk A1020
                    clear A1020
                    replace H := Option.bind_eq_some_iff.mp H
                    obtain ⟨t506, A1030, H⟩ := H
                    replace H : (some (t505 == (wrap64 (-t506)))) = some r := H
                    have A103 := Aside0.mk A1030
                    clear A1030
                    obtain rfl := Option.some.inj H
                    have hnb104 := NB477_476.out
                    have hnc104 := NB476_477.out
                    have hnb105 := NB477_482.out
                    have hnc105 := NB482_477.out
                    have hnb106 := NB477_487.out
                    have hnc106 := NB487_477.out
                    have hcz107_0 : wc.cell? ⟨gb477, 0, none⟩ = some (.bool t473) := (blk_cell BK477.out 0).trans rfl
                    have hcz107_1 : wc.cell? ⟨gb477, 1, none⟩ = some (.string t474) := (blk_cell BK477.out 1).trans rfl
                    have hcz107_2 : wc.cell? ⟨gb477, 2, none⟩ = some (.int .i64 t475) := (blk_cell BK477.out 2).trans rfl
                    have hfz107_0 := blk_frozen BK477.out 0
                    have hfz107_1 := blk_frozen BK477.out 1
                    have hfz107_2 := blk_frozen BK477.out 2
                    have hnb108 := NB476_482.out
                    have hnc108 := NB482_476.out
                    have hnb109 := NB476_487.out
                    have hnc109 := NB487_476.out
                    have hcz110_0 : wc.cell? ⟨gb476, 0, none⟩ = some (.bool t470) := (blk_cell BK476.out 0).trans rfl
                    have hcz110_1 : wc.cell? ⟨gb476, 1, none⟩ = some (.string t471) := (blk_cell BK476.out 1).trans rfl
                    have hcz110_2 : wc.cell? ⟨gb476, 2, none⟩ = some (.int .i64 t472) := (blk_cell BK476.out 2).trans rfl
                    have hfz110_0 := blk_frozen BK476.out 0
                    have hfz110_1 := blk_frozen BK476.out 1
                    have hfz110_2 := blk_frozen BK476.out 2
                    try go_wp2_with (first | ((with_reducible refine gate_callee (f := 20) rfl ?_); refine goesL_ (some 55) rfl rfl Tryd.func20 (by kernel_rfl) rfl #[.agg #[.bool t473, .string t474, .int .i64 t475], .agg #[.bool t470, .string t471, .int .i64 t472]] rfl (by (try simp only [List.map_toArray, List.map_cons, List.map_nil]); first | done | rfl | (simp only [List.length_drop, List.length_take]; rfl)) ?_; (with_reducible refine (impl_AddDec.calls kj6 t473 t474 t475 t470 t471 t472 t488 t489 t490 true _ A59.out).mono ?_); rintro e w111 ⟨rfl, hb⟩; refine ⟨_, rfl, ?_⟩; have n0_ := Aside0.mk (blk_below (g := gb476) (o := .cells #[.bool t470, .string t471, .int .i64 t472] 26 (0, 0)) (by refine blk_up ?_; exact BK476.out) hb); have n1_ := Aside0.mk (blk_below (g := gb477) (o := .cells #[.bool t473, .string t474, .int .i64 t475] 26 (0, 0)) (by refine blk_up ?_; exact BK477.out) hb); have n2_ := Aside0.mk (blk_below (g := gb482) (o := .cells #[.bool t478, .string t479, .int .i64 t480] 26 (0, 0)) (by refine blk_up ?_; exact BK482.out) hb); have n3_ := Aside0.mk (blk_below (g := gb487) (o := .cells #[.bool t483, .string t484, .int .i64 t485] 26 (0, 0)) (by refine blk_up ?_; exact BK487.out) hb); have n4_ := Aside0.mk (below_step (by repeat (first | (with_reducible first | exact HB.out | apply below_alloc | apply pw_below_drewN | apply below_drew1 | refine below_set ?_ GE476.out | refine below_set ?_ GE477.out | refine below_set ?_ GE482.out | refine below_set ?_ GE487.out) | exact HB.out)) hb); clear BK476; clear BK477; clear BK482; clear BK487; clear HB; have BK476 := n0_; have BK477 := n1_; have BK482 := n2_; have BK487 := n3_; have HB := n4_; clear n0_ n1_ n2_ n3_ n4_; (try clear hb); (try clear hb2); (try clear hk); (try clear hi)) | ((with_reducible refine gate_dst (N := 9) rfl ?_); refine box_event ?hg (N := 9) ?hd (cs := #[.bool false, .string (⟨#[]⟩ : ByteArray), .int .i64 0]) (t := 26) ?hr ?_; (case hd => rfl); (case hg => rfl); (case hr => first | (go_simp; done) | (go_simp; rfl)); intro gb492 hg w112 hbox hb; have n0_ := Aside0.mk (blk_below (g := gb476) (o := .cells #[.bool t470, .string t471, .int .i64 t472] 26 (0, 0)) (by refine blk_up ?_; exact BK476.out) hb); have n1_ := Aside0.mk (blk_below (g := gb477) (o := .cells #[.bool t473, .string t474, .int .i64 t475] 26 (0, 0)) (by refine blk_up ?_; exact BK477.out) hb); have n2_ := Aside0.mk (blk_below (g := gb482) (o := .cells #[.bool t478, .string t479, .int .i64 t480] 26 (0, 0)) (by refine blk_up ?_; exact BK482.out) hb); have n3_ := Aside0.mk (blk_below (g := gb487) (o := .cells #[.bool t483, .string t484, .int .i64 t485] 26 (0, 0)) (by refine blk_up ?_; exact BK487.out) hb); have n4_ := Aside0.mk (below_step (by repeat (first | (with_reducible first | exact HB.out | apply below_alloc | apply pw_below_drewN | apply below_drew1 | refine below_set ?_ GE476.out | refine below_set ?_ GE477.out | refine below_set ?_ GE482.out | refine below_set ?_ GE487.out) | exact HB.out)) hb); have n5_ := Aside0.mk (hbox); have n6_ := Aside0.mk ((by rw [hg]; exact (below_size (by repeat (first | (with_reducible first | exact HB.out | apply below_alloc | apply pw_below_drewN | apply below_drew1 | refine below_set ?_ GE476.out | refine below_set ?_ GE477.out | refine below_set ?_ GE482.out | refine below_set ?_ GE487.out) | exact HB.out))) : w.heap.size ≤ gb492)); have n7_ := Aside0.mk ((by rw [hg]; exact (below_size (by repeat (first | (with_reducible first | exact HB.out | apply below_alloc | apply pw_below_drewN | apply below_drew1 | refine below_set ?_ GE476.out | refine below_set ?_ GE477.out | refine below_set ?_ GE482.out | refine below_set ?_ GE487.out) | exact HB.out))) : w.heap.size ≤ gb492)); have n8_ := Aside0.mk ((by rw [hg]; exact Nat.ne_of_lt (blk_lt (g := gb476) (o := .cells #[.bool t470, .string t471, .int .i64 t472] 26 (0, 0)) (by refine blk_up ?_; exact BK476.out)) : gb476 ≠ gb492)); have n9_ := Aside0.mk ((by rw [hg]; exact Nat.ne_of_gt (blk_lt (g := gb476) (o := .cells #[.bool t470, .string t471, .int .i64 t472] 26 (0, 0)) (by refine blk_up ?_; exact BK476.out)) : gb492 ≠ gb476)); have n10_ := Aside0.mk ((by rw [hg]; exact Nat.ne_of_lt (blk_lt (g := gb477) (o := .cells #[.bool t473, .string t474, .int .i64 t475] 26 (0, 0)) (by refine blk_up ?_; exact BK477.out)) : gb477 ≠ gb492)); have n11_ := Aside0.mk ((by rw [hg]; exact Nat.ne_of_gt (blk_lt (g := gb477) (o := .cells #[.bool t473, .string t474, .int .i64 t475] 26 (0, 0)) (by refine blk_up ?_; exact BK477.out)) : gb492 ≠ gb477)); have n12_ := Aside0.mk ((by rw [hg]; exact Nat.ne_of_lt (blk_lt (g := gb482) (o := .cells #[.bool t478, .string t479, .int .i64 t480] 26 (0, 0)) (by refine blk_up ?_; exact BK482.out)) : gb482 ≠ gb492)); have n13_ := Aside0.mk ((by rw [hg]; exact Nat.ne_of_gt (blk_lt (g := gb482) (o := .cells #[.bool t478, .string t479, .int .i64 t480] 26 (0, 0)) (by refine blk_up ?_; exact BK482.out)) : gb492 ≠ gb482)); have n14_ := Aside0.mk ((by rw [hg]; exact Nat.ne_of_lt (blk_lt (g := gb487) (o := .cells #[.bool t483, .string t484, .int .i64 t485] 26 (0, 0)) (by refine blk_up ?_; exact BK487.out)) : gb487 ≠ gb492)); have n15_ := Aside0.mk ((by rw [hg]; exact Nat.ne_of_gt (blk_lt (g := gb487) (o := .cells #[.bool t483, .string t484, .int .i64 t485] 26 (0, 0)) (by refine blk_up ?_; exact BK487.out)) : gb492 ≠ gb487)); clear BK476; clear BK477; clear BK482; clear BK487; clear HB; have BK476 := n0_; have BK477 := n1_; have BK482 := n2_; have BK487 := n3_; have HB := n4_; have BK492 := n5_; have GW492 := n6_; have GE492 := n7_; have NB476_492 := n8_; have NB492_476 := n9_; have NB477_492 := n10_; have NB492_477 := n11_; have NB482_492 := n12_; have NB492_482 := n13_; have NB487_492 := n14_; have NB492_487 := n15_; clear n0_ n1_ n2_ n3_ n4_ n5_ n6_ n7_ n8_ n9_ n10_ n11_ n12_ n13_ n14_ n15_; clear hb hbox hg; have hnb113 := NB492_476.out; have hnc113 := NB476_492.out; have hnb114 := NB492_477.out; have hnc114 := NB477_492.out; have hnb115 := NB492_482.out; have hnc115 := NB482_492.out; have hnb116 := NB492_487.out; have hnc116 := NB487_492.out; have hcz117_0 : w112.cell? ⟨gb492, 0, none⟩ = some (.bool false) := (blk_cell BK492.out 0).trans rfl; have hcz117_1 : w112.cell? ⟨gb492, 1, none⟩ = some (.string (⟨#[]⟩ : ByteArray)) := (blk_cell BK492.out 1).trans rfl; have hcz117_2 : w112.cell? ⟨gb492, 2, none⟩ = some (.int .i64 0) := (blk_cell BK492.out 2).trans rfl; have hfz117_0 := blk_frozen BK492.out 0; have hfz117_1 := blk_frozen BK492.out 1; have hfz117_2 := blk_frozen BK492.out 2; have hnb118 := NB482_487.out; have hnc118 := NB487_482.out; have hcz119_0 : w112.cell? ⟨gb482, 0, none⟩ = some (.bool t478) := (blk_cell BK482.out 0).trans rfl; have hcz119_1 : w112.cell? ⟨gb482, 1, none⟩ = some (.string t479) := (blk_cell BK482.out 1).trans rfl; have hcz119_2 : w112.cell? ⟨gb482, 2, none⟩ = some (.int .i64 t480) := (blk_cell BK482.out 2).trans rfl; have hfz119_0 := blk_frozen BK482.out 0; have hfz119_1 := blk_frozen BK482.out 1; have hfz119_2 := blk_frozen BK482.out 2; have hcz120_0 : w112.cell? ⟨gb477, 0, none⟩ = some (.bool t473) := (blk_cell BK477.out 0).trans rfl; have hcz120_1 : w112.cell? ⟨gb477, 1, none⟩ = some (.string t474) := (blk_cell BK477.out 1).trans rfl; have hcz120_2 : w112.cell? ⟨gb477, 2, none⟩ = some (.int .i64 t475) := (blk_cell BK477.out 2).trans rfl; have hfz120_0 := blk_frozen BK477.out 0; have hfz120_1 := blk_frozen BK477.out 1; have hfz120_2 := blk_frozen BK477.out 2) | ((with_reducible refine gate_callee (f := 20) rfl ?_); refine goesL_ (some 73) rfl rfl Tryd.func20 (by kernel_rfl) rfl #[.agg #[.bool t478, .string t479, .int .i64 t480], .agg #[.bool (!t473), .string t474, .int .i64 t475]] rfl (by (try simp only [List.map_toArray, List.map_cons, List.map_nil]); first | done | rfl | (simp only [List.length_drop, List.length_take]; rfl)) ?_; (with_reducible refine (impl_AddDec.calls kj6 t478 t479 t480 (!t473) t474 t475 t498 t499 t500 true _ A97.out).mono ?_); rintro e w121 ⟨rfl, hb⟩; refine ⟨_, rfl, ?_⟩; have n0_ := Aside0.mk (blk_below (g := gb476) (o := .cells #[.bool t470, .string t471, .int .i64 t472] 26 (0, 0)) (by refine blk_up ?_; refine blk_far ?_ NB476_492.out _; refine blk_up ?_; refine blk_far ?_ NB476_492.out _; refine blk_up ?_; refine blk_far ?_ NB476_492.out _; refine blk_up ?_; exact BK476.out) hb); have n1_ := Aside0.mk (blk_below (g := gb477) (o := .cells #[.bool t473, .string t474, .int .i64 t475] 26 (0, 0)) (by refine blk_up ?_; refine blk_far ?_ NB477_492.out _; refine blk_up ?_; refine blk_far ?_ NB477_492.out _; refine blk_up ?_; refine blk_far ?_ NB477_492.out _; refine blk_up ?_; exact BK477.out) hb); have n2_ := Aside0.mk (blk_below (g := gb482) (o := .cells #[.bool t478, .string t479, .int .i64 t480] 26 (0, 0)) (by refine blk_up ?_; refine blk_far ?_ NB482_492.out _; refine blk_up ?_; refine blk_far ?_ NB482_492.out _; refine blk_up ?_; refine blk_far ?_ NB482_492.out _; refine blk_up ?_; exact BK482.out) hb); have n3_ := Aside0.mk (blk_below (g := gb487) (o := .cells #[.bool t483, .string t484, .int .i64 t485] 26 (0, 0)) (by refine blk_up ?_; refine blk_far ?_ NB487_492.out _; refine blk_up ?_; refine blk_far ?_ NB487_492.out _; refine blk_up ?_; refine blk_far ?_ NB487_492.out _; refine blk_up ?_; exact BK487.out) hb); have n4_ := Aside0.mk (blk_below (g := gb492) (o := .cells #[.bool t488, .string t489, .int .i64 t490] 26 (0, 0)) (by refine blk_up ?_; refine blk_put (cs := #[.bool t488, .string t489, .int .i64 0]) ?_ 2 _ rfl; refine blk_up ?_; refine blk_put (cs := #[.bool t488, .string (⟨#[]⟩ : ByteArray), .int .i64 0]) ?_ 1 _ rfl; refine blk_up ?_; refine blk_put (cs := #[.bool false, .string (⟨#[]⟩ : ByteArray), .int .i64 0]) ?_ 0 _ rfl; refine blk_up ?_; exact BK492.out) hb); have n5_ := Aside0.mk (below_step (by repeat (first | (with_reducible first | exact HB.out | apply below_alloc | apply pw_below_drewN | apply below_drew1 | refine below_set ?_ GE476.out | refine below_set ?_ GE477.out | refine below_set ?_ GE482.out | refine below_set ?_ GE487.out | refine below_set ?_ GE492.out) | exact HB.out)) hb); clear BK476; clear BK477; clear BK482; clear BK487; clear BK492; clear HB; have BK476 := n0_; have BK477 := n1_; have BK482 := n2_; have BK487 := n3_; have BK492 := n4_; have HB := n5_; clear n0_ n1_ n2_ n3_ n4_ n5_; (try clear hb); (try clear hb2); (try clear hk); (try clear hi)) | ((with_reducible refine gate_dst (N := 11) rfl ?_); refine box_event ?hg (N := 11) ?hd (cs := #[.bool false, .string (⟨#[]⟩ : ByteArray), .int .i64 0]) (t := 26) ?hr ?_; (case hd => rfl); (case hg => rfl); (case hr => first | (go_simp; done) | (go_simp; rfl)); intro gb502 hg w122 hbox hb; have n0_ := Aside0.mk (blk_below (g := gb476) (o := .cells #[.bool t470, .string t471, .int .i64 t472] 26 (0, 0)) (by refine blk_up ?_; exact BK476.out) hb); have n1_ := Aside0.mk (blk_below (g := gb477) (o := .cells #[.bool t473, .string t474, .int .i64 t475] 26 (0, 0)) (by refine blk_up ?_; exact BK477.out) hb); have n2_ := Aside0.mk (blk_below (g := gb482) (o := .cells #[.bool t478, .string t479, .int .i64 t480] 26 (0, 0)) (by refine blk_up ?_; exact BK482.out) hb); have n3_ := Aside0.mk (blk_below (g := gb487) (o := .cells #[.bool t483, .string t484, .int .i64 t485] 26 (0, 0)) (by refine blk_up ?_; exact BK487.out) hb); have n4_ := Aside0.mk (blk_below (g := gb492) (o := .cells #[.bool t488, .string t489, .int .i64 t490] 26 (0, 0)) (by refine blk_up ?_; exact BK492.out) hb); have n5_ := Aside0.mk (below_step (by repeat (first | (with_reducible first | exact HB.out | apply below_alloc | apply pw_below_drewN | apply below_drew1 | refine below_set ?_ GE476.out | refine below_set ?_ GE477.out | refine below_set ?_ GE482.out | refine below_set ?_ GE487.out | refine below_set ?_ GE492.out) | exact HB.out)) hb); have n6_ := Aside0.mk (hbox); have n7_ := Aside0.mk ((by rw [hg]; exact (below_size (by repeat (first | (with_reducible first | exact HB.out | apply below_alloc | apply pw_below_drewN | apply below_drew1 | refine below_set ?_ GE476.out | refine below_set ?_ GE477.out | refine below_set ?_ GE482.out | refine below_set ?_ GE487.out | refine below_set ?_ GE492.out) | exact HB.out))) : w.heap.size ≤ gb502)); have n8_ := Aside0.mk ((by rw [hg]; exact (below_size (by repeat (first | (with_reducible first | exact HB.out | apply below_alloc | apply pw_below_drewN | apply below_drew1 | refine below_set ?_ GE476.out | refine below_set ?_ GE477.out | refine below_set ?_ GE482.out | refine below_set ?_ GE487.out | refine below_set ?_ GE492.out) | exact HB.out))) : w.heap.size ≤ gb502)); have n9_ := Aside0.mk ((by rw [hg]; exact Nat.ne_of_lt (blk_lt (g := gb476) (o := .cells #[.bool t470, .string t471, .int .i64 t472] 26 (0, 0)) (by refine blk_up ?_; exact BK476.out)) : gb476 ≠ gb502)); have n10_ := Aside0.mk ((by rw [hg]; exact Nat.ne_of_gt (blk_lt (g := gb476) (o := .cells #[.bool t470, .string t471, .int .i64 t472] 26 (0, 0)) (by refine blk_up ?_; exact BK476.out)) : gb502 ≠ gb476)); have n11_ := Aside0.mk ((by rw [hg]; exact Nat.ne_of_lt (blk_lt (g := gb477) (o := .cells #[.bool t473, .string t474, .int .i64 t475] 26 (0, 0)) (by refine blk_up ?_; exact BK477.out)) : gb477 ≠ gb502)); have n12_ := Aside0.mk ((by rw [hg]; exact Nat.ne_of_gt (blk_lt (g := gb477) (o := .cells #[.bool t473, .string t474, .int .i64 t475] 26 (0, 0)) (by refine blk_up ?_; exact BK477.out)) : gb502 ≠ gb477)); have n13_ := Aside0.mk ((by rw [hg]; exact Nat.ne_of_lt (blk_lt (g := gb482) (o := .cells #[.bool t478, .string t479, .int .i64 t480] 26 (0, 0)) (by refine blk_up ?_; exact BK482.out)) : gb482 ≠ gb502)); have n14_ := Aside0.mk ((by rw [hg]; exact Nat.ne_of_gt (blk_lt (g := gb482) (o := .cells #[.bool t478, .string t479, .int .i64 t480] 26 (0, 0)) (by refine blk_up ?_; exact BK482.out)) : gb502 ≠ gb482)); have n15_ := Aside0.mk ((by rw [hg]; exact Nat.ne_of_lt (blk_lt (g := gb487) (o := .cells #[.bool t483, .string t484, .int .i64 t485] 26 (0, 0)) (by refine blk_up ?_; exact BK487.out)) : gb487 ≠ gb502)); have n16_ := Aside0.mk ((by rw [hg]; exact Nat.ne_of_gt (blk_lt (g := gb487) (o := .cells #[.bool t483, .string t484, .int .i64 t485] 26 (0, 0)) (by refine blk_up ?_; exact BK487.out)) : gb502 ≠ gb487)); have n17_ := Aside0.mk ((by rw [hg]; exact Nat.ne_of_lt (blk_lt (g := gb492) (o := .cells #[.bool t488, .string t489, .int .i64 t490] 26 (0, 0)) (by refine blk_up ?_; exact BK492.out)) : gb492 ≠ gb502)); have n18_ := Aside0.mk ((by rw [hg]; exact Nat.ne_of_gt (blk_lt (g := gb492) (o := .cells #[.bool t488, .string t489, .int .i64 t490] 26 (0, 0)) (by refine blk_up ?_; exact BK492.out)) : gb502 ≠ gb492)); clear BK476; clear BK477; clear BK482; clear BK487; clear BK492; clear HB; have BK476 := n0_; have BK477 := n1_; have BK482 := n2_; have BK487 := n3_; have BK492 := n4_; have HB := n5_; have BK502 := n6_; have GW502 := n7_; have GE502 := n8_; have NB476_502 := n9_; have NB502_476 := n10_; have NB477_502 := n11_; have NB502_477 := n12_; have NB482_502 := n13_; have NB502_482 := n14_; have NB487_502 := n15_; have NB502_487 := n16_; have NB492_502 := n17_; have NB502_492 := n18_; clear n0_ n1_ n2_ n3_ n4_ n5_ n6_ n7_ n8_ n9_ n10_ n11_ n12_ n13_ n14_ n15_ n16_ n17_ n18_; clear hb hbox hg; have hnb123 := NB502_476.out; have hnc123 := NB476_502.out; have hnb124 := NB502_477.out; have hnc124 := NB477_502.out; have hnb125 := NB502_482.out; have hnc125 := NB482_502.out; have hnb126 := NB502_487.out; have hnc126 := NB487_502.out; have hnb127 := NB502_492.out; have hnc127 := NB492_502.out; have hcz128_0 : w122.cell? ⟨gb502, 0, none⟩ = some (.bool false) := (blk_cell BK502.out 0).trans rfl; have hcz128_1 : w122.cell? ⟨gb502, 1, none⟩ = some (.string (⟨#[]⟩ : ByteArray)) := (blk_cell BK502.out 1).trans rfl; have hcz128_2 : w122.cell? ⟨gb502, 2, none⟩ = some (.int .i64 0) := (blk_cell BK502.out 2).trans rfl; have hfz128_0 := blk_frozen BK502.out 0; have hfz128_1 := blk_frozen BK502.out 1; have hfz128_2 := blk_frozen BK502.out 2))
                    have n0_ : Aside0 ((((w122.setCell ⟨gb502, 0, none⟩ (.bool t498)).setCell ⟨gb502, 1, none⟩ (.string t499)).setCell ⟨gb502, 2, none⟩ (.int .i64 t500)).heap[gb476]? = some (.cells #[.bool t470, .string t471, .int .i64 t472] 26 (0, 0))) := ⟨by refine blk_up ?_; refine blk_far ?_ NB476_502.out _; refine blk_up ?_; refine blk_far ?_ NB476_502.out _; refine blk_up ?_; refine blk_far ?_ NB476_502.out _; refine blk_up ?_; exact BK476.out⟩
                    have n1_ : Aside0 ((((w122.setCell ⟨gb502, 0, none⟩ (.bool t498)).setCell ⟨gb502, 1, none⟩ (.string t499)).setCell ⟨gb502, 2, none⟩ (.int .i64 t500)).heap[gb477]? = some (.cells #[.bool t473, .string t474, .int .i64 t475] 26 (0, 0))) := ⟨by refine blk_up ?_; refine blk_far ?_ NB477_502.out _; refine blk_up ?_; refine blk_far ?_ NB477_502.out _; refine blk_up ?_; refine blk_far ?_ NB477_502.out _; refine blk_up ?_; exact BK477.out⟩
                    have n2_ : Aside0 ((((w122.setCell ⟨gb502, 0, none⟩ (.bool t498)).setCell ⟨gb502, 1, none⟩ (.string t499)).setCell ⟨gb502, 2, none⟩ (.int .i64 t500)).heap[gb482]? = some (.cells #[.bool t478, .string t479, .int .i64 t480] 26 (0, 0))) := ⟨by refine blk_up ?_; refine blk_far ?_ NB482_502.out _; refine blk_up ?_; refine blk_far ?_ NB482_502.out _; refine blk_up ?_; refine blk_far ?_ NB482_502.out _; refine blk_up ?_; exact BK482.out⟩
                    have n3_ : Aside0 ((((w122.setCell ⟨gb502, 0, none⟩ (.bool t498)).setCell ⟨gb502, 1, none⟩ (.string t499)).setCell ⟨gb502, 2, none⟩ (.int .i64 t500)).heap[gb487]? = some (.cells #[.bool t483, .string t484, .int .i64 t485] 26 (0, 0))) := ⟨by refine blk_up ?_; refine blk_far ?_ NB487_502.out _; refine blk_up ?_; refine blk_far ?_ NB487_502.out _; refine blk_up ?_; refine blk_far ?_ NB487_502.out _; refine blk_up ?_; exact BK487.out⟩
                    have n4_ : Aside0 ((((w122.setCell ⟨gb502, 0, none⟩ (.bool t498)).setCell ⟨gb502, 1, none⟩ (.string t499)).setCell ⟨gb502, 2, none⟩ (.int .i64 t500)).heap[gb492]? = some (.cells #[.bool t488, .string t489, .int .i64 t490] 26 (0, 0))) := ⟨by refine blk_up ?_; refine blk_far ?_ NB492_502.out _; refine blk_up ?_; refine blk_far ?_ NB492_502.out _; refine blk_up ?_; refine blk_far ?_ NB492_502.out _; refine blk_up ?_; exact BK492.out⟩
                    have n5_ : Aside0 ((((w122.setCell ⟨gb502, 0, none⟩ (.bool t498)).setCell ⟨gb502, 1, none⟩ (.string t499)).setCell ⟨gb502, 2, none⟩ (.int .i64 t500)).heap[gb502]? = some (.cells #[.bool t498, .string t499, .int .i64 t500] 26 (0, 0))) := ⟨by refine blk_up ?_; refine blk_put (cs := #[.bool t498, .string t499, .int .i64 0]) ?_ 2 _ rfl; refine blk_up ?_; refine blk_put (cs := #[.bool t498, .string (⟨#[]⟩ : ByteArray), .int .i64 0]) ?_ 1 _ rfl; refine blk_up ?_; refine blk_put (cs := #[.bool false, .string (⟨#[]⟩ : ByteArray), .int .i64 0]) ?_ 0 _ rfl; refine blk_up ?_; exact BK502.out⟩
                    have n6_ : Aside0 (Below w.heap.size w (((w122.setCell ⟨gb502, 0, none⟩ (.bool t498)).setCell ⟨gb502, 1, none⟩ (.string t499)).setCell ⟨gb502, 2, none⟩ (.int .i64 t500))) := ⟨by repeat (first | (with_reducible first | exact HB.out | apply below_alloc | apply pw_below_drewN | apply below_drew1 | refine below_set ?_ GE476.out | refine below_set ?_ GE477.out | refine below_set ?_ GE482.out | refine below_set ?_ GE487.out | refine below_set ?_ GE492.out | refine below_set ?_ GE502.out) | exact HB.out)⟩
                    (try clear BK476)
                    (try clear BK477)
                    (try clear BK482)
                    (try clear BK487)
                    (try clear BK492)
                    (try clear BK502)
                    (try clear HB)
                    generalize (((w122.setCell ⟨gb502, 0, none⟩ (.bool t498)).setCell ⟨gb502, 1, none⟩ (.string t499)).setCell ⟨gb502, 2, none⟩ (.int .i64 t500)) = w129 at n0_ n1_ n2_ n3_ n4_ n5_ n6_ ⊢
                    have BK476 := n0_
                    have BK477 := n1_
                    have BK482 := n2_
                    have BK487 := n3_
                    have BK492 := n4_
                    have BK502 := n5_
                    have HB := n6_
                    clear n0_ n1_ n2_ n3_ n4_ n5_ n6_
                    have n0_ := Aside0.mk (blk_drew BK476.out)
                    have n1_ := Aside0.mk (blk_drew BK477.out)
                    have n2_ := Aside0.mk (blk_drew BK482.out)
                    have n3_ := Aside0.mk (blk_drew BK487.out)
                    have n4_ := Aside0.mk (blk_drew BK492.out)
                    have n5_ := Aside0.mk (blk_drew BK502.out)
                    have n6_ := Aside0.mk (below_drew1 HB.out)
                    clear BK476
                    clear BK477
                    clear BK482
                    clear BK487
                    clear BK492
                    clear BK502
                    clear HB
                    have BK476 := n0_
                    have BK477 := n1_
                    have BK482 := n2_
                    have BK487 := n3_
                    have BK492 := n4_
                    have BK502 := n5_
                    have HB := n6_
                    clear n0_ n1_ n2_ n3_ n4_ n5_ n6_
                    refine start_ (n := 25) (S := fun w' => w'.cell? ⟨gb492, 0, none⟩ = some (.bool t488) ∧ w'.cell? ⟨gb492, 1, none⟩ = some (.string t489) ∧ w'.cell? ⟨gb492, 2, none⟩ = some (.int .i64 t490) ∧ w'.cell? ⟨gb482, 0, none⟩ = some (.bool t478) ∧ w'.cell? ⟨gb482, 1, none⟩ = some (.string t479) ∧ w'.cell? ⟨gb482, 2, none⟩ = some (.int .i64 t480) ∧ w'.cell? ⟨gb502, 0, none⟩ = some (.bool t498) ∧ w'.cell? ⟨gb502, 1, none⟩ = some (.string t499) ∧ w'.cell? ⟨gb502, 2, none⟩ = some (.int .i64 t500) ∧ w'.cell? ⟨gb476, 0, none⟩ = some (.bool t470) ∧ w'.cell? ⟨gb476, 1, none⟩ = some (.string t471) ∧ w'.cell? ⟨gb476, 2, none⟩ = some (.int .i64 t472) ∧ w'.cell? ⟨gb477, 0, none⟩ = some (.bool t473) ∧ w'.cell? ⟨gb477, 1, none⟩ = some (.string t474) ∧ w'.cell? ⟨gb477, 2, none⟩ = some (.int .i64 t475)) (ds := []) #[false, false, false, false, false, false, false, false, false, false, false, false, false, false, false, false, false, false, false, false, false, false, false, false, false] (by kernel_rfl) rfl rfl ⟨(blk_cell BK492.out 0).trans rfl, (blk_cell BK492.out 1).trans rfl, (blk_cell BK492.out 2).trans rfl, (blk_cell BK482.out 0).trans rfl, (blk_cell BK482.out 1).trans rfl, (blk_cell BK482.out 2).trans rfl, (blk_cell BK502.out 0).trans rfl, (blk_cell BK502.out 1).trans rfl, (blk_cell BK502.out 2).trans rfl, (blk_cell BK476.out 0).trans rfl, (blk_cell BK476.out 1).trans rfl, (blk_cell BK476.out 2).trans rfl, (blk_cell BK477.out 0).trans rfl, (blk_cell BK477.out 1).trans rfl, (blk_cell BK477.out 2).trans rfl⟩ (fun hHeld => ?_); refine with_tabW laws_FnAdded.tab10 laws_FnAdded.bits10 (fun HT_ HW_ => ?_)
                    generalize w129.drew = w130 at BK476 BK477 BK482 BK487 BK492 BK502 HB hHeld ⊢
                    refine pure_ (i := 0) (N := some 76) (v := ?_) (a' := ?_) #[true, false, false, false, false, false, false, false, false, false, false, false, false, false, false, false, false, false, false, false, false, false, false, false, false] rfl rfl (any_of HT_.out (by kernel_rfl)) (fun _ _ _ h => h) (Or.inl ⟨by rfl, ?_⟩) ?_ ?_
                    rotate_left
                    · intro w'
                      go_simp
                      with_reducible rfl
                    rotate_left
                    · simp only [Act.put, List.setIfInBounds_toArray, List.set_cons_zero, List.set_cons_succ, i64_w, i32_w]
                      rfl
                    refine pure_ (i := 1) (N := some 77) (v := ?_) (a' := ?_) #[true, true, false, false, false, false, false, false, false, false, false, false, false, false, false, false, false, false, false, false, false, false, false, false, false] rfl rfl (any_of HT_.out (by kernel_rfl)) (fun _ _ _ h => h) (Or.inl ⟨by rfl, ?_⟩) ?_ ?_
                    rotate_left
                    · intro w'
                      go_simp
                      with_reducible rfl
                    rotate_left
                    · simp only [Act.put, List.setIfInBounds_toArray, List.set_cons_zero, List.set_cons_succ, i64_w, i32_w]
                      rfl
                    refine take_ (i := 2) (N := some 78) (v := ?_) (a' := ?_) #[true, true, true, false, false, false, false, false, false, false, false, false, false, false, false, false, false, false, false, false, false, false, false, false, false] rfl rfl (take_ofW HT_.out HW_.out (by kernel_rfl)) (fun _ _ _ h => h) (Or.inl ⟨by rfl, ?_⟩) hHeld ?_ ?_
                    rotate_left
                    · rintro w' ⟨s0, s1, s2, s3, s4, s5, s6, s7, s8, s9, s10, s11, s12, s13, s14⟩
                      go_simp
                      with_reducible rfl
                    rotate_left
                    · simp only [Act.put, List.setIfInBounds_toArray, List.set_cons_zero, List.set_cons_succ, i64_w, i32_w]
                      rfl
                    refine take_ (i := 3) (N := some 79) (v := ?_) (a' := ?_) #[true, true, true, true, false, false, false, false, false, false, false, false, false, false, false, false, false, false, false, false, false, false, false, false, false] rfl rfl (take_ofW HT_.out HW_.out (by kernel_rfl)) (fun _ _ _ h => h) (Or.inl ⟨by rfl, ?_⟩) hHeld ?_ ?_
                    rotate_left
                    · rintro w' ⟨s0, s1, s2, s3, s4, s5, s6, s7, s8, s9, s10, s11, s12, s13, s14⟩
                      go_simp
                      with_reducible rfl
                    rotate_left
                    · simp only [Act.put, List.setIfInBounds_toArray, List.set_cons_zero, List.set_cons_succ, i64_w, i32_w]
                      rfl
                    refine pure_ (i := 4) (N := some 80) (v := ?_) (a' := ?_) #[true, true, true, true, true, false, false, false, false, false, false, false, false, false, false, false, false, false, false, false, false, false, false, false, false] rfl rfl (any_of HT_.out (by kernel_rfl)) (fun _ _ _ h => h) (Or.inl ⟨by rfl, ?_⟩) ?_ ?_
                    rotate_left
                    · intro w'
                      go_simp
                      with_reducible rfl
                    rotate_left
                    · simp only [Act.put, List.setIfInBounds_toArray, List.set_cons_zero, List.set_cons_succ, i64_w, i32_w]
                      rfl
                    refine pure_ (i := 5) (N := some 81) (v := ?_) (a' := ?_) #[true, true, true, true, true, true, false, false, false, false, false, false, false, false, false, false, false, false, false, false, false, false, false, false, false] rfl rfl (any_of HT_.out (by kernel_rfl)) (fun _ _ _ h => h) (Or.inl ⟨by rfl, ?_⟩) ?_ ?_
                    rotate_left
                    · intro w'
                      go_simp
                      with_reducible rfl
                    rotate_left
                    · simp only [Act.put, List.setIfInBounds_toArray, List.set_cons_zero, List.set_cons_succ, i64_w, i32_w]
                      rfl
                    refine pure_ (i := 6) (N := some 82) (v := ?_) (a' := ?_) #[true, true, true, true, true, true, true, false, false, false, false, false, false, false, false, false, false, false, false, false, false, false, false, false, false] rfl rfl (any_of HT_.out (by kernel_rfl)) (fun _ _ _ h => h) (Or.inl ⟨by rfl, ?_⟩) ?_ ?_
                    rotate_left
                    · intro w'
                      go_simp
                      with_reducible rfl
                    rotate_left
                    · simp only [Act.put, List.setIfInBounds_toArray, List.set_cons_zero, List.set_cons_succ, i64_w, i32_w]
                      rfl
                    refine pure_ (i := 7) (N := some 83) (v := ?_) (a' := ?_) #[true, true, true, true, true, true, true, true, false, false, false, false, false, false, false, false, false, false, false, false, false, false, false, false, false] rfl rfl (any_of HT_.out (by kernel_rfl)) (fun _ _ _ h => h) (Or.inl ⟨by rfl, ?_⟩) ?_ ?_
                    rotate_left
                    · intro w'
                      go_simp
                      with_reducible rfl
                    rotate_left
                    · simp only [Act.put, List.setIfInBounds_toArray, List.set_cons_zero, List.set_cons_succ, i64_w, i32_w]
                      rfl
                    refine pure_ (i := 8) (N := some 84) (v := ?_) (a' := ?_) #[true, true, true, true, true, true, true, true, true, false, false, false, false, false, false, false, false, false, false, false, false, false, false, false, false] rfl rfl (any_of HT_.out (by kernel_rfl)) (fun _ _ _ h => h) (Or.inl ⟨by rfl, ?_⟩) ?_ ?_
                    rotate_left
                    · intro w'
                      go_simp
                      with_reducible rfl
                    rotate_left
                    · simp only [Act.put, List.setIfInBounds_toArray, List.set_cons_zero, List.set_cons_succ, i64_w, i32_w]
                      rfl
                    refine pure_ (i := 9) (N := some 85) (v := ?_) (a' := ?_) #[true, true, true, true, true, true, true, true, true, true, false, false, false, false, false, false, false, false, false, false, false, false, false, false, false] rfl rfl (any_of HT_.out (by kernel_rfl)) (fun _ _ _ h => h) (Or.inl ⟨by rfl, ?_⟩) ?_ ?_
                    rotate_left
                    · intro w'
                      go_simp
                      with_reducible rfl
                    rotate_left
                    · simp only [Act.put, List.setIfInBounds_toArray, List.set_cons_zero, List.set_cons_succ, i64_w, i32_w]
                      rfl
                    refine take_ (i := 10) (N := some 86) (v := ?_) (a' := ?_) #[true, true, true, true, true, true, true, true, true, true, true, false, false, false, false, false, false, false, false, false, false, false, false, false, false] rfl rfl (take_ofW HT_.out HW_.out (by kernel_rfl)) (fun _ _ _ h => h) (Or.inl ⟨by rfl, ?_⟩) hHeld ?_ ?_
                    rotate_left
                    · rintro w' ⟨s0, s1, s2, s3, s4, s5, s6, s7, s8, s9, s10, s11, s12, s13, s14⟩
                      go_simp
                      with_reducible rfl
                    rotate_left
                    · simp only [Act.put, List.setIfInBounds_toArray, List.set_cons_zero, List.set_cons_succ, i64_w, i32_w]
                      rfl
                    refine take_ (i := 11) (N := some 87) (v := ?_) (a' := ?_) #[true, true, true, true, true, true, true, true, true, true, true, true, false, false, false, false, false, false, false, false, false, false, false, false, false] rfl rfl (take_ofW HT_.out HW_.out (by kernel_rfl)) (fun _ _ _ h => h) (Or.inl ⟨by rfl, ?_⟩) hHeld ?_ ?_
                    rotate_left
                    · rintro w' ⟨s0, s1, s2, s3, s4, s5, s6, s7, s8, s9, s10, s11, s12, s13, s14⟩
                      go_simp
                      with_reducible rfl
                    rotate_left
                    · simp only [Act.put, List.setIfInBounds_toArray, List.set_cons_zero, List.set_cons_succ, i64_w, i32_w]
                      rfl
                    refine pure_ (i := 12) (N := some 88) (v := ?_) (a' := ?_) #[true, true, true, true, true, true, true, true, true, true, true, true, true, false, false, false, false, false, false, false, false, false, false, false, false] rfl rfl (any_of HT_.out (by kernel_rfl)) (fun _ _ _ h => h) (Or.inl ⟨by rfl, ?_⟩) ?_ ?_
                    rotate_left
                    · intro w'
                      go_simp
                      with_reducible rfl
                    rotate_left
                    · simp only [Act.put, List.setIfInBounds_toArray, List.set_cons_zero, List.set_cons_succ, i64_w, i32_w]
                      rfl
                    refine pure_ (i := 13) (N := some 89) (v := ?_) (a' := ?_) #[true, true, true, true, true, true, true, true, true, true, true, true, true, true, false, false, false, false, false, false, false, false, false, false, false] rfl rfl (any_of HT_.out (by kernel_rfl)) (fun _ _ _ h => h) (Or.inl ⟨by rfl, ?_⟩) ?_ ?_
                    rotate_left
                    · intro w'
                      go_simp
                      with_reducible rfl
                    rotate_left
                    · simp only [Act.put, List.setIfInBounds_toArray, List.set_cons_zero, List.set_cons_succ, i64_w, i32_w]
                      rfl
                    refine pure_ (i := 14) (N := some 90) (v := ?_) (a' := ?_) #[true, true, true, true, true, true, true, true, true, true, true, true, true, true, true, false, false, false, false, false, false, false, false, false, false] rfl rfl (any_of HT_.out (by kernel_rfl)) (fun _ _ _ h => h) (Or.inl ⟨by rfl, ?_⟩) ?_ ?_
                    rotate_left
                    · intro w'
                      go_simp
                      with_reducible rfl
                    rotate_left
                    · simp only [Act.put, List.setIfInBounds_toArray, List.set_cons_zero, List.set_cons_succ, i64_w, i32_w]
                      rfl
                    refine pure_ (i := 18) (N := some 94) (v := ?_) (a' := ?_) #[true, true, true, true, true, true, true, true, true, true, true, true, true, true, true, false, false, false, true, false, false, false, false, false, false] rfl rfl (any_of HT_.out (by kernel_rfl)) (fun _ _ _ h => h) (Or.inl ⟨by rfl, ?_⟩) ?_ ?_
                    rotate_left
                    · intro w'
                      go_simp
                      with_reducible rfl
                    rotate_left
                    · simp only [Act.put, List.setIfInBounds_toArray, List.set_cons_zero, List.set_cons_succ, i64_w, i32_w]
                      rfl
                    refine take_ (i := 15) (N := some 91) (v := ?_) (a' := ?_) #[true, true, true, true, true, true, true, true, true, true, true, true, true, true, true, true, false, false, true, false, false, false, false, false, false] rfl rfl (take_ofW HT_.out HW_.out (by kernel_rfl)) (fun _ _ _ h => h) (Or.inl ⟨by rfl, ?_⟩) hHeld ?_ ?_
                    rotate_left
                    · rintro w' ⟨s0, s1, s2, s3, s4, s5, s6, s7, s8, s9, s10, s11, s12, s13, s14⟩
                      go_simp
                      with_reducible rfl
                    rotate_left
                    · simp only [Act.put, List.setIfInBounds_toArray, List.set_cons_zero, List.set_cons_succ, i64_w, i32_w]
                      rfl
                    refine take_ (i := 16) (N := some 92) (v := ?_) (a' := ?_) #[true, true, true, true, true, true, true, true, true, true, true, true, true, true, true, true, true, false, true, false, false, false, false, false, false] rfl rfl (take_ofW HT_.out HW_.out (by kernel_rfl)) (fun _ _ _ h => h) (Or.inl ⟨by rfl, ?_⟩) hHeld ?_ ?_
                    rotate_left
                    · rintro w' ⟨s0, s1, s2, s3, s4, s5, s6, s7, s8, s9, s10, s11, s12, s13, s14⟩
                      go_simp
                      with_reducible rfl
                    rotate_left
                    · simp only [Act.put, List.setIfInBounds_toArray, List.set_cons_zero, List.set_cons_succ, i64_w, i32_w]
                      rfl
                    refine take_ (i := 19) (N := some 95) (v := ?_) (a' := ?_) #[true, true, true, true, true, true, true, true, true, true, true, true, true, true, true, true, true, false, true, true, false, false, false, false, false] rfl rfl (take_ofW HT_.out HW_.out (by kernel_rfl)) (fun _ _ _ h => h) (Or.inl ⟨by rfl, ?_⟩) hHeld ?_ ?_
                    rotate_left
                    · rintro w' ⟨s0, s1, s2, s3, s4, s5, s6, s7, s8, s9, s10, s11, s12, s13, s14⟩
                      go_simp
                      with_reducible rfl
                    rotate_left
                    · simp only [Act.put, List.setIfInBounds_toArray, List.set_cons_zero, List.set_cons_succ, i64_w, i32_w]
                      rfl
                    refine one_ (i := 17) (N := some 93) #[true, true, true, true, true, true, true, true, true, true, true, true, true, true, true, true, true, true, true, true, false, false, false, false, false] rfl rfl (one_of HT_.out (by kernel_rfl)) (by decide) (fun K hK => ?_)
                    refine goes_ Tryd.func14 (by kernel_rfl) rfl #[.agg #[.bool t478, .string t479, .int .i64 t480], .agg #[.bool t470, .string t471, .int .i64 t472]] (by rfl) rfl rfl (by (try simp only [List.map_toArray, List.map_cons, List.map_nil]); first | done | rfl | (simp only [List.length_drop, List.length_take]; rfl)) ?_
                    with_reducible refine (impl_CompareDec.calls kj6 t478 t479 t480 t470 t471 t472 t505 _ A102.out).mono ?_
                    rintro e w131 ⟨rfl, hb⟩
                    refine ⟨_, rfl, ?_⟩
                    have n0_ := Aside0.mk (blk_below (g := gb476) (o := .cells #[.bool t470, .string t471, .int .i64 t472] 26 (0, 0)) (by refine blk_up ?_; exact BK476.out) hb)
                    have n1_ := Aside0.mk (blk_below (g := gb477) (o := .cells #[.bool t473, .string t474, .int .i64 t475] 26 (0, 0)) (by refine blk_up ?_; exact BK477.out) hb)
                    have n2_ := Aside0.mk (blk_below (g := gb482) (o := .cells #[.bool t478, .string t479, .int .i64 t480] 26 (0, 0)) (by refine blk_up ?_; exact BK482.out) hb)
                    have n3_ := Aside0.mk (blk_below (g := gb487) (o := .cells #[.bool t483, .string t484, .int .i64 t485] 26 (0, 0)) (by refine blk_up ?_; exact BK487.out) hb)
                    have n4_ := Aside0.mk (blk_below (g := gb492) (o := .cells #[.bool t488, .string t489, .int .i64 t490] 26 (0, 0)) (by refine blk_up ?_; exact BK492.out) hb)
                    have n5_ := Aside0.mk (blk_below (g := gb502) (o := .cells #[.bool t498, .string t499, .int .i64 t500] 26 (0, 0)) (by refine blk_up ?_; exact BK502.out) hb)
                    have n6_ := Aside0.mk (below_step (by repeat (first | (with_reducible first | exact HB.out | apply below_alloc | apply pw_below_drewN | apply below_drew1 | refine below_set ?_ GE476.out | refine below_set ?_ GE477.out | refine below_set ?_ GE482.out | refine below_set ?_ GE487.out | refine below_set ?_ GE492.out | refine below_set ?_ GE502.out) | exact HB.out)) hb)
                    clear BK476
                    clear BK477
                    clear BK482
                    clear BK487
                    clear BK492
                    clear BK502
                    clear HB
                    have BK476 := n0_
                    have BK477 := n1_
                    have BK482 := n2_
                    have BK487 := n3_
                    have BK492 := n4_
                    have BK502 := n5_
                    have HB := n6_
                    clear n0_ n1_ n2_ n3_ n4_ n5_ n6_
                    (try clear hb)
                    (try clear hb2)
                    (try clear hk)
                    (try clear hi)
                    refine hK.out _ _ ⟨(blk_cell BK492.out 0).trans rfl, (blk_cell BK492.out 1).trans rfl, (blk_cell BK492.out 2).trans rfl, (blk_cell BK482.out 0).trans rfl, (blk_cell BK482.out 1).trans rfl, (blk_cell BK482.out 2).trans rfl, (blk_cell BK502.out 0).trans rfl, (blk_cell BK502.out 1).trans rfl, (blk_cell BK502.out 2).trans rfl, (blk_cell BK476.out 0).trans rfl, (blk_cell BK476.out 1).trans rfl, (blk_cell BK476.out 2).trans rfl, (blk_cell BK477.out 0).trans rfl, (blk_cell BK477.out 1).trans rfl, (blk_cell BK477.out 2).trans rfl⟩ (fun hHeld => ?_)
                    clear hK K
                    refine norm_ (a' := ?_) ?_ ?_
                    rotate_left
                    · show Act.put _ (some 93) _ = _
                      simp only [Act.put, List.setIfInBounds_toArray, List.set_cons_zero, List.set_cons_succ, i64_w, i32_w]
                      rfl
                    refine one_ (i := 20) (N := some 96) #[true, true, true, true, true, true, true, true, true, true, true, true, true, true, true, true, true, true, true, true, true, false, false, false, false] rfl rfl (one_of HT_.out (by kernel_rfl)) (by decide) (fun K hK => ?_)
                    refine goes_ Tryd.func14 (by kernel_rfl) rfl #[.agg #[.bool false, .string (⟨#[]⟩ : ByteArray), .int .i64 0], .agg #[.bool t473, .string t474, .int .i64 t475]] (by rfl) rfl rfl (by (try simp only [List.map_toArray, List.map_cons, List.map_nil]); first | done | rfl | (simp only [List.length_drop, List.length_take]; rfl)) ?_
                    with_reducible refine (impl_CompareDec.calls kj6 false (⟨#[]⟩ : ByteArray) 0 t473 t474 t475 t506 _ A103.out).mono ?_
                    rintro e w132 ⟨rfl, hb⟩
                    refine ⟨_, rfl, ?_⟩
                    have n0_ := Aside0.mk (blk_below (g := gb476) (o := .cells #[.bool t470, .string t471, .int .i64 t472] 26 (0, 0)) (by refine blk_up ?_; exact BK476.out) hb)
                    have n1_ := Aside0.mk (blk_below (g := gb477) (o := .cells #[.bool t473, .string t474, .int .i64 t475] 26 (0, 0)) (by refine blk_up ?_; exact BK477.out) hb)
                    have n2_ := Aside0.mk (blk_below (g := gb482) (o := .cells #[.bool t478, .string t479, .int .i64 t480] 26 (0, 0)) (by refine blk_up ?_; exact BK482.out) hb)
                    have n3_ := Aside0.mk (blk_below (g := gb487) (o := .cells #[.bool t483, .string t484, .int .i64 t485] 26 (0, 0)) (by refine blk_up ?_; exact BK487.out) hb)
                    have n4_ := Aside0.mk (blk_below (g := gb492) (o := .cells #[.bool t488, .string t489, .int .i64 t490] 26 (0, 0)) (by refine blk_up ?_; exact BK492.out) hb)
                    have n5_ := Aside0.mk (blk_below (g := gb502) (o := .cells #[.bool t498, .string t499, .int .i64 t500] 26 (0, 0)) (by refine blk_up ?_; exact BK502.out) hb)
                    have n6_ := Aside0.mk (below_step (by repeat (first | (with_reducible first | exact HB.out | apply below_alloc | apply pw_below_drewN | apply below_drew1 | refine below_set ?_ GE476.out | refine below_set ?_ GE477.out | refine below_set ?_ GE482.out | refine below_set ?_ GE487.out | refine below_set ?_ GE492.out | refine below_set ?_ GE502.out) | exact HB.out)) hb)
                    clear BK476
                    clear BK477
                    clear BK482
                    clear BK487
                    clear BK492
                    clear BK502
                    clear HB
                    have BK476 := n0_
                    have BK477 := n1_
                    have BK482 := n2_
                    have BK487 := n3_
                    have BK492 := n4_
                    have BK502 := n5_
                    have HB := n6_
                    clear n0_ n1_ n2_ n3_ n4_ n5_ n6_
                    (try clear hb)
                    (try clear hb2)
                    (try clear hk)
                    (try clear hi)
                    refine hK.out _ _ ⟨(blk_cell BK492.out 0).trans rfl, (blk_cell BK492.out 1).trans rfl, (blk_cell BK492.out 2).trans rfl, (blk_cell BK482.out 0).trans rfl, (blk_cell BK482.out 1).trans rfl, (blk_cell BK482.out 2).trans rfl, (blk_cell BK502.out 0).trans rfl, (blk_cell BK502.out 1).trans rfl, (blk_cell BK502.out 2).trans rfl, (blk_cell BK476.out 0).trans rfl, (blk_cell BK476.out 1).trans rfl, (blk_cell BK476.out 2).trans rfl, (blk_cell BK477.out 0).trans rfl, (blk_cell BK477.out 1).trans rfl, (blk_cell BK477.out 2).trans rfl⟩ (fun hHeld => ?_)
                    clear hK K
                    refine norm_ (a' := ?_) ?_ ?_
                    rotate_left
                    · show Act.put _ (some 96) _ = _
                      simp only [Act.put, List.setIfInBounds_toArray, List.set_cons_zero, List.set_cons_succ, i64_w, i32_w]
                      rfl
                    refine pure_ (i := 21) (N := some 97) (v := ?_) (a' := ?_) #[true, true, true, true, true, true, true, true, true, true, true, true, true, true, true, true, true, true, true, true, true, true, false, false, false] rfl rfl (any_of HT_.out (by kernel_rfl)) (fun _ _ _ h => h) (Or.inl ⟨by rfl, ?_⟩) ?_ ?_
                    rotate_left
                    · intro w'
                      go_simp
                      with_reducible rfl
                    rotate_left
                    · simp only [Act.put, List.setIfInBounds_toArray, List.set_cons_zero, List.set_cons_succ, i64_w, i32_w]
                      rfl
                    refine pure_ (i := 22) (N := some 98) (v := ?_) (a' := ?_) #[true, true, true, true, true, true, true, true, true, true, true, true, true, true, true, true, true, true, true, true, true, true, true, false, false] rfl rfl (any_of HT_.out (by kernel_rfl)) (fun _ _ _ h => h) (Or.inl ⟨by rfl, ?_⟩) ?_ ?_
                    rotate_left
                    · intro w'
                      go_simp
                      with_reducible rfl
                    rotate_left
                    · simp only [Act.put, List.setIfInBounds_toArray, List.set_cons_zero, List.set_cons_succ, i64_w, i32_w]
                      rfl
                    refine pure_ (i := 23) (N := some 99) (v := ?_) (a' := ?_) #[true, true, true, true, true, true, true, true, true, true, true, true, true, true, true, true, true, true, true, true, true, true, true, true, false] rfl rfl (any_of HT_.out (by kernel_rfl)) (fun _ _ _ h => h) (Or.inl ⟨by rfl, ?_⟩) ?_ ?_
                    rotate_left
                    · intro w'
                      go_simp
                      with_reducible rfl
                    rotate_left
                    · simp only [Act.put, List.setIfInBounds_toArray, List.set_cons_zero, List.set_cons_succ, i64_w, i32_w]
                      rfl
                    refine pure_ (i := 24) (N := some 2) (v := ?_) (a' := ?_) #[true, true, true, true, true, true, true, true, true, true, true, true, true, true, true, true, true, true, true, true, true, true, true, true, true] rfl rfl (any_of HT_.out (by kernel_rfl)) (fun _ _ _ h => h) (Or.inl ⟨by rfl, ?_⟩) ?_ ?_
                    rotate_left
                    · intro w'
                      go_simp
                      with_reducible rfl
                    rotate_left
                    · simp only [Act.put, List.setIfInBounds_toArray, List.set_cons_zero, List.set_cons_succ, i64_w, i32_w]
                      rfl
                    refine done_ (done_of HT_.out (by kernel_rfl)) ?_
                    try go_wp2
                    go_ret
                    exact ⟨by first | rfl | (simp [errW_none, errW_some] <;> rfl) | (simp [*, errW_none, errW_some] <;> rfl), by repeat (first | (with_reducible first | exact HB.out | apply below_alloc | apply pw_below_drewN | apply below_drew1 | refine below_set ?_ GE476.out | refine below_set ?_ GE477.out | refine below_set ?_ GE482.out | refine below_set ?_ GE487.out | refine below_set ?_ GE492.out | refine below_set ?_ GE502.out) | exact HB.out)⟩
                  · rw [if_neg c101] at H
                    have c101b0 : (t498 == t470 && (t499.toList == t471.toList && (t500 == t472))) = false := by simpa using c101
                    (try (have c101b1 : decide (t498 = t470 && (t499.toList == t471.toList && (t500 == t472))) = false := by simpa using c101))
                    (try (have c101b2 : (t498 == t470 && (t499.toList == t471.toList && (t500 == t472))) = false := by simpa using c101))
                    (try (have c101b3 : ¬ (t498 = t470 && (t499.toList == t471.toList && (t500 == t472))) := by simpa using c101))
                    clear c101
                    exact absurd H (by simp)
                · replace c100 := Bool.eq_false_iff.mpr c100
                  subst c100
                  have H1 : (none) = some r := by rw [if_neg (show ¬ (false = true) by decide)] at H; exact H
                  clear H
                  have H := H1
                  clear H1
                  exact absurd H (by simp)
              · rw [if_neg c99] at H
                have c99b0 : (t488 == t478 && (t489.toList == t479.toList && (t490 == t480))) = false := by simpa using c99
                (try (have c99b1 : decide (t488 = t478 && (t489.toList == t479.toList && (t490 == t480))) = false := by simpa using c99))
                (try (have c99b2 : (t488 == t478 && (t489.toList == t479.toList && (t490 == t480))) = false := by simpa using c99))
                (try (have c99b3 : ¬ (t488 = t478 && (t489.toList == t479.toList && (t490 == t480))) := by simpa using c99))
                clear c99
                exact absurd H (by simp)
            · replace c98 := Bool.eq_false_iff.mpr c98
              subst c98
              have H1 : (none) = some r := by rw [if_neg (show ¬ (false = true) by decide)] at H; exact H
              clear H
              have H := H1
              clear H1
              exact absurd H (by simp)

/-- THE ONE PURE STATEMENT of laws_FnAdded: yours. -/
def laws_FnAdded.Pure : Prop := ∀ (l0 : List Int), l0.length ≤ maxLen → l0.length * 1 ≤ 140737488351232 → (∀ x ∈ l0, (Lit.int .u8 x).wf = true) → ∃ k, laws_FnAdded.f k l0 = some true
theorem laws_FnAdded.walk (P : laws_FnAdded.Pure) (a0 : Option Addr) (len0 cap0 : Nat) (z0 : List Int) (w : World) (w0 : (a0 = none ∧ len0 = 0 ∧ cap0 = 0 ∧ z0 = []) ∨ ∃ x, a0 = some x ∧ len0 ≤ cap0 ∧ cap0 ≤ maxLen ∧ z0.length = cap0 ∧ (∀ i, i < z0.length → w.cell? (x.add i) = some (.int .u8 (z0.getD i 0))) ∧ ∀ n ∈ z0, (Lit.int .u8 n).wf = true) (y0 : len0 * 1 ≤ 140737488351232) :
    Calls Tryd.prog 6 #[.slice a0 len0 cap0] w fun e w' => e = .returned (.bool true) ∧ Below w.heap.size w w' := by
  obtain ⟨l0, rfl, hr0, hm0, hw0, hc0⟩ := ReadsInt.ofRowC w0
  obtain ⟨k, h⟩ := P l0 hm0 y0 hw0
  refine (laws_FnAdded.calls k _ _ l0 true w (Kd.C_of_reads (d := (0 : Int)) (h1 := fun _ => rfl) hr0) hc0 h).mono ?_
  rintro e w' ⟨rfl, hd⟩
  exact ⟨rfl, hd⟩

end Go.Proofs.YtilmhfkbpnejeaaDoor.L

namespace Go.Proofs.YtilmhfkbpnejeaaDoor.Pure
open Go.RowKit Go.Proofs.YtilmhfkbpnejeaaDoor.L Go.Proofs.YtilmhfkbpnejeaaDoorW.PrintWords Go.Proofs.YtilmhfkbpnejeaaDoorW.PrintLast Go.Proofs.YtilmhfkbpnejeaaDoorW.PrintMore
set_option linter.unusedVariables false
set_option linter.unusedSimpArgs false

theorem ba_ext {a b : ByteArray} (h : a.data.toList = b.data.toList) : a = b := by
  cases a; cases b; simp only [ByteArray.mk.injEq]; exact Array.toList_inj.mp h
theorem ba_app (a b : ByteArray) : (a ++ b).data.toList = a.data.toList ++ b.data.toList := by
  rw [ByteArray.data_append, Array.toList_append]
theorem sz (a : ByteArray) : a.size = a.data.toList.length := (data_length a).symm
theorem w64 {n : Int} (h : -9223372036854775808 ≤ n) (h' : n ≤ 9223372036854775807) : wrap64 n = n := by unfold wrap64; omega
theorem bt_nat (s : ByteArray) (i : Nat) (h : i < s.data.toList.length) : bt s (i : Int) = ((s.data.toList[i]).toNat : Int) := by
  have h' : i < s.size := by rw [sz]; exact h
  unfold bt
  rw [dif_pos (by simpa using h')]
  simp only [Int.toNat_natCast]
  rfl
def digB (b : UInt8) : Bool := decide (48 ≤ b.toNat) && decide (b.toNat ≤ 57)
theorem digit_f (b : UInt8) : spec_l1Digit.f (b.toNat : Int) = some (digB b) := by
  unfold spec_l1Digit.f digB
  by_cases h : (b.toNat : Int) ≥ 48
  · have h' : 48 ≤ b.toNat := by omega
    simp only [if_pos h, h', decide_true, Bool.true_and]
    congr 1
    simp only [decide_eq_decide]; omega
  · have h' : ¬ 48 ≤ b.toNat := by omega
    simp only [if_neg h, h', decide_false, Bool.false_and]

theorem l4Digits_l0 (s : ByteArray) (hs : s.data.toList.length ≤ 9223372036854775806) : ∀ (n i : Nat), i + n = s.data.toList.length →
    Ev (fun k => spec_l4Digits.l0 k s (i : Int)) ((s.data.toList.drop i).all digB) := by
  intro n
  induction n with
  | zero =>
    intro i hi
    refine Ev.step (f := fun _ => some true) (fun k => ?_) ?_
    · unfold spec_l4Digits.l0
      rw [if_neg (by rw [sz]; omega)]
    · rw [List.drop_of_length_le (by omega)]; exact Ev.now _
  | succ n ih =>
    intro i hi
    have hlt : i < s.data.toList.length := by omega
    have e : spec_l1Digit.f (bt s (i : Int)) = some (digB (s.data.toList[i])) := by rw [bt_nat s i hlt]; exact digit_f _
    have hd : s.data.toList.drop i = s.data.toList[i] :: s.data.toList.drop (i + 1) := List.drop_eq_getElem_cons hlt
    have w : wrap64 ((i : Int) + 1) = ((i + 1 : Nat) : Int) := by rw [w64] <;> omega
    by_cases c : digB (s.data.toList[i]) = true
    · refine Ev.step (f := fun k => spec_l4Digits.l0 k s ((i + 1 : Nat) : Int)) (fun k => ?_) ?_
      · conv => lhs; unfold spec_l4Digits.l0
        rw [if_pos (by rw [sz]; omega), if_pos (by omega), e]
        simp only [Option.bind_some, if_pos c, w]
      · rw [hd, List.all_cons, c, Bool.true_and]; exact ih (i + 1) (by omega)
    · refine Ev.step (f := fun _ => some false) (fun k => ?_) ?_
      · conv => lhs; unfold spec_l4Digits.l0
        rw [if_pos (by rw [sz]; omega), if_pos (by omega), e]
        simp only [Option.bind_some, if_neg c]
      · rw [hd, List.all_cons]
        rw [Bool.not_eq_true] at c
        rw [c, Bool.false_and]; exact Ev.now _
theorem l4Digits (s : ByteArray) (hs : s.data.toList.length ≤ 9223372036854775806) : Ev (fun k => spec_l4Digits.f k s) (s.data.toList.all digB) := by
  have := l4Digits_l0 s hs s.data.toList.length 0 (by omega)
  simpa [spec_l4Digits.f] using this

def inB (x : Int) : Bool := decide (0 ≤ x) && decide (x ≤ 60)
theorem l1In_f (x : Int) : spec_l1In.f x 0 60 = some (inB x) := by
  unfold spec_l1In.f inB
  by_cases h : x ≥ 0
  · have h' : 0 ≤ x := h
    simp [if_pos h, h']
  · have h' : ¬ 0 ≤ x := h
    simp [if_neg h, h']
theorem impl_in_f (x : Int) : impl_in.f x 0 60 = some (inB x) := by
  unfold impl_in.f inB
  by_cases h : 0 ≤ x
  · simp [if_pos h, h]
  · simp [if_neg h, h]

/-- A right number. -/
def okL (n : Bool) (x : Int) : List UInt8 → Bool
  | [] => !n && (x == 0)
  | b :: l => decide ((b :: l).length ≤ 60) && ((b :: l).all digB && (b.toNat != 48 && (inB x && (x == 0 || ((b :: l).getLast (by simp)).toNat != 48))))

def okB (n : Bool) (s : ByteArray) (x : Int) : Bool := okL n x s.data.toList

theorem dropWhile_nil {α : Type} (p : α → Bool) : ∀ l : List α, l.dropWhile p = [] ↔ ∀ x ∈ l, p x = true
  | [] => by simp
  | a :: l => by
    by_cases c : p a = true
    · rw [List.dropWhile_cons_of_pos c, dropWhile_nil p l]; simp [c]
    · rw [List.dropWhile_cons_of_neg c]; simp [c]
theorem trim_nil (l cs : List UInt8) : (Lib.trimS l cs = []) ↔ (l.all (cs.contains ·) = true) := by
  unfold Lib.trimS Lib.trimLeftS Lib.trimRightS
  constructor
  · intro h
    rw [dropWhile_nil] at h
    rw [List.all_eq_true]
    intro x hx
    have hx' : x ∈ l.reverse := by simpa using hx
    rw [← List.takeWhile_append_dropWhile (p := (cs.contains ·)) (l := l.reverse)] at hx'
    rcases List.mem_append.1 hx' with h1 | h1
    · exact (List.all_eq_true.1 (List.all_takeWhile (p := (cs.contains ·)) (l := l.reverse))) x h1
    · exact h x (by simpa using h1)
  · intro h
    rw [List.all_eq_true] at h
    rw [dropWhile_nil]
    intro x hx
    have : x ∈ l.reverse := (List.dropWhile_sublist _).subset (by simpa using hx)
    exact h x (by simpa using this)
set_option maxRecDepth 100000 in
theorem digs_contains (b : UInt8) : ([48, 49, 50, 51, 52, 53, 54, 55, 56, 57] : List UInt8).contains b = digB b := by
  revert b
  have : ∀ n : Fin 256, ([48, 49, 50, 51, 52, 53, 54, 55, 56, 57] : List UInt8).contains (UInt8.ofNat n.val) = digB (UInt8.ofNat n.val) := by decide +kernel
  intro b
  have h := this ⟨b.toNat, b.toNat_lt⟩
  simpa using h
theorem isDigits_f (s : ByteArray) (hs : s.size ≤ 9223372036854775807) : impl_isDigits.f s = some (s.data.toList.all digB) := by
  unfold impl_isDigits.f strings_Trim.f
  rw [if_pos ⟨hs, by decide, by decide⟩]
  simp only [Option.bind_some, Lib.toList_data]
  congr 1
  have h := trim_nil s.data.toList ([48, 49, 50, 51, 52, 53, 54, 55, 56, 57] : List UInt8)
  simp only [digs_contains] at h
  rw [Bool.eq_iff_iff, beq_iff_eq]
  exact h

theorem last_bt (s : ByteArray) (b : UInt8) (l : List UInt8) (h : s.data.toList = b :: l) : bt s ((s.size : Int) - 1) = (((b :: l).getLast (by simp)).toNat : Int) := by
  have e : ((s.size : Int) - 1) = ((l.length : Nat) : Int) := by rw [sz, h]; simp
  rw [e, bt_nat s l.length (by rw [h]; simp)]
  congr 2
  rw [List.getLast_eq_getElem]
  simp [h]
theorem first_bt (s : ByteArray) (b : UInt8) (l : List UInt8) (h : s.data.toList = b :: l) : bt s 0 = (b.toNat : Int) := by
  have := bt_nat s 0 (by rw [h]; simp)
  simp only [h, Int.ofNat_zero, List.getElem_cons_zero] at this
  simpa using this

theorem impl_DecOk_f (n : Bool) (s : ByteArray) (x : Int) (hs : s.size ≤ 9223372036854775807) : impl_DecOk.f n s x = some (okB n s x) := by
  unfold impl_DecOk.f
  rw [Lib.toList_data]
  unfold okB
  rcases h : s.data.toList with _ | ⟨b, l⟩
  · simp [okL]
  · unfold okL
    have hl : (s.size : Int) = ((b :: l).length : Int) := by rw [sz, h]
    have hl0 : s.size ≤ 60 ↔ (b :: l).length ≤ 60 := by rw [sz, h]
    rw [if_neg (by simp)]
    by_cases c : (b :: l).length ≤ 60
    · have c' := hl0.2 c
      have hw : wrap64 ((s.size : Int) - 1) = (s.size : Int) - 1 := by rw [w64] <;> omega
      have hpos : 0 < (s.size : Int) := by rw [hl]; simp
      rw [if_pos (by omega), isDigits_f s hs, h]
      simp only [Option.bind_some, impl_in_f, hw, last_bt s b l h, first_bt s b l h, if_pos hpos]
      simp only [c, decide_true, Bool.true_and]
      rw [if_pos (by omega : (0 : Int) ≤ (s.size : Int) - 1), if_pos (by omega : (s.size : Int) - 1 < s.size)]
      cases h1 : (b :: l).all digB with
      | false => simp
      | true =>
        simp only [if_true, Bool.true_and]
        by_cases h2 : b.toNat = 48
        · simp [h2]
        · have h2' : ¬ ((b.toNat : Int) = 48) := by omega
          simp only [if_neg h2', h2, bne_iff_ne, ne_eq, not_false_eq_true]
          have h3 : (b.toNat != 48) = true := by simpa using h2
          rw [h3, Bool.true_and]
          cases h4 : inB x with
          | false => simp
          | true =>
            simp only [if_true, Bool.true_and]
            by_cases h5 : x = 0
            · simp [h5]
            · simp only [if_neg h5]
              congr 1
              have h6 : (x == 0) = false := by simpa using h5
              rw [h6, Bool.false_or]
              rw [Bool.eq_iff_iff]
              simp only [bne_iff_ne, ne_eq]
              omega
    · have c' : ¬ s.size ≤ 60 := fun z => c (hl0.1 z)
      rw [if_neg (by omega)]
      simp only [c, decide_false, Bool.false_and]

theorem spec_DecOk_f (n : Bool) (s : ByteArray) (x : Int) (hs : s.size ≤ 9223372036854775806) : Ev (fun k => spec_DecOk.f k n s x) (okB n s x) := by
  have hs' : s.data.toList.length ≤ 9223372036854775806 := by rw [← sz]; exact hs
  have jt : ∀ (z : Int), Ev (fun k => spec_DecOk.j0 k z true n s x) false := fun z =>
    Ev.step (f := fun _ => some false) (fun k => by unfold spec_DecOk.j0; rfl) (Ev.now _)
  unfold okB
  rcases h : s.data.toList with _ | ⟨b, l⟩
  · have hz : (s.size : Int) = 0 := by rw [sz, h]; rfl
    unfold okL
    refine Ev.congr (f := fun k => (spec_l4Digits.f k s).bind fun t104 => (if t104 = true then ((spec_l1In.f x 0 60).bind fun t105 => (spec_DecOk.j0 k (s.size : Int) (!t105) n s x)) else (spec_DecOk.j0 k (s.size : Int) true n s x))) (fun k => ?_) ?_
    · unfold spec_DecOk.f; rw [if_neg (by omega)]
    · have hd := l4Digits s hs'
      rw [h] at hd
      refine Ev.bind hd ?_
      simp only [List.all_nil, if_true, l1In_f, Option.bind_some, hz]
      refine Ev.step (f := fun _ => some (!n && (x == 0))) (fun k => ?_) (Ev.now _)
      simp only [spec_DecOk.j0, if_true]
      by_cases c : inB x = true
      · rw [c]; cases n <;> simp
      · have hx : x ≠ 0 := fun e => c (by rw [e]; decide)
        rw [Bool.not_eq_true] at c
        rw [c]
        simp [hx]
  · have hl : (s.size : Int) = ((b :: l).length : Int) := by rw [sz, h]
    unfold okL
    by_cases c : (b :: l).length ≤ 60
    · refine Ev.congr (f := fun k => (spec_l4Digits.f k s).bind fun t104 => (if t104 = true then ((spec_l1In.f x 0 60).bind fun t105 => (spec_DecOk.j0 k (s.size : Int) (!t105) n s x)) else (spec_DecOk.j0 k (s.size : Int) true n s x))) (fun k => ?_) ?_
      · unfold spec_DecOk.f; rw [if_neg (by omega)]
      · have hd := l4Digits s hs'
        rw [h] at hd
        refine Ev.bind hd ?_
        simp only [c, decide_true, Bool.true_and, l1In_f, Option.bind_some]
        cases h1 : (b :: l).all digB with
        | false => simp only [Bool.false_eq_true, if_false, Bool.false_and]; exact jt _
        | true =>
          simp only [if_true, Bool.true_and]
          cases h4 : inB x with
          | false => simp only [Bool.not_false, Bool.false_and, Bool.and_false]; exact jt _
          | true =>
            simp only [Bool.not_true, Bool.true_and]
            have hw : wrap64 ((s.size : Int) - 1) = (s.size : Int) - 1 := by rw [w64] <;> omega
            have hpos : 0 < (s.size : Int) := by rw [hl]; simp
            refine Ev.step (f := fun _ => some (b.toNat != 48 && (x == 0 || ((b :: l).getLast (by simp)).toNat != 48))) (fun k => ?_) (Ev.now _)
            simp only [spec_DecOk.j0, Bool.false_eq_true, if_false]
            rw [if_neg (by omega), if_pos hpos, first_bt s b l h, hw, last_bt s b l h]
            rw [if_pos (by omega : (0 : Int) ≤ (s.size : Int) - 1), if_pos (by omega : (s.size : Int) - 1 < s.size)]
            by_cases h2 : b.toNat = 48
            · simp [h2]
            · have h2' : ¬ ((b.toNat : Int) = 48) := by omega
              have h3 : (b.toNat != 48) = true := by simpa using h2
              rw [if_neg h2', h3, Bool.true_and]
              by_cases h5 : x = 0
              · simp [h5]
              · rw [if_neg h5]
                congr 1
                have h6 : (x == 0) = false := by simpa using h5
                rw [h6, Bool.false_or, Bool.eq_iff_iff]
                simp only [bne_iff_ne, ne_eq]
                omega
    · refine Ev.congr (f := fun k => spec_DecOk.j0 k (s.size : Int) true n s x) (fun k => ?_) ?_
      · unfold spec_DecOk.f; rw [if_pos (by omega)]
      · simp only [c, decide_false, Bool.false_and]; exact jt _

/-- What a right number gives. -/
theorem ok_len {n : Bool} {s : ByteArray} {x : Int} (h : okB n s x = true) : s.size ≤ 60 ∧ 0 ≤ x ∧ x ≤ 60 := by
  unfold okB at h
  rcases e : s.data.toList with _ | ⟨b, l⟩
  · rw [e] at h
    simp only [okL, Bool.and_eq_true, beq_iff_eq] at h
    rw [sz, e]
    simp [h.2]
  · rw [e] at h
    simp only [okL, Bool.and_eq_true, decide_eq_true_eq, inB] at h
    rw [sz, e]
    exact ⟨h.1, h.2.2.2.1.1, h.2.2.2.1.2⟩

/-! ### two numbers on one scale -/
def Z (n : Nat) : ByteArray := ⟨(List.replicate n 48).toArray⟩
theorem Z_list (n : Nat) : (Z n).data.toList = List.replicate n 48 := by simp [Z]
theorem Z_size (n : Nat) : (Z n).size = n := by rw [sz, Z_list]; simp
theorem zero_list : ((⟨#[48]⟩ : ByteArray).data.toList) = [48] := rfl
theorem Z_none_r (s : ByteArray) : s ++ Z 0 = s := by apply ba_ext; simp [ba_app, Z_list]
theorem Z_none_l (s : ByteArray) : Z 0 ++ s = s := by apply ba_ext; simp [ba_app, Z_list]
theorem app_size (a b : ByteArray) : (a ++ b).size = a.size + b.size := by simp only [sz, ba_app, List.length_append]
theorem repeat_f (n : Int) (h : 0 ≤ n) (h' : n ≤ 140737488355328) : strings_Repeat.f (⟨#[48]⟩ : ByteArray) n = some (Z n.toNat) := by
  unfold strings_Repeat.f
  have e1 : (⟨#[48]⟩ : ByteArray).size = 1 := rfl
  rw [if_pos ⟨h, by omega, by rw [e1]; omega⟩]
  congr 1
  apply ba_ext
  rw [Z_list]
  have : ∀ m, Lib.repeatL [48] m = List.replicate m (48 : UInt8) := fun m => by
    induction m with
    | zero => rfl
    | succ m ih => rw [Lib.repeatL, ih, List.replicate_succ]; rfl
  simpa using this n.toNat

def lv (m : Int) (s : ByteArray) (x : Int) : ByteArray := s ++ Z (m - x).toNat
def pad (n : Nat) (s : ByteArray) : ByteArray := Z (n - s.size) ++ s
def top (s0 : ByteArray) (x0 : Int) (s1 : ByteArray) (x1 : Int) : Nat := max (lv (mx x0 x1) s0 x0).size (lv (mx x0 x1) s1 x1).size
def lx (s0 : ByteArray) (x0 : Int) (s1 : ByteArray) (x1 : Int) : ByteArray := pad (top s0 x0 s1 x1) (lv (mx x0 x1) s0 x0)
def ly (s0 : ByteArray) (x0 : Int) (s1 : ByteArray) (x1 : Int) : ByteArray := pad (top s0 x0 s1 x1) (lv (mx x0 x1) s1 x1)

theorem same_l3 (X Y : ByteArray) (m : Int) (hX : X.size ≤ 1000) : ∀ n : Nat, n + Y.size = X.size ∨ (n = 0 ∧ X.size ≤ Y.size) → Ev (fun k => spec_l4Same.l3 k X Y m) (X, Z n ++ Y, m) := by
  intro n
  induction n generalizing Y with
  | zero =>
    intro h
    rw [Z_none_l]
    refine Ev.step (f := fun _ => some (X, Y, m)) (fun k => ?_) (Ev.now _)
    unfold spec_l4Same.l3
    rw [if_neg (by omega)]
  | succ n ih =>
    intro h
    have h' : n + 1 + Y.size = X.size := by omega
    refine Ev.step (f := fun k => spec_l4Same.l3 k X ((⟨#[48]⟩ : ByteArray) ++ Y) m) (fun k => ?_) ?_
    · conv => lhs; unfold spec_l4Same.l3
      rw [if_pos (by omega), if_pos (by omega)]
    · have := ih ((⟨#[48]⟩ : ByteArray) ++ Y) (.inl (by rw [app_size]; have : (⟨#[48]⟩ : ByteArray).size = 1 := rfl; omega))
      have e : Z n ++ ((⟨#[48]⟩ : ByteArray) ++ Y) = Z (n + 1) ++ Y := by
        apply ba_ext
        simp only [ba_app, Z_list, zero_list]
        rw [← List.append_assoc, List.replicate_succ']
      rw [e] at this
      exact this
theorem same_l2 (Y : ByteArray) (m : Int) (hY : Y.size ≤ 1000) : ∀ (n : Nat) (X : ByteArray), X.size ≤ 1000 → n + X.size = Y.size ∨ (n = 0 ∧ Y.size ≤ X.size) →
    Ev (fun k => spec_l4Same.l2 k X Y m) (Z n ++ X, Z (X.size - Y.size) ++ Y, m) := by
  intro n
  induction n with
  | zero =>
    intro X hX h
    rw [Z_none_l]
    refine Ev.step (f := fun k => spec_l4Same.l3 k X Y m) (fun k => ?_) (same_l3 X Y m hX _ ?_)
    · conv => lhs; unfold spec_l4Same.l2
      rw [if_neg (by omega)]
    · omega
  | succ n ih =>
    intro X hX h
    have h' : n + 1 + X.size = Y.size := by omega
    have e1 : (⟨#[48]⟩ : ByteArray).size = 1 := rfl
    refine Ev.step (f := fun k => spec_l4Same.l2 k ((⟨#[48]⟩ : ByteArray) ++ X) Y m) (fun k => ?_) ?_
    · conv => lhs; unfold spec_l4Same.l2
      rw [if_pos (by omega), if_pos (by omega)]
    · have := ih ((⟨#[48]⟩ : ByteArray) ++ X) (by rw [app_size]; omega) (.inl (by rw [app_size]; omega))
      have e : Z n ++ ((⟨#[48]⟩ : ByteArray) ++ X) = Z (n + 1) ++ X := by
        apply ba_ext
        simp only [ba_app, Z_list, zero_list]
        rw [← List.append_assoc, List.replicate_succ']
      rw [e, app_size, e1] at this
      have e2 : 1 + X.size - Y.size = X.size - Y.size := by omega
      rw [e2] at this
      exact this
theorem same_l1 (X : ByteArray) (m : Int) (hX : X.size ≤ 500) (h0 : 0 ≤ m) (h1 : m ≤ 60) : ∀ (n : Nat) (Y : ByteArray) (x : Int), 0 ≤ x → x ≤ m → (n : Int) = m - x → Y.size + n ≤ 500 →
    Ev (fun k => spec_l4Same.l1 k X Y m x) (Z (Y.size + n - X.size) ++ X, Z (X.size - (Y.size + n)) ++ (Y ++ Z n), m) := by
  intro n
  induction n with
  | zero =>
    intro Y x hx0 hx1 hn hY
    rw [Z_none_r, Nat.add_zero]
    refine Ev.step (f := fun k => spec_l4Same.l2 k X Y m) (fun k => ?_) ?_
    · conv => lhs; unfold spec_l4Same.l1
      rw [if_neg (by omega)]
    · exact same_l2 Y m (by omega) (Y.size - X.size) X (by omega) (by omega)
  | succ n ih =>
    intro Y x hx0 hx1 hn hY
    have e1 : (⟨#[48]⟩ : ByteArray).size = 1 := rfl
    refine Ev.step (f := fun k => spec_l4Same.l1 k X (Y ++ (⟨#[48]⟩ : ByteArray)) m (x + 1)) (fun k => ?_) ?_
    · conv => lhs; unfold spec_l4Same.l1
      rw [if_pos (by omega), if_pos (by omega), w64 (by omega) (by omega)]
    · have := ih (Y ++ (⟨#[48]⟩ : ByteArray)) (x + 1) (by omega) (by omega) (by omega) (by rw [app_size]; omega)
      rw [app_size, e1] at this
      have e : (Y ++ (⟨#[48]⟩ : ByteArray)) ++ Z n = Y ++ Z (n + 1) := by
        apply ba_ext
        simp only [ba_app, Z_list, zero_list, List.append_assoc]
        rw [List.replicate_succ]; rfl
      have e2 : Y.size + 1 + n = Y.size + (n + 1) := by omega
      rw [e, e2] at this
      exact this
theorem same_l0 (Y : ByteArray) (y : Int) (b : Bool) (t : ByteArray) (m : Int) (hY : Y.size ≤ 200) (h0 : 0 ≤ m) (h1 : m ≤ 60) (hy0 : 0 ≤ y) (hy1 : y ≤ m) : ∀ (n : Nat) (X : ByteArray) (x : Int), 0 ≤ x → x ≤ m → (n : Int) = m - x → X.size + n ≤ 500 →
    Ev (fun k => spec_l4Same.l0 k X Y m x b t y) (Z (Y.size + (m - y).toNat - (X.size + n)) ++ (X ++ Z n), Z (X.size + n - (Y.size + (m - y).toNat)) ++ (Y ++ Z (m - y).toNat), m) := by
  intro n
  induction n with
  | zero =>
    intro X x hx0 hx1 hn hX
    rw [Z_none_r, Nat.add_zero]
    refine Ev.step (f := fun k => spec_l4Same.l1 k X Y m y) (fun k => ?_) ?_
    · conv => lhs; unfold spec_l4Same.l0
      rw [if_neg (by omega)]
    · exact same_l1 X m (by omega) h0 h1 (m - y).toNat Y y hy0 hy1 (by omega) (by omega)
  | succ n ih =>
    intro X x hx0 hx1 hn hX
    have e1 : (⟨#[48]⟩ : ByteArray).size = 1 := rfl
    refine Ev.step (f := fun k => spec_l4Same.l0 k (X ++ (⟨#[48]⟩ : ByteArray)) Y m (x + 1) b t y) (fun k => ?_) ?_
    · conv => lhs; unfold spec_l4Same.l0
      rw [if_pos (by omega), if_pos (by omega), w64 (by omega) (by omega)]
    · have := ih (X ++ (⟨#[48]⟩ : ByteArray)) (x + 1) (by omega) (by omega) (by omega) (by rw [app_size]; omega)
      rw [app_size, e1] at this
      have e : (X ++ (⟨#[48]⟩ : ByteArray)) ++ Z n = X ++ Z (n + 1) := by
        apply ba_ext
        simp only [ba_app, Z_list, zero_list, List.append_assoc]
        rw [List.replicate_succ]; rfl
      have e2 : X.size + 1 + n = X.size + (n + 1) := by omega
      rw [e, e2] at this
      exact this
theorem mx_le (a b : Int) : a ≤ mx a b ∧ b ≤ mx a b ∧ (mx a b = a ∨ mx a b = b) := by unfold mx; split <;> omega
theorem l4Same_f (n0 : Bool) (s0 : ByteArray) (x0 : Int) (n1 : Bool) (s1 : ByteArray) (x1 : Int) (h0 : s0.size ≤ 60) (h1 : s1.size ≤ 60) (a0 : 0 ≤ x0) (a1 : x0 ≤ 60) (b0 : 0 ≤ x1) (b1 : x1 ≤ 60) :
    Ev (fun k => spec_l4Same.f k n0 s0 x0 n1 s1 x1) (lx s0 x0 s1 x1, ly s0 x0 s1 x1, mx x0 x1) := by
  obtain ⟨g0, g1, g2⟩ := mx_le x0 x1
  have := same_l0 s1 x1 n1 s1 (mx x0 x1) (by omega) (by omega) (by omega) b0 g1 (mx x0 x1 - x0).toNat s0 x0 a0 g0 (by omega) (by omega)
  unfold spec_l4Same.f lx ly pad top
  have e0 : (lv (mx x0 x1) s0 x0).size = s0.size + (mx x0 x1 - x0).toNat := by rw [lv, app_size, Z_size]
  have e1 : (lv (mx x0 x1) s1 x1).size = s1.size + (mx x0 x1 - x1).toNat := by rw [lv, app_size, Z_size]
  rw [e0, e1]
  have e2 : max (s0.size + (mx x0 x1 - x0).toNat) (s1.size + (mx x0 x1 - x1).toNat) - (s0.size + (mx x0 x1 - x0).toNat) = s1.size + (mx x0 x1 - x1).toNat - (s0.size + (mx x0 x1 - x0).toNat) := by omega
  have e3 : max (s0.size + (mx x0 x1 - x0).toNat) (s1.size + (mx x0 x1 - x1).toNat) - (s1.size + (mx x0 x1 - x1).toNat) = s0.size + (mx x0 x1 - x0).toNat - (s1.size + (mx x0 x1 - x1).toNat) := by omega
  rw [e2, e3]
  exact this
theorem level_f (n0 : Bool) (s0 : ByteArray) (x0 : Int) (n1 : Bool) (s1 : ByteArray) (x1 : Int) (h0 : s0.size ≤ 60) (h1 : s1.size ≤ 60) (a0 : 0 ≤ x0) (a1 : x0 ≤ 60) (b0 : 0 ≤ x1) (b1 : x1 ≤ 60) :
    impl_level.f n0 s0 x0 n1 s1 x1 = some (lx s0 x0 s1 x1, ly s0 x0 s1 x1, mx x0 x1) := by
  obtain ⟨g0, g1, g2⟩ := mx_le x0 x1
  have e0 : (lv (mx x0 x1) s0 x0).size = s0.size + (mx x0 x1 - x0).toNat := by rw [lv, app_size, Z_size]
  have e1 : (lv (mx x0 x1) s1 x1).size = s1.size + (mx x0 x1 - x1).toNat := by rw [lv, app_size, Z_size]
  unfold impl_level.f
  rw [w64 (n := mx x0 x1 - x0) (by omega) (by omega), w64 (n := mx x0 x1 - x1) (by omega) (by omega), repeat_f (mx x0 x1 - x0) (by omega) (by omega), repeat_f (mx x0 x1 - x1) (by omega) (by omega)]
  simp only [Option.bind_some, Z_size]
  rw [if_pos (by omega), if_pos (by omega)]
  have f0 : s0 ++ Z (mx x0 x1 - x0).toNat = lv (mx x0 x1) s0 x0 := rfl
  have f1 : s1 ++ Z (mx x0 x1 - x1).toNat = lv (mx x0 x1) s1 x1 := rfl
  rw [f0, f1]
  have e4 : mx ((lv (mx x0 x1) s0 x0).size : Int) ((lv (mx x0 x1) s1 x1).size : Int) = ((top s0 x0 s1 x1 : Nat) : Int) := by rw [mx]; unfold top; split <;> omega
  have t0 : (lv (mx x0 x1) s0 x0).size ≤ top s0 x0 s1 x1 := by unfold top; omega
  have t1 : (lv (mx x0 x1) s1 x1).size ≤ top s0 x0 s1 x1 := by unfold top; omega
  have t2 : top s0 x0 s1 x1 ≤ 200 := by unfold top; omega
  rw [e4, w64 (by omega) (by omega), w64 (by omega) (by omega), repeat_f _ (by omega) (by omega), repeat_f _ (by omega) (by omega)]
  simp only [Option.bind_some, Z_size]
  rw [if_pos (by omega), if_pos (by omega)]
  have k0 : ((top s0 x0 s1 x1 : Int) - ((lv (mx x0 x1) s0 x0).size : Int)).toNat = top s0 x0 s1 x1 - (lv (mx x0 x1) s0 x0).size := by omega
  have k1 : ((top s0 x0 s1 x1 : Int) - ((lv (mx x0 x1) s1 x1).size : Int)).toNat = top s0 x0 s1 x1 - (lv (mx x0 x1) s1 x1).size := by omega
  rw [k0, k1]
  rfl
--MORE
theorem b48 (b : UInt8) : ((b.toNat : Int) = 48) ↔ b = 48 := by
  constructor
  · intro h
    apply UInt8.toNat.inj
    have e2 : (48 : UInt8).toNat = 48 := rfl
    omega
  · intro h; subst h; rfl
theorem b48n (b : UInt8) : (b.toNat = 48) ↔ b = 48 := by rw [← b48]; omega

def stripR : List UInt8 → Nat → List UInt8 × Nat
  | [], x => ([], x)
  | b :: t, 0 => (b :: t, 0)
  | b :: t, x + 1 => if b = 48 then stripR t x else (b :: t, x + 1)
theorem stripR_zero (l : List UInt8) : stripR l 0 = (l, 0) := by cases l <;> rfl
def mkB (l : List UInt8) : ByteArray := ⟨l.toArray⟩
theorem mkB_list (l : List UInt8) : (mkB l).data.toList = l := by simp [mkB]
theorem mkB_of (s : ByteArray) : mkB s.data.toList = s := ba_ext (mkB_list _)
def zeroQ (b : Bool) : Bool × ByteArray × Int × Bool := (false, ⟨#[]⟩, 0, b)
def normL (n : Bool) (l : List UInt8) (x : Nat) : Bool × ByteArray × Int × Bool :=
  match l.dropWhile (· == 48) with
  | [] => zeroQ true
  | b :: t => if okL n x (b :: t) then (n, mkB (b :: t), x, true) else zeroQ false
/-- The right number that digits are on a scale, if there is one. -/
def norm (n : Bool) (l : List UInt8) (x : Nat) : Bool × ByteArray × Int × Bool := normL n (stripR l.reverse x).1.reverse (stripR l.reverse x).2

theorem nil_ok : okB false (⟨#[]⟩ : ByteArray) 0 = true := rfl
theorem l4Norm_l1 (n : Bool) (x : Nat) : ∀ (l : List UInt8) (s : ByteArray), s.data.toList = l → l.length ≤ 1000000 → Ev (fun k => spec_l4Norm.l1 k n s (x : Int)) (normL n l x) := by
  intro l
  induction l with
  | nil =>
    intro s hs hl
    refine Ev.step (f := fun k => (spec_DecOk.f k false (⟨#[]⟩ : ByteArray) 0).bind fun t171 => (if t171 = true then (some (false, (⟨#[]⟩ : ByteArray), 0, true)) else (some (false, (⟨#[]⟩ : ByteArray), 0, false)))) (fun k => ?_) ?_
    · conv => lhs; unfold spec_l4Norm.l1
      rw [Lib.toList_data, hs, if_pos rfl]
    · refine Ev.bind (spec_DecOk_f false ⟨#[]⟩ 0 (by decide)) ?_
      rw [nil_ok]
      exact Ev.now _
  | cons b t ih =>
    intro s hs hl
    have hz : (s.size : Int) = ((b :: t).length : Int) := by rw [sz, hs]
    have hz' : (s.size : Int) = (t.length : Int) + 1 := by rw [hz]; simp
    have hl' : t.length + 1 ≤ 1000000 := hl
    by_cases c : b = 48
    · refine Ev.step (f := fun k => spec_l4Norm.l1 k n (s.extract 1 s.size) (x : Int)) (fun k => ?_) ?_
      · conv => lhs; unfold spec_l4Norm.l1
        rw [Lib.toList_data, hs, if_neg (by simp), if_pos (by omega), first_bt s b t hs, if_pos ((b48 b).2 c), if_pos (by omega)]
      · have := ih (s.extract 1 s.size) (by rw [Lib.extract_to_end, hs]; rfl) (by omega)
        have e : normL n (b :: t) x = normL n t x := by subst c; rfl
        rw [e]; exact this
    · have e : normL n (b :: t) x = if okL n x (b :: t) then (n, mkB (b :: t), (x : Int), true) else zeroQ false := by
        have c' : (b == 48) = false := by simpa using c
        simp only [normL, List.dropWhile, c']
      refine Ev.step (f := fun k => ((spec_DecOk.f k n s (x : Int)).bind fun t173 => (if t173 = true then (some (n, s, (x : Int), true)) else (some (false, (⟨#[]⟩ : ByteArray), 0, false))))) (fun k => ?_) ?_
      · conv => lhs; unfold spec_l4Norm.l1
        rw [Lib.toList_data, hs, if_neg (by simp), if_pos (by omega), first_bt s b t hs, if_neg (fun h => c ((b48 b).1 h))]
      · refine Ev.bind (spec_DecOk_f n s (x : Int) (by omega)) ?_
        rw [e, okB, hs, ← hs, mkB_of]
        split
        · exact Ev.now _
        · exact Ev.now _

theorem split_last (s : ByteArray) (c : UInt8) (t : List UInt8) (h : s.data.toList.reverse = c :: t) :
    s.data.toList = t.reverse ++ [c] ∧ (s.size : Int) = (t.length : Int) + 1 ∧ bt s ((s.size : Int) - 1) = (c.toNat : Int) ∧ (s.extract 0 ((s.size : Int) - 1).toNat).data.toList.reverse = t := by
  have e : s.data.toList = t.reverse ++ [c] := by
    have := congrArg List.reverse h
    rw [List.reverse_reverse] at this
    rw [this]; simp
  have hz : (s.size : Int) = (t.length : Int) + 1 := by rw [sz, e]; simp
  refine ⟨e, hz, ?_, ?_⟩
  · have e1 : ((s.size : Int) - 1) = ((t.length : Nat) : Int) := by omega
    rw [e1, bt_nat s t.length (by rw [e]; simp)]
    congr 2
    simp [e]
  · rw [Lib.extract_data, List.drop_zero, Nat.sub_zero, e]
    have : ((s.size : Int) - 1).toNat = t.reverse.length := by rw [List.length_reverse]; omega
    rw [this, List.take_left]
    exact List.reverse_reverse t

theorem l4Norm_l0 (n : Bool) : ∀ (x : Nat) (s : ByteArray), x ≤ 1000000 → s.size ≤ 1000000 → Ev (fun k => spec_l4Norm.l0 k n s (x : Int)) (norm n s.data.toList x) := by
  intro x
  induction x with
  | zero =>
    intro s hx hs
    refine Ev.step (f := fun k => spec_l4Norm.l1 k n s ((0 : Nat) : Int)) (fun k => ?_) ?_
    · conv => lhs; unfold spec_l4Norm.l0
      rw [if_neg (by omega)]
    · have := l4Norm_l1 n 0 s.data.toList s rfl (by rw [← sz]; exact hs)
      unfold norm
      rw [stripR_zero, List.reverse_reverse]
      exact this
  | succ x ih =>
    intro s hx hs
    rcases h : s.data.toList.reverse with _ | ⟨c, t⟩
    · have e : s.data.toList = [] := by simpa using h
      refine Ev.step (f := fun k => spec_l4Norm.l1 k n s ((x + 1 : Nat) : Int)) (fun k => ?_) ?_
      · conv => lhs; unfold spec_l4Norm.l0
        rw [if_pos (by omega), Lib.toList_data, e, if_pos rfl]
      · have := l4Norm_l1 n (x + 1) s.data.toList s rfl (by rw [← sz]; exact hs)
        unfold norm
        rw [h]
        rw [e] at this
        exact this
    · obtain ⟨e, hz, hb, hd⟩ := split_last s c t h
      have hw : wrap64 ((s.size : Int) - 1) = (s.size : Int) - 1 := by rw [w64] <;> omega
      have hw2 : wrap64 (((x + 1 : Nat) : Int) - 1) = ((x : Nat) : Int) := by rw [w64] <;> omega
      have hne : ¬ (s.data.toList = []) := by rw [e]; simp
      by_cases cc : c = 48
      · refine Ev.step (f := fun k => spec_l4Norm.l0 k n (s.extract 0 ((s.size : Int) - 1).toNat) (x : Int)) (fun k => ?_) ?_
        · conv => lhs; unfold spec_l4Norm.l0
          rw [if_pos (by omega), Lib.toList_data, if_neg hne, hw, if_pos (by omega), if_pos (by omega), hb, if_pos ((b48 c).2 cc), if_pos (by omega), hw2]
        · have := ih (s.extract 0 ((s.size : Int) - 1).toNat) (by omega) (by
            have := congrArg List.length hd
            rw [List.length_reverse, ← sz] at this
            omega)
          unfold norm at this ⊢
          rw [hd] at this
          rw [h]
          simp only [stripR, if_pos cc]
          exact this
      · refine Ev.step (f := fun k => spec_l4Norm.l1 k n s ((x + 1 : Nat) : Int)) (fun k => ?_) ?_
        · conv => lhs; unfold spec_l4Norm.l0
          rw [if_pos (by omega), Lib.toList_data, if_neg hne, hw, if_pos (by omega), if_pos (by omega), hb, if_neg (fun h => cc ((b48 c).1 h))]
        · have := l4Norm_l1 n (x + 1) s.data.toList s rfl (by rw [← sz]; exact hs)
          unfold norm
          rw [h]
          simp only [stripR, if_neg cc]
          rw [← h, List.reverse_reverse]
          exact this
theorem l4Norm_f (n : Bool) (s : ByteArray) (x : Nat) (hx : x ≤ 1000000) (hs : s.size ≤ 1000000) : Ev (fun k => spec_l4Norm.f k n s (x : Int)) (norm n s.data.toList x) := l4Norm_l0 n x s hx hs

theorem made_end (n : Bool) (s : ByteArray) (x : Nat) (hs : s.size ≤ 1000000) :
    ((strings_TrimLeft.f s (⟨#[48]⟩ : ByteArray)).bind fun t290 => (if t290.toList = ([] : List UInt8) then ((impl_DecOk.f false (⟨#[]⟩ : ByteArray) 0).bind fun t292 => (if t292 = true then (some (false, (⟨#[]⟩ : ByteArray), 0, true)) else (some (false, (⟨#[]⟩ : ByteArray), 0, false)))) else ((impl_DecOk.f n t290 (x : Int)).bind fun t293 => (if t293 = true then (some (n, t290, (x : Int), true)) else (some (false, (⟨#[]⟩ : ByteArray), (0 : Int), false)))))) = some (normL n s.data.toList x) := by
  have e0 : strings_TrimLeft.f s (⟨#[48]⟩ : ByteArray) = some (mkB (s.data.toList.dropWhile (· == 48))) := by
    unfold strings_TrimLeft.f
    rw [if_pos ⟨by decide, by decide⟩]
    congr 1
    apply ba_ext
    rw [mkB_list]
    simp only [Lib.trimLeftS]
    congr 1
    funext b
    show ([48] : List UInt8).contains b = (b == 48)
    by_cases hb : b = 48 <;> simp [List.contains_cons, List.elem_nil, hb]
  rw [e0]
  simp only [Option.bind_some, Lib.toList_data, mkB_list]
  have hlen : (s.data.toList.dropWhile (· == 48)).length ≤ 1000000 := Nat.le_trans (List.Sublist.length_le (List.dropWhile_sublist _)) (by rw [← sz]; exact hs)
  unfold normL
  rcases h : s.data.toList.dropWhile (· == 48) with _ | ⟨b, t⟩
  · rw [if_pos rfl, impl_DecOk_f false ⟨#[]⟩ 0 (by decide), nil_ok]
    rfl
  · rw [h] at hlen
    rw [if_neg (by simp), impl_DecOk_f n (mkB (b :: t)) (x : Int) (by rw [sz, mkB_list]; omega)]
    simp only [Option.bind_some, okB, mkB_list]
    split <;> rfl

theorem made_f (n : Bool) : ∀ (x : Nat) (s : ByteArray), x ≤ 1000000 → s.size ≤ 1000000 → Ev (fun k => impl_made.f k n s (x : Int)) (norm n s.data.toList x) := by
  intro x
  unfold impl_made.f
  induction x with
  | zero =>
    intro s hx hs
    refine Ev.step (f := fun k => some (normL n s.data.toList 0)) (fun k => ?_) ?_
    · conv => lhs; unfold impl_made.l0
      rw [if_neg (by omega)]
      exact made_end n s 0 hs
    · unfold norm
      rw [stripR_zero, List.reverse_reverse]
      exact Ev.now _
  | succ x ih =>
    intro s hx hs
    rcases h : s.data.toList.reverse with _ | ⟨c, t⟩
    · have e : s.data.toList = [] := by simpa using h
      refine Ev.step (f := fun k => some (normL n s.data.toList (x + 1))) (fun k => ?_) ?_
      · conv => lhs; unfold impl_made.l0
        rw [if_pos (by omega), if_pos (by rw [Lib.toList_data]; exact e)]
        exact made_end n s (x + 1) hs
      · unfold norm
        rw [h, e]
        exact Ev.now _
    · obtain ⟨e, hz, hb, hd⟩ := split_last s c t h
      have hw : wrap64 ((s.size : Int) - 1) = (s.size : Int) - 1 := by rw [w64] <;> omega
      have hw2 : wrap64 (((x + 1 : Nat) : Int) - 1) = ((x : Nat) : Int) := by rw [w64] <;> omega
      have hne : ¬ (s.toList = []) := by rw [Lib.toList_data, e]; simp
      by_cases cc : c = 48
      · refine Ev.step (f := fun k => impl_made.l0 k n (s.extract 0 ((s.size : Int) - 1).toNat) (x : Int)) (fun k => ?_) ?_
        · conv => lhs; unfold impl_made.l0
          rw [if_pos (by omega), if_neg hne, hw, if_pos (by omega), if_pos (by omega), hb, if_pos ((b48 c).2 cc), if_pos (by omega), hw2]
        · have := ih (s.extract 0 ((s.size : Int) - 1).toNat) (by omega) (by
            have := congrArg List.length hd
            rw [List.length_reverse, ← sz] at this
            omega)
          unfold norm at this ⊢
          rw [hd] at this
          rw [h]
          simp only [stripR, if_pos cc]
          exact this
      · refine Ev.step (f := fun k => some (normL n s.data.toList (x + 1))) (fun k => ?_) ?_
        · conv => lhs; unfold impl_made.l0
          rw [if_pos (by omega), if_neg hne, hw, if_pos (by omega), if_pos (by omega), hb, if_neg (fun h => cc ((b48 c).1 h))]
          exact made_end n s (x + 1) hs
        · unfold norm
          rw [h]
          simp only [stripR, if_neg cc]
          rw [← h, List.reverse_reverse]
          exact Ev.now _

/-! ### what digits count -/
def dv (b : UInt8) : Nat := b.toNat - 48
def nv (l : List UInt8) : Nat := l.foldl (fun a b => 10 * a + dv b) 0
theorem nv_from (l : List UInt8) : ∀ a : Nat, l.foldl (fun a b => 10 * a + dv b) a = a * 10 ^ l.length + nv l := by
  induction l with
  | nil => intro a; simp [nv]
  | cons b t ih =>
    intro a
    unfold nv
    simp only [List.foldl_cons, List.length_cons]
    rw [ih (10 * a + dv b), ih (10 * 0 + dv b)]
    rw [Nat.pow_succ, Nat.mul_zero, Nat.zero_add, Nat.add_mul, ← Nat.add_assoc]
    congr 2
    rw [Nat.mul_comm 10 a, Nat.mul_assoc, Nat.mul_comm 10 (10 ^ t.length)]
theorem nv_cons (b : UInt8) (t : List UInt8) : nv (b :: t) = dv b * 10 ^ t.length + nv t := by
  have := nv_from t (10 * 0 + dv b)
  have e : nv (b :: t) = t.foldl (fun a b => 10 * a + dv b) (10 * 0 + dv b) := rfl
  rw [e, this, Nat.mul_zero, Nat.zero_add]
theorem nv_app (l m : List UInt8) : nv (l ++ m) = nv l * 10 ^ m.length + nv m := by
  unfold nv
  rw [List.foldl_append]
  exact nv_from m _
theorem nv_snoc (l : List UInt8) (b : UInt8) : nv (l ++ [b]) = 10 * nv l + dv b := by
  unfold nv
  rw [List.foldl_append]
  rfl
theorem dv_lt {b : UInt8} (h : digB b = true) : dv b < 10 := by
  simp only [digB, Bool.and_eq_true, decide_eq_true_eq] at h
  unfold dv; omega
theorem nv_lt : ∀ (l : List UInt8), l.all digB = true → nv l < 10 ^ l.length
  | [], _ => by simp [nv]
  | b :: t, h => by
    rw [List.all_cons, Bool.and_eq_true] at h
    have h1 := dv_lt h.1
    have h2 := nv_lt t h.2
    rw [nv_cons, List.length_cons, Nat.pow_succ]
    have : dv b * 10 ^ t.length ≤ 9 * 10 ^ t.length := Nat.mul_le_mul_right _ (by omega)
    omega
theorem nv_zeros (n : Nat) : nv (List.replicate n 48) = 0 := by
  induction n with
  | zero => rfl
  | succ n ih => rw [List.replicate_succ, nv_cons, ih]; simp [dv]
theorem nv_zeros_app (n : Nat) (l : List UInt8) : nv (List.replicate n 48 ++ l) = nv l := by rw [nv_app, nv_zeros]; simp
theorem nv_app_zeros (n : Nat) (l : List UInt8) : nv (l ++ List.replicate n 48) = nv l * 10 ^ n := by rw [nv_app, nv_zeros, List.length_replicate]; simp
theorem nv_drop (l : List UInt8) : nv (l.dropWhile (· == 48)) = nv l := by
  induction l with
  | nil => rfl
  | cons b t ih =>
    by_cases c : b = 48
    · subst c
      have : (List.dropWhile (· == (48 : UInt8)) (48 :: t)) = t.dropWhile (· == 48) := rfl
      rw [this, ih, nv_cons]; simp [dv]
    · have c' : (b == 48) = false := by simpa using c
      simp only [List.dropWhile, c']
theorem nv_inj : ∀ (l m : List UInt8), l.all digB = true → m.all digB = true → l.length = m.length → nv l = nv m → l = m
  | [], [], _, _, _, _ => rfl
  | [], _ :: _, _, _, h, _ => by simp at h
  | _ :: _, [], _, _, h, _ => by simp at h
  | b :: t, c :: u, hl, hm, hn, hv => by
    rw [List.all_cons, Bool.and_eq_true] at hl hm
    have hlen : t.length = u.length := by simpa using hn
    have h1 := nv_lt t hl.2
    have h2 := nv_lt u hm.2
    rw [nv_cons, nv_cons, ← hlen] at hv
    rw [← hlen] at h2
    have hp : 0 < 10 ^ t.length := Nat.pow_pos (by omega)
    have hd : dv b = dv c := by
      have a1 : (dv b * 10 ^ t.length + nv t) / 10 ^ t.length = dv b := by rw [Nat.mul_comm, Nat.mul_add_div hp, Nat.div_eq_of_lt h1, Nat.add_zero]
      have a2 : (dv c * 10 ^ t.length + nv u) / 10 ^ t.length = dv c := by rw [Nat.mul_comm, Nat.mul_add_div hp, Nat.div_eq_of_lt h2, Nat.add_zero]
      rw [← a1, hv, a2]
    have hv' : nv t = nv u := by rw [hd] at hv; omega
    have hbc : b = c := by
      apply UInt8.toNat.inj
      simp only [digB, Bool.and_eq_true, decide_eq_true_eq] at hl hm
      unfold dv at hd
      omega
    rw [hbc, nv_inj t u hl.2 hm.2 hlen hv']
theorem nv_head {b : UInt8} {t : List UInt8} (h : digB b = true) (hb : b ≠ 48) : 10 ^ t.length ≤ nv (b :: t) := by
  rw [nv_cons]
  have : 1 ≤ dv b := by
    simp only [digB, Bool.and_eq_true, decide_eq_true_eq] at h
    have : b.toNat ≠ 48 := fun e => hb ((b48n b).1 e)
    unfold dv; omega
  have := Nat.mul_le_mul_right (10 ^ t.length) this
  omega
theorem nv_inj_lead {b c : UInt8} {t u : List UInt8} (hl : (b :: t).all digB = true) (hm : (c :: u).all digB = true) (hb : b ≠ 48) (hc : c ≠ 48) (hv : nv (b :: t) = nv (c :: u)) : b :: t = c :: u := by
  have l1 := nv_lt _ hl
  have l2 := nv_lt _ hm
  rw [List.all_cons, Bool.and_eq_true] at hl hm
  have g1 := nv_head (t := t) hl.1 hb
  have g2 := nv_head (t := u) hm.1 hc
  have hlen : t.length = u.length := by
    rcases Nat.lt_trichotomy t.length u.length with h | h | h
    · have : 10 ^ (t.length + 1) ≤ 10 ^ u.length := Nat.pow_le_pow_right (by omega) h
      rw [List.length_cons] at l1; omega
    · exact h
    · have : 10 ^ (u.length + 1) ≤ 10 ^ t.length := Nat.pow_le_pow_right (by omega) h
      rw [List.length_cons] at l2; omega
  exact nv_inj _ _ (by rw [List.all_cons, Bool.and_eq_true]; exact hl) (by rw [List.all_cons, Bool.and_eq_true]; exact hm) (by simp [hlen]) hv

/-- Digits on a scale without needless noughts. -/
def Canon (l : List UInt8) (x : Nat) : Prop := ∃ b t, l = b :: t ∧ (b :: t).all digB = true ∧ b ≠ 48 ∧ (x = 0 ∨ ∃ u c, l = u ++ [c] ∧ c ≠ 48)
theorem canon_scale {l m : List UInt8} {x y M : Nat} (hl : Canon l x) (hm : Canon m y) (hx : x ≤ M) (hy : y ≤ M) (hv : nv l * 10 ^ (M - x) = nv m * 10 ^ (M - y)) : y ≤ x := by
  rcases Nat.lt_or_ge x y with h | h
  · exfalso
    obtain ⟨b, t, e, hd, hb, hlast⟩ := hm
    have e1 : M - x = (M - y) + (y - x) := by omega
    rw [e1, Nat.pow_add, Nat.mul_comm (10 ^ (M - y)), ← Nat.mul_assoc] at hv
    have hp : 0 < 10 ^ (M - y) := Nat.pow_pos (by omega)
    have hv2 : nv l * 10 ^ (y - x) = nv m := Nat.eq_of_mul_eq_mul_right hp hv
    have e2 : y - x = (y - x - 1) + 1 := by omega
    rw [e2, Nat.pow_succ, ← Nat.mul_assoc] at hv2
    rcases hlast with h0 | ⟨u, c, e3, hc⟩
    · omega
    · rw [e3, nv_snoc] at hv2
      have hcd : digB c = true := by
        have := List.all_eq_true.1 hd c (by rw [← e, e3]; simp)
        exact this
      have h1 := dv_lt hcd
      have h2 : dv c ≠ 0 := by
        simp only [digB, Bool.and_eq_true, decide_eq_true_eq] at hcd
        have : c.toNat ≠ 48 := fun e => hc ((b48n c).1 e)
        unfold dv; omega
      omega
  · exact h
theorem canon_uniq {l m : List UInt8} {x y M : Nat} (hl : Canon l x) (hm : Canon m y) (hx : x ≤ M) (hy : y ≤ M) (hv : nv l * 10 ^ (M - x) = nv m * 10 ^ (M - y)) : l = m ∧ x = y := by
  have h1 := canon_scale hl hm hx hy hv
  have h2 := canon_scale hm hl hy hx hv.symm
  have e : x = y := by omega
  subst e
  have hp : 0 < 10 ^ (M - x) := Nat.pow_pos (by omega)
  have hv2 : nv l = nv m := Nat.eq_of_mul_eq_mul_right hp hv
  obtain ⟨b, t, e1, hd1, hb1, _⟩ := hl
  obtain ⟨c, u, e2, hd2, hb2, _⟩ := hm
  subst e1; subst e2
  exact ⟨nv_inj_lead hd1 hd2 hb1 hb2 hv2, rfl⟩
theorem canon_pos {l : List UInt8} {x : Nat} (h : Canon l x) : 0 < nv l := by
  obtain ⟨b, t, e, hd, hb, _⟩ := h
  subst e
  rw [List.all_cons, Bool.and_eq_true] at hd
  exact Nat.lt_of_lt_of_le (Nat.pow_pos (by omega)) (nv_head hd.1 hb)
/-- A right number: nought, or canonical. -/
theorem ok_canon {n : Bool} {s : ByteArray} {x : Int} (h : okB n s x = true) : (s.data.toList = [] ∧ n = false ∧ x = 0) ∨ (∃ y : Nat, x = y ∧ y ≤ 60 ∧ s.data.toList.length ≤ 60 ∧ Canon s.data.toList y) := by
  unfold okB at h
  rcases e : s.data.toList with _ | ⟨b, t⟩
  · rw [e] at h
    simp only [okL, Bool.and_eq_true, beq_iff_eq, Bool.not_eq_true'] at h
    exact .inl ⟨rfl, h⟩
  · rw [e] at h
    simp only [okL, Bool.and_eq_true, bne_iff_ne, decide_eq_true_eq, inB, Bool.or_eq_true, beq_iff_eq] at h
    obtain ⟨h1, h2, h3, ⟨h4, h5⟩, h6⟩ := h
    refine .inr ⟨x.toNat, by omega, by omega, h1, b, t, rfl, h2, fun c => h3 ((b48n b).2 c), ?_⟩
    rcases h6 with h6 | h6
    · left; omega
    · right
      refine ⟨(b :: t).dropLast, (b :: t).getLast (by simp), (List.dropLast_concat_getLast (by simp)).symm, fun c => h6 ((b48n _).2 c)⟩
theorem canon_ok {n : Bool} {l : List UInt8} {x : Nat} (h : Canon l x) (h1 : l.length ≤ 60) (h2 : x ≤ 60) : okL n x l = true := by
  obtain ⟨b, t, e, hd, hb, hl⟩ := h
  subst e
  simp only [okL, Bool.and_eq_true, bne_iff_ne, decide_eq_true_eq, inB, Bool.or_eq_true, beq_iff_eq]
  refine ⟨h1, hd, fun c => hb ((b48n b).1 c), ⟨by omega, by omega⟩, ?_⟩
  rcases hl with h | ⟨u, c, e, hc⟩
  · left; omega
  · right
    intro hh
    have : (b :: t).getLast (by simp) = c := by simp only [e, List.getLast_append, List.getLast_singleton]; simp
    rw [this] at hh
    exact hc ((b48n c).1 hh)

def sg (n : Bool) : Int := if n then -1 else 1
/-- A number's value, by 10 to the scale M. -/
def V (n : Bool) (s : ByteArray) (x : Int) (M : Nat) : Int := sg n * ((nv s.data.toList * 10 ^ (M - x.toNat) : Nat) : Int)
theorem V_zero (M : Nat) : V false ⟨#[]⟩ 0 M = 0 := by simp [V, nv]
theorem V_nil {n : Bool} {s : ByteArray} {x : Int} (h : s.data.toList = []) (M : Nat) : V n s x M = 0 := by simp [V, h, nv]
theorem sg_cases (n : Bool) : sg n = 1 ∨ sg n = -1 := by cases n <;> simp [sg]
theorem V_pos {n : Bool} {s : ByteArray} {x : Nat} (h : Canon s.data.toList x) (M : Nat) : (n = false → 0 < V n s x M) ∧ (n = true → V n s x M < 0) := by
  have h1 := canon_pos h
  have h2 : 0 < nv s.data.toList * 10 ^ (M - x) := Nat.mul_pos h1 (Nat.pow_pos (by omega))
  unfold V
  rw [Int.toNat_natCast]
  constructor <;> intro e <;> subst e <;> simp only [sg, if_true, Bool.false_eq_true, if_false] <;> omega
theorem V_neg {n : Bool} {s : ByteArray} {x : Int} (h : okB n s x = true) (M : Nat) : (n = true ↔ V n s x M < 0) ∧ (s.data.toList = [] ↔ V n s x M = 0) := by
  rcases ok_canon h with ⟨h1, h2, h3⟩ | ⟨y, rfl, h1, h2, h3⟩
  · subst h2
    rw [V_nil h1]
    simp [h1]
  · have := V_pos (n := n) h3 M
    have hne : s.data.toList ≠ [] := by obtain ⟨b, t, e, _⟩ := h3; rw [e]; simp
    cases n with
    | true => have := this.2 rfl; exact ⟨⟨fun _ => this, fun _ => rfl⟩, ⟨fun e => absurd e hne, fun e => by omega⟩⟩
    | false => have := this.1 rfl; exact ⟨⟨fun e => (by cases e), fun e => (by omega)⟩, ⟨fun e => absurd e hne, fun e => by omega⟩⟩
/-! ### what digits are made into -/
theorem strip_val : ∀ (l : List UInt8) (x : Nat), (stripR l x).2 ≤ x ∧ nv (stripR l x).1.reverse * 10 ^ (x - (stripR l x).2) = nv l.reverse ∧
    ((stripR l x).2 = 0 ∨ (stripR l x).1 = [] ∨ ∃ b t, (stripR l x).1 = b :: t ∧ b ≠ 48) ∧ (l.all digB = true → (stripR l x).1.all digB = true)
  | [], x => by simp [stripR]
  | b :: t, 0 => by simp [stripR]
  | b :: t, x + 1 => by
    by_cases c : b = 48
    · have ih := strip_val t x
      simp only [stripR, if_pos c]
      refine ⟨by omega, ?_, ih.2.2.1, fun h => ih.2.2.2 (by rw [List.all_cons, Bool.and_eq_true] at h; exact h.2)⟩
      have e : x + 1 - (stripR t x).2 = (x - (stripR t x).2) + 1 := by omega
      rw [e, Nat.pow_succ, ← Nat.mul_assoc, ih.2.1, List.reverse_cons, nv_snoc]
      subst c
      simp only [dv]
      have : (48 : UInt8).toNat = 48 := rfl
      omega
    · simp only [stripR, if_neg c]
      exact ⟨Nat.le_refl _, by simp, .inr (.inr ⟨b, t, rfl, c⟩), fun h => h⟩
theorem drop_last_ne {l : List UInt8} {b : UInt8} {t : List UInt8} (h : l.dropWhile (· == 48) = b :: t) : b ≠ 48 ∧ ∃ p, l = p ++ (b :: t) := by
  induction l with
  | nil => simp at h
  | cons a l ih =>
    by_cases c : a = 48
    · subst c
      have e : (List.dropWhile (· == (48 : UInt8)) (48 :: l)) = l.dropWhile (· == 48) := rfl
      rw [e] at h
      obtain ⟨h1, p, h2⟩ := ih h
      exact ⟨h1, 48 :: p, by rw [h2]; rfl⟩
    · have c' : (a == 48) = false := by simpa using c
      simp only [List.dropWhile, c'] at h
      injection h with h1 h2
      subst h1; subst h2
      exact ⟨c, [], rfl⟩
/-- The two cases of 'norm'. -/
theorem norm_cases (n : Bool) (l : List UInt8) (x : Nat) (hd : l.all digB = true) :
    (nv l = 0 ∧ norm n l x = zeroQ true) ∨ (∃ m y, Canon m y ∧ y ≤ x ∧ nv m * 10 ^ (x - y) = nv l ∧ norm n l x = if okL n y m then (n, mkB m, (y : Int), true) else zeroQ false) := by
  obtain ⟨h1, h2, h3, h4⟩ := strip_val l.reverse x
  rw [List.reverse_reverse] at h2
  have h4 := h4 (by rw [List.all_reverse]; exact hd)
  unfold norm normL
  rcases e : (stripR l.reverse x).1.reverse.dropWhile (· == 48) with _ | ⟨b, t⟩
  · left
    refine ⟨?_, rfl⟩
    rw [← h2, ← nv_drop, e]
    simp [nv]
  · right
    obtain ⟨hb, p, hp⟩ := drop_last_ne e
    refine ⟨b :: t, (stripR l.reverse x).2, ⟨b, t, rfl, ?_, hb, ?_⟩, h1, ?_, rfl⟩
    · have : (stripR l.reverse x).1.reverse.all digB = true := by rw [List.all_reverse]; exact h4
      rw [hp, List.all_append, Bool.and_eq_true] at this
      exact this.2
    · rcases h3 with h | h | ⟨c, u, hc, hne⟩
      · exact .inl h
      · rw [h] at e; simp at e
      · right
        rw [hc, List.reverse_cons] at hp
        refine ⟨(b :: t).dropLast, c, ?_, hne⟩
        have hl : (b :: t).getLast (by simp) = c := by
          have h5 : (u.reverse ++ [c]).getLast? = (p ++ (b :: t)).getLast? := by rw [hp]
          rw [List.getLast?_append, List.getLast?_append] at h5
          simp only [List.getLast?_singleton, Option.some_or] at h5
          rw [List.getLast?_eq_some_getLast (by simp : (b :: t) ≠ [])] at h5
          simp only [Option.some_or, Option.some.injEq] at h5
          exact h5.symm
        rw [← hl]
        exact (List.dropLast_concat_getLast (by simp)).symm
    · rw [← e, nv_drop]; exact h2

theorem norm_good (n : Bool) (l : List UInt8) (x : Nat) (hd : l.all digB = true) (hok : (norm n l x).2.2.2 = true) :
    okB (norm n l x).1 (norm n l x).2.1 (norm n l x).2.2.1 = true ∧ (norm n l x).2.2.1 ≤ x ∧ V (norm n l x).1 (norm n l x).2.1 (norm n l x).2.2.1 x = sg n * (nv l : Int) := by
  rcases norm_cases n l x hd with ⟨h1, h2⟩ | ⟨m, y, h1, h2, h3, h4⟩
  · rw [h2]
    refine ⟨rfl, by simp [zeroQ], ?_⟩
    show V false ⟨#[]⟩ 0 x = _
    rw [V_zero, h1]; simp
  · by_cases c : okL n y m = true
    · rw [if_pos c] at h4
      rw [h4]
      refine ⟨by rw [okB, mkB_list]; exact c, by show (y : Int) ≤ x; omega, ?_⟩
      show V n (mkB m) (y : Int) x = _
      rw [V, mkB_list, Int.toNat_natCast, h3]
    · rw [if_neg c] at h4
      rw [h4] at hok
      cases hok
theorem norm_is (n : Bool) (l : List UInt8) (x : Nat) (hd : l.all digB = true) {m : Bool} {t : ByteArray} {y : Int} (hk : okB m t y = true) (hy : y ≤ x) (hv : V m t y x = sg n * (nv l : Int)) :
    norm n l x = (m, t, y, true) := by
  have k := V_neg hk x
  rcases norm_cases n l x hd with ⟨h1, h2⟩ | ⟨l2, z, h1, h2, h3, h4⟩
  · rw [h1] at hv
    have e : t.data.toList = [] := k.2.2 (by rw [hv]; simp)
    rcases ok_canon hk with ⟨_, k2, k3⟩ | ⟨_, _, _, _, _, _, e2, _⟩
    · rw [h2, k2, k3, ba_ext (a := t) (b := ⟨#[]⟩) (by rw [e])]; rfl
    · rw [e] at e2; cases e2
  · have hp : 0 < nv l := by rw [← h3]; exact Nat.mul_pos (canon_pos h1) (Nat.pow_pos (by omega))
    rcases ok_canon hk with ⟨k1, k2, k3⟩ | ⟨w, rfl, k1, k2, k3⟩
    · exfalso
      rw [k.2.1 k1] at hv
      rcases sg_cases n with e | e <;> rw [e] at hv <;> omega
    · have hm : m = n := by
        have c := V_pos (n := m) k3 x
        cases m with
        | true => have := c.2 rfl; cases n with
          | true => rfl
          | false => simp only [sg, Bool.false_eq_true, if_false] at hv; omega
        | false => have := c.1 rfl; cases n with
          | false => rfl
          | true => simp only [sg, if_true] at hv; omega
      subst hm
      have hv' : nv l2 * 10 ^ (x - z) = nv t.data.toList * 10 ^ (x - w) := by
        unfold V at hv
        rw [Int.toNat_natCast] at hv
        rw [h3]
        rcases sg_cases m with e | e <;> rw [e] at hv <;> omega
      have u := canon_uniq h1 k3 h2 (by omega) hv'
      rw [h4, u.1, u.2, mkB_of]
      rw [if_pos]
      rw [okB] at hk
      exact hk
theorem norm_bad (n : Bool) (l : List UInt8) (x : Nat) (hok : (norm n l x).2.2.2 = false) : norm n l x = zeroQ false := by
  unfold norm normL at hok ⊢
  split at hok
  · cases hok
  · split at hok
    · cases hok
    · rename_i h; rw [if_neg h]
end Go.Proofs.YtilmhfkbpnejeaaDoor.Pure
