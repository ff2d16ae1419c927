/- Words and contracts for the row RowFnDecs: what the Go functions answer that it calls; printed by programs of the kit and of this session, and merged. -/
import Derived.Test.YtilmhfkbpnejeaaDoorQd4
import Derived.Sort.Walk0
import Derived.Lib.PathFns
import Derived.Lib.IndexBytes
namespace Go.Proofs.YtilmhfkbpnejeaaDoor.L
open Go.RowKit Go.Proofs.YtilmhfkbpnejeaaDoorW.PrintWords Go.Proofs.YtilmhfkbpnejeaaDoorW.PrintLast Go.Proofs.YtilmhfkbpnejeaaDoorW.PrintMore
attribute [local go_sem] max2_int min2_int max_two min_two max_three min_three max_four min_four   -- for this text's walks alone
attribute [local go_sem] Go.Proofs.YtilmhfkbpnejeaaDoor.H.str_leq Go.Proofs.YtilmhfkbpnejeaaDoor.H.str_gtr Go.Proofs.YtilmhfkbpnejeaaDoor.H.str_geq
set_option linter.unusedVariables false
set_option linter.unusedSimpArgs false

/-! ### cmp_Compare_string: function 52 -/
def cmp_Compare_string.f (a0 : ByteArray) (a1 : ByteArray) : Option (Int) := (cmp_isNaN_string.f a0).bind fun t134 => ((cmp_isNaN_string.f a1).bind fun t135 => (if t134 = true then (if t135 = true then (some 0) else (some (-1))) else (if t135 = true then (some 1) else (if (Op.bytesLess a0.toList a1.toList) = true then (some (-1)) else (if (Op.bytesLess a1.toList a0.toList) = true then (some 1) else (some 0))))))
set_option maxHeartbeats 8000000 in
set_option maxRecDepth 100000 in
theorem cmp_Compare_string.calls (a0 : ByteArray) (a1 : ByteArray) (r : Int) (w : World) (h : cmp_Compare_string.f a0 a1 = some r) :
    Calls Tryd.prog 52 #[.string a0, .string a1] w fun e w' => e = .returned (.int .i64 r) ∧ Drawn0 w w' := by
  have H : ((cmp_isNaN_string.f a0).bind fun t134 => ((cmp_isNaN_string.f a1).bind fun t135 => (if t134 = true then (if t135 = true then (some 0) else (some (-1))) else (if t135 = true then (some 1) else (if (Op.bytesLess a0.toList a1.toList) = true then (some (-1)) else (if (Op.bytesLess a1.toList a0.toList) = true then (some 1) else (some 0))))))) = some r := h
  clear h
  replace H := Option.bind_eq_some_iff.mp H
  obtain ⟨t134, A30, H⟩ := H
  replace H : ((cmp_isNaN_string.f a1).bind fun t135 => (if t134 = true then (if t135 = true then (some 0) else (some (-1))) else (if t135 = true then (some 1) else (if (Op.bytesLess a0.toList a1.toList) = true then (some (-1)) else (if (Op.bytesLess a1.toList a0.toList) = true then (some 1) else (some 0)))))) = some r := H
  have A3 := Aside0.mk A30
  clear A30
  replace H := Option.bind_eq_some_iff.mp H
  obtain ⟨t135, A40, H⟩ := H
  replace H : (if t134 = true then (if t135 = true then (some 0) else (some (-1))) else (if t135 = true then (some 1) else (if (Op.bytesLess a0.toList a1.toList) = true then (some (-1)) else (if (Op.bytesLess a1.toList a0.toList) = true then (some 1) else (some 0))))) = some r := H
  have A4 := Aside0.mk A40
  clear A40
  by_cases c5 : t134 = true
  · subst c5
    have H1 : (if t135 = true then (some 0) else (some (-1))) = some r := by rw [if_pos rfl] at H; exact H
    clear H
    have H := H1
    clear H1
    by_cases c6 : t135 = true
    · subst c6
      have H1 : (some 0) = some r := by rw [if_pos rfl] at H; exact H
      clear H
      have H := H1
      clear H1
      obtain rfl := Option.some.inj H
      go_enter Tryd.func52, Tryd.ntmps52
      go_wp2_with (first | ((with_reducible refine gate_callee (f := 92) rfl ?_); refine goesL_ (some 8) rfl rfl Tryd.func92 (by kernel_rfl) rfl #[.string a0] rfl (by (try simp only [List.map_toArray, List.map_cons, List.map_nil]); first | done | rfl | (simp only [List.length_drop, List.length_take]; rfl)) ?_; (with_reducible refine (cmp_isNaN_string.calls a0 true _ A3.out).mono ?_); rintro e w' ⟨rfl, ⟨nd, rfl⟩⟩; refine ⟨_, rfl, ?_⟩) | ((with_reducible refine gate_callee (f := 92) rfl ?_); refine goesL_ (some 10) rfl rfl Tryd.func92 (by kernel_rfl) rfl #[.string a1] rfl (by (try simp only [List.map_toArray, List.map_cons, List.map_nil]); first | done | rfl | (simp only [List.length_drop, List.length_take]; rfl)) ?_; (with_reducible refine (cmp_isNaN_string.calls a1 true _ A4.out).mono ?_); rintro e w' ⟨rfl, ⟨nd, rfl⟩⟩; refine ⟨_, rfl, ?_⟩))
      go_ret
      exact ⟨by first | rfl | (simp; done) | (simp [*]; done), by repeat (first | exact Drawn0.refl _ | apply Drawn0.step)⟩
    · replace c6 := Bool.eq_false_iff.mpr c6
      subst c6
      have H1 : (some (-1)) = some r := by rw [if_neg (show ¬ (false = true) by decide)] at H; exact H
      clear H
      have H := H1
      clear H1
      obtain rfl := Option.some.inj H
      go_enter Tryd.func52, Tryd.ntmps52
      go_wp2_with (first | ((with_reducible refine gate_callee (f := 92) rfl ?_); refine goesL_ (some 8) rfl rfl Tryd.func92 (by kernel_rfl) rfl #[.string a0] rfl (by (try simp only [List.map_toArray, List.map_cons, List.map_nil]); first | done | rfl | (simp only [List.length_drop, List.length_take]; rfl)) ?_; (with_reducible refine (cmp_isNaN_string.calls a0 true _ A3.out).mono ?_); rintro e w' ⟨rfl, ⟨nd, rfl⟩⟩; refine ⟨_, rfl, ?_⟩) | ((with_reducible refine gate_callee (f := 92) rfl ?_); refine goesL_ (some 10) rfl rfl Tryd.func92 (by kernel_rfl) rfl #[.string a1] rfl (by (try simp only [List.map_toArray, List.map_cons, List.map_nil]); first | done | rfl | (simp only [List.length_drop, List.length_take]; rfl)) ?_; (with_reducible refine (cmp_isNaN_string.calls a1 false _ A4.out).mono ?_); rintro e w' ⟨rfl, ⟨nd, rfl⟩⟩; refine ⟨_, rfl, ?_⟩))
      go_ret
      exact ⟨by first | rfl | (simp; done) | (simp [*]; done), by repeat (first | exact Drawn0.refl _ | apply Drawn0.step)⟩
  · replace c5 := Bool.eq_false_iff.mpr c5
    subst c5
    have H1 : (if t135 = true then (some 1) else (if (Op.bytesLess a0.toList a1.toList) = true then (some (-1)) else (if (Op.bytesLess a1.toList a0.toList) = true then (some 1) else (some 0)))) = some r := by rw [if_neg (show ¬ (false = true) by decide)] at H; exact H
    clear H
    have H := H1
    clear H1
    by_cases c7 : t135 = true
    · subst c7
      have H1 : (some 1) = some r := by rw [if_pos rfl] at H; exact H
      clear H
      have H := H1
      clear H1
      obtain rfl := Option.some.inj H
      go_enter Tryd.func52, Tryd.ntmps52
      go_wp2_with (first | ((with_reducible refine gate_callee (f := 92) rfl ?_); refine goesL_ (some 8) rfl rfl Tryd.func92 (by kernel_rfl) rfl #[.string a0] rfl (by (try simp only [List.map_toArray, List.map_cons, List.map_nil]); first | done | rfl | (simp only [List.length_drop, List.length_take]; rfl)) ?_; (with_reducible refine (cmp_isNaN_string.calls a0 false _ A3.out).mono ?_); rintro e w' ⟨rfl, ⟨nd, rfl⟩⟩; refine ⟨_, rfl, ?_⟩) | ((with_reducible refine gate_callee (f := 92) rfl ?_); refine goesL_ (some 10) rfl rfl Tryd.func92 (by kernel_rfl) rfl #[.string a1] rfl (by (try simp only [List.map_toArray, List.map_cons, List.map_nil]); first | done | rfl | (simp only [List.length_drop, List.length_take]; rfl)) ?_; (with_reducible refine (cmp_isNaN_string.calls a1 true _ A4.out).mono ?_); rintro e w' ⟨rfl, ⟨nd, rfl⟩⟩; refine ⟨_, rfl, ?_⟩))
      go_ret
      exact ⟨by first | rfl | (simp; done) | (simp [*]; done), by repeat (first | exact Drawn0.refl _ | apply Drawn0.step)⟩
    · replace c7 := Bool.eq_false_iff.mpr c7
      subst c7
      have H1 : (if (Op.bytesLess a0.toList a1.toList) = true then (some (-1)) else (if (Op.bytesLess a1.toList a0.toList) = true then (some 1) else (some 0))) = some r := by rw [if_neg (show ¬ (false = true) by decide)] at H; exact H
      clear H
      have H := H1
      clear H1
      by_cases c8 : (Op.bytesLess a0.toList a1.toList) = true
      · rw [if_pos c8] at H
        have c8b0 : (Op.bytesLess a0.toList a1.toList) = true := c8
        clear c8
        obtain rfl := Option.some.inj H
        go_enter Tryd.func52, Tryd.ntmps52
        go_wp2_with (first | ((with_reducible refine gate_callee (f := 92) rfl ?_); refine goesL_ (some 8) rfl rfl Tryd.func92 (by kernel_rfl) rfl #[.string a0] rfl (by (try simp only [List.map_toArray, List.map_cons, List.map_nil]); first | done | rfl | (simp only [List.length_drop, List.length_take]; rfl)) ?_; (with_reducible refine (cmp_isNaN_string.calls a0 false _ A3.out).mono ?_); rintro e w' ⟨rfl, ⟨nd, rfl⟩⟩; refine ⟨_, rfl, ?_⟩) | ((with_reducible refine gate_callee (f := 92) rfl ?_); refine goesL_ (some 10) rfl rfl Tryd.func92 (by kernel_rfl) rfl #[.string a1] rfl (by (try simp only [List.map_toArray, List.map_cons, List.map_nil]); first | done | rfl | (simp only [List.length_drop, List.length_take]; rfl)) ?_; (with_reducible refine (cmp_isNaN_string.calls a1 false _ A4.out).mono ?_); rintro e w' ⟨rfl, ⟨nd, rfl⟩⟩; refine ⟨_, rfl, ?_⟩))
        go_ret
        exact ⟨by first | rfl | (simp; done) | (simp [*]; done), by repeat (first | exact Drawn0.refl _ | apply Drawn0.step)⟩
      · rw [if_neg c8] at H
        have c8b0 : (Op.bytesLess a0.toList a1.toList) = false := by simpa using c8
        clear c8
        by_cases c9 : (Op.bytesLess a1.toList a0.toList) = true
        · rw [if_pos c9] at H
          have c9b0 : (Op.bytesLess a1.toList a0.toList) = true := c9
          clear c9
          obtain rfl := Option.some.inj H
          go_enter Tryd.func52, Tryd.ntmps52
          go_wp2_with (first | ((with_reducible refine gate_callee (f := 92) rfl ?_); refine goesL_ (some 8) rfl rfl Tryd.func92 (by kernel_rfl) rfl #[.string a0] rfl (by (try simp only [List.map_toArray, List.map_cons, List.map_nil]); first | done | rfl | (simp only [List.length_drop, List.length_take]; rfl)) ?_; (with_reducible refine (cmp_isNaN_string.calls a0 false _ A3.out).mono ?_); rintro e w' ⟨rfl, ⟨nd, rfl⟩⟩; refine ⟨_, rfl, ?_⟩) | ((with_reducible refine gate_callee (f := 92) rfl ?_); refine goesL_ (some 10) rfl rfl Tryd.func92 (by kernel_rfl) rfl #[.string a1] rfl (by (try simp only [List.map_toArray, List.map_cons, List.map_nil]); first | done | rfl | (simp only [List.length_drop, List.length_take]; rfl)) ?_; (with_reducible refine (cmp_isNaN_string.calls a1 false _ A4.out).mono ?_); rintro e w' ⟨rfl, ⟨nd, rfl⟩⟩; refine ⟨_, rfl, ?_⟩))
          go_ret
          exact ⟨by first | rfl | (simp; done) | (simp [*]; done), by repeat (first | exact Drawn0.refl _ | apply Drawn0.step)⟩
        · rw [if_neg c9] at H
          have c9b0 : (Op.bytesLess a1.toList a0.toList) = false := by simpa using c9
          clear c9
          obtain rfl := Option.some.inj H
          go_enter Tryd.func52, Tryd.ntmps52
          go_wp2_with (first | ((with_reducible refine gate_callee (f := 92) rfl ?_); refine goesL_ (some 8) rfl rfl Tryd.func92 (by kernel_rfl) rfl #[.string a0] rfl (by (try simp only [List.map_toArray, List.map_cons, List.map_nil]); first | done | rfl | (simp only [List.length_drop, List.length_take]; rfl)) ?_; (with_reducible refine (cmp_isNaN_string.calls a0 false _ A3.out).mono ?_); rintro e w' ⟨rfl, ⟨nd, rfl⟩⟩; refine ⟨_, rfl, ?_⟩) | ((with_reducible refine gate_callee (f := 92) rfl ?_); refine goesL_ (some 10) rfl rfl Tryd.func92 (by kernel_rfl) rfl #[.string a1] rfl (by (try simp only [List.map_toArray, List.map_cons, List.map_nil]); first | done | rfl | (simp only [List.length_drop, List.length_take]; rfl)) ?_; (with_reducible refine (cmp_isNaN_string.calls a1 false _ A4.out).mono ?_); rintro e w' ⟨rfl, ⟨nd, rfl⟩⟩; refine ⟨_, rfl, ?_⟩))
          go_ret
          exact ⟨by first | rfl | (simp; done) | (simp [*]; done), by repeat (first | exact Drawn0.refl _ | apply Drawn0.step)⟩

end Go.Proofs.YtilmhfkbpnejeaaDoor.L

namespace Go.Proofs.YtilmhfkbpnejeaaDoor.L
open Go.RowKit Go.Proofs.YtilmhfkbpnejeaaDoorW.PrintWords Go.Proofs.YtilmhfkbpnejeaaDoorW.PrintLast Go.Proofs.YtilmhfkbpnejeaaDoorW.PrintMore
attribute [local go_sem] max2_int min2_int max_two min_two max_three min_three max_four min_four   -- for this text's walks alone
attribute [local go_sem] Go.Proofs.YtilmhfkbpnejeaaDoor.H.str_leq Go.Proofs.YtilmhfkbpnejeaaDoor.H.str_gtr Go.Proofs.YtilmhfkbpnejeaaDoor.H.str_geq
set_option linter.unusedVariables false
set_option linter.unusedSimpArgs false

/-! ### impl_CompareDec: function 14 -/
def impl_CompareDec.j0 : Nat → Bool → Bool → ByteArray → Int → Bool → ByteArray → Int → Option (Int)
  | 0, _, _, _, _, _, _, _ => none
  | k + 1, x15, x137000, x137001, x137002, x138000, x138001, x138002 => if x15 = true then (some 2) else ((impl_Dec_sign.f x137000 x137001 x137002).bind fun t140 => ((impl_Dec_sign.f x138000 x138001 x138002).bind fun t141 => (if t140 = t141 then ((impl_level.f x137000 x137001 x137002 x138000 x138001 x138002).bind fun bt142 => ((cmp_Compare_string.f bt142.1 bt142.2.1).bind fun t145 => ((impl_Dec_sign.f x137000 x137001 x137002).bind fun t146 => (some (wrap64 (t145 * t146)))))) else ((impl_Dec_sign.f x137000 x137001 x137002).bind fun t147 => ((impl_Dec_sign.f x138000 x138001 x138002).bind fun t148 => ((cmp_Compare_int64.f t147 t148).bind fun t149 => (some t149)))))))
def impl_CompareDec.f (k : Nat) (a0_0 : Bool) (a0_1 : ByteArray) (a0_2 : Int) (a1_0 : Bool) (a1_1 : ByteArray) (a1_2 : Int) : Option (Int) := (impl_DecOk.f a0_0 a0_1 a0_2).bind fun t138 => (if t138 = true then ((impl_DecOk.f a1_0 a1_1 a1_2).bind fun t139 => (impl_CompareDec.j0 k (!t139) a0_0 a0_1 a0_2 a1_0 a1_1 a1_2)) else (impl_CompareDec.j0 k true a0_0 a0_1 a0_2 a1_0 a1_1 a1_2))
theorem impl_CompareDec.mono_l : ∀ k, (∀ y0 y1 y2 y3 y4 y5 y6, LeO (impl_CompareDec.j0 k y0 y1 y2 y3 y4 y5 y6) (impl_CompareDec.j0 (k + 1) y0 y1 y2 y3 y4 y5 y6))
  | 0 => fun _ _ _ _ _ _ _ r h => by simp [impl_CompareDec.j0] at h
  | k + 1 => by
    have ih0 := impl_CompareDec.mono_l k
    · intro y0 y1 y2 y3 y4 y5 y6
      unfold impl_CompareDec.j0
      repeat' first
      | (with_reducible exact ih0 _ _ _ _ _ _ _)
      | (with_reducible exact LeO.refl _)
      | (with_reducible exact LeO.none _)
      | (with_reducible refine LeO.ite ?_ ?_)
      | (with_reducible refine LeO.bind ?_ (fun _ => ?_))
      | exact ih0 _ _ _ _ _ _ _
      | exact LeO.none _
      | refine LeO.ite ?_ ?_
      | refine LeO.bind ?_ (fun _ => ?_)
theorem impl_CompareDec.mono : ∀ a0 a1 a2 a3 a4 a5 k, LeO (impl_CompareDec.f k a0 a1 a2 a3 a4 a5) (impl_CompareDec.f (k + 1) a0 a1 a2 a3 a4 a5) := by
  intro a0 a1 a2 a3 a4 a5 k
  have ih0 := impl_CompareDec.mono_l k
  unfold impl_CompareDec.f
  repeat' first
      | (with_reducible exact ih0 _ _ _ _ _ _ _)
      | (with_reducible exact LeO.refl _)
      | (with_reducible exact LeO.none _)
      | (with_reducible refine LeO.ite ?_ ?_)
      | (with_reducible refine LeO.bind ?_ (fun _ => ?_))
      | exact ih0 _ _ _ _ _ _ _
      | exact LeO.none _
      | refine LeO.ite ?_ ?_
      | refine LeO.bind ?_ (fun _ => ?_)
set_option maxHeartbeats 8000000 in
set_option maxRecDepth 100000 in
theorem impl_CompareDec.calls (k : Nat) (a0_0 : Bool) (a0_1 : ByteArray) (a0_2 : Int) (a1_0 : Bool) (a1_1 : ByteArray) (a1_2 : Int) (r : Int) (w : World) (h : impl_CompareDec.f k a0_0 a0_1 a0_2 a1_0 a1_1 a1_2 = some r) :
    Calls Tryd.prog 14 #[.agg #[.bool a0_0, .string a0_1, .int .i64 a0_2], .agg #[.bool a1_0, .string a1_1, .int .i64 a1_2]] w fun e w' => e = .returned (.int .i64 r) ∧ Below w.heap.size w w' := by
  have hu26 := Tryd.underlying26
  have HB := Aside0.mk (Below.refl w.heap.size w)
  have H : ((impl_DecOk.f a0_0 a0_1 a0_2).bind fun t138 => (if t138 = true then ((impl_DecOk.f a1_0 a1_1 a1_2).bind fun t139 => (impl_CompareDec.j0 k (!t139) a0_0 a0_1 a0_2 a1_0 a1_1 a1_2)) else (impl_CompareDec.j0 k true a0_0 a0_1 a0_2 a1_0 a1_1 a1_2))) = some r := h
  clear h
  have HC3 := Aside0.mk H
  clear H
  go_enter Tryd.func14, Tryd.ntmps14
  go_upto_region 1 with (first | ((with_reducible refine gate_dst (N := 2) rfl ?_); refine box_event ?hg (N := 2) ?hd (cs := #[.bool a0_0, .string a0_1, .int .i64 a0_2]) (t := 26) ?hr ?_; (case hd => rfl); (case hg => rfl); (case hr => first | (go_simp; done) | (go_simp; rfl)); intro gb136 hg w4 hbox hb; have n0_ := Aside0.mk (below_step (by repeat (first | (with_reducible first | exact HB.out | apply below_alloc | apply pw_below_drewN | apply below_drew1) | exact HB.out)) hb); have n1_ := Aside0.mk (hbox); have n2_ := Aside0.mk ((by rw [hg]; exact (below_size (by repeat (first | (with_reducible first | exact HB.out | apply below_alloc | apply pw_below_drewN | apply below_drew1) | exact HB.out))) : w.heap.size ≤ gb136)); have n3_ := Aside0.mk ((by rw [hg]; exact (below_size (by repeat (first | (with_reducible first | exact HB.out | apply below_alloc | apply pw_below_drewN | apply below_drew1) | exact HB.out))) : w.heap.size ≤ gb136)); clear HB; have HB := n0_; have BK136 := n1_; have GW136 := n2_; have GE136 := n3_; clear n0_ n1_ n2_ n3_; clear hb hbox hg) | ((with_reducible refine gate_dst (N := 3) rfl ?_); refine box_event ?hg (N := 3) ?hd (cs := #[.bool a1_0, .string a1_1, .int .i64 a1_2]) (t := 26) ?hr ?_; (case hd => rfl); (case hg => rfl); (case hr => first | (go_simp; done) | (go_simp; rfl)); intro gb137 hg w5 hbox hb; have n0_ := Aside0.mk (blk_below (g := gb136) (o := .cells #[.bool a0_0, .string a0_1, .int .i64 a0_2] 26 (0, 0)) (by refine blk_up ?_; exact BK136.out) hb); have n1_ := Aside0.mk (below_step (by repeat (first | (with_reducible first | exact HB.out | apply below_alloc | apply pw_below_drewN | apply below_drew1 | refine below_set ?_ GE136.out) | exact HB.out)) hb); have n2_ := Aside0.mk (hbox); have n3_ := Aside0.mk ((by rw [hg]; exact (below_size (by repeat (first | (with_reducible first | exact HB.out | apply below_alloc | apply pw_below_drewN | apply below_drew1 | refine below_set ?_ GE136.out) | exact HB.out))) : w.heap.size ≤ gb137)); have n4_ := Aside0.mk ((by rw [hg]; exact (below_size (by repeat (first | (with_reducible first | exact HB.out | apply below_alloc | apply pw_below_drewN | apply below_drew1 | refine below_set ?_ GE136.out) | exact HB.out))) : w.heap.size ≤ gb137)); have n5_ := Aside0.mk ((by rw [hg]; exact Nat.ne_of_lt (blk_lt (g := gb136) (o := .cells #[.bool a0_0, .string a0_1, .int .i64 a0_2] 26 (0, 0)) (by refine blk_up ?_; exact BK136.out)) : gb136 ≠ gb137)); have n6_ := Aside0.mk ((by rw [hg]; exact Nat.ne_of_gt (blk_lt (g := gb136) (o := .cells #[.bool a0_0, .string a0_1, .int .i64 a0_2] 26 (0, 0)) (by refine blk_up ?_; exact BK136.out)) : gb137 ≠ gb136)); clear BK136; clear HB; have BK136 := n0_; have HB := n1_; have BK137 := n2_; have GW137 := n3_; have GE137 := n4_; have NB136_137 := n5_; have NB137_136 := n6_; clear n0_ n1_ n2_ n3_ n4_ n5_ n6_; clear hb hbox hg))
  (try simp only [Act.put, List.setIfInBounds_toArray, List.set_cons_zero, List.set_cons_succ])
  go_cut [15] (fun v15 wc => ∃ (kq : Nat) (x15_2 : Bool), v15 = .bool x15_2 ∧ Aside0 (impl_CompareDec.j0 kq x15_2 a0_0 a0_1 a0_2 a1_0 a1_1 a1_2 = some r) ∧ Aside0 (kq ≤ k) ∧ Aside0 (wc.heap[gb136]? = some (.cells #[.bool a0_0, .string a0_1, .int .i64 a0_2] 26 (0, 0))) ∧ Aside0 (wc.heap[gb137]? = some (.cells #[.bool a1_0, .string a1_1, .int .i64 a1_2] 26 (0, 0))) ∧ Aside0 (Below w.heap.size w wc))
  case first =>
    have H := HC3.out
    clear HC3
    replace H := Option.bind_eq_some_iff.mp H
    obtain ⟨t138, A60, H⟩ := H
    replace H : (if t138 = true then ((impl_DecOk.f a1_0 a1_1 a1_2).bind fun t139 => (impl_CompareDec.j0 k (!t139) a0_0 a0_1 a0_2 a1_0 a1_1 a1_2)) else (impl_CompareDec.j0 k true a0_0 a0_1 a0_2 a1_0 a1_1 a1_2)) = some r := H
    have A6 := Aside0.mk A60
    clear A60
    by_cases c7 : t138 = true
    · subst c7
      have H1 : ((impl_DecOk.f a1_0 a1_1 a1_2).bind fun t139 => (impl_CompareDec.j0 k (!t139) a0_0 a0_1 a0_2 a1_0 a1_1 a1_2)) = some r := by rw [if_pos rfl] at H; exact H
      clear H
      have H := H1
      clear H1
      replace H := Option.bind_eq_some_iff.mp H
      obtain ⟨t139, A80, H⟩ := H
      replace H : (impl_CompareDec.j0 k (!t139) a0_0 a0_1 a0_2 a1_0 a1_1 a1_2) = some r := H
      have A8 := Aside0.mk A80
      clear A80
      have H' := Aside0.mk H
      clear H
      have hnb9 := NB136_137.out
      have hnc9 := NB137_136.out
      have hcz10_0 : w5.cell? ⟨gb136, 0, none⟩ = some (.bool a0_0) := (blk_cell BK136.out 0).trans rfl
      have hcz10_1 : w5.cell? ⟨gb136, 1, none⟩ = some (.string a0_1) := (blk_cell BK136.out 1).trans rfl
      have hcz10_2 : w5.cell? ⟨gb136, 2, none⟩ = some (.int .i64 a0_2) := (blk_cell BK136.out 2).trans rfl
      have hfz10_0 := blk_frozen BK136.out 0
      have hfz10_1 := blk_frozen BK136.out 1
      have hfz10_2 := blk_frozen BK136.out 2
      go_wp2_with (first | ((with_reducible refine gate_callee (f := 27) rfl ?_); refine goesL_ (some 9) rfl rfl Tryd.func27 (by kernel_rfl) rfl #[.agg #[.bool a0_0, .string a0_1, .int .i64 a0_2]] rfl (by (try simp only [List.map_toArray, List.map_cons, List.map_nil]); first | done | rfl | (simp only [List.length_drop, List.length_take]; rfl)) ?_; (with_reducible refine (impl_DecOk.calls a0_0 a0_1 a0_2 true _ A6.out).mono ?_); rintro e w11 ⟨rfl, hb⟩; refine ⟨_, rfl, ?_⟩; have n0_ := Aside0.mk (blk_below (g := gb136) (o := .cells #[.bool a0_0, .string a0_1, .int .i64 a0_2] 26 (0, 0)) (by refine blk_up ?_; exact BK136.out) hb); have n1_ := Aside0.mk (blk_below (g := gb137) (o := .cells #[.bool a1_0, .string a1_1, .int .i64 a1_2] 26 (0, 0)) (by refine blk_up ?_; exact BK137.out) hb); have n2_ := Aside0.mk (below_step (by repeat (first | (with_reducible first | exact HB.out | apply below_alloc | apply pw_below_drewN | apply below_drew1 | refine below_set ?_ GE136.out | refine below_set ?_ GE137.out) | exact HB.out)) hb); clear BK136; clear BK137; clear HB; have BK136 := n0_; have BK137 := n1_; have HB := n2_; clear n0_ n1_ n2_; (try clear hb); (try clear hb2); (try clear hk); (try clear hi); have hcz12_0 : w11.cell? ⟨gb137, 0, none⟩ = some (.bool a1_0) := (blk_cell BK137.out 0).trans rfl; have hcz12_1 : w11.cell? ⟨gb137, 1, none⟩ = some (.string a1_1) := (blk_cell BK137.out 1).trans rfl; have hcz12_2 : w11.cell? ⟨gb137, 2, none⟩ = some (.int .i64 a1_2) := (blk_cell BK137.out 2).trans rfl; have hfz12_0 := blk_frozen BK137.out 0; have hfz12_1 := blk_frozen BK137.out 1; have hfz12_2 := blk_frozen BK137.out 2) | (go_at_call 27; (with_reducible refine (impl_DecOk.calls a1_0 a1_1 a1_2 t139 _ A8.out).mono ?_); rintro e w13 ⟨rfl, hb⟩; have n0_ := Aside0.mk (blk_below (g := gb136) (o := .cells #[.bool a0_0, .string a0_1, .int .i64 a0_2] 26 (0, 0)) (by refine blk_up ?_; exact BK136.out) hb); have n1_ := Aside0.mk (blk_below (g := gb137) (o := .cells #[.bool a1_0, .string a1_1, .int .i64 a1_2] 26 (0, 0)) (by refine blk_up ?_; exact BK137.out) hb); have n2_ := Aside0.mk (below_step (by repeat (first | (with_reducible first | exact HB.out | apply below_alloc | apply pw_below_drewN | apply below_drew1 | refine below_set ?_ GE136.out | refine below_set ?_ GE137.out) | exact HB.out)) hb); clear BK136; clear BK137; clear HB; have BK136 := n0_; have BK137 := n1_; have HB := n2_; clear n0_ n1_ n2_; (try clear hb); (try clear hb2); (try clear hk); (try clear hi)))
      go_meet
      case rel => exact ⟨_, (!t139), (by first | rfl | (simp; done) | (simp [*]; done)), H', ⟨by first | omega | exact Nat.le_refl _⟩, ⟨by refine blk_up ?_; exact BK136.out⟩, ⟨by refine blk_up ?_; exact BK137.out⟩, ⟨by repeat (first | (with_reducible first | exact HB.out | apply below_alloc | apply pw_below_drewN | apply below_drew1 | refine below_set ?_ GE136.out | refine below_set ?_ GE137.out) | exact HB.out)⟩⟩
    · replace c7 := Bool.eq_false_iff.mpr c7
      subst c7
      have H1 : (impl_CompareDec.j0 k true a0_0 a0_1 a0_2 a1_0 a1_1 a1_2) = some r := by rw [if_neg (show ¬ (false = true) by decide)] at H; exact H
      clear H
      have H := H1
      clear H1
      have H' := Aside0.mk H
      clear H
      have hnb14 := NB136_137.out
      have hnc14 := NB137_136.out
      have hcz15_0 : w5.cell? ⟨gb136, 0, none⟩ = some (.bool a0_0) := (blk_cell BK136.out 0).trans rfl
      have hcz15_1 : w5.cell? ⟨gb136, 1, none⟩ = some (.string a0_1) := (blk_cell BK136.out 1).trans rfl
      have hcz15_2 : w5.cell? ⟨gb136, 2, none⟩ = some (.int .i64 a0_2) := (blk_cell BK136.out 2).trans rfl
      have hfz15_0 := blk_frozen BK136.out 0
      have hfz15_1 := blk_frozen BK136.out 1
      have hfz15_2 := blk_frozen BK136.out 2
      go_wp2_with (first | ((with_reducible refine gate_callee (f := 27) rfl ?_); refine goesL_ (some 9) rfl rfl Tryd.func27 (by kernel_rfl) rfl #[.agg #[.bool a0_0, .string a0_1, .int .i64 a0_2]] rfl (by (try simp only [List.map_toArray, List.map_cons, List.map_nil]); first | done | rfl | (simp only [List.length_drop, List.length_take]; rfl)) ?_; (with_reducible refine (impl_DecOk.calls a0_0 a0_1 a0_2 false _ A6.out).mono ?_); rintro e w16 ⟨rfl, hb⟩; refine ⟨_, rfl, ?_⟩; have n0_ := Aside0.mk (blk_below (g := gb136) (o := .cells #[.bool a0_0, .string a0_1, .int .i64 a0_2] 26 (0, 0)) (by refine blk_up ?_; exact BK136.out) hb); have n1_ := Aside0.mk (blk_below (g := gb137) (o := .cells #[.bool a1_0, .string a1_1, .int .i64 a1_2] 26 (0, 0)) (by refine blk_up ?_; exact BK137.out) hb); have n2_ := Aside0.mk (below_step (by repeat (first | (with_reducible first | exact HB.out | apply below_alloc | apply pw_below_drewN | apply below_drew1 | refine below_set ?_ GE136.out | refine below_set ?_ GE137.out) | exact HB.out)) hb); clear BK136; clear BK137; clear HB; have BK136 := n0_; have BK137 := n1_; have HB := n2_; clear n0_ n1_ n2_; (try clear hb); (try clear hb2); (try clear hk); (try clear hi)))
      go_meet
      case rel => exact ⟨_, (true), (by first | rfl | (simp; done) | (simp [*]; done)), H', ⟨by first | omega | exact Nat.le_refl _⟩, ⟨by refine blk_up ?_; exact BK136.out⟩, ⟨by refine blk_up ?_; exact BK137.out⟩, ⟨by repeat (first | (with_reducible first | exact HB.out | apply below_alloc | apply pw_below_drewN | apply below_drew1 | refine below_set ?_ GE136.out | refine below_set ?_ GE137.out) | exact HB.out)⟩⟩
  case rest =>
    clear HC3
    try clear c1
    try clear c2
    try clear p2
    try clear c7
    try clear c9
    try clear c14
    try clear hcz10_0
    try clear hcz10_1
    try clear hcz10_2
    try clear hcz12_0
    try clear hcz12_1
    try clear hcz12_2
    try clear hcz15_0
    try clear hcz15_1
    try clear hcz15_2
    try clear hfz10_0
    try clear hfz10_1
    try clear hfz10_2
    try clear hfz12_0
    try clear hfz12_1
    try clear hfz12_2
    try clear hfz15_0
    try clear hfz15_1
    try clear hfz15_2
    obtain ⟨kq, x15_2, rfl, HA, HJ2, BK136, BK137, HB⟩ := hcut
    cases kq with
    | zero => exact absurd HA.out (by simp [impl_CompareDec.j0])
    | succ kj2 =>
      have H := HA.out
      clear HA
      simp only [impl_CompareDec.j0] at H
      by_cases c17 : x15_2 = true
      · subst c17
        have H1 : (some 2) = some r := by rw [if_pos rfl] at H; exact H
        clear H
        have H := H1
        clear H1
        obtain rfl := Option.some.inj H
        go_wp2
        go_ret
        exact ⟨by first | rfl | (simp [errW_none, errW_some] <;> rfl) | (simp [*, errW_none, errW_some] <;> rfl), by repeat (first | (with_reducible first | exact HB.out | apply below_alloc | apply pw_below_drewN | apply below_drew1 | refine below_set ?_ GE136.out | refine below_set ?_ GE137.out) | exact HB.out)⟩
      · replace c17 := Bool.eq_false_iff.mpr c17
        subst c17
        have H1 : ((impl_Dec_sign.f a0_0 a0_1 a0_2).bind fun t140 => ((impl_Dec_sign.f a1_0 a1_1 a1_2).bind fun t141 => (if t140 = t141 then ((impl_level.f a0_0 a0_1 a0_2 a1_0 a1_1 a1_2).bind fun bt142 => ((cmp_Compare_string.f bt142.1 bt142.2.1).bind fun t145 => ((impl_Dec_sign.f a0_0 a0_1 a0_2).bind fun t146 => (some (wrap64 (t145 * t146)))))) else ((impl_Dec_sign.f a0_0 a0_1 a0_2).bind fun t147 => ((impl_Dec_sign.f a1_0 a1_1 a1_2).bind fun t148 => ((cmp_Compare_int64.f t147 t148).bind fun t149 => (some t149))))))) = some r := by rw [if_neg (show ¬ (false = true) by decide)] at H; exact H
        clear H
        have H := H1
        clear H1
        replace H := Option.bind_eq_some_iff.mp H
        obtain ⟨t140, A180, H⟩ := H
        replace H : ((impl_Dec_sign.f a1_0 a1_1 a1_2).bind fun t141 => (if t140 = t141 then ((impl_level.f a0_0 a0_1 a0_2 a1_0 a1_1 a1_2).bind fun bt142 => ((cmp_Compare_string.f bt142.1 bt142.2.1).bind fun t145 => ((impl_Dec_sign.f a0_0 a0_1 a0_2).bind fun t146 => (some (wrap64 (t145 * t146)))))) else ((impl_Dec_sign.f a0_0 a0_1 a0_2).bind fun t147 => ((impl_Dec_sign.f a1_0 a1_1 a1_2).bind fun t148 => ((cmp_Compare_int64.f t147 t148).bind fun t149 => (some t149)))))) = some r := H
        have A18 := Aside0.mk A180
        clear A180
        replace H := Option.bind_eq_some_iff.mp H
        obtain ⟨t141, A190, H⟩ := H
        replace H : (if t140 = t141 then ((impl_level.f a0_0 a0_1 a0_2 a1_0 a1_1 a1_2).bind fun bt142 => ((cmp_Compare_string.f bt142.1 bt142.2.1).bind fun t145 => ((impl_Dec_sign.f a0_0 a0_1 a0_2).bind fun t146 => (some (wrap64 (t145 * t146)))))) else ((impl_Dec_sign.f a0_0 a0_1 a0_2).bind fun t147 => ((impl_Dec_sign.f a1_0 a1_1 a1_2).bind fun t148 => ((cmp_Compare_int64.f t147 t148).bind fun t149 => (some t149))))) = some r := H
        have A19 := Aside0.mk A190
        clear A190
        by_cases c20 : t140 = t141
        · rw [if_pos c20] at H
          have c20b0 : (t140 == t141) = true := beq_iff_eq.mpr c20
          have c20b1 : (t140 != t141) = false := bne_eq_false_iff_eq.mpr c20
          clear c20
          replace H := Option.bind_eq_some_iff.mp H
          obtain ⟨⟨t142, t143, t144⟩, A210, H⟩ := H
          replace H : ((cmp_Compare_string.f t142 t143).bind fun t145 => ((impl_Dec_sign.f a0_0 a0_1 a0_2).bind fun t146 => (some (wrap64 (t145 * t146))))) = some r := H
          have A21 := Aside0.mk A210
          clear A210
          replace H := Option.bind_eq_some_iff.mp H
          obtain ⟨t145, A220, H⟩ := H
          replace H : ((impl_Dec_sign.f a0_0 a0_1 a0_2).bind fun t146 => (some (wrap64 (t145 * t146)))) = some r := H
          have A22 := Aside0.mk A220
          clear A220
          replace H := Option.bind_eq_some_iff.mp H
          obtain ⟨t146, A230, H⟩ := H
          replace H : (some (wrap64 (t145 * t146))) = some r := H
          have A23 := Aside0.mk A230
          clear A230
          obtain rfl := Option.some.inj H
          try go_wp2
          have n0_ := Aside0.mk (blk_drew BK136.out)
          have n1_ := Aside0.mk (blk_drew BK137.out)
          have n2_ := Aside0.mk (below_drew1 HB.out)
          clear BK136
          clear BK137
          clear HB
          have BK136 := n0_
          have BK137 := n1_
          have HB := n2_
          clear n0_ n1_ n2_
          refine start_ (n := 5) (S := fun w' => w'.cell? ⟨gb136, 0, none⟩ = some (.bool a0_0) ∧ w'.cell? ⟨gb136, 1, none⟩ = some (.string a0_1) ∧ w'.cell? ⟨gb136, 2, none⟩ = some (.int .i64 a0_2) ∧ w'.cell? ⟨gb137, 0, none⟩ = some (.bool a1_0) ∧ w'.cell? ⟨gb137, 1, none⟩ = some (.string a1_1) ∧ w'.cell? ⟨gb137, 2, none⟩ = some (.int .i64 a1_2)) (ds := []) #[false, false, false, false, false] (by kernel_rfl) rfl rfl ⟨(blk_cell BK136.out 0).trans rfl, (blk_cell BK136.out 1).trans rfl, (blk_cell BK136.out 2).trans rfl, (blk_cell BK137.out 0).trans rfl, (blk_cell BK137.out 1).trans rfl, (blk_cell BK137.out 2).trans rfl⟩ (fun hHeld => ?_)
          generalize wc.drew = w24 at BK136 BK137 HB hHeld ⊢
          refine take_ (i := 0) (N := some 16) (v := ?_) (a' := ?_) #[true, false, false, false, false] rfl rfl (by kernel_rfl) (fun _ _ _ h => h) (Or.inl ⟨by rfl, ?_⟩) hHeld ?_ ?_
          rotate_left
          · rintro w' ⟨s0, s1, s2, s3, s4, s5⟩
            go_simp
            with_reducible rfl
          rotate_left
          · simp only [Act.put, List.setIfInBounds_toArray, List.set_cons_zero, List.set_cons_succ, i64_w, i32_w]
            rfl
          refine take_ (i := 2) (N := some 18) (v := ?_) (a' := ?_) #[true, false, true, false, false] rfl rfl (by kernel_rfl) (fun _ _ _ h => h) (Or.inl ⟨by rfl, ?_⟩) hHeld ?_ ?_
          rotate_left
          · rintro w' ⟨s0, s1, s2, s3, s4, s5⟩
            go_simp
            with_reducible rfl
          rotate_left
          · simp only [Act.put, List.setIfInBounds_toArray, List.set_cons_zero, List.set_cons_succ, i64_w, i32_w]
            rfl
          refine one_ (i := 1) (N := some 17) #[true, true, true, false, false] rfl rfl (by kernel_rfl) (by decide) (fun K hK => ?_)
          refine goes_ Tryd.func49 (by kernel_rfl) rfl #[.agg #[.bool a0_0, .string a0_1, .int .i64 a0_2]] (by rfl) rfl rfl (by (try simp only [List.map_toArray, List.map_cons, List.map_nil]); first | done | rfl | (simp only [List.length_drop, List.length_take]; rfl)) ?_
          with_reducible refine (impl_Dec_sign.calls a0_0 a0_1 a0_2 t140 _ A18.out).mono ?_
          rintro e w25 ⟨rfl, hb⟩
          refine ⟨_, rfl, ?_⟩
          have n0_ := Aside0.mk (blk_below (g := gb136) (o := .cells #[.bool a0_0, .string a0_1, .int .i64 a0_2] 26 (0, 0)) (by refine blk_up ?_; exact BK136.out) hb)
          have n1_ := Aside0.mk (blk_below (g := gb137) (o := .cells #[.bool a1_0, .string a1_1, .int .i64 a1_2] 26 (0, 0)) (by refine blk_up ?_; exact BK137.out) hb)
          have n2_ := Aside0.mk (below_step (by repeat (first | (with_reducible first | exact HB.out | apply below_alloc | apply pw_below_drewN | apply below_drew1 | refine below_set ?_ GE136.out | refine below_set ?_ GE137.out) | exact HB.out)) hb)
          clear BK136
          clear BK137
          clear HB
          have BK136 := n0_
          have BK137 := n1_
          have HB := n2_
          clear n0_ n1_ n2_
          (try clear hb)
          (try clear hb2)
          (try clear hk)
          (try clear hi)
          refine hK.out _ _ ⟨(blk_cell BK136.out 0).trans rfl, (blk_cell BK136.out 1).trans rfl, (blk_cell BK136.out 2).trans rfl, (blk_cell BK137.out 0).trans rfl, (blk_cell BK137.out 1).trans rfl, (blk_cell BK137.out 2).trans rfl⟩ (fun hHeld => ?_)
          clear hK K
          refine norm_ (a' := ?_) ?_ ?_
          rotate_left
          · show Act.put _ (some 17) _ = _
            simp only [Act.put, List.setIfInBounds_toArray, List.set_cons_zero, List.set_cons_succ, i64_w, i32_w]
            rfl
          refine one_ (i := 3) (N := some 19) #[true, true, true, true, false] rfl rfl (by kernel_rfl) (by decide) (fun K hK => ?_)
          refine goes_ Tryd.func49 (by kernel_rfl) rfl #[.agg #[.bool a1_0, .string a1_1, .int .i64 a1_2]] (by rfl) rfl rfl (by (try simp only [List.map_toArray, List.map_cons, List.map_nil]); first | done | rfl | (simp only [List.length_drop, List.length_take]; rfl)) ?_
          with_reducible refine (impl_Dec_sign.calls a1_0 a1_1 a1_2 t141 _ A19.out).mono ?_
          rintro e w26 ⟨rfl, hb⟩
          refine ⟨_, rfl, ?_⟩
          have n0_ := Aside0.mk (blk_below (g := gb136) (o := .cells #[.bool a0_0, .string a0_1, .int .i64 a0_2] 26 (0, 0)) (by refine blk_up ?_; exact BK136.out) hb)
          have n1_ := Aside0.mk (blk_below (g := gb137) (o := .cells #[.bool a1_0, .string a1_1, .int .i64 a1_2] 26 (0, 0)) (by refine blk_up ?_; exact BK137.out) hb)
          have n2_ := Aside0.mk (below_step (by repeat (first | (with_reducible first | exact HB.out | apply below_alloc | apply pw_below_drewN | apply below_drew1 | refine below_set ?_ GE136.out | refine below_set ?_ GE137.out) | exact HB.out)) hb)
          clear BK136
          clear BK137
          clear HB
          have BK136 := n0_
          have BK137 := n1_
          have HB := n2_
          clear n0_ n1_ n2_
          (try clear hb)
          (try clear hb2)
          (try clear hk)
          (try clear hi)
          refine hK.out _ _ ⟨(blk_cell BK136.out 0).trans rfl, (blk_cell BK136.out 1).trans rfl, (blk_cell BK136.out 2).trans rfl, (blk_cell BK137.out 0).trans rfl, (blk_cell BK137.out 1).trans rfl, (blk_cell BK137.out 2).trans rfl⟩ (fun hHeld => ?_)
          clear hK K
          refine norm_ (a' := ?_) ?_ ?_
          rotate_left
          · show Act.put _ (some 19) _ = _
            simp only [Act.put, List.setIfInBounds_toArray, List.set_cons_zero, List.set_cons_succ, i64_w, i32_w]
            rfl
          refine pure_ (i := 4) (N := some 20) (v := ?_) (a' := ?_) #[true, true, true, true, true] rfl rfl (by kernel_rfl) (fun _ _ _ h => h) (Or.inl ⟨by rfl, ?_⟩) ?_ ?_
          rotate_left
          · intro w'
            go_simp
            with_reducible rfl
          rotate_left
          · simp only [Act.put, List.setIfInBounds_toArray, List.set_cons_zero, List.set_cons_succ, i64_w, i32_w]
            rfl
          refine done_ (by kernel_rfl) ?_
          have hnb27 := NB136_137.out
          have hnc27 := NB137_136.out
          have hcz28_0 : w26.cell? ⟨gb136, 0, none⟩ = some (.bool a0_0) := (blk_cell BK136.out 0).trans rfl
          have hcz28_1 : w26.cell? ⟨gb136, 1, none⟩ = some (.string a0_1) := (blk_cell BK136.out 1).trans rfl
          have hcz28_2 : w26.cell? ⟨gb136, 2, none⟩ = some (.int .i64 a0_2) := (blk_cell BK136.out 2).trans rfl
          have hfz28_0 := blk_frozen BK136.out 0
          have hfz28_1 := blk_frozen BK136.out 1
          have hfz28_2 := blk_frozen BK136.out 2
          have hcz29_0 : w26.cell? ⟨gb137, 0, none⟩ = some (.bool a1_0) := (blk_cell BK137.out 0).trans rfl
          have hcz29_1 : w26.cell? ⟨gb137, 1, none⟩ = some (.string a1_1) := (blk_cell BK137.out 1).trans rfl
          have hcz29_2 : w26.cell? ⟨gb137, 2, none⟩ = some (.int .i64 a1_2) := (blk_cell BK137.out 2).trans rfl
          have hfz29_0 := blk_frozen BK137.out 0
          have hfz29_1 := blk_frozen BK137.out 1
          have hfz29_2 := blk_frozen BK137.out 2
          try go_wp2_with (first | ((with_reducible refine gate_callee (f := 51) rfl ?_); refine goesL_ (some 29) rfl rfl Tryd.func51 (by kernel_rfl) rfl #[.agg #[.bool a0_0, .string a0_1, .int .i64 a0_2], .agg #[.bool a1_0, .string a1_1, .int .i64 a1_2]] rfl (by (try simp only [List.map_toArray, List.map_cons, List.map_nil]); first | done | rfl | (simp only [List.length_drop, List.length_take]; rfl)) ?_; (with_reducible refine (impl_level.calls a0_0 a0_1 a0_2 a1_0 a1_1 a1_2 t142 t143 t144 _ A21.out).mono ?_); rintro e w30 ⟨rfl, hb⟩; refine ⟨_, rfl, ?_⟩; have n0_ := Aside0.mk (blk_below (g := gb136) (o := .cells #[.bool a0_0, .string a0_1, .int .i64 a0_2] 26 (0, 0)) (by refine blk_up ?_; exact BK136.out) hb); have n1_ := Aside0.mk (blk_below (g := gb137) (o := .cells #[.bool a1_0, .string a1_1, .int .i64 a1_2] 26 (0, 0)) (by refine blk_up ?_; exact BK137.out) hb); have n2_ := Aside0.mk (below_step (by repeat (first | (with_reducible first | exact HB.out | apply below_alloc | apply pw_below_drewN | apply below_drew1 | refine below_set ?_ GE136.out | refine below_set ?_ GE137.out) | exact HB.out)) hb); clear BK136; clear BK137; clear HB; have BK136 := n0_; have BK137 := n1_; have HB := n2_; clear n0_ n1_ n2_; (try clear hb); (try clear hb2); (try clear hk); (try clear hi)))
          have n0_ := Aside0.mk (blk_drew BK136.out)
          have n1_ := Aside0.mk (blk_drew BK137.out)
          have n2_ := Aside0.mk (below_drew1 HB.out)
          clear BK136
          clear BK137
          clear HB
          have BK136 := n0_
          have BK137 := n1_
          have HB := n2_
          clear n0_ n1_ n2_
          refine start_ (n := 7) (S := fun w' => w'.cell? ⟨gb136, 0, none⟩ = some (.bool a0_0) ∧ w'.cell? ⟨gb136, 1, none⟩ = some (.string a0_1) ∧ w'.cell? ⟨gb136, 2, none⟩ = some (.int .i64 a0_2)) (ds := []) #[false, false, false, false, false, false, false] (by kernel_rfl) rfl rfl ⟨(blk_cell BK136.out 0).trans rfl, (blk_cell BK136.out 1).trans rfl, (blk_cell BK136.out 2).trans rfl⟩ (fun hHeld => ?_)
          generalize w30.drew = w31 at BK136 BK137 HB hHeld ⊢
          refine pure_ (i := 0) (N := some 33) (v := ?_) (a' := ?_) #[true, false, false, false, false, false, false] rfl rfl (by kernel_rfl) (fun _ _ _ h => h) (Or.inl ⟨by rfl, ?_⟩) ?_ ?_
          rotate_left
          · intro w'
            go_simp
            with_reducible rfl
          rotate_left
          · simp only [Act.put, List.setIfInBounds_toArray, List.set_cons_zero, List.set_cons_succ, i64_w, i32_w]
            rfl
          refine pure_ (i := 1) (N := some 34) (v := ?_) (a' := ?_) #[true, true, false, false, false, false, false] rfl rfl (by kernel_rfl) (fun _ _ _ h => h) (Or.inl ⟨by rfl, ?_⟩) ?_ ?_
          rotate_left
          · intro w'
            go_simp
            with_reducible rfl
          rotate_left
          · simp only [Act.put, List.setIfInBounds_toArray, List.set_cons_zero, List.set_cons_succ, i64_w, i32_w]
            rfl
          refine take_ (i := 3) (N := some 36) (v := ?_) (a' := ?_) #[true, true, false, true, false, false, false] rfl rfl (by kernel_rfl) (fun _ _ _ h => h) (Or.inl ⟨by rfl, ?_⟩) hHeld ?_ ?_
          rotate_left
          · rintro w' ⟨s0, s1, s2⟩
            go_simp
            with_reducible rfl
          rotate_left
          · simp only [Act.put, List.setIfInBounds_toArray, List.set_cons_zero, List.set_cons_succ, i64_w, i32_w]
            rfl
          refine one_ (i := 2) (N := some 35) #[true, true, true, true, false, false, false] rfl rfl (by kernel_rfl) (by decide) (fun K hK => ?_)
          refine goes_ Tryd.func52 (by kernel_rfl) rfl #[.string t142, .string t143] (by rfl) rfl rfl (by (try simp only [List.map_toArray, List.map_cons, List.map_nil]); first | done | rfl | (simp only [List.length_drop, List.length_take]; rfl)) ?_
          with_reducible refine (cmp_Compare_string.calls t142 t143 t145 _ A22.out).mono ?_
          rintro e w' ⟨rfl, ⟨nd, rfl⟩⟩
          refine ⟨_, rfl, ?_⟩
          refine hK.out _ _ ⟨(blk_cell BK136.out 0).trans rfl, (blk_cell BK136.out 1).trans rfl, (blk_cell BK136.out 2).trans rfl⟩ (fun hHeld => ?_)
          clear hK K
          refine norm_ (a' := ?_) ?_ ?_
          rotate_left
          · show Act.put _ (some 35) _ = _
            simp only [Act.put, List.setIfInBounds_toArray, List.set_cons_zero, List.set_cons_succ, i64_w, i32_w]
            rfl
          refine one_ (i := 4) (N := some 37) #[true, true, true, true, true, false, false] rfl rfl (by kernel_rfl) (by decide) (fun K hK => ?_)
          refine goes_ Tryd.func49 (by kernel_rfl) rfl #[.agg #[.bool a0_0, .string a0_1, .int .i64 a0_2]] (by rfl) rfl rfl (by (try simp only [List.map_toArray, List.map_cons, List.map_nil]); first | done | rfl | (simp only [List.length_drop, List.length_take]; rfl)) ?_
          with_reducible refine (impl_Dec_sign.calls a0_0 a0_1 a0_2 t146 _ A23.out).mono ?_
          rintro e w32 ⟨rfl, hb⟩
          refine ⟨_, rfl, ?_⟩
          have n0_ := Aside0.mk (blk_below (g := gb136) (o := .cells #[.bool a0_0, .string a0_1, .int .i64 a0_2] 26 (0, 0)) (by refine blk_up ?_; exact BK136.out) hb)
          have n1_ := Aside0.mk (blk_below (g := gb137) (o := .cells #[.bool a1_0, .string a1_1, .int .i64 a1_2] 26 (0, 0)) (by refine blk_up ?_; exact BK137.out) hb)
          have n2_ := Aside0.mk (below_step (by repeat (first | (with_reducible first | exact HB.out | apply below_alloc | apply pw_below_drewN | apply below_drew1 | refine below_set ?_ GE136.out | refine below_set ?_ GE137.out) | exact HB.out)) hb)
          clear BK136
          clear BK137
          clear HB
          have BK136 := n0_
          have BK137 := n1_
          have HB := n2_
          clear n0_ n1_ n2_
          (try clear hb)
          (try clear hb2)
          (try clear hk)
          (try clear hi)
          refine hK.out _ _ ⟨(blk_cell BK136.out 0).trans rfl, (blk_cell BK136.out 1).trans rfl, (blk_cell BK136.out 2).trans rfl⟩ (fun hHeld => ?_)
          clear hK K
          refine norm_ (a' := ?_) ?_ ?_
          rotate_left
          · show Act.put _ (some 37) _ = _
            simp only [Act.put, List.setIfInBounds_toArray, List.set_cons_zero, List.set_cons_succ, i64_w, i32_w]
            rfl
          refine pure_ (i := 5) (N := some 38) (v := ?_) (a' := ?_) #[true, true, true, true, true, true, false] rfl rfl (by kernel_rfl) (fun _ _ _ h => h) (Or.inl ⟨by rfl, ?_⟩) ?_ ?_
          rotate_left
          · intro w'
            go_simp
            with_reducible rfl
          rotate_left
          · simp only [Act.put, List.setIfInBounds_toArray, List.set_cons_zero, List.set_cons_succ, i64_w, i32_w]
            rfl
          refine pure_ (i := 6) (N := some 4) (v := ?_) (a' := ?_) #[true, true, true, true, true, true, true] rfl rfl (by kernel_rfl) (fun _ _ _ h => h) (Or.inl ⟨by rfl, ?_⟩) ?_ ?_
          rotate_left
          · intro w'
            go_simp
            with_reducible rfl
          rotate_left
          · simp only [Act.put, List.setIfInBounds_toArray, List.set_cons_zero, List.set_cons_succ, i64_w, i32_w]
            rfl
          refine done_ (by kernel_rfl) ?_
          try go_wp2
          go_ret
          exact ⟨by first | rfl | (simp [errW_none, errW_some] <;> rfl) | (simp [*, errW_none, errW_some] <;> rfl), by repeat (first | (with_reducible first | exact HB.out | apply below_alloc | apply pw_below_drewN | apply below_drew1 | refine below_set ?_ GE136.out | refine below_set ?_ GE137.out) | exact HB.out)⟩
        · rw [if_neg c20] at H
          have c20b0 : (t140 == t141) = false := beq_eq_false_iff_ne.mpr c20
          have c20b1 : (t140 != t141) = true := bne_iff_ne.mpr c20
          replace H := Option.bind_eq_some_iff.mp H
          obtain ⟨t147, A330, H⟩ := H
          replace H : ((impl_Dec_sign.f a1_0 a1_1 a1_2).bind fun t148 => ((cmp_Compare_int64.f t147 t148).bind fun t149 => (some t149))) = some r := H
          have A33 := Aside0.mk A330
          clear A330
          replace H := Option.bind_eq_some_iff.mp H
          obtain ⟨t148, A340, H⟩ := H
          replace H : ((cmp_Compare_int64.f t147 t148).bind fun t149 => (some t149)) = some r := H
          have A34 := Aside0.mk A340
          clear A340
          replace H := Option.bind_eq_some_iff.mp H
          obtain ⟨t149, A350, H⟩ := H
          replace H : (some t149) = some r := H
          have A35 := Aside0.mk A350
          clear A350
          obtain rfl := Option.some.inj H
          try go_wp2
          have n0_ := Aside0.mk (blk_drew BK136.out)
          have n1_ := Aside0.mk (blk_drew BK137.out)
          have n2_ := Aside0.mk (below_drew1 HB.out)
          clear BK136
          clear BK137
          clear HB
          have BK136 := n0_
          have BK137 := n1_
          have HB := n2_
          clear n0_ n1_ n2_
          refine start_ (n := 5) (S := fun w' => w'.cell? ⟨gb136, 0, none⟩ = some (.bool a0_0) ∧ w'.cell? ⟨gb136, 1, none⟩ = some (.string a0_1) ∧ w'.cell? ⟨gb136, 2, none⟩ = some (.int .i64 a0_2) ∧ w'.cell? ⟨gb137, 0, none⟩ = some (.bool a1_0) ∧ w'.cell? ⟨gb137, 1, none⟩ = some (.string a1_1) ∧ w'.cell? ⟨gb137, 2, none⟩ = some (.int .i64 a1_2)) (ds := []) #[false, false, false, false, false] (by kernel_rfl) rfl rfl ⟨(blk_cell BK136.out 0).trans rfl, (blk_cell BK136.out 1).trans rfl, (blk_cell BK136.out 2).trans rfl, (blk_cell BK137.out 0).trans rfl, (blk_cell BK137.out 1).trans rfl, (blk_cell BK137.out 2).trans rfl⟩ (fun hHeld => ?_)
          generalize wc.drew = w36 at BK136 BK137 HB hHeld ⊢
          refine take_ (i := 0) (N := some 16) (v := ?_) (a' := ?_) #[true, false, false, false, false] rfl rfl (by kernel_rfl) (fun _ _ _ h => h) (Or.inl ⟨by rfl, ?_⟩) hHeld ?_ ?_
          rotate_left
          · rintro w' ⟨s0, s1, s2, s3, s4, s5⟩
            go_simp
            with_reducible rfl
          rotate_left
          · simp only [Act.put, List.setIfInBounds_toArray, List.set_cons_zero, List.set_cons_succ, i64_w, i32_w]
            rfl
          refine take_ (i := 2) (N := some 18) (v := ?_) (a' := ?_) #[true, false, true, false, false] rfl rfl (by kernel_rfl) (fun _ _ _ h => h) (Or.inl ⟨by rfl, ?_⟩) hHeld ?_ ?_
          rotate_left
          · rintro w' ⟨s0, s1, s2, s3, s4, s5⟩
            go_simp
            with_reducible rfl
          rotate_left
          · simp only [Act.put, List.setIfInBounds_toArray, List.set_cons_zero, List.set_cons_succ, i64_w, i32_w]
            rfl
          refine one_ (i := 1) (N := some 17) #[true, true, true, false, false] rfl rfl (by kernel_rfl) (by decide) (fun K hK => ?_)
          refine goes_ Tryd.func49 (by kernel_rfl) rfl #[.agg #[.bool a0_0, .string a0_1, .int .i64 a0_2]] (by rfl) rfl rfl (by (try simp only [List.map_toArray, List.map_cons, List.map_nil]); first | done | rfl | (simp only [List.length_drop, List.length_take]; rfl)) ?_
          with_reducible refine (impl_Dec_sign.calls a0_0 a0_1 a0_2 t140 _ A18.out).mono ?_
          rintro e w37 ⟨rfl, hb⟩
          refine ⟨_, rfl, ?_⟩
          have n0_ := Aside0.mk (blk_below (g := gb136) (o := .cells #[.bool a0_0, .string a0_1, .int .i64 a0_2] 26 (0, 0)) (by refine blk_up ?_; exact BK136.out) hb)
          have n1_ := Aside0.mk (blk_below (g := gb137) (o := .cells #[.bool a1_0, .string a1_1, .int .i64 a1_2] 26 (0, 0)) (by refine blk_up ?_; exact BK137.out) hb)
          have n2_ := Aside0.mk (below_step (by repeat (first | (with_reducible first | exact HB.out | apply below_alloc | apply pw_below_drewN | apply below_drew1 | refine below_set ?_ GE136.out | refine below_set ?_ GE137.out) | exact HB.out)) hb)
          clear BK136
          clear BK137
          clear HB
          have BK136 := n0_
          have BK137 := n1_
          have HB := n2_
          clear n0_ n1_ n2_
          (try clear hb)
          (try clear hb2)
          (try clear hk)
          (try clear hi)
          refine hK.out _ _ ⟨(blk_cell BK136.out 0).trans rfl, (blk_cell BK136.out 1).trans rfl, (blk_cell BK136.out 2).trans rfl, (blk_cell BK137.out 0).trans rfl, (blk_cell BK137.out 1).trans rfl, (blk_cell BK137.out 2).trans rfl⟩ (fun hHeld => ?_)
          clear hK K
          refine norm_ (a' := ?_) ?_ ?_
          rotate_left
          · show Act.put _ (some 17) _ = _
            simp only [Act.put, List.setIfInBounds_toArray, List.set_cons_zero, List.set_cons_succ, i64_w, i32_w]
            rfl
          refine one_ (i := 3) (N := some 19) #[true, true, true, true, false] rfl rfl (by kernel_rfl) (by decide) (fun K hK => ?_)
          refine goes_ Tryd.func49 (by kernel_rfl) rfl #[.agg #[.bool a1_0, .string a1_1, .int .i64 a1_2]] (by rfl) rfl rfl (by (try simp only [List.map_toArray, List.map_cons, List.map_nil]); first | done | rfl | (simp only [List.length_drop, List.length_take]; rfl)) ?_
          with_reducible refine (impl_Dec_sign.calls a1_0 a1_1 a1_2 t141 _ A19.out).mono ?_
          rintro e w38 ⟨rfl, hb⟩
          refine ⟨_, rfl, ?_⟩
          have n0_ := Aside0.mk (blk_below (g := gb136) (o := .cells #[.bool a0_0, .string a0_1, .int .i64 a0_2] 26 (0, 0)) (by refine blk_up ?_; exact BK136.out) hb)
          have n1_ := Aside0.mk (blk_below (g := gb137) (o := .cells #[.bool a1_0, .string a1_1, .int .i64 a1_2] 26 (0, 0)) (by refine blk_up ?_; exact BK137.out) hb)
          have n2_ := Aside0.mk (below_step (by repeat (first | (with_reducible first | exact HB.out | apply below_alloc | apply pw_below_drewN | apply below_drew1 | refine below_set ?_ GE136.out | refine below_set ?_ GE137.out) | exact HB.out)) hb)
          clear BK136
          clear BK137
          clear HB
          have BK136 := n0_
          have BK137 := n1_
          have HB := n2_
          clear n0_ n1_ n2_
          (try clear hb)
          (try clear hb2)
          (try clear hk)
          (try clear hi)
          refine hK.out _ _ ⟨(blk_cell BK136.out 0).trans rfl, (blk_cell BK136.out 1).trans rfl, (blk_cell BK136.out 2).trans rfl, (blk_cell BK137.out 0).trans rfl, (blk_cell BK137.out 1).trans rfl, (blk_cell BK137.out 2).trans rfl⟩ (fun hHeld => ?_)
          clear hK K
          refine norm_ (a' := ?_) ?_ ?_
          rotate_left
          · show Act.put _ (some 19) _ = _
            simp only [Act.put, List.setIfInBounds_toArray, List.set_cons_zero, List.set_cons_succ, i64_w, i32_w]
            rfl
          refine pure_ (i := 4) (N := some 20) (v := ?_) (a' := ?_) #[true, true, true, true, true] rfl rfl (by kernel_rfl) (fun _ _ _ h => h) (Or.inl ⟨by rfl, ?_⟩) ?_ ?_
          rotate_left
          · intro w'
            go_simp
            with_reducible rfl
          rotate_left
          · simp only [Act.put, List.setIfInBounds_toArray, List.set_cons_zero, List.set_cons_succ, i64_w, i32_w]
            rfl
          refine done_ (by kernel_rfl) ?_
          try go_wp2
          have n0_ := Aside0.mk (blk_drew BK136.out)
          have n1_ := Aside0.mk (blk_drew BK137.out)
          have n2_ := Aside0.mk (below_drew1 HB.out)
          clear BK136
          clear BK137
          clear HB
          have BK136 := n0_
          have BK137 := n1_
          have HB := n2_
          clear n0_ n1_ n2_
          refine start_ (n := 6) (S := fun w' => w'.cell? ⟨gb136, 0, none⟩ = some (.bool a0_0) ∧ w'.cell? ⟨gb136, 1, none⟩ = some (.string a0_1) ∧ w'.cell? ⟨gb136, 2, none⟩ = some (.int .i64 a0_2) ∧ w'.cell? ⟨gb137, 0, none⟩ = some (.bool a1_0) ∧ w'.cell? ⟨gb137, 1, none⟩ = some (.string a1_1) ∧ w'.cell? ⟨gb137, 2, none⟩ = some (.int .i64 a1_2)) (ds := []) #[false, false, false, false, false, false] (by kernel_rfl) rfl rfl ⟨(blk_cell BK136.out 0).trans rfl, (blk_cell BK136.out 1).trans rfl, (blk_cell BK136.out 2).trans rfl, (blk_cell BK137.out 0).trans rfl, (blk_cell BK137.out 1).trans rfl, (blk_cell BK137.out 2).trans rfl⟩ (fun hHeld => ?_)
          generalize w38.drew = w39 at BK136 BK137 HB hHeld ⊢
          refine take_ (i := 0) (N := some 21) (v := ?_) (a' := ?_) #[true, false, false, false, false, false] rfl rfl (by kernel_rfl) (fun _ _ _ h => h) (Or.inl ⟨by rfl, ?_⟩) hHeld ?_ ?_
          rotate_left
          · rintro w' ⟨s0, s1, s2, s3, s4, s5⟩
            go_simp
            with_reducible rfl
          rotate_left
          · simp only [Act.put, List.setIfInBounds_toArray, List.set_cons_zero, List.set_cons_succ, i64_w, i32_w]
            rfl
          refine take_ (i := 2) (N := some 23) (v := ?_) (a' := ?_) #[true, false, true, false, false, false] rfl rfl (by kernel_rfl) (fun _ _ _ h => h) (Or.inl ⟨by rfl, ?_⟩) hHeld ?_ ?_
          rotate_left
          · rintro w' ⟨s0, s1, s2, s3, s4, s5⟩
            go_simp
            with_reducible rfl
          rotate_left
          · simp only [Act.put, List.setIfInBounds_toArray, List.set_cons_zero, List.set_cons_succ, i64_w, i32_w]
            rfl
          refine one_ (i := 1) (N := some 22) #[true, true, true, false, false, false] rfl rfl (by kernel_rfl) (by decide) (fun K hK => ?_)
          refine goes_ Tryd.func49 (by kernel_rfl) rfl #[.agg #[.bool a0_0, .string a0_1, .int .i64 a0_2]] (by rfl) rfl rfl (by (try simp only [List.map_toArray, List.map_cons, List.map_nil]); first | done | rfl | (simp only [List.length_drop, List.length_take]; rfl)) ?_
          with_reducible refine (impl_Dec_sign.calls a0_0 a0_1 a0_2 t147 _ A33.out).mono ?_
          rintro e w40 ⟨rfl, hb⟩
          refine ⟨_, rfl, ?_⟩
          have n0_ := Aside0.mk (blk_below (g := gb136) (o := .cells #[.bool a0_0, .string a0_1, .int .i64 a0_2] 26 (0, 0)) (by refine blk_up ?_; exact BK136.out) hb)
          have n1_ := Aside0.mk (blk_below (g := gb137) (o := .cells #[.bool a1_0, .string a1_1, .int .i64 a1_2] 26 (0, 0)) (by refine blk_up ?_; exact BK137.out) hb)
          have n2_ := Aside0.mk (below_step (by repeat (first | (with_reducible first | exact HB.out | apply below_alloc | apply pw_below_drewN | apply below_drew1 | refine below_set ?_ GE136.out | refine below_set ?_ GE137.out) | exact HB.out)) hb)
          clear BK136
          clear BK137
          clear HB
          have BK136 := n0_
          have BK137 := n1_
          have HB := n2_
          clear n0_ n1_ n2_
          (try clear hb)
          (try clear hb2)
          (try clear hk)
          (try clear hi)
          refine hK.out _ _ ⟨(blk_cell BK136.out 0).trans rfl, (blk_cell BK136.out 1).trans rfl, (blk_cell BK136.out 2).trans rfl, (blk_cell BK137.out 0).trans rfl, (blk_cell BK137.out 1).trans rfl, (blk_cell BK137.out 2).trans rfl⟩ (fun hHeld => ?_)
          clear hK K
          refine norm_ (a' := ?_) ?_ ?_
          rotate_left
          · show Act.put _ (some 22) _ = _
            simp only [Act.put, List.setIfInBounds_toArray, List.set_cons_zero, List.set_cons_succ, i64_w, i32_w]
            rfl
          refine one_ (i := 3) (N := some 24) #[true, true, true, true, false, false] rfl rfl (by kernel_rfl) (by decide) (fun K hK => ?_)
          refine goes_ Tryd.func49 (by kernel_rfl) rfl #[.agg #[.bool a1_0, .string a1_1, .int .i64 a1_2]] (by rfl) rfl rfl (by (try simp only [List.map_toArray, List.map_cons, List.map_nil]); first | done | rfl | (simp only [List.length_drop, List.length_take]; rfl)) ?_
          with_reducible refine (impl_Dec_sign.calls a1_0 a1_1 a1_2 t148 _ A34.out).mono ?_
          rintro e w41 ⟨rfl, hb⟩
          refine ⟨_, rfl, ?_⟩
          have n0_ := Aside0.mk (blk_below (g := gb136) (o := .cells #[.bool a0_0, .string a0_1, .int .i64 a0_2] 26 (0, 0)) (by refine blk_up ?_; exact BK136.out) hb)
          have n1_ := Aside0.mk (blk_below (g := gb137) (o := .cells #[.bool a1_0, .string a1_1, .int .i64 a1_2] 26 (0, 0)) (by refine blk_up ?_; exact BK137.out) hb)
          have n2_ := Aside0.mk (below_step (by repeat (first | (with_reducible first | exact HB.out | apply below_alloc | apply pw_below_drewN | apply below_drew1 | refine below_set ?_ GE136.out | refine below_set ?_ GE137.out) | exact HB.out)) hb)
          clear BK136
          clear BK137
          clear HB
          have BK136 := n0_
          have BK137 := n1_
          have HB := n2_
          clear n0_ n1_ n2_
          (try clear hb)
          (try clear hb2)
          (try clear hk)
          (try clear hi)
          refine hK.out _ _ ⟨(blk_cell BK136.out 0).trans rfl, (blk_cell BK136.out 1).trans rfl, (blk_cell BK136.out 2).trans rfl, (blk_cell BK137.out 0).trans rfl, (blk_cell BK137.out 1).trans rfl, (blk_cell BK137.out 2).trans rfl⟩ (fun hHeld => ?_)
          clear hK K
          refine norm_ (a' := ?_) ?_ ?_
          rotate_left
          · show Act.put _ (some 24) _ = _
            simp only [Act.put, List.setIfInBounds_toArray, List.set_cons_zero, List.set_cons_succ, i64_w, i32_w]
            rfl
          refine one_ (i := 4) (N := some 25) #[true, true, true, true, true, false] rfl rfl (by kernel_rfl) (by decide) (fun K hK => ?_)
          refine goes_ Tryd.func50 (by kernel_rfl) rfl #[.int .i64 t147, .int .i64 t148] (by rfl) rfl rfl (by (try simp only [List.map_toArray, List.map_cons, List.map_nil]); first | done | rfl | (simp only [List.length_drop, List.length_take]; rfl)) ?_
          with_reducible refine (cmp_Compare_int64.calls t147 t148 t149 _ A35.out).mono ?_
          rintro e w' ⟨rfl, ⟨nd, rfl⟩⟩
          refine ⟨_, rfl, ?_⟩
          refine hK.out _ _ ⟨(blk_cell BK136.out 0).trans rfl, (blk_cell BK136.out 1).trans rfl, (blk_cell BK136.out 2).trans rfl, (blk_cell BK137.out 0).trans rfl, (blk_cell BK137.out 1).trans rfl, (blk_cell BK137.out 2).trans rfl⟩ (fun hHeld => ?_)
          clear hK K
          refine norm_ (a' := ?_) ?_ ?_
          rotate_left
          · show Act.put _ (some 25) _ = _
            simp only [Act.put, List.setIfInBounds_toArray, List.set_cons_zero, List.set_cons_succ, i64_w, i32_w]
            rfl
          refine pure_ (i := 5) (N := some 4) (v := ?_) (a' := ?_) #[true, true, true, true, true, true] rfl rfl (by kernel_rfl) (fun _ _ _ h => h) (Or.inl ⟨by rfl, ?_⟩) ?_ ?_
          rotate_left
          · intro w'
            go_simp
            with_reducible rfl
          rotate_left
          · simp only [Act.put, List.setIfInBounds_toArray, List.set_cons_zero, List.set_cons_succ, i64_w, i32_w]
            rfl
          refine done_ (by kernel_rfl) ?_
          try go_wp2
          go_ret
          exact ⟨by first | rfl | (simp [errW_none, errW_some] <;> rfl) | (simp [*, errW_none, errW_some] <;> rfl), by repeat (first | (with_reducible first | exact HB.out | apply below_alloc | apply pw_below_drewN | apply below_drew1 | refine below_set ?_ GE136.out | refine below_set ?_ GE137.out) | exact HB.out)⟩

end Go.Proofs.YtilmhfkbpnejeaaDoor.L

namespace Go.Proofs.YtilmhfkbpnejeaaDoor.L
open Go.RowKit Go.Proofs.YtilmhfkbpnejeaaDoorW.PrintWords Go.Proofs.YtilmhfkbpnejeaaDoorW.PrintLast Go.Proofs.YtilmhfkbpnejeaaDoorW.PrintMore
attribute [local go_sem] max2_int min2_int max_two min_two max_three min_three max_four min_four   -- for this text's walks alone
attribute [local go_sem] Go.Proofs.YtilmhfkbpnejeaaDoor.H.str_leq Go.Proofs.YtilmhfkbpnejeaaDoor.H.str_gtr Go.Proofs.YtilmhfkbpnejeaaDoor.H.str_geq
set_option linter.unusedVariables false
set_option linter.unusedSimpArgs false

/-! ### spec_l4Same: function 62 -/
mutual
def spec_l4Same.l0 : Nat → ByteArray → ByteArray → Int → Int → Bool → ByteArray → Int → Option (ByteArray × ByteArray × Int)
  | 0, _, _, _, _, _, _, _ => none
  | k + 1, x7, x8, x9, x10, x108000, x108001, x108002 => if x10 < x9 then (if x7.size + 1 ≤ 9223372036854775807 then (spec_l4Same.l0 k (x7 ++ (⟨#[48]⟩ : ByteArray)) x8 x9 (wrap64 (x10 + 1)) x108000 x108001 x108002) else (none)) else (spec_l4Same.l1 k x7 x8 x9 x108002)
def spec_l4Same.l1 : Nat → ByteArray → ByteArray → Int → Int → Option (ByteArray × ByteArray × Int)
  | 0, _, _, _, _ => none
  | k + 1, x7, x8, x9, x11 => if x11 < x9 then (if x8.size + 1 ≤ 9223372036854775807 then (spec_l4Same.l1 k x7 (x8 ++ (⟨#[48]⟩ : ByteArray)) x9 (wrap64 (x11 + 1))) else (none)) else (spec_l4Same.l2 k x7 x8 x9)
def spec_l4Same.l2 : Nat → ByteArray → ByteArray → Int → Option (ByteArray × ByteArray × Int)
  | 0, _, _, _ => none
  | k + 1, x7, x8, x9 => if (x7.size : Int) < (x8.size : Int) then (if 1 + x7.size ≤ 9223372036854775807 then (spec_l4Same.l2 k ((⟨#[48]⟩ : ByteArray) ++ x7) x8 x9) else (none)) else (spec_l4Same.l3 k x7 x8 x9)
def spec_l4Same.l3 : Nat → ByteArray → ByteArray → Int → Option (ByteArray × ByteArray × Int)
  | 0, _, _, _ => none
  | k + 1, x7, x8, x9 => if (x8.size : Int) < (x7.size : Int) then (if 1 + x8.size ≤ 9223372036854775807 then (spec_l4Same.l3 k x7 ((⟨#[48]⟩ : ByteArray) ++ x8) x9) else (none)) else (some (x7, x8, x9))
end
def spec_l4Same.f (k : Nat) (a0_0 : Bool) (a0_1 : ByteArray) (a0_2 : Int) (a1_0 : Bool) (a1_1 : ByteArray) (a1_2 : Int) : Option (ByteArray × ByteArray × Int) := spec_l4Same.l0 k a0_1 a1_1 (mx a0_2 a1_2) a0_2 a1_0 a1_1 a1_2
theorem spec_l4Same.mono_l : ∀ k, (∀ y0 y1 y2 y3 y4 y5 y6, LeO (spec_l4Same.l0 k y0 y1 y2 y3 y4 y5 y6) (spec_l4Same.l0 (k + 1) y0 y1 y2 y3 y4 y5 y6)) ∧ (∀ y0 y1 y2 y3, LeO (spec_l4Same.l1 k y0 y1 y2 y3) (spec_l4Same.l1 (k + 1) y0 y1 y2 y3)) ∧ (∀ y0 y1 y2, LeO (spec_l4Same.l2 k y0 y1 y2) (spec_l4Same.l2 (k + 1) y0 y1 y2)) ∧ (∀ y0 y1 y2, LeO (spec_l4Same.l3 k y0 y1 y2) (spec_l4Same.l3 (k + 1) y0 y1 y2))
  | 0 => ⟨fun _ _ _ _ _ _ _ r h => by simp [spec_l4Same.l0] at h, fun _ _ _ _ r h => by simp [spec_l4Same.l1] at h, fun _ _ _ r h => by simp [spec_l4Same.l2] at h, fun _ _ _ r h => by simp [spec_l4Same.l3] at h⟩
  | k + 1 => by
    obtain ⟨ih0, ih1, ih2, ih3⟩ := spec_l4Same.mono_l k
    refine ⟨?_, ?_, ?_, ?_⟩
    · intro y0 y1 y2 y3 y4 y5 y6
      unfold spec_l4Same.l0
      repeat' first
      | (with_reducible exact ih0 _ _ _ _ _ _ _)
      | (with_reducible exact ih1 _ _ _ _)
      | (with_reducible exact ih2 _ _ _)
      | (with_reducible exact ih3 _ _ _)
      | (with_reducible exact LeO.refl _)
      | (with_reducible exact LeO.none _)
      | (with_reducible refine LeO.ite ?_ ?_)
      | (with_reducible refine LeO.bind ?_ (fun _ => ?_))
      | exact ih0 _ _ _ _ _ _ _
      | exact ih1 _ _ _ _
      | exact ih2 _ _ _
      | exact ih3 _ _ _
      | exact LeO.none _
      | refine LeO.ite ?_ ?_
      | refine LeO.bind ?_ (fun _ => ?_)
    · intro y0 y1 y2 y3
      unfold spec_l4Same.l1
      repeat' first
      | (with_reducible exact ih0 _ _ _ _ _ _ _)
      | (with_reducible exact ih1 _ _ _ _)
      | (with_reducible exact ih2 _ _ _)
      | (with_reducible exact ih3 _ _ _)
      | (with_reducible exact LeO.refl _)
      | (with_reducible exact LeO.none _)
      | (with_reducible refine LeO.ite ?_ ?_)
      | (with_reducible refine LeO.bind ?_ (fun _ => ?_))
      | exact ih0 _ _ _ _ _ _ _
      | exact ih1 _ _ _ _
      | exact ih2 _ _ _
      | exact ih3 _ _ _
      | exact LeO.none _
      | refine LeO.ite ?_ ?_
      | refine LeO.bind ?_ (fun _ => ?_)
    · intro y0 y1 y2
      unfold spec_l4Same.l2
      repeat' first
      | (with_reducible exact ih0 _ _ _ _ _ _ _)
      | (with_reducible exact ih1 _ _ _ _)
      | (with_reducible exact ih2 _ _ _)
      | (with_reducible exact ih3 _ _ _)
      | (with_reducible exact LeO.refl _)
      | (with_reducible exact LeO.none _)
      | (with_reducible refine LeO.ite ?_ ?_)
      | (with_reducible refine LeO.bind ?_ (fun _ => ?_))
      | exact ih0 _ _ _ _ _ _ _
      | exact ih1 _ _ _ _
      | exact ih2 _ _ _
      | exact ih3 _ _ _
      | exact LeO.none _
      | refine LeO.ite ?_ ?_
      | refine LeO.bind ?_ (fun _ => ?_)
    · intro y0 y1 y2
      unfold spec_l4Same.l3
      repeat' first
      | (with_reducible exact ih0 _ _ _ _ _ _ _)
      | (with_reducible exact ih1 _ _ _ _)
      | (with_reducible exact ih2 _ _ _)
      | (with_reducible exact ih3 _ _ _)
      | (with_reducible exact LeO.refl _)
      | (with_reducible exact LeO.none _)
      | (with_reducible refine LeO.ite ?_ ?_)
      | (with_reducible refine LeO.bind ?_ (fun _ => ?_))
      | exact ih0 _ _ _ _ _ _ _
      | exact ih1 _ _ _ _
      | exact ih2 _ _ _
      | exact ih3 _ _ _
      | exact LeO.none _
      | refine LeO.ite ?_ ?_
      | refine LeO.bind ?_ (fun _ => ?_)
theorem spec_l4Same.mono : ∀ a0 a1 a2 a3 a4 a5 k, LeO (spec_l4Same.f k a0 a1 a2 a3 a4 a5) (spec_l4Same.f (k + 1) a0 a1 a2 a3 a4 a5) := by
  intro a0 a1 a2 a3 a4 a5 k
  obtain ⟨ih0, ih1, ih2, ih3⟩ := spec_l4Same.mono_l k
  unfold spec_l4Same.f
  repeat' first
      | (with_reducible exact ih0 _ _ _ _ _ _ _)
      | (with_reducible exact ih1 _ _ _ _)
      | (with_reducible exact ih2 _ _ _)
      | (with_reducible exact ih3 _ _ _)
      | (with_reducible exact LeO.refl _)
      | (with_reducible exact LeO.none _)
      | (with_reducible refine LeO.ite ?_ ?_)
      | (with_reducible refine LeO.bind ?_ (fun _ => ?_))
      | exact ih0 _ _ _ _ _ _ _
      | exact ih1 _ _ _ _
      | exact ih2 _ _ _
      | exact ih3 _ _ _
      | exact LeO.none _
      | refine LeO.ite ?_ ?_
      | refine LeO.bind ?_ (fun _ => ?_)
set_option maxHeartbeats 8000000 in
set_option maxRecDepth 100000 in
theorem spec_l4Same.calls (k : Nat) (a0_0 : Bool) (a0_1 : ByteArray) (a0_2 : Int) (a1_0 : Bool) (a1_1 : ByteArray) (a1_2 : Int) (r1 : ByteArray) (r2 : ByteArray) (r3 : Int) (w : World) (h : spec_l4Same.f k a0_0 a0_1 a0_2 a1_0 a1_1 a1_2 = some (r1, r2, r3)) :
    Calls Tryd.prog 62 #[.agg #[.bool a0_0, .string a0_1, .int .i64 a0_2], .agg #[.bool a1_0, .string a1_1, .int .i64 a1_2]] w fun e w' => e = .returned (.tuple #[.string r1, .string r2, .int .i64 r3]) ∧ Below w.heap.size w w' := by
  have hu26 := Tryd.underlying26
  have HB := Aside0.mk (Below.refl w.heap.size w)
  have H : (spec_l4Same.l0 k a0_1 a1_1 (mx a0_2 a1_2) a0_2 a1_0 a1_1 a1_2) = some (r1, r2, r3) := h
  clear h
  obtain ⟨ji3, hji3⟩ : ∃ j_ : Int, (mx a0_2 a1_2) = j_ := ⟨_, rfl⟩
  replace H : (spec_l4Same.l0 k a0_1 a1_1 ji3 a0_2 a1_0 a1_1 a1_2) = some (r1, r2, r3) := by first | (rw [hji3] at H; exact H) | (simp only [hji3] at H ⊢; exact H)
  have hji3_ : (if a0_2 < a1_2 then a1_2 else a0_2) = ji3 := hji3
  have H' := Aside0.mk H
  clear H
  go_enter Tryd.func62, Tryd.ntmps62
  go_wp2_with (first | ((with_reducible refine gate_dst (N := 2) rfl ?_); refine box_event ?hg (N := 2) ?hd (cs := #[.bool a0_0, .string a0_1, .int .i64 a0_2]) (t := 26) ?hr ?_; (case hd => rfl); (case hg => rfl); (case hr => first | (go_simp; done) | (go_simp; rfl)); intro gb106 hg w4 hbox hb; have n0_ := Aside0.mk (below_step (by repeat (first | (with_reducible first | exact HB.out | apply below_alloc | apply pw_below_drewN | apply below_drew1) | exact HB.out)) hb); have n1_ := Aside0.mk (hbox); have n2_ := Aside0.mk ((by rw [hg]; exact (below_size (by repeat (first | (with_reducible first | exact HB.out | apply below_alloc | apply pw_below_drewN | apply below_drew1) | exact HB.out))) : w.heap.size ≤ gb106)); have n3_ := Aside0.mk ((by rw [hg]; exact (below_size (by repeat (first | (with_reducible first | exact HB.out | apply below_alloc | apply pw_below_drewN | apply below_drew1) | exact HB.out))) : w.heap.size ≤ gb106)); clear HB; have HB := n0_; have BK106 := n1_; have GW106 := n2_; have GE106 := n3_; clear n0_ n1_ n2_ n3_; clear hb hbox hg) | ((with_reducible refine gate_dst (N := 3) rfl ?_); refine box_event ?hg (N := 3) ?hd (cs := #[.bool a1_0, .string a1_1, .int .i64 a1_2]) (t := 26) ?hr ?_; (case hd => rfl); (case hg => rfl); (case hr => first | (go_simp; done) | (go_simp; rfl)); intro gb107 hg w5 hbox hb; have n0_ := Aside0.mk (blk_below (g := gb106) (o := .cells #[.bool a0_0, .string a0_1, .int .i64 a0_2] 26 (0, 0)) (by refine blk_up ?_; exact BK106.out) hb); have n1_ := Aside0.mk (below_step (by repeat (first | (with_reducible first | exact HB.out | apply below_alloc | apply pw_below_drewN | apply below_drew1 | refine below_set ?_ GE106.out) | exact HB.out)) hb); have n2_ := Aside0.mk (hbox); have n3_ := Aside0.mk ((by rw [hg]; exact (below_size (by repeat (first | (with_reducible first | exact HB.out | apply below_alloc | apply pw_below_drewN | apply below_drew1 | refine below_set ?_ GE106.out) | exact HB.out))) : w.heap.size ≤ gb107)); have n4_ := Aside0.mk ((by rw [hg]; exact (below_size (by repeat (first | (with_reducible first | exact HB.out | apply below_alloc | apply pw_below_drewN | apply below_drew1 | refine below_set ?_ GE106.out) | exact HB.out))) : w.heap.size ≤ gb107)); have n5_ := Aside0.mk ((by rw [hg]; exact Nat.ne_of_lt (blk_lt (g := gb106) (o := .cells #[.bool a0_0, .string a0_1, .int .i64 a0_2] 26 (0, 0)) (by refine blk_up ?_; exact BK106.out)) : gb106 ≠ gb107)); have n6_ := Aside0.mk ((by rw [hg]; exact Nat.ne_of_gt (blk_lt (g := gb106) (o := .cells #[.bool a0_0, .string a0_1, .int .i64 a0_2] 26 (0, 0)) (by refine blk_up ?_; exact BK106.out)) : gb107 ≠ gb106)); clear BK106; clear HB; have BK106 := n0_; have HB := n1_; have BK107 := n2_; have GW107 := n3_; have GE107 := n4_; have NB106_107 := n5_; have NB107_106 := n6_; clear n0_ n1_ n2_ n3_ n4_ n5_ n6_; clear hb hbox hg; have hnb6 := NB106_107.out; have hnc6 := NB107_106.out; have hcz7_0 : w5.cell? ⟨gb106, 0, none⟩ = some (.bool a0_0) := (blk_cell BK106.out 0).trans rfl; have hcz7_1 : w5.cell? ⟨gb106, 1, none⟩ = some (.string a0_1) := (blk_cell BK106.out 1).trans rfl; have hcz7_2 : w5.cell? ⟨gb106, 2, none⟩ = some (.int .i64 a0_2) := (blk_cell BK106.out 2).trans rfl; have hfz7_0 := blk_frozen BK106.out 0; have hfz7_1 := blk_frozen BK106.out 1; have hfz7_2 := blk_frozen BK106.out 2; have hcz8_0 : w5.cell? ⟨gb107, 0, none⟩ = some (.bool a1_0) := (blk_cell BK107.out 0).trans rfl; have hcz8_1 : w5.cell? ⟨gb107, 1, none⟩ = some (.string a1_1) := (blk_cell BK107.out 1).trans rfl; have hcz8_2 : w5.cell? ⟨gb107, 2, none⟩ = some (.int .i64 a1_2) := (blk_cell BK107.out 2).trans rfl; have hfz8_0 := blk_frozen BK107.out 0; have hfz8_1 := blk_frozen BK107.out 1; have hfz8_2 := blk_frozen BK107.out 2))
  go_loopg [7, 10] k (fun kq v7 v10 w' => ∃ (x7_1 : ByteArray) (x10_1 : Int), v7 = .string x7_1 ∧ v10 = .int .i64 x10_1 ∧ Aside0 (spec_l4Same.l0 kq x7_1 a1_1 ji3 x10_1 a1_0 a1_1 a1_2 = some (r1, r2, r3)) ∧ Aside0 (kq ≤ k) ∧ Aside0 (w'.heap[gb106]? = some (.cells #[.bool a0_0, .string a0_1, .int .i64 a0_2] 26 (0, 0))) ∧ Aside0 (w'.heap[gb107]? = some (.cells #[.bool a1_0, .string a1_1, .int .i64 a1_2] 26 (0, 0))) ∧ Aside0 (Below w.heap.size w w'))
  case atStart => exact ⟨(a0_1), (a0_2), (by first | rfl | (simp; done) | (simp [*]; done)), (by first | rfl | (simp; done) | (simp [*]; done)), H', ⟨Nat.le_refl _⟩, ⟨by refine blk_up ?_; exact BK106.out⟩, ⟨by refine blk_up ?_; exact BK107.out⟩, ⟨by repeat (first | (with_reducible first | exact HB.out | apply below_alloc | apply pw_below_drewN | apply below_drew1 | refine below_set ?_ GE106.out | refine below_set ?_ GE107.out) | exact HB.out)⟩⟩
  case round =>
    clear H'
    try clear p2
    try clear c6
    try clear hcz7_0
    try clear hcz7_1
    try clear hcz7_2
    try clear hcz8_0
    try clear hcz8_1
    try clear hcz8_2
    try clear hfz7_0
    try clear hfz7_1
    try clear hfz7_2
    try clear hfz8_0
    try clear hfz8_1
    try clear hfz8_2
    obtain ⟨x7_1, x10_1, rfl, rfl, HA, HK1, BK106, BK107, HB⟩ := hrel
    cases gk with
    | zero => exact absurd HA.out (by simp [spec_l4Same.l0])
    | succ k1 =>
      have H := HA.out
      clear HA
      simp only [spec_l4Same.l0] at H
      by_cases c9 : x10_1 < ji3
      · rw [if_pos c9] at H
        have c9b0 : decide (x10_1 < ji3) = true := decide_eq_true c9
        clear c9
        by_cases c10 : x7_1.size + 1 ≤ 9223372036854775807
        · rw [if_pos c10] at H
          have c10b0 := eq_true c10
          have c10b1 : decide (x7_1.size + 1 ≤ 9223372036854775807) = true := decide_eq_true c10
          try have c10b2 : (9223372036854775807 < x7_1.size + 1) = False := eq_false (Nat.not_lt.2 c10)
          have H' := Aside0.mk H
          clear H
          go_wp2
          go_roundg k1
          case measure => have := HK1.out; omega
          case rel => exact ⟨(x7_1 ++ (⟨#[48]⟩ : ByteArray)), (wrap64 (x10_1 + 1)), (by first | rfl | (simp; done) | (simp [*]; done)), (by first | rfl | (simp; done) | (simp [*]; done)), H', ⟨by have := HK1.out; omega⟩, ⟨by refine blk_up ?_; exact BK106.out⟩, ⟨by refine blk_up ?_; exact BK107.out⟩, ⟨by repeat (first | (with_reducible first | exact HB.out | apply below_alloc | apply pw_below_drewN | apply below_drew1 | refine below_set ?_ GE106.out | refine below_set ?_ GE107.out) | exact HB.out)⟩⟩
        · rw [if_neg c10] at H
          exact absurd H (by simp)
      · rw [if_neg c9] at H
        have c9b0 : decide (x10_1 < ji3) = false := decide_eq_false c9
        clear c9
        have H' := Aside0.mk H
        clear H
        have hnb11 := NB107_106.out
        have hnc11 := NB106_107.out
        have hcz12_0 : wr.cell? ⟨gb107, 0, none⟩ = some (.bool a1_0) := (blk_cell BK107.out 0).trans rfl
        have hcz12_1 : wr.cell? ⟨gb107, 1, none⟩ = some (.string a1_1) := (blk_cell BK107.out 1).trans rfl
        have hcz12_2 : wr.cell? ⟨gb107, 2, none⟩ = some (.int .i64 a1_2) := (blk_cell BK107.out 2).trans rfl
        have hfz12_0 := blk_frozen BK107.out 0
        have hfz12_1 := blk_frozen BK107.out 1
        have hfz12_2 := blk_frozen BK107.out 2
        go_wp2
        go_loopg [8, 11] k1 (fun kq v8 v11 w' => ∃ (x8_2 : ByteArray) (x11_2 : Int), v8 = .string x8_2 ∧ v11 = .int .i64 x11_2 ∧ Aside0 (spec_l4Same.l1 kq x7_1 x8_2 ji3 x11_2 = some (r1, r2, r3)) ∧ Aside0 (kq ≤ k1) ∧ Aside0 (w'.heap[gb106]? = some (.cells #[.bool a0_0, .string a0_1, .int .i64 a0_2] 26 (0, 0))) ∧ Aside0 (w'.heap[gb107]? = some (.cells #[.bool a1_0, .string a1_1, .int .i64 a1_2] 26 (0, 0))) ∧ Aside0 (Below w.heap.size w w'))
        case atStart => exact ⟨(a1_1), (a1_2), (by first | rfl | (simp; done) | (simp [*]; done)), (by first | rfl | (simp; done) | (simp [*]; done)), H', ⟨Nat.le_refl _⟩, ⟨by refine blk_up ?_; exact BK106.out⟩, ⟨by refine blk_up ?_; exact BK107.out⟩, ⟨by repeat (first | (with_reducible first | exact HB.out | apply below_alloc | apply pw_below_drewN | apply below_drew1 | refine below_set ?_ GE106.out | refine below_set ?_ GE107.out) | exact HB.out)⟩⟩
        case round =>
          clear H'
          try clear c1
          try clear p2
          try clear c6
          try clear p6
          try clear c9
          try clear c9b0
          try clear c10
          try clear c10b0
          try clear c10b1
          try clear c10b2
          try clear c11
          try clear hcz12_0
          try clear hcz12_1
          try clear hcz12_2
          try clear hcz7_0
          try clear hcz7_1
          try clear hcz7_2
          try clear hcz8_0
          try clear hcz8_1
          try clear hcz8_2
          try clear hfz12_0
          try clear hfz12_1
          try clear hfz12_2
          try clear hfz7_0
          try clear hfz7_1
          try clear hfz7_2
          try clear hfz8_0
          try clear hfz8_1
          try clear hfz8_2
          try clear p2
          obtain ⟨x8_2, x11_2, rfl, rfl, HA, HK2, BK106, BK107, HB⟩ := hrel
          cases gk with
          | zero => exact absurd HA.out (by simp [spec_l4Same.l1])
          | succ k2 =>
            have H := HA.out
            clear HA
            simp only [spec_l4Same.l1] at H
            by_cases c13 : x11_2 < ji3
            · rw [if_pos c13] at H
              have c13b0 : decide (x11_2 < ji3) = true := decide_eq_true c13
              clear c13
              by_cases c14 : x8_2.size + 1 ≤ 9223372036854775807
              · rw [if_pos c14] at H
                have c14b0 := eq_true c14
                have c14b1 : decide (x8_2.size + 1 ≤ 9223372036854775807) = true := decide_eq_true c14
                try have c14b2 : (9223372036854775807 < x8_2.size + 1) = False := eq_false (Nat.not_lt.2 c14)
                have H' := Aside0.mk H
                clear H
                go_wp2
                go_roundg k2
                case measure => have := HK1.out; have := HK2.out; omega
                case rel => exact ⟨(x8_2 ++ (⟨#[48]⟩ : ByteArray)), (wrap64 (x11_2 + 1)), (by first | rfl | (simp; done) | (simp [*]; done)), (by first | rfl | (simp; done) | (simp [*]; done)), H', ⟨by have := HK1.out; have := HK2.out; omega⟩, ⟨by refine blk_up ?_; exact BK106.out⟩, ⟨by refine blk_up ?_; exact BK107.out⟩, ⟨by repeat (first | (with_reducible first | exact HB.out | apply below_alloc | apply pw_below_drewN | apply below_drew1 | refine below_set ?_ GE106.out | refine below_set ?_ GE107.out) | exact HB.out)⟩⟩
              · rw [if_neg c14] at H
                exact absurd H (by simp)
            · rw [if_neg c13] at H
              have c13b0 : decide (x11_2 < ji3) = false := decide_eq_false c13
              clear c13
              have H' := Aside0.mk H
              clear H
              go_wp2
              go_loopg [7] k2 (fun kq v7 w' => ∃ (x7_3 : ByteArray), v7 = .string x7_3 ∧ Aside0 (spec_l4Same.l2 kq x7_3 x8_2 ji3 = some (r1, r2, r3)) ∧ Aside0 (kq ≤ k2) ∧ Aside0 (w'.heap[gb106]? = some (.cells #[.bool a0_0, .string a0_1, .int .i64 a0_2] 26 (0, 0))) ∧ Aside0 (w'.heap[gb107]? = some (.cells #[.bool a1_0, .string a1_1, .int .i64 a1_2] 26 (0, 0))) ∧ Aside0 (Below w.heap.size w w'))
              case atStart => exact ⟨(x7_1), (by first | rfl | (simp; done) | (simp [*]; done)), H', ⟨Nat.le_refl _⟩, ⟨by refine blk_up ?_; exact BK106.out⟩, ⟨by refine blk_up ?_; exact BK107.out⟩, ⟨by repeat (first | (with_reducible first | exact HB.out | apply below_alloc | apply pw_below_drewN | apply below_drew1 | refine below_set ?_ GE106.out | refine below_set ?_ GE107.out) | exact HB.out)⟩⟩
              case round =>
                clear H'
                try clear c1
                try clear p2
                try clear c6
                try clear p6
                try clear c9
                try clear c9b0
                try clear c10
                try clear c10b0
                try clear c10b1
                try clear c10b2
                try clear c11
                try clear c13
                try clear c13b0
                try clear c14
                try clear c14b0
                try clear c14b1
                try clear c14b2
                try clear hcz12_0
                try clear hcz12_1
                try clear hcz12_2
                try clear hcz7_0
                try clear hcz7_1
                try clear hcz7_2
                try clear hcz8_0
                try clear hcz8_1
                try clear hcz8_2
                try clear hfz12_0
                try clear hfz12_1
                try clear hfz12_2
                try clear hfz7_0
                try clear hfz7_1
                try clear hfz7_2
                try clear hfz8_0
                try clear hfz8_1
                try clear hfz8_2
                try clear p2
                try clear p6
                obtain ⟨x7_3, rfl, HA, HK3, BK106, BK107, HB⟩ := hrel
                cases gk with
                | zero => exact absurd HA.out (by simp [spec_l4Same.l2])
                | succ k3 =>
                  have H := HA.out
                  clear HA
                  simp only [spec_l4Same.l2] at H
                  by_cases c15 : (x7_3.size : Int) < (x8_2.size : Int)
                  · rw [if_pos c15] at H
                    have c15b0 : decide ((x7_3.size : Int) < (x8_2.size : Int)) = true := decide_eq_true c15
                    have c15b1 : decide (x7_3.size < x8_2.size) = true := decide_eq_true (Int.ofNat_lt.mp c15)
                    clear c15
                    by_cases c16 : 1 + x7_3.size ≤ 9223372036854775807
                    · rw [if_pos c16] at H
                      have c16b0 := eq_true c16
                      have c16b1 : decide (1 + x7_3.size ≤ 9223372036854775807) = true := decide_eq_true c16
                      try have c16b2 : (9223372036854775807 < 1 + x7_3.size) = False := eq_false (Nat.not_lt.2 c16)
                      have H' := Aside0.mk H
                      clear H
                      go_wp2
                      go_roundg k3
                      case measure => have := HK1.out; have := HK2.out; have := HK3.out; omega
                      case rel => exact ⟨((⟨#[48]⟩ : ByteArray) ++ x7_3), (by first | rfl | (simp; done) | (simp [*]; done)), H', ⟨by have := HK1.out; have := HK2.out; have := HK3.out; omega⟩, ⟨by refine blk_up ?_; exact BK106.out⟩, ⟨by refine blk_up ?_; exact BK107.out⟩, ⟨by repeat (first | (with_reducible first | exact HB.out | apply below_alloc | apply pw_below_drewN | apply below_drew1 | refine below_set ?_ GE106.out | refine below_set ?_ GE107.out) | exact HB.out)⟩⟩
                    · rw [if_neg c16] at H
                      exact absurd H (by simp)
                  · rw [if_neg c15] at H
                    have c15b0 : decide ((x7_3.size : Int) < (x8_2.size : Int)) = false := decide_eq_false c15
                    have c15b1 : decide (x7_3.size < x8_2.size) = false := decide_eq_false (fun h => c15 (Int.ofNat_lt.mpr h))
                    clear c15
                    have H' := Aside0.mk H
                    clear H
                    go_wp2
                    go_loopg [8] k3 (fun kq v8 w' => ∃ (x8_4 : ByteArray), v8 = .string x8_4 ∧ Aside0 (spec_l4Same.l3 kq x7_3 x8_4 ji3 = some (r1, r2, r3)) ∧ Aside0 (kq ≤ k3) ∧ Aside0 (w'.heap[gb106]? = some (.cells #[.bool a0_0, .string a0_1, .int .i64 a0_2] 26 (0, 0))) ∧ Aside0 (w'.heap[gb107]? = some (.cells #[.bool a1_0, .string a1_1, .int .i64 a1_2] 26 (0, 0))) ∧ Aside0 (Below w.heap.size w w'))
                    case atStart => exact ⟨(x8_2), (by first | rfl | (simp; done) | (simp [*]; done)), H', ⟨Nat.le_refl _⟩, ⟨by refine blk_up ?_; exact BK106.out⟩, ⟨by refine blk_up ?_; exact BK107.out⟩, ⟨by repeat (first | (with_reducible first | exact HB.out | apply below_alloc | apply pw_below_drewN | apply below_drew1 | refine below_set ?_ GE106.out | refine below_set ?_ GE107.out) | exact HB.out)⟩⟩
                    case round =>
                      clear H'
                      try clear c1
                      try clear p2
                      try clear c6
                      try clear p6
                      try clear c9
                      try clear c9b0
                      try clear c10
                      try clear c10b0
                      try clear c10b1
                      try clear c10b2
                      try clear c11
                      try clear c13
                      try clear c13b0
                      try clear c14
                      try clear c14b0
                      try clear c14b1
                      try clear c14b2
                      try clear c15
                      try clear c15b0
                      try clear c15b1
                      try clear c16
                      try clear c16b0
                      try clear c16b1
                      try clear c16b2
                      try clear hcz12_0
                      try clear hcz12_1
                      try clear hcz12_2
                      try clear hcz7_0
                      try clear hcz7_1
                      try clear hcz7_2
                      try clear hcz8_0
                      try clear hcz8_1
                      try clear hcz8_2
                      try clear hfz12_0
                      try clear hfz12_1
                      try clear hfz12_2
                      try clear hfz7_0
                      try clear hfz7_1
                      try clear hfz7_2
                      try clear hfz8_0
                      try clear hfz8_1
                      try clear hfz8_2
                      try clear p2
                      try clear p6
                      obtain ⟨x8_4, rfl, HA, HK4, BK106, BK107, HB⟩ := hrel
                      cases gk with
                      | zero => exact absurd HA.out (by simp [spec_l4Same.l3])
                      | succ k4 =>
                        have H := HA.out
                        clear HA
                        simp only [spec_l4Same.l3] at H
                        by_cases c17 : (x8_4.size : Int) < (x7_3.size : Int)
                        · rw [if_pos c17] at H
                          have c17b0 : decide ((x8_4.size : Int) < (x7_3.size : Int)) = true := decide_eq_true c17
                          have c17b1 : decide (x8_4.size < x7_3.size) = true := decide_eq_true (Int.ofNat_lt.mp c17)
                          clear c17
                          by_cases c18 : 1 + x8_4.size ≤ 9223372036854775807
                          · rw [if_pos c18] at H
                            have c18b0 := eq_true c18
                            have c18b1 : decide (1 + x8_4.size ≤ 9223372036854775807) = true := decide_eq_true c18
                            try have c18b2 : (9223372036854775807 < 1 + x8_4.size) = False := eq_false (Nat.not_lt.2 c18)
                            have H' := Aside0.mk H
                            clear H
                            go_wp2
                            go_roundg k4
                            case measure => have := HK1.out; have := HK2.out; have := HK3.out; have := HK4.out; omega
                            case rel => exact ⟨((⟨#[48]⟩ : ByteArray) ++ x8_4), (by first | rfl | (simp; done) | (simp [*]; done)), H', ⟨by have := HK1.out; have := HK2.out; have := HK3.out; have := HK4.out; omega⟩, ⟨by refine blk_up ?_; exact BK106.out⟩, ⟨by refine blk_up ?_; exact BK107.out⟩, ⟨by repeat (first | (with_reducible first | exact HB.out | apply below_alloc | apply pw_below_drewN | apply below_drew1 | refine below_set ?_ GE106.out | refine below_set ?_ GE107.out) | exact HB.out)⟩⟩
                          · rw [if_neg c18] at H
                            exact absurd H (by simp)
                        · rw [if_neg c17] at H
                          have c17b0 : decide ((x8_4.size : Int) < (x7_3.size : Int)) = false := decide_eq_false c17
                          have c17b1 : decide (x8_4.size < x7_3.size) = false := decide_eq_false (fun h => c17 (Int.ofNat_lt.mpr h))
                          clear c17
                          simp only [Option.some.injEq, Prod.mk.injEq] at H
                          obtain ⟨rfl, rfl, rfl⟩ := H
                          go_wp2
                          go_ret3
                          exact ⟨by first | rfl | (simp [errW_none, errW_some] <;> rfl) | (simp only [← hji3]; first | rfl | (simp [errW_none, errW_some] <;> rfl)) | (simp [*, errW_none, errW_some] <;> rfl), by repeat (first | (with_reducible first | exact HB.out | apply below_alloc | apply pw_below_drewN | apply below_drew1 | refine below_set ?_ GE106.out | refine below_set ?_ GE107.out) | exact HB.out)⟩

end Go.Proofs.YtilmhfkbpnejeaaDoor.L

namespace Go.Proofs.YtilmhfkbpnejeaaDoor.L
open Go.RowKit Go.Proofs.YtilmhfkbpnejeaaDoorW.PrintWords Go.Proofs.YtilmhfkbpnejeaaDoorW.PrintLast Go.Proofs.YtilmhfkbpnejeaaDoorW.PrintMore
attribute [local go_sem] max2_int min2_int max_two min_two max_three min_three max_four min_four   -- for this text's walks alone
attribute [local go_sem] Go.Proofs.YtilmhfkbpnejeaaDoor.H.str_leq Go.Proofs.YtilmhfkbpnejeaaDoor.H.str_gtr Go.Proofs.YtilmhfkbpnejeaaDoor.H.str_geq
set_option linter.unusedVariables false
set_option linter.unusedSimpArgs false

/-! ### spec_l4Compare: function 48 -/
def spec_l4Compare.j0 : Nat → ByteArray → ByteArray → Int → Option (Int)
  | 0, _, _, _ => none
  | k + 1, x5, x6, x8 => if (Op.bytesLess x5.toList x6.toList) = true then (some (wrap64 (-x8))) else (if (Op.bytesLess x6.toList x5.toList) = true then (some x8) else (some 0))
def spec_l4Compare.f (k : Nat) (a0_0 : Bool) (a0_1 : ByteArray) (a0_2 : Int) (a1_0 : Bool) (a1_1 : ByteArray) (a1_2 : Int) : Option (Int) := (spec_l4Same.f k a0_0 a0_1 a0_2 a1_0 a1_1 a1_2).bind fun bt110 => (if (a0_0 != a1_0) = true then (if a0_0 = true then (some (-1)) else (some 1)) else (if a0_0 = true then (spec_l4Compare.j0 k bt110.1 bt110.2.1 (-1)) else (spec_l4Compare.j0 k bt110.1 bt110.2.1 1)))
theorem spec_l4Compare.mono_l : ∀ k, (∀ y0 y1 y2, LeO (spec_l4Compare.j0 k y0 y1 y2) (spec_l4Compare.j0 (k + 1) y0 y1 y2))
  | 0 => fun _ _ _ r h => by simp [spec_l4Compare.j0] at h
  | k + 1 => by
    have ih0 := spec_l4Compare.mono_l k
    · intro y0 y1 y2
      unfold spec_l4Compare.j0
      repeat' first
      | (with_reducible exact ih0 _ _ _)
      | (with_reducible exact spec_l4Same.mono _ _ _ _ _ _ _)
      | (with_reducible exact LeO.refl _)
      | (with_reducible exact LeO.none _)
      | (with_reducible refine LeO.ite ?_ ?_)
      | (with_reducible refine LeO.bind ?_ (fun _ => ?_))
      | exact ih0 _ _ _
      | exact spec_l4Same.mono _ _ _ _ _ _ _
      | exact LeO.none _
      | refine LeO.ite ?_ ?_
      | refine LeO.bind ?_ (fun _ => ?_)
theorem spec_l4Compare.mono : ∀ a0 a1 a2 a3 a4 a5 k, LeO (spec_l4Compare.f k a0 a1 a2 a3 a4 a5) (spec_l4Compare.f (k + 1) a0 a1 a2 a3 a4 a5) := by
  intro a0 a1 a2 a3 a4 a5 k
  have ih0 := spec_l4Compare.mono_l k
  unfold spec_l4Compare.f
  repeat' first
      | (with_reducible exact ih0 _ _ _)
      | (with_reducible exact spec_l4Same.mono _ _ _ _ _ _ _)
      | (with_reducible exact LeO.refl _)
      | (with_reducible exact LeO.none _)
      | (with_reducible refine LeO.ite ?_ ?_)
      | (with_reducible refine LeO.bind ?_ (fun _ => ?_))
      | exact ih0 _ _ _
      | exact spec_l4Same.mono _ _ _ _ _ _ _
      | exact LeO.none _
      | refine LeO.ite ?_ ?_
      | refine LeO.bind ?_ (fun _ => ?_)
set_option maxHeartbeats 8000000 in
set_option maxRecDepth 100000 in
theorem spec_l4Compare.calls (k : Nat) (a0_0 : Bool) (a0_1 : ByteArray) (a0_2 : Int) (a1_0 : Bool) (a1_1 : ByteArray) (a1_2 : Int) (r : Int) (w : World) (h : spec_l4Compare.f k a0_0 a0_1 a0_2 a1_0 a1_1 a1_2 = some r) :
    Calls Tryd.prog 48 #[.agg #[.bool a0_0, .string a0_1, .int .i64 a0_2], .agg #[.bool a1_0, .string a1_1, .int .i64 a1_2]] w fun e w' => e = .returned (.int .i64 r) ∧ Below w.heap.size w w' := by
  have hu26 := Tryd.underlying26
  have HB := Aside0.mk (Below.refl w.heap.size w)
  have H : ((spec_l4Same.f k a0_0 a0_1 a0_2 a1_0 a1_1 a1_2).bind fun bt110 => (if (a0_0 != a1_0) = true then (if a0_0 = true then (some (-1)) else (some 1)) else (if a0_0 = true then (spec_l4Compare.j0 k bt110.1 bt110.2.1 (-1)) else (spec_l4Compare.j0 k bt110.1 bt110.2.1 1)))) = some r := h
  clear h
  replace H := Option.bind_eq_some_iff.mp H
  obtain ⟨⟨t110, t111, t112⟩, A30, H⟩ := H
  replace H : (if (a0_0 != a1_0) = true then (if a0_0 = true then (some (-1)) else (some 1)) else (if a0_0 = true then (spec_l4Compare.j0 k t110 t111 (-1)) else (spec_l4Compare.j0 k t110 t111 1))) = some r := H
  have A3 := Aside0.mk A30
  clear A30
  by_cases c4 : (a0_0 != a1_0) = true
  · rw [if_pos c4] at H
    have c4b0 : (a0_0 != a1_0) = true := c4
    (try (have c4b1 : decide (a0_0 = a1_0) = false := by simpa using c4))
    (try (have c4b2 : (a0_0 == a1_0) = false := by simpa using c4))
    (try (have c4b3 : ¬ (a0_0 = a1_0) := by simpa using c4))
    clear c4
    by_cases c5 : a0_0 = true
    · subst c5
      have H1 : (some (-1)) = some r := by rw [if_pos rfl] at H; exact H
      clear H
      have H := H1
      clear H1
      obtain rfl := Option.some.inj H
      go_enter Tryd.func48, Tryd.ntmps48
      go_wp2_with (first | ((with_reducible refine gate_dst (N := 2) rfl ?_); refine box_event ?hg (N := 2) ?hd (cs := #[.bool true, .string a0_1, .int .i64 a0_2]) (t := 26) ?hr ?_; (case hd => rfl); (case hg => rfl); (case hr => first | (go_simp; done) | (go_simp; rfl)); intro gb108 hg w6 hbox hb; have n0_ := Aside0.mk (below_step (by repeat (first | (with_reducible first | exact HB.out | apply below_alloc | apply pw_below_drewN | apply below_drew1) | exact HB.out)) hb); have n1_ := Aside0.mk (hbox); have n2_ := Aside0.mk ((by rw [hg]; exact (below_size (by repeat (first | (with_reducible first | exact HB.out | apply below_alloc | apply pw_below_drewN | apply below_drew1) | exact HB.out))) : w.heap.size ≤ gb108)); have n3_ := Aside0.mk ((by rw [hg]; exact (below_size (by repeat (first | (with_reducible first | exact HB.out | apply below_alloc | apply pw_below_drewN | apply below_drew1) | exact HB.out))) : w.heap.size ≤ gb108)); clear HB; have HB := n0_; have BK108 := n1_; have GW108 := n2_; have GE108 := n3_; clear n0_ n1_ n2_ n3_; clear hb hbox hg) | ((with_reducible refine gate_dst (N := 3) rfl ?_); refine box_event ?hg (N := 3) ?hd (cs := #[.bool a1_0, .string a1_1, .int .i64 a1_2]) (t := 26) ?hr ?_; (case hd => rfl); (case hg => rfl); (case hr => first | (go_simp; done) | (go_simp; rfl)); intro gb109 hg w7 hbox hb; have n0_ := Aside0.mk (blk_below (g := gb108) (o := .cells #[.bool true, .string a0_1, .int .i64 a0_2] 26 (0, 0)) (by refine blk_up ?_; exact BK108.out) hb); have n1_ := Aside0.mk (below_step (by repeat (first | (with_reducible first | exact HB.out | apply below_alloc | apply pw_below_drewN | apply below_drew1 | refine below_set ?_ GE108.out) | exact HB.out)) hb); have n2_ := Aside0.mk (hbox); have n3_ := Aside0.mk ((by rw [hg]; exact (below_size (by repeat (first | (with_reducible first | exact HB.out | apply below_alloc | apply pw_below_drewN | apply below_drew1 | refine below_set ?_ GE108.out) | exact HB.out))) : w.heap.size ≤ gb109)); have n4_ := Aside0.mk ((by rw [hg]; exact (below_size (by repeat (first | (with_reducible first | exact HB.out | apply below_alloc | apply pw_below_drewN | apply below_drew1 | refine below_set ?_ GE108.out) | exact HB.out))) : w.heap.size ≤ gb109)); have n5_ := Aside0.mk ((by rw [hg]; exact Nat.ne_of_lt (blk_lt (g := gb108) (o := .cells #[.bool true, .string a0_1, .int .i64 a0_2] 26 (0, 0)) (by refine blk_up ?_; exact BK108.out)) : gb108 ≠ gb109)); have n6_ := Aside0.mk ((by rw [hg]; exact Nat.ne_of_gt (blk_lt (g := gb108) (o := .cells #[.bool true, .string a0_1, .int .i64 a0_2] 26 (0, 0)) (by refine blk_up ?_; exact BK108.out)) : gb109 ≠ gb108)); clear BK108; clear HB; have BK108 := n0_; have HB := n1_; have BK109 := n2_; have GW109 := n3_; have GE109 := n4_; have NB108_109 := n5_; have NB109_108 := n6_; clear n0_ n1_ n2_ n3_ n4_ n5_ n6_; clear hb hbox hg; have hnb8 := NB108_109.out; have hnc8 := NB109_108.out; have hcz9_0 : w7.cell? ⟨gb108, 0, none⟩ = some (.bool true) := (blk_cell BK108.out 0).trans rfl; have hcz9_1 : w7.cell? ⟨gb108, 1, none⟩ = some (.string a0_1) := (blk_cell BK108.out 1).trans rfl; have hcz9_2 : w7.cell? ⟨gb108, 2, none⟩ = some (.int .i64 a0_2) := (blk_cell BK108.out 2).trans rfl; have hfz9_0 := blk_frozen BK108.out 0; have hfz9_1 := blk_frozen BK108.out 1; have hfz9_2 := blk_frozen BK108.out 2; have hcz10_0 : w7.cell? ⟨gb109, 0, none⟩ = some (.bool a1_0) := (blk_cell BK109.out 0).trans rfl; have hcz10_1 : w7.cell? ⟨gb109, 1, none⟩ = some (.string a1_1) := (blk_cell BK109.out 1).trans rfl; have hcz10_2 : w7.cell? ⟨gb109, 2, none⟩ = some (.int .i64 a1_2) := (blk_cell BK109.out 2).trans rfl; have hfz10_0 := blk_frozen BK109.out 0; have hfz10_1 := blk_frozen BK109.out 1; have hfz10_2 := blk_frozen BK109.out 2) | ((with_reducible refine gate_callee (f := 62) rfl ?_); refine goesL_ (some 12) rfl rfl Tryd.func62 (by kernel_rfl) rfl #[.agg #[.bool true, .string a0_1, .int .i64 a0_2], .agg #[.bool a1_0, .string a1_1, .int .i64 a1_2]] rfl (by (try simp only [List.map_toArray, List.map_cons, List.map_nil]); first | done | rfl | (simp only [List.length_drop, List.length_take]; rfl)) ?_; (with_reducible refine (spec_l4Same.calls k true a0_1 a0_2 a1_0 a1_1 a1_2 t110 t111 t112 _ A3.out).mono ?_); rintro e w11 ⟨rfl, hb⟩; refine ⟨_, rfl, ?_⟩; have n0_ := Aside0.mk (blk_below (g := gb108) (o := .cells #[.bool true, .string a0_1, .int .i64 a0_2] 26 (0, 0)) (by refine blk_up ?_; exact BK108.out) hb); have n1_ := Aside0.mk (blk_below (g := gb109) (o := .cells #[.bool a1_0, .string a1_1, .int .i64 a1_2] 26 (0, 0)) (by refine blk_up ?_; exact BK109.out) hb); have n2_ := Aside0.mk (below_step (by repeat (first | (with_reducible first | exact HB.out | apply below_alloc | apply pw_below_drewN | apply below_drew1 | refine below_set ?_ GE108.out | refine below_set ?_ GE109.out) | exact HB.out)) hb); clear BK108; clear BK109; clear HB; have BK108 := n0_; have BK109 := n1_; have HB := n2_; clear n0_ n1_ n2_; (try clear hb); (try clear hb2); (try clear hk); (try clear hi); have hcz12_0 : w11.cell? ⟨gb108, 0, none⟩ = some (.bool true) := (blk_cell BK108.out 0).trans rfl; have hcz12_1 : w11.cell? ⟨gb108, 1, none⟩ = some (.string a0_1) := (blk_cell BK108.out 1).trans rfl; have hcz12_2 : w11.cell? ⟨gb108, 2, none⟩ = some (.int .i64 a0_2) := (blk_cell BK108.out 2).trans rfl; have hfz12_0 := blk_frozen BK108.out 0; have hfz12_1 := blk_frozen BK108.out 1; have hfz12_2 := blk_frozen BK108.out 2; have hcz13_0 : w11.cell? ⟨gb109, 0, none⟩ = some (.bool a1_0) := (blk_cell BK109.out 0).trans rfl; have hcz13_1 : w11.cell? ⟨gb109, 1, none⟩ = some (.string a1_1) := (blk_cell BK109.out 1).trans rfl; have hcz13_2 : w11.cell? ⟨gb109, 2, none⟩ = some (.int .i64 a1_2) := (blk_cell BK109.out 2).trans rfl; have hfz13_0 := blk_frozen BK109.out 0; have hfz13_1 := blk_frozen BK109.out 1; have hfz13_2 := blk_frozen BK109.out 2))
      go_ret
      exact ⟨by first | rfl | (simp [errW_none, errW_some] <;> rfl) | (simp [*, errW_none, errW_some] <;> rfl), by repeat (first | (with_reducible first | exact HB.out | apply below_alloc | apply pw_below_drewN | apply below_drew1 | refine below_set ?_ GE108.out | refine below_set ?_ GE109.out) | exact HB.out)⟩
    · replace c5 := Bool.eq_false_iff.mpr c5
      subst c5
      have H1 : (some 1) = some r := by rw [if_neg (show ¬ (false = true) by decide)] at H; exact H
      clear H
      have H := H1
      clear H1
      obtain rfl := Option.some.inj H
      go_enter Tryd.func48, Tryd.ntmps48
      go_wp2_with (first | ((with_reducible refine gate_dst (N := 2) rfl ?_); refine box_event ?hg (N := 2) ?hd (cs := #[.bool false, .string a0_1, .int .i64 a0_2]) (t := 26) ?hr ?_; (case hd => rfl); (case hg => rfl); (case hr => first | (go_simp; done) | (go_simp; rfl)); intro gb108 hg w14 hbox hb; have n0_ := Aside0.mk (below_step (by repeat (first | (with_reducible first | exact HB.out | apply below_alloc | apply pw_below_drewN | apply below_drew1) | exact HB.out)) hb); have n1_ := Aside0.mk (hbox); have n2_ := Aside0.mk ((by rw [hg]; exact (below_size (by repeat (first | (with_reducible first | exact HB.out | apply below_alloc | apply pw_below_drewN | apply below_drew1) | exact HB.out))) : w.heap.size ≤ gb108)); have n3_ := Aside0.mk ((by rw [hg]; exact (below_size (by repeat (first | (with_reducible first | exact HB.out | apply below_alloc | apply pw_below_drewN | apply below_drew1) | exact HB.out))) : w.heap.size ≤ gb108)); clear HB; have HB := n0_; have BK108 := n1_; have GW108 := n2_; have GE108 := n3_; clear n0_ n1_ n2_ n3_; clear hb hbox hg) | ((with_reducible refine gate_dst (N := 3) rfl ?_); refine box_event ?hg (N := 3) ?hd (cs := #[.bool a1_0, .string a1_1, .int .i64 a1_2]) (t := 26) ?hr ?_; (case hd => rfl); (case hg => rfl); (case hr => first | (go_simp; done) | (go_simp; rfl)); intro gb109 hg w15 hbox hb; have n0_ := Aside0.mk (blk_below (g := gb108) (o := .cells #[.bool false, .string a0_1, .int .i64 a0_2] 26 (0, 0)) (by refine blk_up ?_; exact BK108.out) hb); have n1_ := Aside0.mk (below_step (by repeat (first | (with_reducible first | exact HB.out | apply below_alloc | apply pw_below_drewN | apply below_drew1 | refine below_set ?_ GE108.out) | exact HB.out)) hb); have n2_ := Aside0.mk (hbox); have n3_ := Aside0.mk ((by rw [hg]; exact (below_size (by repeat (first | (with_reducible first | exact HB.out | apply below_alloc | apply pw_below_drewN | apply below_drew1 | refine below_set ?_ GE108.out) | exact HB.out))) : w.heap.size ≤ gb109)); have n4_ := Aside0.mk ((by rw [hg]; exact (below_size (by repeat (first | (with_reducible first | exact HB.out | apply below_alloc | apply pw_below_drewN | apply below_drew1 | refine below_set ?_ GE108.out) | exact HB.out))) : w.heap.size ≤ gb109)); have n5_ := Aside0.mk ((by rw [hg]; exact Nat.ne_of_lt (blk_lt (g := gb108) (o := .cells #[.bool false, .string a0_1, .int .i64 a0_2] 26 (0, 0)) (by refine blk_up ?_; exact BK108.out)) : gb108 ≠ gb109)); have n6_ := Aside0.mk ((by rw [hg]; exact Nat.ne_of_gt (blk_lt (g := gb108) (o := .cells #[.bool false, .string a0_1, .int .i64 a0_2] 26 (0, 0)) (by refine blk_up ?_; exact BK108.out)) : gb109 ≠ gb108)); clear BK108; clear HB; have BK108 := n0_; have HB := n1_; have BK109 := n2_; have GW109 := n3_; have GE109 := n4_; have NB108_109 := n5_; have NB109_108 := n6_; clear n0_ n1_ n2_ n3_ n4_ n5_ n6_; clear hb hbox hg; have hnb16 := NB108_109.out; have hnc16 := NB109_108.out; have hcz17_0 : w15.cell? ⟨gb108, 0, none⟩ = some (.bool false) := (blk_cell BK108.out 0).trans rfl; have hcz17_1 : w15.cell? ⟨gb108, 1, none⟩ = some (.string a0_1) := (blk_cell BK108.out 1).trans rfl; have hcz17_2 : w15.cell? ⟨gb108, 2, none⟩ = some (.int .i64 a0_2) := (blk_cell BK108.out 2).trans rfl; have hfz17_0 := blk_frozen BK108.out 0; have hfz17_1 := blk_frozen BK108.out 1; have hfz17_2 := blk_frozen BK108.out 2; have hcz18_0 : w15.cell? ⟨gb109, 0, none⟩ = some (.bool a1_0) := (blk_cell BK109.out 0).trans rfl; have hcz18_1 : w15.cell? ⟨gb109, 1, none⟩ = some (.string a1_1) := (blk_cell BK109.out 1).trans rfl; have hcz18_2 : w15.cell? ⟨gb109, 2, none⟩ = some (.int .i64 a1_2) := (blk_cell BK109.out 2).trans rfl; have hfz18_0 := blk_frozen BK109.out 0; have hfz18_1 := blk_frozen BK109.out 1; have hfz18_2 := blk_frozen BK109.out 2) | ((with_reducible refine gate_callee (f := 62) rfl ?_); refine goesL_ (some 12) rfl rfl Tryd.func62 (by kernel_rfl) rfl #[.agg #[.bool false, .string a0_1, .int .i64 a0_2], .agg #[.bool a1_0, .string a1_1, .int .i64 a1_2]] rfl (by (try simp only [List.map_toArray, List.map_cons, List.map_nil]); first | done | rfl | (simp only [List.length_drop, List.length_take]; rfl)) ?_; (with_reducible refine (spec_l4Same.calls k false a0_1 a0_2 a1_0 a1_1 a1_2 t110 t111 t112 _ A3.out).mono ?_); rintro e w19 ⟨rfl, hb⟩; refine ⟨_, rfl, ?_⟩; have n0_ := Aside0.mk (blk_below (g := gb108) (o := .cells #[.bool false, .string a0_1, .int .i64 a0_2] 26 (0, 0)) (by refine blk_up ?_; exact BK108.out) hb); have n1_ := Aside0.mk (blk_below (g := gb109) (o := .cells #[.bool a1_0, .string a1_1, .int .i64 a1_2] 26 (0, 0)) (by refine blk_up ?_; exact BK109.out) hb); have n2_ := Aside0.mk (below_step (by repeat (first | (with_reducible first | exact HB.out | apply below_alloc | apply pw_below_drewN | apply below_drew1 | refine below_set ?_ GE108.out | refine below_set ?_ GE109.out) | exact HB.out)) hb); clear BK108; clear BK109; clear HB; have BK108 := n0_; have BK109 := n1_; have HB := n2_; clear n0_ n1_ n2_; (try clear hb); (try clear hb2); (try clear hk); (try clear hi); have hcz20_0 : w19.cell? ⟨gb108, 0, none⟩ = some (.bool false) := (blk_cell BK108.out 0).trans rfl; have hcz20_1 : w19.cell? ⟨gb108, 1, none⟩ = some (.string a0_1) := (blk_cell BK108.out 1).trans rfl; have hcz20_2 : w19.cell? ⟨gb108, 2, none⟩ = some (.int .i64 a0_2) := (blk_cell BK108.out 2).trans rfl; have hfz20_0 := blk_frozen BK108.out 0; have hfz20_1 := blk_frozen BK108.out 1; have hfz20_2 := blk_frozen BK108.out 2; have hcz21_0 : w19.cell? ⟨gb109, 0, none⟩ = some (.bool a1_0) := (blk_cell BK109.out 0).trans rfl; have hcz21_1 : w19.cell? ⟨gb109, 1, none⟩ = some (.string a1_1) := (blk_cell BK109.out 1).trans rfl; have hcz21_2 : w19.cell? ⟨gb109, 2, none⟩ = some (.int .i64 a1_2) := (blk_cell BK109.out 2).trans rfl; have hfz21_0 := blk_frozen BK109.out 0; have hfz21_1 := blk_frozen BK109.out 1; have hfz21_2 := blk_frozen BK109.out 2))
      go_ret
      exact ⟨by first | rfl | (simp [errW_none, errW_some] <;> rfl) | (simp [*, errW_none, errW_some] <;> rfl), by repeat (first | (with_reducible first | exact HB.out | apply below_alloc | apply pw_below_drewN | apply below_drew1 | refine below_set ?_ GE108.out | refine below_set ?_ GE109.out) | exact HB.out)⟩
  · rw [if_neg c4] at H
    have c4b0 : (a0_0 != a1_0) = false := by simpa using c4
    (try (have c4b1 : decide (a0_0 = a1_0) = true := by simpa using c4))
    (try (have c4b2 : (a0_0 == a1_0) = true := by simpa using c4))
    clear c4
    have HC22 := Aside0.mk H
    clear H
    go_enter Tryd.func48, Tryd.ntmps48
    go_upto_if 24 with (first | ((with_reducible refine gate_dst (N := 2) rfl ?_); refine box_event ?hg (N := 2) ?hd (cs := #[.bool a0_0, .string a0_1, .int .i64 a0_2]) (t := 26) ?hr ?_; (case hd => rfl); (case hg => rfl); (case hr => first | (go_simp; done) | (go_simp; rfl)); intro gb108 hg w23 hbox hb; have n0_ := Aside0.mk (below_step (by repeat (first | (with_reducible first | exact HB.out | apply below_alloc | apply pw_below_drewN | apply below_drew1) | exact HB.out)) hb); have n1_ := Aside0.mk (hbox); have n2_ := Aside0.mk ((by rw [hg]; exact (below_size (by repeat (first | (with_reducible first | exact HB.out | apply below_alloc | apply pw_below_drewN | apply below_drew1) | exact HB.out))) : w.heap.size ≤ gb108)); have n3_ := Aside0.mk ((by rw [hg]; exact (below_size (by repeat (first | (with_reducible first | exact HB.out | apply below_alloc | apply pw_below_drewN | apply below_drew1) | exact HB.out))) : w.heap.size ≤ gb108)); clear HB; have HB := n0_; have BK108 := n1_; have GW108 := n2_; have GE108 := n3_; clear n0_ n1_ n2_ n3_; clear hb hbox hg) | ((with_reducible refine gate_dst (N := 3) rfl ?_); refine box_event ?hg (N := 3) ?hd (cs := #[.bool a1_0, .string a1_1, .int .i64 a1_2]) (t := 26) ?hr ?_; (case hd => rfl); (case hg => rfl); (case hr => first | (go_simp; done) | (go_simp; rfl)); intro gb109 hg w24 hbox hb; have n0_ := Aside0.mk (blk_below (g := gb108) (o := .cells #[.bool a0_0, .string a0_1, .int .i64 a0_2] 26 (0, 0)) (by refine blk_up ?_; exact BK108.out) hb); have n1_ := Aside0.mk (below_step (by repeat (first | (with_reducible first | exact HB.out | apply below_alloc | apply pw_below_drewN | apply below_drew1 | refine below_set ?_ GE108.out) | exact HB.out)) hb); have n2_ := Aside0.mk (hbox); have n3_ := Aside0.mk ((by rw [hg]; exact (below_size (by repeat (first | (with_reducible first | exact HB.out | apply below_alloc | apply pw_below_drewN | apply below_drew1 | refine below_set ?_ GE108.out) | exact HB.out))) : w.heap.size ≤ gb109)); have n4_ := Aside0.mk ((by rw [hg]; exact (below_size (by repeat (first | (with_reducible first | exact HB.out | apply below_alloc | apply pw_below_drewN | apply below_drew1 | refine below_set ?_ GE108.out) | exact HB.out))) : w.heap.size ≤ gb109)); have n5_ := Aside0.mk ((by rw [hg]; exact Nat.ne_of_lt (blk_lt (g := gb108) (o := .cells #[.bool a0_0, .string a0_1, .int .i64 a0_2] 26 (0, 0)) (by refine blk_up ?_; exact BK108.out)) : gb108 ≠ gb109)); have n6_ := Aside0.mk ((by rw [hg]; exact Nat.ne_of_gt (blk_lt (g := gb108) (o := .cells #[.bool a0_0, .string a0_1, .int .i64 a0_2] 26 (0, 0)) (by refine blk_up ?_; exact BK108.out)) : gb109 ≠ gb108)); clear BK108; clear HB; have BK108 := n0_; have HB := n1_; have BK109 := n2_; have GW109 := n3_; have GE109 := n4_; have NB108_109 := n5_; have NB109_108 := n6_; clear n0_ n1_ n2_ n3_ n4_ n5_ n6_; clear hb hbox hg; have hnb25 := NB108_109.out; have hnc25 := NB109_108.out; have hcz26_0 : w24.cell? ⟨gb108, 0, none⟩ = some (.bool a0_0) := (blk_cell BK108.out 0).trans rfl; have hcz26_1 : w24.cell? ⟨gb108, 1, none⟩ = some (.string a0_1) := (blk_cell BK108.out 1).trans rfl; have hcz26_2 : w24.cell? ⟨gb108, 2, none⟩ = some (.int .i64 a0_2) := (blk_cell BK108.out 2).trans rfl; have hfz26_0 := blk_frozen BK108.out 0; have hfz26_1 := blk_frozen BK108.out 1; have hfz26_2 := blk_frozen BK108.out 2; have hcz27_0 : w24.cell? ⟨gb109, 0, none⟩ = some (.bool a1_0) := (blk_cell BK109.out 0).trans rfl; have hcz27_1 : w24.cell? ⟨gb109, 1, none⟩ = some (.string a1_1) := (blk_cell BK109.out 1).trans rfl; have hcz27_2 : w24.cell? ⟨gb109, 2, none⟩ = some (.int .i64 a1_2) := (blk_cell BK109.out 2).trans rfl; have hfz27_0 := blk_frozen BK109.out 0; have hfz27_1 := blk_frozen BK109.out 1; have hfz27_2 := blk_frozen BK109.out 2) | ((with_reducible refine gate_callee (f := 62) rfl ?_); refine goesL_ (some 12) rfl rfl Tryd.func62 (by kernel_rfl) rfl #[.agg #[.bool a0_0, .string a0_1, .int .i64 a0_2], .agg #[.bool a1_0, .string a1_1, .int .i64 a1_2]] rfl (by (try simp only [List.map_toArray, List.map_cons, List.map_nil]); first | done | rfl | (simp only [List.length_drop, List.length_take]; rfl)) ?_; (with_reducible refine (spec_l4Same.calls k a0_0 a0_1 a0_2 a1_0 a1_1 a1_2 t110 t111 t112 _ A3.out).mono ?_); rintro e w28 ⟨rfl, hb⟩; refine ⟨_, rfl, ?_⟩; have n0_ := Aside0.mk (blk_below (g := gb108) (o := .cells #[.bool a0_0, .string a0_1, .int .i64 a0_2] 26 (0, 0)) (by refine blk_up ?_; exact BK108.out) hb); have n1_ := Aside0.mk (blk_below (g := gb109) (o := .cells #[.bool a1_0, .string a1_1, .int .i64 a1_2] 26 (0, 0)) (by refine blk_up ?_; exact BK109.out) hb); have n2_ := Aside0.mk (below_step (by repeat (first | (with_reducible first | exact HB.out | apply below_alloc | apply pw_below_drewN | apply below_drew1 | refine below_set ?_ GE108.out | refine below_set ?_ GE109.out) | exact HB.out)) hb); clear BK108; clear BK109; clear HB; have BK108 := n0_; have BK109 := n1_; have HB := n2_; clear n0_ n1_ n2_; (try clear hb); (try clear hb2); (try clear hk); (try clear hi); have hcz29_0 : w28.cell? ⟨gb108, 0, none⟩ = some (.bool a0_0) := (blk_cell BK108.out 0).trans rfl; have hcz29_1 : w28.cell? ⟨gb108, 1, none⟩ = some (.string a0_1) := (blk_cell BK108.out 1).trans rfl; have hcz29_2 : w28.cell? ⟨gb108, 2, none⟩ = some (.int .i64 a0_2) := (blk_cell BK108.out 2).trans rfl; have hfz29_0 := blk_frozen BK108.out 0; have hfz29_1 := blk_frozen BK108.out 1; have hfz29_2 := blk_frozen BK108.out 2; have hcz30_0 : w28.cell? ⟨gb109, 0, none⟩ = some (.bool a1_0) := (blk_cell BK109.out 0).trans rfl; have hcz30_1 : w28.cell? ⟨gb109, 1, none⟩ = some (.string a1_1) := (blk_cell BK109.out 1).trans rfl; have hcz30_2 : w28.cell? ⟨gb109, 2, none⟩ = some (.int .i64 a1_2) := (blk_cell BK109.out 2).trans rfl; have hfz30_0 := blk_frozen BK109.out 0; have hfz30_1 := blk_frozen BK109.out 1; have hfz30_2 := blk_frozen BK109.out 2))
    (try simp only [Act.put, List.setIfInBounds_toArray, List.set_cons_zero, List.set_cons_succ])
    go_cut [8] (fun v8 wc => ∃ (kq : Nat) (x8_21 : Int), v8 = .int .i64 x8_21 ∧ Aside0 (spec_l4Compare.j0 kq t110 t111 x8_21 = some r) ∧ Aside0 (kq ≤ k) ∧ Aside0 (wc.heap[gb108]? = some (.cells #[.bool a0_0, .string a0_1, .int .i64 a0_2] 26 (0, 0))) ∧ Aside0 (wc.heap[gb109]? = some (.cells #[.bool a1_0, .string a1_1, .int .i64 a1_2] 26 (0, 0))) ∧ Aside0 (Below w.heap.size w wc))
    case first =>
      have H := HC22.out
      clear HC22
      by_cases c31 : a0_0 = true
      · subst c31
        have H1 : (spec_l4Compare.j0 k t110 t111 (-1)) = some r := by rw [if_pos rfl] at H; exact H
        clear H
        have H := H1
        clear H1
        have H' := Aside0.mk H
        clear H
        go_wp2
        go_meet
        case rel => exact ⟨_, ((-1)), (by first | rfl | (simp; done) | (simp [*]; done)), H', ⟨by first | omega | exact Nat.le_refl _⟩, ⟨by refine blk_up ?_; exact BK108.out⟩, ⟨by refine blk_up ?_; exact BK109.out⟩, ⟨by repeat (first | (with_reducible first | exact HB.out | apply below_alloc | apply pw_below_drewN | apply below_drew1 | refine below_set ?_ GE108.out | refine below_set ?_ GE109.out) | exact HB.out)⟩⟩
      · replace c31 := Bool.eq_false_iff.mpr c31
        subst c31
        have H1 : (spec_l4Compare.j0 k t110 t111 1) = some r := by rw [if_neg (show ¬ (false = true) by decide)] at H; exact H
        clear H
        have H := H1
        clear H1
        have H' := Aside0.mk H
        clear H
        go_wp2
        go_meet
        case rel => exact ⟨_, (1), (by first | rfl | (simp; done) | (simp [*]; done)), H', ⟨by first | omega | exact Nat.le_refl _⟩, ⟨by refine blk_up ?_; exact BK108.out⟩, ⟨by refine blk_up ?_; exact BK109.out⟩, ⟨by repeat (first | (with_reducible first | exact HB.out | apply below_alloc | apply pw_below_drewN | apply below_drew1 | refine below_set ?_ GE108.out | refine below_set ?_ GE109.out) | exact HB.out)⟩⟩
    case rest =>
      clear HC22
      try clear c1
      try clear c2
      try clear p2
      try clear c3
      try clear c4
      try clear c4b0
      try clear c4b1
      try clear c4b2
      try clear c5
      try clear c6
      try clear c8
      try clear c16
      try clear c25
      try clear c31
      try clear hcz10_0
      try clear hcz10_1
      try clear hcz10_2
      try clear hcz12_0
      try clear hcz12_1
      try clear hcz12_2
      try clear hcz13_0
      try clear hcz13_1
      try clear hcz13_2
      try clear hcz17_0
      try clear hcz17_1
      try clear hcz17_2
      try clear hcz18_0
      try clear hcz18_1
      try clear hcz18_2
      try clear hcz20_0
      try clear hcz20_1
      try clear hcz20_2
      try clear hcz21_0
      try clear hcz21_1
      try clear hcz21_2
      try clear hcz26_0
      try clear hcz26_1
      try clear hcz26_2
      try clear hcz27_0
      try clear hcz27_1
      try clear hcz27_2
      try clear hcz29_0
      try clear hcz29_1
      try clear hcz29_2
      try clear hcz30_0
      try clear hcz30_1
      try clear hcz30_2
      try clear hcz9_0
      try clear hcz9_1
      try clear hcz9_2
      try clear hfz10_0
      try clear hfz10_1
      try clear hfz10_2
      try clear hfz12_0
      try clear hfz12_1
      try clear hfz12_2
      try clear hfz13_0
      try clear hfz13_1
      try clear hfz13_2
      try clear hfz17_0
      try clear hfz17_1
      try clear hfz17_2
      try clear hfz18_0
      try clear hfz18_1
      try clear hfz18_2
      try clear hfz20_0
      try clear hfz20_1
      try clear hfz20_2
      try clear hfz21_0
      try clear hfz21_1
      try clear hfz21_2
      try clear hfz26_0
      try clear hfz26_1
      try clear hfz26_2
      try clear hfz27_0
      try clear hfz27_1
      try clear hfz27_2
      try clear hfz29_0
      try clear hfz29_1
      try clear hfz29_2
      try clear hfz30_0
      try clear hfz30_1
      try clear hfz30_2
      try clear hfz9_0
      try clear hfz9_1
      try clear hfz9_2
      obtain ⟨kq, x8_21, rfl, HA, HJ21, BK108, BK109, HB⟩ := hcut
      cases kq with
      | zero => exact absurd HA.out (by simp [spec_l4Compare.j0])
      | succ kj21 =>
        have H := HA.out
        clear HA
        simp only [spec_l4Compare.j0] at H
        by_cases c32 : (Op.bytesLess t110.toList t111.toList) = true
        · rw [if_pos c32] at H
          have c32b0 : (Op.bytesLess t110.toList t111.toList) = true := c32
          clear c32
          obtain rfl := Option.some.inj H
          go_wp2
          go_ret
          exact ⟨by first | rfl | (simp [errW_none, errW_some] <;> rfl) | (simp [*, errW_none, errW_some] <;> rfl), by repeat (first | (with_reducible first | exact HB.out | apply below_alloc | apply pw_below_drewN | apply below_drew1 | refine below_set ?_ GE108.out | refine below_set ?_ GE109.out) | exact HB.out)⟩
        · rw [if_neg c32] at H
          have c32b0 : (Op.bytesLess t110.toList t111.toList) = false := by simpa using c32
          clear c32
          by_cases c33 : (Op.bytesLess t111.toList t110.toList) = true
          · rw [if_pos c33] at H
            have c33b0 : (Op.bytesLess t111.toList t110.toList) = true := c33
            clear c33
            obtain rfl := Option.some.inj H
            go_wp2
            go_ret
            exact ⟨by first | rfl | (simp [errW_none, errW_some] <;> rfl) | (simp [*, errW_none, errW_some] <;> rfl), by repeat (first | (with_reducible first | exact HB.out | apply below_alloc | apply pw_below_drewN | apply below_drew1 | refine below_set ?_ GE108.out | refine below_set ?_ GE109.out) | exact HB.out)⟩
          · rw [if_neg c33] at H
            have c33b0 : (Op.bytesLess t111.toList t110.toList) = false := by simpa using c33
            clear c33
            obtain rfl := Option.some.inj H
            go_wp2
            go_ret
            exact ⟨by first | rfl | (simp [errW_none, errW_some] <;> rfl) | (simp [*, errW_none, errW_some] <;> rfl), by repeat (first | (with_reducible first | exact HB.out | apply below_alloc | apply pw_below_drewN | apply below_drew1 | refine below_set ?_ GE108.out | refine below_set ?_ GE109.out) | exact HB.out)⟩

end Go.Proofs.YtilmhfkbpnejeaaDoor.L

namespace Go.Proofs.YtilmhfkbpnejeaaDoor.L
open Go.RowKit Go.Proofs.YtilmhfkbpnejeaaDoorW.PrintWords Go.Proofs.YtilmhfkbpnejeaaDoorW.PrintLast Go.Proofs.YtilmhfkbpnejeaaDoorW.PrintMore
attribute [local go_sem] max2_int min2_int max_two min_two max_three min_three max_four min_four   -- for this text's walks alone
attribute [local go_sem] Go.Proofs.YtilmhfkbpnejeaaDoor.H.str_leq Go.Proofs.YtilmhfkbpnejeaaDoor.H.str_gtr Go.Proofs.YtilmhfkbpnejeaaDoor.H.str_geq
set_option linter.unusedVariables false
set_option linter.unusedSimpArgs false

/-! ### spec_CompareDec: function 12 -/
def spec_CompareDec.f (k : Nat) (a0_0 : Bool) (a0_1 : ByteArray) (a0_2 : Int) (a1_0 : Bool) (a1_1 : ByteArray) (a1_2 : Int) : Option (Int) := (spec_DecOk.f k a0_0 a0_1 a0_2).bind fun t115 => (if t115 = true then ((spec_DecOk.f k a1_0 a1_1 a1_2).bind fun t116 => (if t116 = true then ((spec_l4Compare.f k a0_0 a0_1 a0_2 a1_0 a1_1 a1_2).bind fun t117 => (some t117)) else (some 2))) else (some 2))
theorem spec_CompareDec.mono : ∀ a0 a1 a2 a3 a4 a5 k, LeO (spec_CompareDec.f k a0 a1 a2 a3 a4 a5) (spec_CompareDec.f (k + 1) a0 a1 a2 a3 a4 a5) := by
  intro a0 a1 a2 a3 a4 a5 k
  unfold spec_CompareDec.f
  repeat' first
      | (with_reducible exact spec_DecOk.mono _ _ _ _)
      | (with_reducible exact spec_l4Compare.mono _ _ _ _ _ _ _)
      | (with_reducible exact LeO.refl _)
      | (with_reducible exact LeO.none _)
      | (with_reducible refine LeO.ite ?_ ?_)
      | (with_reducible refine LeO.bind ?_ (fun _ => ?_))
      | exact spec_DecOk.mono _ _ _ _
      | exact spec_l4Compare.mono _ _ _ _ _ _ _
      | exact LeO.none _
      | refine LeO.ite ?_ ?_
      | refine LeO.bind ?_ (fun _ => ?_)
set_option maxHeartbeats 8000000 in
set_option maxRecDepth 100000 in
theorem spec_CompareDec.calls (k : Nat) (a0_0 : Bool) (a0_1 : ByteArray) (a0_2 : Int) (a1_0 : Bool) (a1_1 : ByteArray) (a1_2 : Int) (r : Int) (w : World) (h : spec_CompareDec.f k a0_0 a0_1 a0_2 a1_0 a1_1 a1_2 = some r) :
    Calls Tryd.prog 12 #[.agg #[.bool a0_0, .string a0_1, .int .i64 a0_2], .agg #[.bool a1_0, .string a1_1, .int .i64 a1_2]] w fun e w' => e = .returned (.int .i64 r) ∧ Below w.heap.size w w' := by
  have hu26 := Tryd.underlying26
  have HB := Aside0.mk (Below.refl w.heap.size w)
  have H : ((spec_DecOk.f k a0_0 a0_1 a0_2).bind fun t115 => (if t115 = true then ((spec_DecOk.f k a1_0 a1_1 a1_2).bind fun t116 => (if t116 = true then ((spec_l4Compare.f k a0_0 a0_1 a0_2 a1_0 a1_1 a1_2).bind fun t117 => (some t117)) else (some 2))) else (some 2))) = some r := h
  clear h
  replace H := Option.bind_eq_some_iff.mp H
  obtain ⟨t115, A30, H⟩ := H
  replace H : (if t115 = true then ((spec_DecOk.f k a1_0 a1_1 a1_2).bind fun t116 => (if t116 = true then ((spec_l4Compare.f k a0_0 a0_1 a0_2 a1_0 a1_1 a1_2).bind fun t117 => (some t117)) else (some 2))) else (some 2)) = some r := H
  have A3 := Aside0.mk A30
  clear A30
  by_cases c4 : t115 = true
  · subst c4
    have H1 : ((spec_DecOk.f k a1_0 a1_1 a1_2).bind fun t116 => (if t116 = true then ((spec_l4Compare.f k a0_0 a0_1 a0_2 a1_0 a1_1 a1_2).bind fun t117 => (some t117)) else (some 2))) = some r := by rw [if_pos rfl] at H; exact H
    clear H
    have H := H1
    clear H1
    replace H := Option.bind_eq_some_iff.mp H
    obtain ⟨t116, A50, H⟩ := H
    replace H : (if t116 = true then ((spec_l4Compare.f k a0_0 a0_1 a0_2 a1_0 a1_1 a1_2).bind fun t117 => (some t117)) else (some 2)) = some r := H
    have A5 := Aside0.mk A50
    clear A50
    by_cases c6 : t116 = true
    · subst c6
      have H1 : ((spec_l4Compare.f k a0_0 a0_1 a0_2 a1_0 a1_1 a1_2).bind fun t117 => (some t117)) = some r := by rw [if_pos rfl] at H; exact H
      clear H
      have H := H1
      clear H1
      replace H := Option.bind_eq_some_iff.mp H
      obtain ⟨t117, A70, H⟩ := H
      replace H : (some t117) = some r := H
      have A7 := Aside0.mk A70
      clear A70
      obtain rfl := Option.some.inj H
      go_enter Tryd.func12, Tryd.ntmps12
      go_wp2_with (first | ((with_reducible refine gate_dst (N := 2) rfl ?_); refine box_event ?hg (N := 2) ?hd (cs := #[.bool a0_0, .string a0_1, .int .i64 a0_2]) (t := 26) ?hr ?_; (case hd => rfl); (case hg => rfl); (case hr => first | (go_simp; done) | (go_simp; rfl)); intro gb113 hg w8 hbox hb; have n0_ := Aside0.mk (below_step (by repeat (first | (with_reducible first | exact HB.out | apply below_alloc | apply pw_below_drewN | apply below_drew1) | exact HB.out)) hb); have n1_ := Aside0.mk (hbox); have n2_ := Aside0.mk ((by rw [hg]; exact (below_size (by repeat (first | (with_reducible first | exact HB.out | apply below_alloc | apply pw_below_drewN | apply below_drew1) | exact HB.out))) : w.heap.size ≤ gb113)); have n3_ := Aside0.mk ((by rw [hg]; exact (below_size (by repeat (first | (with_reducible first | exact HB.out | apply below_alloc | apply pw_below_drewN | apply below_drew1) | exact HB.out))) : w.heap.size ≤ gb113)); clear HB; have HB := n0_; have BK113 := n1_; have GW113 := n2_; have GE113 := n3_; clear n0_ n1_ n2_ n3_; clear hb hbox hg) | ((with_reducible refine gate_dst (N := 3) rfl ?_); refine box_event ?hg (N := 3) ?hd (cs := #[.bool a1_0, .string a1_1, .int .i64 a1_2]) (t := 26) ?hr ?_; (case hd => rfl); (case hg => rfl); (case hr => first | (go_simp; done) | (go_simp; rfl)); intro gb114 hg w9 hbox hb; have n0_ := Aside0.mk (blk_below (g := gb113) (o := .cells #[.bool a0_0, .string a0_1, .int .i64 a0_2] 26 (0, 0)) (by refine blk_up ?_; exact BK113.out) hb); have n1_ := Aside0.mk (below_step (by repeat (first | (with_reducible first | exact HB.out | apply below_alloc | apply pw_below_drewN | apply below_drew1 | refine below_set ?_ GE113.out) | exact HB.out)) hb); have n2_ := Aside0.mk (hbox); have n3_ := Aside0.mk ((by rw [hg]; exact (below_size (by repeat (first | (with_reducible first | exact HB.out | apply below_alloc | apply pw_below_drewN | apply below_drew1 | refine below_set ?_ GE113.out) | exact HB.out))) : w.heap.size ≤ gb114)); have n4_ := Aside0.mk ((by rw [hg]; exact (below_size (by repeat (first | (with_reducible first | exact HB.out | apply below_alloc | apply pw_below_drewN | apply below_drew1 | refine below_set ?_ GE113.out) | exact HB.out))) : w.heap.size ≤ gb114)); have n5_ := Aside0.mk ((by rw [hg]; exact Nat.ne_of_lt (blk_lt (g := gb113) (o := .cells #[.bool a0_0, .string a0_1, .int .i64 a0_2] 26 (0, 0)) (by refine blk_up ?_; exact BK113.out)) : gb113 ≠ gb114)); have n6_ := Aside0.mk ((by rw [hg]; exact Nat.ne_of_gt (blk_lt (g := gb113) (o := .cells #[.bool a0_0, .string a0_1, .int .i64 a0_2] 26 (0, 0)) (by refine blk_up ?_; exact BK113.out)) : gb114 ≠ gb113)); clear BK113; clear HB; have BK113 := n0_; have HB := n1_; have BK114 := n2_; have GW114 := n3_; have GE114 := n4_; have NB113_114 := n5_; have NB114_113 := n6_; clear n0_ n1_ n2_ n3_ n4_ n5_ n6_; clear hb hbox hg; have hnb10 := NB113_114.out; have hnc10 := NB114_113.out; have hcz11_0 : w9.cell? ⟨gb113, 0, none⟩ = some (.bool a0_0) := (blk_cell BK113.out 0).trans rfl; have hcz11_1 : w9.cell? ⟨gb113, 1, none⟩ = some (.string a0_1) := (blk_cell BK113.out 1).trans rfl; have hcz11_2 : w9.cell? ⟨gb113, 2, none⟩ = some (.int .i64 a0_2) := (blk_cell BK113.out 2).trans rfl; have hfz11_0 := blk_frozen BK113.out 0; have hfz11_1 := blk_frozen BK113.out 1; have hfz11_2 := blk_frozen BK113.out 2) | ((with_reducible refine gate_callee (f := 47) rfl ?_); refine goesL_ (some 6) rfl rfl Tryd.func47 (by kernel_rfl) rfl #[.agg #[.bool a0_0, .string a0_1, .int .i64 a0_2]] rfl (by (try simp only [List.map_toArray, List.map_cons, List.map_nil]); first | done | rfl | (simp only [List.length_drop, List.length_take]; rfl)) ?_; (with_reducible refine (spec_DecOk.calls k a0_0 a0_1 a0_2 true _ A3.out).mono ?_); rintro e w12 ⟨rfl, hb⟩; refine ⟨_, rfl, ?_⟩; have n0_ := Aside0.mk (blk_below (g := gb113) (o := .cells #[.bool a0_0, .string a0_1, .int .i64 a0_2] 26 (0, 0)) (by refine blk_up ?_; exact BK113.out) hb); have n1_ := Aside0.mk (blk_below (g := gb114) (o := .cells #[.bool a1_0, .string a1_1, .int .i64 a1_2] 26 (0, 0)) (by refine blk_up ?_; exact BK114.out) hb); have n2_ := Aside0.mk (below_step (by repeat (first | (with_reducible first | exact HB.out | apply below_alloc | apply pw_below_drewN | apply below_drew1 | refine below_set ?_ GE113.out | refine below_set ?_ GE114.out) | exact HB.out)) hb); clear BK113; clear BK114; clear HB; have BK113 := n0_; have BK114 := n1_; have HB := n2_; clear n0_ n1_ n2_; (try clear hb); (try clear hb2); (try clear hk); (try clear hi); have hcz13_0 : w12.cell? ⟨gb114, 0, none⟩ = some (.bool a1_0) := (blk_cell BK114.out 0).trans rfl; have hcz13_1 : w12.cell? ⟨gb114, 1, none⟩ = some (.string a1_1) := (blk_cell BK114.out 1).trans rfl; have hcz13_2 : w12.cell? ⟨gb114, 2, none⟩ = some (.int .i64 a1_2) := (blk_cell BK114.out 2).trans rfl; have hfz13_0 := blk_frozen BK114.out 0; have hfz13_1 := blk_frozen BK114.out 1; have hfz13_2 := blk_frozen BK114.out 2) | (go_at_call 47; (with_reducible refine (spec_DecOk.calls k a1_0 a1_1 a1_2 true _ A5.out).mono ?_); rintro e w14 ⟨rfl, hb⟩; have n0_ := Aside0.mk (blk_below (g := gb113) (o := .cells #[.bool a0_0, .string a0_1, .int .i64 a0_2] 26 (0, 0)) (by refine blk_up ?_; exact BK113.out) hb); have n1_ := Aside0.mk (blk_below (g := gb114) (o := .cells #[.bool a1_0, .string a1_1, .int .i64 a1_2] 26 (0, 0)) (by refine blk_up ?_; exact BK114.out) hb); have n2_ := Aside0.mk (below_step (by repeat (first | (with_reducible first | exact HB.out | apply below_alloc | apply pw_below_drewN | apply below_drew1 | refine below_set ?_ GE113.out | refine below_set ?_ GE114.out) | exact HB.out)) hb); clear BK113; clear BK114; clear HB; have BK113 := n0_; have BK114 := n1_; have HB := n2_; clear n0_ n1_ n2_; (try clear hb); (try clear hb2); (try clear hk); (try clear hi); have hcz15_0 : w14.cell? ⟨gb113, 0, none⟩ = some (.bool a0_0) := (blk_cell BK113.out 0).trans rfl; have hcz15_1 : w14.cell? ⟨gb113, 1, none⟩ = some (.string a0_1) := (blk_cell BK113.out 1).trans rfl; have hcz15_2 : w14.cell? ⟨gb113, 2, none⟩ = some (.int .i64 a0_2) := (blk_cell BK113.out 2).trans rfl; have hfz15_0 := blk_frozen BK113.out 0; have hfz15_1 := blk_frozen BK113.out 1; have hfz15_2 := blk_frozen BK113.out 2; have hcz16_0 : w14.cell? ⟨gb114, 0, none⟩ = some (.bool a1_0) := (blk_cell BK114.out 0).trans rfl; have hcz16_1 : w14.cell? ⟨gb114, 1, none⟩ = some (.string a1_1) := (blk_cell BK114.out 1).trans rfl; have hcz16_2 : w14.cell? ⟨gb114, 2, none⟩ = some (.int .i64 a1_2) := (blk_cell BK114.out 2).trans rfl; have hfz16_0 := blk_frozen BK114.out 0; have hfz16_1 := blk_frozen BK114.out 1; have hfz16_2 := blk_frozen BK114.out 2) | ((with_reducible refine gate_callee (f := 48) rfl ?_); refine goesL_ (some 15) rfl rfl Tryd.func48 (by kernel_rfl) rfl #[.agg #[.bool a0_0, .string a0_1, .int .i64 a0_2], .agg #[.bool a1_0, .string a1_1, .int .i64 a1_2]] rfl (by (try simp only [List.map_toArray, List.map_cons, List.map_nil]); first | done | rfl | (simp only [List.length_drop, List.length_take]; rfl)) ?_; (with_reducible refine (spec_l4Compare.calls k a0_0 a0_1 a0_2 a1_0 a1_1 a1_2 t117 _ A7.out).mono ?_); rintro e w17 ⟨rfl, hb⟩; refine ⟨_, rfl, ?_⟩; have n0_ := Aside0.mk (blk_below (g := gb113) (o := .cells #[.bool a0_0, .string a0_1, .int .i64 a0_2] 26 (0, 0)) (by refine blk_up ?_; exact BK113.out) hb); have n1_ := Aside0.mk (blk_below (g := gb114) (o := .cells #[.bool a1_0, .string a1_1, .int .i64 a1_2] 26 (0, 0)) (by refine blk_up ?_; exact BK114.out) hb); have n2_ := Aside0.mk (below_step (by repeat (first | (with_reducible first | exact HB.out | apply below_alloc | apply pw_below_drewN | apply below_drew1 | refine below_set ?_ GE113.out | refine below_set ?_ GE114.out) | exact HB.out)) hb); clear BK113; clear BK114; clear HB; have BK113 := n0_; have BK114 := n1_; have HB := n2_; clear n0_ n1_ n2_; (try clear hb); (try clear hb2); (try clear hk); (try clear hi)))
      go_ret
      exact ⟨by first | rfl | (simp [errW_none, errW_some] <;> rfl) | (simp [*, errW_none, errW_some] <;> rfl), by repeat (first | (with_reducible first | exact HB.out | apply below_alloc | apply pw_below_drewN | apply below_drew1 | refine below_set ?_ GE113.out | refine below_set ?_ GE114.out) | exact HB.out)⟩
    · replace c6 := Bool.eq_false_iff.mpr c6
      subst c6
      have H1 : (some 2) = some r := by rw [if_neg (show ¬ (false = true) by decide)] at H; exact H
      clear H
      have H := H1
      clear H1
      obtain rfl := Option.some.inj H
      go_enter Tryd.func12, Tryd.ntmps12
      go_wp2_with (first | ((with_reducible refine gate_dst (N := 2) rfl ?_); refine box_event ?hg (N := 2) ?hd (cs := #[.bool a0_0, .string a0_1, .int .i64 a0_2]) (t := 26) ?hr ?_; (case hd => rfl); (case hg => rfl); (case hr => first | (go_simp; done) | (go_simp; rfl)); intro gb113 hg w18 hbox hb; have n0_ := Aside0.mk (below_step (by repeat (first | (with_reducible first | exact HB.out | apply below_alloc | apply pw_below_drewN | apply below_drew1) | exact HB.out)) hb); have n1_ := Aside0.mk (hbox); have n2_ := Aside0.mk ((by rw [hg]; exact (below_size (by repeat (first | (with_reducible first | exact HB.out | apply below_alloc | apply pw_below_drewN | apply below_drew1) | exact HB.out))) : w.heap.size ≤ gb113)); have n3_ := Aside0.mk ((by rw [hg]; exact (below_size (by repeat (first | (with_reducible first | exact HB.out | apply below_alloc | apply pw_below_drewN | apply below_drew1) | exact HB.out))) : w.heap.size ≤ gb113)); clear HB; have HB := n0_; have BK113 := n1_; have GW113 := n2_; have GE113 := n3_; clear n0_ n1_ n2_ n3_; clear hb hbox hg) | ((with_reducible refine gate_dst (N := 3) rfl ?_); refine box_event ?hg (N := 3) ?hd (cs := #[.bool a1_0, .string a1_1, .int .i64 a1_2]) (t := 26) ?hr ?_; (case hd => rfl); (case hg => rfl); (case hr => first | (go_simp; done) | (go_simp; rfl)); intro gb114 hg w19 hbox hb; have n0_ := Aside0.mk (blk_below (g := gb113) (o := .cells #[.bool a0_0, .string a0_1, .int .i64 a0_2] 26 (0, 0)) (by refine blk_up ?_; exact BK113.out) hb); have n1_ := Aside0.mk (below_step (by repeat (first | (with_reducible first | exact HB.out | apply below_alloc | apply pw_below_drewN | apply below_drew1 | refine below_set ?_ GE113.out) | exact HB.out)) hb); have n2_ := Aside0.mk (hbox); have n3_ := Aside0.mk ((by rw [hg]; exact (below_size (by repeat (first | (with_reducible first | exact HB.out | apply below_alloc | apply pw_below_drewN | apply below_drew1 | refine below_set ?_ GE113.out) | exact HB.out))) : w.heap.size ≤ gb114)); have n4_ := Aside0.mk ((by rw [hg]; exact (below_size (by repeat (first | (with_reducible first | exact HB.out | apply below_alloc | apply pw_below_drewN | apply below_drew1 | refine below_set ?_ GE113.out) | exact HB.out))) : w.heap.size ≤ gb114)); have n5_ := Aside0.mk ((by rw [hg]; exact Nat.ne_of_lt (blk_lt (g := gb113) (o := .cells #[.bool a0_0, .string a0_1, .int .i64 a0_2] 26 (0, 0)) (by refine blk_up ?_; exact BK113.out)) : gb113 ≠ gb114)); have n6_ := Aside0.mk ((by rw [hg]; exact Nat.ne_of_gt (blk_lt (g := gb113) (o := .cells #[.bool a0_0, .string a0_1, .int .i64 a0_2] 26 (0, 0)) (by refine blk_up ?_; exact BK113.out)) : gb114 ≠ gb113)); clear BK113; clear HB; have BK113 := n0_; have HB := n1_; have BK114 := n2_; have GW114 := n3_; have GE114 := n4_; have NB113_114 := n5_; have NB114_113 := n6_; clear n0_ n1_ n2_ n3_ n4_ n5_ n6_; clear hb hbox hg; have hnb20 := NB113_114.out; have hnc20 := NB114_113.out; have hcz21_0 : w19.cell? ⟨gb113, 0, none⟩ = some (.bool a0_0) := (blk_cell BK113.out 0).trans rfl; have hcz21_1 : w19.cell? ⟨gb113, 1, none⟩ = some (.string a0_1) := (blk_cell BK113.out 1).trans rfl; have hcz21_2 : w19.cell? ⟨gb113, 2, none⟩ = some (.int .i64 a0_2) := (blk_cell BK113.out 2).trans rfl; have hfz21_0 := blk_frozen BK113.out 0; have hfz21_1 := blk_frozen BK113.out 1; have hfz21_2 := blk_frozen BK113.out 2) | ((with_reducible refine gate_callee (f := 47) rfl ?_); refine goesL_ (some 6) rfl rfl Tryd.func47 (by kernel_rfl) rfl #[.agg #[.bool a0_0, .string a0_1, .int .i64 a0_2]] rfl (by (try simp only [List.map_toArray, List.map_cons, List.map_nil]); first | done | rfl | (simp only [List.length_drop, List.length_take]; rfl)) ?_; (with_reducible refine (spec_DecOk.calls k a0_0 a0_1 a0_2 true _ A3.out).mono ?_); rintro e w22 ⟨rfl, hb⟩; refine ⟨_, rfl, ?_⟩; have n0_ := Aside0.mk (blk_below (g := gb113) (o := .cells #[.bool a0_0, .string a0_1, .int .i64 a0_2] 26 (0, 0)) (by refine blk_up ?_; exact BK113.out) hb); have n1_ := Aside0.mk (blk_below (g := gb114) (o := .cells #[.bool a1_0, .string a1_1, .int .i64 a1_2] 26 (0, 0)) (by refine blk_up ?_; exact BK114.out) hb); have n2_ := Aside0.mk (below_step (by repeat (first | (with_reducible first | exact HB.out | apply below_alloc | apply pw_below_drewN | apply below_drew1 | refine below_set ?_ GE113.out | refine below_set ?_ GE114.out) | exact HB.out)) hb); clear BK113; clear BK114; clear HB; have BK113 := n0_; have BK114 := n1_; have HB := n2_; clear n0_ n1_ n2_; (try clear hb); (try clear hb2); (try clear hk); (try clear hi); have hcz23_0 : w22.cell? ⟨gb114, 0, none⟩ = some (.bool a1_0) := (blk_cell BK114.out 0).trans rfl; have hcz23_1 : w22.cell? ⟨gb114, 1, none⟩ = some (.string a1_1) := (blk_cell BK114.out 1).trans rfl; have hcz23_2 : w22.cell? ⟨gb114, 2, none⟩ = some (.int .i64 a1_2) := (blk_cell BK114.out 2).trans rfl; have hfz23_0 := blk_frozen BK114.out 0; have hfz23_1 := blk_frozen BK114.out 1; have hfz23_2 := blk_frozen BK114.out 2) | (go_at_call 47; (with_reducible refine (spec_DecOk.calls k a1_0 a1_1 a1_2 false _ A5.out).mono ?_); rintro e w24 ⟨rfl, hb⟩; have n0_ := Aside0.mk (blk_below (g := gb113) (o := .cells #[.bool a0_0, .string a0_1, .int .i64 a0_2] 26 (0, 0)) (by refine blk_up ?_; exact BK113.out) hb); have n1_ := Aside0.mk (blk_below (g := gb114) (o := .cells #[.bool a1_0, .string a1_1, .int .i64 a1_2] 26 (0, 0)) (by refine blk_up ?_; exact BK114.out) hb); have n2_ := Aside0.mk (below_step (by repeat (first | (with_reducible first | exact HB.out | apply below_alloc | apply pw_below_drewN | apply below_drew1 | refine below_set ?_ GE113.out | refine below_set ?_ GE114.out) | exact HB.out)) hb); clear BK113; clear BK114; clear HB; have BK113 := n0_; have BK114 := n1_; have HB := n2_; clear n0_ n1_ n2_; (try clear hb); (try clear hb2); (try clear hk); (try clear hi)))
      go_ret
      exact ⟨by first | rfl | (simp [errW_none, errW_some] <;> rfl) | (simp [*, errW_none, errW_some] <;> rfl), by repeat (first | (with_reducible first | exact HB.out | apply below_alloc | apply pw_below_drewN | apply below_drew1 | refine below_set ?_ GE113.out | refine below_set ?_ GE114.out) | exact HB.out)⟩
  · replace c4 := Bool.eq_false_iff.mpr c4
    subst c4
    have H1 : (some 2) = some r := by rw [if_neg (show ¬ (false = true) by decide)] at H; exact H
    clear H
    have H := H1
    clear H1
    obtain rfl := Option.some.inj H
    go_enter Tryd.func12, Tryd.ntmps12
    go_wp2_with (first | ((with_reducible refine gate_dst (N := 2) rfl ?_); refine box_event ?hg (N := 2) ?hd (cs := #[.bool a0_0, .string a0_1, .int .i64 a0_2]) (t := 26) ?hr ?_; (case hd => rfl); (case hg => rfl); (case hr => first | (go_simp; done) | (go_simp; rfl)); intro gb113 hg w25 hbox hb; have n0_ := Aside0.mk (below_step (by repeat (first | (with_reducible first | exact HB.out | apply below_alloc | apply pw_below_drewN | apply below_drew1) | exact HB.out)) hb); have n1_ := Aside0.mk (hbox); have n2_ := Aside0.mk ((by rw [hg]; exact (below_size (by repeat (first | (with_reducible first | exact HB.out | apply below_alloc | apply pw_below_drewN | apply below_drew1) | exact HB.out))) : w.heap.size ≤ gb113)); have n3_ := Aside0.mk ((by rw [hg]; exact (below_size (by repeat (first | (with_reducible first | exact HB.out | apply below_alloc | apply pw_below_drewN | apply below_drew1) | exact HB.out))) : w.heap.size ≤ gb113)); clear HB; have HB := n0_; have BK113 := n1_; have GW113 := n2_; have GE113 := n3_; clear n0_ n1_ n2_ n3_; clear hb hbox hg) | ((with_reducible refine gate_dst (N := 3) rfl ?_); refine box_event ?hg (N := 3) ?hd (cs := #[.bool a1_0, .string a1_1, .int .i64 a1_2]) (t := 26) ?hr ?_; (case hd => rfl); (case hg => rfl); (case hr => first | (go_simp; done) | (go_simp; rfl)); intro gb114 hg w26 hbox hb; have n0_ := Aside0.mk (blk_below (g := gb113) (o := .cells #[.bool a0_0, .string a0_1, .int .i64 a0_2] 26 (0, 0)) (by refine blk_up ?_; exact BK113.out) hb); have n1_ := Aside0.mk (below_step (by repeat (first | (with_reducible first | exact HB.out | apply below_alloc | apply pw_below_drewN | apply below_drew1 | refine below_set ?_ GE113.out) | exact HB.out)) hb); have n2_ := Aside0.mk (hbox); have n3_ := Aside0.mk ((by rw [hg]; exact (below_size (by repeat (first | (with_reducible first | exact HB.out | apply below_alloc | apply pw_below_drewN | apply below_drew1 | refine below_set ?_ GE113.out) | exact HB.out))) : w.heap.size ≤ gb114)); have n4_ := Aside0.mk ((by rw [hg]; exact (below_size (by repeat (first | (with_reducible first | exact HB.out | apply below_alloc | apply pw_below_drewN | apply below_drew1 | refine below_set ?_ GE113.out) | exact HB.out))) : w.heap.size ≤ gb114)); have n5_ := Aside0.mk ((by rw [hg]; exact Nat.ne_of_lt (blk_lt (g := gb113) (o := .cells #[.bool a0_0, .string a0_1, .int .i64 a0_2] 26 (0, 0)) (by refine blk_up ?_; exact BK113.out)) : gb113 ≠ gb114)); have n6_ := Aside0.mk ((by rw [hg]; exact Nat.ne_of_gt (blk_lt (g := gb113) (o := .cells #[.bool a0_0, .string a0_1, .int .i64 a0_2] 26 (0, 0)) (by refine blk_up ?_; exact BK113.out)) : gb114 ≠ gb113)); clear BK113; clear HB; have BK113 := n0_; have HB := n1_; have BK114 := n2_; have GW114 := n3_; have GE114 := n4_; have NB113_114 := n5_; have NB114_113 := n6_; clear n0_ n1_ n2_ n3_ n4_ n5_ n6_; clear hb hbox hg; have hnb27 := NB113_114.out; have hnc27 := NB114_113.out; have hcz28_0 : w26.cell? ⟨gb113, 0, none⟩ = some (.bool a0_0) := (blk_cell BK113.out 0).trans rfl; have hcz28_1 : w26.cell? ⟨gb113, 1, none⟩ = some (.string a0_1) := (blk_cell BK113.out 1).trans rfl; have hcz28_2 : w26.cell? ⟨gb113, 2, none⟩ = some (.int .i64 a0_2) := (blk_cell BK113.out 2).trans rfl; have hfz28_0 := blk_frozen BK113.out 0; have hfz28_1 := blk_frozen BK113.out 1; have hfz28_2 := blk_frozen BK113.out 2) | ((with_reducible refine gate_callee (f := 47) rfl ?_); refine goesL_ (some 6) rfl rfl Tryd.func47 (by kernel_rfl) rfl #[.agg #[.bool a0_0, .string a0_1, .int .i64 a0_2]] rfl (by (try simp only [List.map_toArray, List.map_cons, List.map_nil]); first | done | rfl | (simp only [List.length_drop, List.length_take]; rfl)) ?_; (with_reducible refine (spec_DecOk.calls k a0_0 a0_1 a0_2 false _ A3.out).mono ?_); rintro e w29 ⟨rfl, hb⟩; refine ⟨_, rfl, ?_⟩; have n0_ := Aside0.mk (blk_below (g := gb113) (o := .cells #[.bool a0_0, .string a0_1, .int .i64 a0_2] 26 (0, 0)) (by refine blk_up ?_; exact BK113.out) hb); have n1_ := Aside0.mk (blk_below (g := gb114) (o := .cells #[.bool a1_0, .string a1_1, .int .i64 a1_2] 26 (0, 0)) (by refine blk_up ?_; exact BK114.out) hb); have n2_ := Aside0.mk (below_step (by repeat (first | (with_reducible first | exact HB.out | apply below_alloc | apply pw_below_drewN | apply below_drew1 | refine below_set ?_ GE113.out | refine below_set ?_ GE114.out) | exact HB.out)) hb); clear BK113; clear BK114; clear HB; have BK113 := n0_; have BK114 := n1_; have HB := n2_; clear n0_ n1_ n2_; (try clear hb); (try clear hb2); (try clear hk); (try clear hi)))
    go_ret
    exact ⟨by first | rfl | (simp [errW_none, errW_some] <;> rfl) | (simp [*, errW_none, errW_some] <;> rfl), by repeat (first | (with_reducible first | exact HB.out | apply below_alloc | apply pw_below_drewN | apply below_drew1 | refine below_set ?_ GE113.out | refine below_set ?_ GE114.out) | exact HB.out)⟩

end Go.Proofs.YtilmhfkbpnejeaaDoor.L

namespace Go.Proofs.YtilmhfkbpnejeaaDoor.Pure
open Go.RowKit Go.Proofs.YtilmhfkbpnejeaaDoor.L Go.Proofs.YtilmhfkbpnejeaaDoorW.PrintWords Go.Proofs.YtilmhfkbpnejeaaDoorW.PrintLast Go.Proofs.YtilmhfkbpnejeaaDoorW.PrintMore
set_option linter.unusedVariables false
set_option linter.unusedSimpArgs false

theorem ba_ext {a b : ByteArray} (h : a.data.toList = b.data.toList) : a = b := by
  cases a; cases b; simp only [ByteArray.mk.injEq]; exact Array.toList_inj.mp h
theorem ba_app (a b : ByteArray) : (a ++ b).data.toList = a.data.toList ++ b.data.toList := by
  rw [ByteArray.data_append, Array.toList_append]
theorem sz (a : ByteArray) : a.size = a.data.toList.length := (data_length a).symm
theorem w64 {n : Int} (h : -9223372036854775808 ≤ n) (h' : n ≤ 9223372036854775807) : wrap64 n = n := by unfold wrap64; omega
theorem bt_nat (s : ByteArray) (i : Nat) (h : i < s.data.toList.length) : bt s (i : Int) = ((s.data.toList[i]).toNat : Int) := by
  have h' : i < s.size := by rw [sz]; exact h
  unfold bt
  rw [dif_pos (by simpa using h')]
  simp only [Int.toNat_natCast]
  rfl
theorem i64_of {n : Int} (h : (Lit.int .i64 n).wf = true) : -9223372036854775808 ≤ n ∧ n ≤ 9223372036854775807 := by
  simpa [Lit.wf, IntKind.min, IntKind.max, IntKind.signed, IntKind.bits] using h

def digB (b : UInt8) : Bool := decide (48 ≤ b.toNat) && decide (b.toNat ≤ 57)
theorem digit_f (b : UInt8) : spec_l1Digit.f (b.toNat : Int) = some (digB b) := by
  unfold spec_l1Digit.f digB
  by_cases h : (b.toNat : Int) ≥ 48
  · have h' : 48 ≤ b.toNat := by omega
    simp only [if_pos h, h', decide_true, Bool.true_and]
    congr 1
    simp only [decide_eq_decide]; omega
  · have h' : ¬ 48 ≤ b.toNat := by omega
    simp only [if_neg h, h', decide_false, Bool.false_and]

theorem l4Digits_l0 (s : ByteArray) (hs : s.data.toList.length ≤ 9223372036854775806) : ∀ (n i : Nat), i + n = s.data.toList.length →
    Ev (fun k => spec_l4Digits.l0 k s (i : Int)) ((s.data.toList.drop i).all digB) := by
  intro n
  induction n with
  | zero =>
    intro i hi
    refine Ev.step (f := fun _ => some true) (fun k => ?_) ?_
    · unfold spec_l4Digits.l0
      rw [if_neg (by rw [sz]; omega)]
    · rw [List.drop_of_length_le (by omega)]; exact Ev.now _
  | succ n ih =>
    intro i hi
    have hlt : i < s.data.toList.length := by omega
    have e : spec_l1Digit.f (bt s (i : Int)) = some (digB (s.data.toList[i])) := by rw [bt_nat s i hlt]; exact digit_f _
    have hd : s.data.toList.drop i = s.data.toList[i] :: s.data.toList.drop (i + 1) := List.drop_eq_getElem_cons hlt
    have w : wrap64 ((i : Int) + 1) = ((i + 1 : Nat) : Int) := by rw [w64] <;> omega
    by_cases c : digB (s.data.toList[i]) = true
    · refine Ev.step (f := fun k => spec_l4Digits.l0 k s ((i + 1 : Nat) : Int)) (fun k => ?_) ?_
      · conv => lhs; unfold spec_l4Digits.l0
        rw [if_pos (by rw [sz]; omega), if_pos (by omega), e]
        simp only [Option.bind_some, if_pos c, w]
      · rw [hd, List.all_cons, c, Bool.true_and]; exact ih (i + 1) (by omega)
    · refine Ev.step (f := fun _ => some false) (fun k => ?_) ?_
      · conv => lhs; unfold spec_l4Digits.l0
        rw [if_pos (by rw [sz]; omega), if_pos (by omega), e]
        simp only [Option.bind_some, if_neg c]
      · rw [hd, List.all_cons]
        rw [Bool.not_eq_true] at c
        rw [c, Bool.false_and]; exact Ev.now _
theorem l4Digits (s : ByteArray) (hs : s.data.toList.length ≤ 9223372036854775806) : Ev (fun k => spec_l4Digits.f k s) (s.data.toList.all digB) := by
  have := l4Digits_l0 s hs s.data.toList.length 0 (by omega)
  simpa [spec_l4Digits.f] using this

def inB (x : Int) : Bool := decide (0 ≤ x) && decide (x ≤ 60)
theorem l1In_f (x : Int) : spec_l1In.f x 0 60 = some (inB x) := by
  unfold spec_l1In.f inB
  by_cases h : x ≥ 0
  · have h' : 0 ≤ x := h
    simp [if_pos h, h']
  · have h' : ¬ 0 ≤ x := h
    simp [if_neg h, h']
theorem impl_in_f (x : Int) : impl_in.f x 0 60 = some (inB x) := by
  unfold impl_in.f inB
  by_cases h : 0 ≤ x
  · simp [if_pos h, h]
  · simp [if_neg h, h]

/-- A right number. -/
def okL (n : Bool) (x : Int) : List UInt8 → Bool
  | [] => !n && (x == 0)
  | b :: l => decide ((b :: l).length ≤ 60) && ((b :: l).all digB && (b.toNat != 48 && (inB x && (x == 0 || ((b :: l).getLast (by simp)).toNat != 48))))

def okB (n : Bool) (s : ByteArray) (x : Int) : Bool := okL n x s.data.toList

theorem dropWhile_nil {α : Type} (p : α → Bool) : ∀ l : List α, l.dropWhile p = [] ↔ ∀ x ∈ l, p x = true
  | [] => by simp
  | a :: l => by
    by_cases c : p a = true
    · rw [List.dropWhile_cons_of_pos c, dropWhile_nil p l]; simp [c]
    · rw [List.dropWhile_cons_of_neg c]; simp [c]
theorem trim_nil (l cs : List UInt8) : (Lib.trimS l cs = []) ↔ (l.all (cs.contains ·) = true) := by
  unfold Lib.trimS Lib.trimLeftS Lib.trimRightS
  constructor
  · intro h
    rw [dropWhile_nil] at h
    rw [List.all_eq_true]
    intro x hx
    have hx' : x ∈ l.reverse := by simpa using hx
    rw [← List.takeWhile_append_dropWhile (p := (cs.contains ·)) (l := l.reverse)] at hx'
    rcases List.mem_append.1 hx' with h1 | h1
    · exact (List.all_eq_true.1 (List.all_takeWhile (p := (cs.contains ·)) (l := l.reverse))) x h1
    · exact h x (by simpa using h1)
  · intro h
    rw [List.all_eq_true] at h
    rw [dropWhile_nil]
    intro x hx
    have : x ∈ l.reverse := (List.dropWhile_sublist _).subset (by simpa using hx)
    exact h x (by simpa using this)
set_option maxRecDepth 100000 in
theorem digs_contains (b : UInt8) : ([48, 49, 50, 51, 52, 53, 54, 55, 56, 57] : List UInt8).contains b = digB b := by
  revert b
  have : ∀ n : Fin 256, ([48, 49, 50, 51, 52, 53, 54, 55, 56, 57] : List UInt8).contains (UInt8.ofNat n.val) = digB (UInt8.ofNat n.val) := by decide +kernel
  intro b
  have h := this ⟨b.toNat, b.toNat_lt⟩
  simpa using h
theorem isDigits_f (s : ByteArray) (hs : s.size ≤ 9223372036854775807) : impl_isDigits.f s = some (s.data.toList.all digB) := by
  unfold impl_isDigits.f strings_Trim.f
  rw [if_pos ⟨hs, by decide, by decide⟩]
  simp only [Option.bind_some, Lib.toList_data]
  congr 1
  have h := trim_nil s.data.toList ([48, 49, 50, 51, 52, 53, 54, 55, 56, 57] : List UInt8)
  simp only [digs_contains] at h
  rw [Bool.eq_iff_iff, beq_iff_eq]
  exact h

theorem last_bt (s : ByteArray) (b : UInt8) (l : List UInt8) (h : s.data.toList = b :: l) : bt s ((s.size : Int) - 1) = (((b :: l).getLast (by simp)).toNat : Int) := by
  have e : ((s.size : Int) - 1) = ((l.length : Nat) : Int) := by rw [sz, h]; simp
  rw [e, bt_nat s l.length (by rw [h]; simp)]
  congr 2
  rw [List.getLast_eq_getElem]
  simp [h]
theorem first_bt (s : ByteArray) (b : UInt8) (l : List UInt8) (h : s.data.toList = b :: l) : bt s 0 = (b.toNat : Int) := by
  have := bt_nat s 0 (by rw [h]; simp)
  simp only [h, Int.ofNat_zero, List.getElem_cons_zero] at this
  simpa using this

theorem impl_DecOk_f (n : Bool) (s : ByteArray) (x : Int) (hs : s.size ≤ 9223372036854775807) : impl_DecOk.f n s x = some (okB n s x) := by
  unfold impl_DecOk.f
  rw [Lib.toList_data]
  unfold okB
  rcases h : s.data.toList with _ | ⟨b, l⟩
  · simp [okL]
  · unfold okL
    have hl : (s.size : Int) = ((b :: l).length : Int) := by rw [sz, h]
    have hl0 : s.size ≤ 60 ↔ (b :: l).length ≤ 60 := by rw [sz, h]
    rw [if_neg (by simp)]
    by_cases c : (b :: l).length ≤ 60
    · have c' := hl0.2 c
      have hw : wrap64 ((s.size : Int) - 1) = (s.size : Int) - 1 := by rw [w64] <;> omega
      have hpos : 0 < (s.size : Int) := by rw [hl]; simp
      rw [if_pos (by omega), isDigits_f s hs, h]
      simp only [Option.bind_some, impl_in_f, hw, last_bt s b l h, first_bt s b l h, if_pos hpos]
      simp only [c, decide_true, Bool.true_and]
      rw [if_pos (by omega : (0 : Int) ≤ (s.size : Int) - 1), if_pos (by omega : (s.size : Int) - 1 < s.size)]
      cases h1 : (b :: l).all digB with
      | false => simp
      | true =>
        simp only [if_true, Bool.true_and]
        by_cases h2 : b.toNat = 48
        · simp [h2]
        · have h2' : ¬ ((b.toNat : Int) = 48) := by omega
          simp only [if_neg h2', h2, bne_iff_ne, ne_eq, not_false_eq_true]
          have h3 : (b.toNat != 48) = true := by simpa using h2
          rw [h3, Bool.true_and]
          cases h4 : inB x with
          | false => simp
          | true =>
            simp only [if_true, Bool.true_and]
            by_cases h5 : x = 0
            · simp [h5]
            · simp only [if_neg h5]
              congr 1
              have h6 : (x == 0) = false := by simpa using h5
              rw [h6, Bool.false_or]
              rw [Bool.eq_iff_iff]
              simp only [bne_iff_ne, ne_eq]
              omega
    · have c' : ¬ s.size ≤ 60 := fun z => c (hl0.1 z)
      rw [if_neg (by omega)]
      simp only [c, decide_false, Bool.false_and]

theorem spec_DecOk_f (n : Bool) (s : ByteArray) (x : Int) (hs : s.size ≤ 9223372036854775806) : Ev (fun k => spec_DecOk.f k n s x) (okB n s x) := by
  have hs' : s.data.toList.length ≤ 9223372036854775806 := by rw [← sz]; exact hs
  have jt : ∀ (z : Int), Ev (fun k => spec_DecOk.j0 k z true n s x) false := fun z =>
    Ev.step (f := fun _ => some false) (fun k => by unfold spec_DecOk.j0; rfl) (Ev.now _)
  unfold okB
  rcases h : s.data.toList with _ | ⟨b, l⟩
  · have hz : (s.size : Int) = 0 := by rw [sz, h]; rfl
    unfold okL
    refine Ev.congr (f := fun k => (spec_l4Digits.f k s).bind fun t104 => (if t104 = true then ((spec_l1In.f x 0 60).bind fun t105 => (spec_DecOk.j0 k (s.size : Int) (!t105) n s x)) else (spec_DecOk.j0 k (s.size : Int) true n s x))) (fun k => ?_) ?_
    · unfold spec_DecOk.f; rw [if_neg (by omega)]
    · have hd := l4Digits s hs'
      rw [h] at hd
      refine Ev.bind hd ?_
      simp only [List.all_nil, if_true, l1In_f, Option.bind_some, hz]
      refine Ev.step (f := fun _ => some (!n && (x == 0))) (fun k => ?_) (Ev.now _)
      simp only [spec_DecOk.j0, if_true]
      by_cases c : inB x = true
      · rw [c]; cases n <;> simp
      · have hx : x ≠ 0 := fun e => c (by rw [e]; decide)
        rw [Bool.not_eq_true] at c
        rw [c]
        simp [hx]
  · have hl : (s.size : Int) = ((b :: l).length : Int) := by rw [sz, h]
    unfold okL
    by_cases c : (b :: l).length ≤ 60
    · refine Ev.congr (f := fun k => (spec_l4Digits.f k s).bind fun t104 => (if t104 = true then ((spec_l1In.f x 0 60).bind fun t105 => (spec_DecOk.j0 k (s.size : Int) (!t105) n s x)) else (spec_DecOk.j0 k (s.size : Int) true n s x))) (fun k => ?_) ?_
      · unfold spec_DecOk.f; rw [if_neg (by omega)]
      · have hd := l4Digits s hs'
        rw [h] at hd
        refine Ev.bind hd ?_
        simp only [c, decide_true, Bool.true_and, l1In_f, Option.bind_some]
        cases h1 : (b :: l).all digB with
        | false => simp only [Bool.false_eq_true, if_false, Bool.false_and]; exact jt _
        | true =>
          simp only [if_true, Bool.true_and]
          cases h4 : inB x with
          | false => simp only [Bool.not_false, Bool.false_and, Bool.and_false]; exact jt _
          | true =>
            simp only [Bool.not_true, Bool.true_and]
            have hw : wrap64 ((s.size : Int) - 1) = (s.size : Int) - 1 := by rw [w64] <;> omega
            have hpos : 0 < (s.size : Int) := by rw [hl]; simp
            refine Ev.step (f := fun _ => some (b.toNat != 48 && (x == 0 || ((b :: l).getLast (by simp)).toNat != 48))) (fun k => ?_) (Ev.now _)
            simp only [spec_DecOk.j0, Bool.false_eq_true, if_false]
            rw [if_neg (by omega), if_pos hpos, first_bt s b l h, hw, last_bt s b l h]
            rw [if_pos (by omega : (0 : Int) ≤ (s.size : Int) - 1), if_pos (by omega : (s.size : Int) - 1 < s.size)]
            by_cases h2 : b.toNat = 48
            · simp [h2]
            · have h2' : ¬ ((b.toNat : Int) = 48) := by omega
              have h3 : (b.toNat != 48) = true := by simpa using h2
              rw [if_neg h2', h3, Bool.true_and]
              by_cases h5 : x = 0
              · simp [h5]
              · rw [if_neg h5]
                congr 1
                have h6 : (x == 0) = false := by simpa using h5
                rw [h6, Bool.false_or, Bool.eq_iff_iff]
                simp only [bne_iff_ne, ne_eq]
                omega
    · refine Ev.congr (f := fun k => spec_DecOk.j0 k (s.size : Int) true n s x) (fun k => ?_) ?_
      · unfold spec_DecOk.f; rw [if_pos (by omega)]
      · simp only [c, decide_false, Bool.false_and]; exact jt _

/-- What a right number gives. -/
theorem ok_len {n : Bool} {s : ByteArray} {x : Int} (h : okB n s x = true) : s.size ≤ 60 ∧ 0 ≤ x ∧ x ≤ 60 := by
  unfold okB at h
  rcases e : s.data.toList with _ | ⟨b, l⟩
  · rw [e] at h
    simp only [okL, Bool.and_eq_true, beq_iff_eq] at h
    rw [sz, e]
    simp [h.2]
  · rw [e] at h
    simp only [okL, Bool.and_eq_true, decide_eq_true_eq, inB] at h
    rw [sz, e]
    exact ⟨h.1, h.2.2.2.1.1, h.2.2.2.1.2⟩

/-! ### two numbers on one scale -/
def Z (n : Nat) : ByteArray := ⟨(List.replicate n 48).toArray⟩
theorem Z_list (n : Nat) : (Z n).data.toList = List.replicate n 48 := by simp [Z]
theorem Z_size (n : Nat) : (Z n).size = n := by rw [sz, Z_list]; simp
theorem zero_list : ((⟨#[48]⟩ : ByteArray).data.toList) = [48] := rfl
theorem Z_right (s : ByteArray) (n : Nat) : (s ++ Z n) ++ (⟨#[48]⟩ : ByteArray) = s ++ Z (n + 1) := by
  apply ba_ext
  simp only [ba_app, Z_list, zero_list, List.append_assoc]
  rw [List.replicate_succ']
theorem Z_left (s : ByteArray) (n : Nat) : (⟨#[48]⟩ : ByteArray) ++ (Z n ++ s) = Z (n + 1) ++ s := by
  apply ba_ext
  simp only [ba_app, Z_list, zero_list]
  rw [List.replicate_succ]; rfl
theorem Z_none_r (s : ByteArray) : s ++ Z 0 = s := by apply ba_ext; simp [ba_app, Z_list]
theorem Z_none_l (s : ByteArray) : Z 0 ++ s = s := by apply ba_ext; simp [ba_app, Z_list]
theorem app_size (a b : ByteArray) : (a ++ b).size = a.size + b.size := by simp only [sz, ba_app, List.length_append]
theorem repeat_f (n : Int) (h : 0 ≤ n) (h' : n ≤ 140737488355328) : strings_Repeat.f (⟨#[48]⟩ : ByteArray) n = some (Z n.toNat) := by
  unfold strings_Repeat.f
  have e1 : (⟨#[48]⟩ : ByteArray).size = 1 := rfl
  rw [if_pos ⟨h, by omega, by rw [e1]; omega⟩]
  congr 1
  apply ba_ext
  rw [Z_list]
  have : ∀ m, Lib.repeatL [48] m = List.replicate m (48 : UInt8) := fun m => by
    induction m with
    | zero => rfl
    | succ m ih => rw [Lib.repeatL, ih, List.replicate_succ]; rfl
  simpa using this n.toNat

def lv (m : Int) (s : ByteArray) (x : Int) : ByteArray := s ++ Z (m - x).toNat
def pad (n : Nat) (s : ByteArray) : ByteArray := Z (n - s.size) ++ s
def top (s0 : ByteArray) (x0 : Int) (s1 : ByteArray) (x1 : Int) : Nat := max (lv (mx x0 x1) s0 x0).size (lv (mx x0 x1) s1 x1).size
def lx (s0 : ByteArray) (x0 : Int) (s1 : ByteArray) (x1 : Int) : ByteArray := pad (top s0 x0 s1 x1) (lv (mx x0 x1) s0 x0)
def ly (s0 : ByteArray) (x0 : Int) (s1 : ByteArray) (x1 : Int) : ByteArray := pad (top s0 x0 s1 x1) (lv (mx x0 x1) s1 x1)

theorem same_l3 (X Y : ByteArray) (m : Int) (hX : X.size ≤ 1000) : ∀ n : Nat, n + Y.size = X.size ∨ (n = 0 ∧ X.size ≤ Y.size) → Ev (fun k => spec_l4Same.l3 k X Y m) (X, Z n ++ Y, m) := by
  intro n
  induction n generalizing Y with
  | zero =>
    intro h
    rw [Z_none_l]
    refine Ev.step (f := fun _ => some (X, Y, m)) (fun k => ?_) (Ev.now _)
    unfold spec_l4Same.l3
    rw [if_neg (by omega)]
  | succ n ih =>
    intro h
    have h' : n + 1 + Y.size = X.size := by omega
    refine Ev.step (f := fun k => spec_l4Same.l3 k X ((⟨#[48]⟩ : ByteArray) ++ Y) m) (fun k => ?_) ?_
    · conv => lhs; unfold spec_l4Same.l3
      rw [if_pos (by omega), if_pos (by omega)]
    · have := ih ((⟨#[48]⟩ : ByteArray) ++ Y) (.inl (by rw [app_size]; have : (⟨#[48]⟩ : ByteArray).size = 1 := rfl; omega))
      have e : Z n ++ ((⟨#[48]⟩ : ByteArray) ++ Y) = Z (n + 1) ++ Y := by
        apply ba_ext
        simp only [ba_app, Z_list, zero_list]
        rw [← List.append_assoc, List.replicate_succ']
      rw [e] at this
      exact this
theorem same_l2 (Y : ByteArray) (m : Int) (hY : Y.size ≤ 1000) : ∀ (n : Nat) (X : ByteArray), X.size ≤ 1000 → n + X.size = Y.size ∨ (n = 0 ∧ Y.size ≤ X.size) →
    Ev (fun k => spec_l4Same.l2 k X Y m) (Z n ++ X, Z (X.size - Y.size) ++ Y, m) := by
  intro n
  induction n with
  | zero =>
    intro X hX h
    rw [Z_none_l]
    refine Ev.step (f := fun k => spec_l4Same.l3 k X Y m) (fun k => ?_) (same_l3 X Y m hX _ ?_)
    · conv => lhs; unfold spec_l4Same.l2
      rw [if_neg (by omega)]
    · omega
  | succ n ih =>
    intro X hX h
    have h' : n + 1 + X.size = Y.size := by omega
    have e1 : (⟨#[48]⟩ : ByteArray).size = 1 := rfl
    refine Ev.step (f := fun k => spec_l4Same.l2 k ((⟨#[48]⟩ : ByteArray) ++ X) Y m) (fun k => ?_) ?_
    · conv => lhs; unfold spec_l4Same.l2
      rw [if_pos (by omega), if_pos (by omega)]
    · have := ih ((⟨#[48]⟩ : ByteArray) ++ X) (by rw [app_size]; omega) (.inl (by rw [app_size]; omega))
      have e : Z n ++ ((⟨#[48]⟩ : ByteArray) ++ X) = Z (n + 1) ++ X := by
        apply ba_ext
        simp only [ba_app, Z_list, zero_list]
        rw [← List.append_assoc, List.replicate_succ']
      rw [e, app_size, e1] at this
      have e2 : 1 + X.size - Y.size = X.size - Y.size := by omega
      rw [e2] at this
      exact this
theorem same_l1 (X : ByteArray) (m : Int) (hX : X.size ≤ 500) (h0 : 0 ≤ m) (h1 : m ≤ 60) : ∀ (n : Nat) (Y : ByteArray) (x : Int), 0 ≤ x → x ≤ m → (n : Int) = m - x → Y.size + n ≤ 500 →
    Ev (fun k => spec_l4Same.l1 k X Y m x) (Z (Y.size + n - X.size) ++ X, Z (X.size - (Y.size + n)) ++ (Y ++ Z n), m) := by
  intro n
  induction n with
  | zero =>
    intro Y x hx0 hx1 hn hY
    rw [Z_none_r, Nat.add_zero]
    refine Ev.step (f := fun k => spec_l4Same.l2 k X Y m) (fun k => ?_) ?_
    · conv => lhs; unfold spec_l4Same.l1
      rw [if_neg (by omega)]
    · exact same_l2 Y m (by omega) (Y.size - X.size) X (by omega) (by omega)
  | succ n ih =>
    intro Y x hx0 hx1 hn hY
    have e1 : (⟨#[48]⟩ : ByteArray).size = 1 := rfl
    refine Ev.step (f := fun k => spec_l4Same.l1 k X (Y ++ (⟨#[48]⟩ : ByteArray)) m (x + 1)) (fun k => ?_) ?_
    · conv => lhs; unfold spec_l4Same.l1
      rw [if_pos (by omega), if_pos (by omega), w64 (by omega) (by omega)]
    · have := ih (Y ++ (⟨#[48]⟩ : ByteArray)) (x + 1) (by omega) (by omega) (by omega) (by rw [app_size]; omega)
      rw [app_size, e1] at this
      have e : (Y ++ (⟨#[48]⟩ : ByteArray)) ++ Z n = Y ++ Z (n + 1) := by
        apply ba_ext
        simp only [ba_app, Z_list, zero_list, List.append_assoc]
        rw [List.replicate_succ]; rfl
      have e2 : Y.size + 1 + n = Y.size + (n + 1) := by omega
      rw [e, e2] at this
      exact this
theorem same_l0 (Y : ByteArray) (y : Int) (b : Bool) (t : ByteArray) (m : Int) (hY : Y.size ≤ 200) (h0 : 0 ≤ m) (h1 : m ≤ 60) (hy0 : 0 ≤ y) (hy1 : y ≤ m) : ∀ (n : Nat) (X : ByteArray) (x : Int), 0 ≤ x → x ≤ m → (n : Int) = m - x → X.size + n ≤ 500 →
    Ev (fun k => spec_l4Same.l0 k X Y m x b t y) (Z (Y.size + (m - y).toNat - (X.size + n)) ++ (X ++ Z n), Z (X.size + n - (Y.size + (m - y).toNat)) ++ (Y ++ Z (m - y).toNat), m) := by
  intro n
  induction n with
  | zero =>
    intro X x hx0 hx1 hn hX
    rw [Z_none_r, Nat.add_zero]
    refine Ev.step (f := fun k => spec_l4Same.l1 k X Y m y) (fun k => ?_) ?_
    · conv => lhs; unfold spec_l4Same.l0
      rw [if_neg (by omega)]
    · exact same_l1 X m (by omega) h0 h1 (m - y).toNat Y y hy0 hy1 (by omega) (by omega)
  | succ n ih =>
    intro X x hx0 hx1 hn hX
    have e1 : (⟨#[48]⟩ : ByteArray).size = 1 := rfl
    refine Ev.step (f := fun k => spec_l4Same.l0 k (X ++ (⟨#[48]⟩ : ByteArray)) Y m (x + 1) b t y) (fun k => ?_) ?_
    · conv => lhs; unfold spec_l4Same.l0
      rw [if_pos (by omega), if_pos (by omega), w64 (by omega) (by omega)]
    · have := ih (X ++ (⟨#[48]⟩ : ByteArray)) (x + 1) (by omega) (by omega) (by omega) (by rw [app_size]; omega)
      rw [app_size, e1] at this
      have e : (X ++ (⟨#[48]⟩ : ByteArray)) ++ Z n = X ++ Z (n + 1) := by
        apply ba_ext
        simp only [ba_app, Z_list, zero_list, List.append_assoc]
        rw [List.replicate_succ]; rfl
      have e2 : X.size + 1 + n = X.size + (n + 1) := by omega
      rw [e, e2] at this
      exact this
theorem mx_le (a b : Int) : a ≤ mx a b ∧ b ≤ mx a b ∧ (mx a b = a ∨ mx a b = b) := by unfold mx; split <;> omega
theorem l4Same_f (n0 : Bool) (s0 : ByteArray) (x0 : Int) (n1 : Bool) (s1 : ByteArray) (x1 : Int) (h0 : s0.size ≤ 60) (h1 : s1.size ≤ 60) (a0 : 0 ≤ x0) (a1 : x0 ≤ 60) (b0 : 0 ≤ x1) (b1 : x1 ≤ 60) :
    Ev (fun k => spec_l4Same.f k n0 s0 x0 n1 s1 x1) (lx s0 x0 s1 x1, ly s0 x0 s1 x1, mx x0 x1) := by
  obtain ⟨g0, g1, g2⟩ := mx_le x0 x1
  have := same_l0 s1 x1 n1 s1 (mx x0 x1) (by omega) (by omega) (by omega) b0 g1 (mx x0 x1 - x0).toNat s0 x0 a0 g0 (by omega) (by omega)
  unfold spec_l4Same.f lx ly pad top
  have e0 : (lv (mx x0 x1) s0 x0).size = s0.size + (mx x0 x1 - x0).toNat := by rw [lv, app_size, Z_size]
  have e1 : (lv (mx x0 x1) s1 x1).size = s1.size + (mx x0 x1 - x1).toNat := by rw [lv, app_size, Z_size]
  rw [e0, e1]
  have e2 : max (s0.size + (mx x0 x1 - x0).toNat) (s1.size + (mx x0 x1 - x1).toNat) - (s0.size + (mx x0 x1 - x0).toNat) = s1.size + (mx x0 x1 - x1).toNat - (s0.size + (mx x0 x1 - x0).toNat) := by omega
  have e3 : max (s0.size + (mx x0 x1 - x0).toNat) (s1.size + (mx x0 x1 - x1).toNat) - (s1.size + (mx x0 x1 - x1).toNat) = s0.size + (mx x0 x1 - x0).toNat - (s1.size + (mx x0 x1 - x1).toNat) := by omega
  rw [e2, e3]
  exact this
theorem level_f (n0 : Bool) (s0 : ByteArray) (x0 : Int) (n1 : Bool) (s1 : ByteArray) (x1 : Int) (h0 : s0.size ≤ 60) (h1 : s1.size ≤ 60) (a0 : 0 ≤ x0) (a1 : x0 ≤ 60) (b0 : 0 ≤ x1) (b1 : x1 ≤ 60) :
    impl_level.f n0 s0 x0 n1 s1 x1 = some (lx s0 x0 s1 x1, ly s0 x0 s1 x1, mx x0 x1) := by
  obtain ⟨g0, g1, g2⟩ := mx_le x0 x1
  have e0 : (lv (mx x0 x1) s0 x0).size = s0.size + (mx x0 x1 - x0).toNat := by rw [lv, app_size, Z_size]
  have e1 : (lv (mx x0 x1) s1 x1).size = s1.size + (mx x0 x1 - x1).toNat := by rw [lv, app_size, Z_size]
  unfold impl_level.f
  rw [w64 (n := mx x0 x1 - x0) (by omega) (by omega), w64 (n := mx x0 x1 - x1) (by omega) (by omega), repeat_f (mx x0 x1 - x0) (by omega) (by omega), repeat_f (mx x0 x1 - x1) (by omega) (by omega)]
  simp only [Option.bind_some, Z_size]
  rw [if_pos (by omega), if_pos (by omega)]
  have f0 : s0 ++ Z (mx x0 x1 - x0).toNat = lv (mx x0 x1) s0 x0 := rfl
  have f1 : s1 ++ Z (mx x0 x1 - x1).toNat = lv (mx x0 x1) s1 x1 := rfl
  rw [f0, f1]
  have e4 : mx ((lv (mx x0 x1) s0 x0).size : Int) ((lv (mx x0 x1) s1 x1).size : Int) = ((top s0 x0 s1 x1 : Nat) : Int) := by rw [mx]; unfold top; split <;> omega
  have t0 : (lv (mx x0 x1) s0 x0).size ≤ top s0 x0 s1 x1 := by unfold top; omega
  have t1 : (lv (mx x0 x1) s1 x1).size ≤ top s0 x0 s1 x1 := by unfold top; omega
  have t2 : top s0 x0 s1 x1 ≤ 200 := by unfold top; omega
  rw [e4, w64 (by omega) (by omega), w64 (by omega) (by omega), repeat_f _ (by omega) (by omega), repeat_f _ (by omega) (by omega)]
  simp only [Option.bind_some, Z_size]
  rw [if_pos (by omega), if_pos (by omega)]
  have k0 : ((top s0 x0 s1 x1 : Int) - ((lv (mx x0 x1) s0 x0).size : Int)).toNat = top s0 x0 s1 x1 - (lv (mx x0 x1) s0 x0).size := by omega
  have k1 : ((top s0 x0 s1 x1 : Int) - ((lv (mx x0 x1) s1 x1).size : Int)).toNat = top s0 x0 s1 x1 - (lv (mx x0 x1) s1 x1).size := by omega
  rw [k0, k1]
  rfl
--MORE
end Go.Proofs.YtilmhfkbpnejeaaDoor.Pure

namespace Go.Proofs.YtilmhfkbpnejeaaDoor.Pure
open Go.RowKit Go.Proofs.YtilmhfkbpnejeaaDoor.L Go.Proofs.YtilmhfkbpnejeaaDoorW.PrintWords Go.Proofs.YtilmhfkbpnejeaaDoorW.PrintLast Go.Proofs.YtilmhfkbpnejeaaDoorW.PrintMore
set_option linter.unusedVariables false
set_option linter.unusedSimpArgs false

theorem b48 (b : UInt8) : ((b.toNat : Int) = 48) ↔ b = 48 := by
  constructor
  · intro h
    apply UInt8.toNat.inj
    have e2 : (48 : UInt8).toNat = 48 := rfl
    omega
  · intro h; subst h; rfl
theorem b48n (b : UInt8) : (b.toNat = 48) ↔ b = 48 := by rw [← b48]; omega

def stripR : List UInt8 → Nat → List UInt8 × Nat
  | [], x => ([], x)
  | b :: t, 0 => (b :: t, 0)
  | b :: t, x + 1 => if b = 48 then stripR t x else (b :: t, x + 1)
theorem stripR_zero (l : List UInt8) : stripR l 0 = (l, 0) := by cases l <;> rfl
def mkB (l : List UInt8) : ByteArray := ⟨l.toArray⟩
theorem mkB_list (l : List UInt8) : (mkB l).data.toList = l := by simp [mkB]
theorem mkB_of (s : ByteArray) : mkB s.data.toList = s := ba_ext (mkB_list _)
def zeroQ (b : Bool) : Bool × ByteArray × Int × Bool := (false, ⟨#[]⟩, 0, b)
def normL (n : Bool) (l : List UInt8) (x : Nat) : Bool × ByteArray × Int × Bool :=
  match l.dropWhile (· == 48) with
  | [] => zeroQ true
  | b :: t => if okL n x (b :: t) then (n, mkB (b :: t), x, true) else zeroQ false
/-- The right number that digits are on a scale, if there is one. -/
def norm (n : Bool) (l : List UInt8) (x : Nat) : Bool × ByteArray × Int × Bool := normL n (stripR l.reverse x).1.reverse (stripR l.reverse x).2

theorem nil_ok : okB false (⟨#[]⟩ : ByteArray) 0 = true := rfl
theorem l4Norm_l1 (n : Bool) (x : Nat) : ∀ (l : List UInt8) (s : ByteArray), s.data.toList = l → l.length ≤ 1000000 → Ev (fun k => spec_l4Norm.l1 k n s (x : Int)) (normL n l x) := by
  intro l
  induction l with
  | nil =>
    intro s hs hl
    refine Ev.step (f := fun k => (spec_DecOk.f k false (⟨#[]⟩ : ByteArray) 0).bind fun t171 => (if t171 = true then (some (false, (⟨#[]⟩ : ByteArray), 0, true)) else (some (false, (⟨#[]⟩ : ByteArray), 0, false)))) (fun k => ?_) ?_
    · conv => lhs; unfold spec_l4Norm.l1
      rw [Lib.toList_data, hs, if_pos rfl]
    · refine Ev.bind (spec_DecOk_f false ⟨#[]⟩ 0 (by decide)) ?_
      rw [nil_ok]
      exact Ev.now _
  | cons b t ih =>
    intro s hs hl
    have hz : (s.size : Int) = ((b :: t).length : Int) := by rw [sz, hs]
    have hz' : (s.size : Int) = (t.length : Int) + 1 := by rw [hz]; simp
    have hl' : t.length + 1 ≤ 1000000 := hl
    by_cases c : b = 48
    · refine Ev.step (f := fun k => spec_l4Norm.l1 k n (s.extract 1 s.size) (x : Int)) (fun k => ?_) ?_
      · conv => lhs; unfold spec_l4Norm.l1
        rw [Lib.toList_data, hs, if_neg (by simp), if_pos (by omega), first_bt s b t hs, if_pos ((b48 b).2 c), if_pos (by omega)]
      · have := ih (s.extract 1 s.size) (by rw [Lib.extract_to_end, hs]; rfl) (by omega)
        have e : normL n (b :: t) x = normL n t x := by subst c; rfl
        rw [e]; exact this
    · have e : normL n (b :: t) x = if okL n x (b :: t) then (n, mkB (b :: t), (x : Int), true) else zeroQ false := by
        have c' : (b == 48) = false := by simpa using c
        simp only [normL, List.dropWhile, c']
      refine Ev.step (f := fun k => ((spec_DecOk.f k n s (x : Int)).bind fun t173 => (if t173 = true then (some (n, s, (x : Int), true)) else (some (false, (⟨#[]⟩ : ByteArray), 0, false))))) (fun k => ?_) ?_
      · conv => lhs; unfold spec_l4Norm.l1
        rw [Lib.toList_data, hs, if_neg (by simp), if_pos (by omega), first_bt s b t hs, if_neg (fun h => c ((b48 b).1 h))]
      · refine Ev.bind (spec_DecOk_f n s (x : Int) (by omega)) ?_
        rw [e, okB, hs, ← hs, mkB_of]
        split
        · exact Ev.now _
        · exact Ev.now _

theorem split_last (s : ByteArray) (c : UInt8) (t : List UInt8) (h : s.data.toList.reverse = c :: t) :
    s.data.toList = t.reverse ++ [c] ∧ (s.size : Int) = (t.length : Int) + 1 ∧ bt s ((s.size : Int) - 1) = (c.toNat : Int) ∧ (s.extract 0 ((s.size : Int) - 1).toNat).data.toList.reverse = t := by
  have e : s.data.toList = t.reverse ++ [c] := by
    have := congrArg List.reverse h
    rw [List.reverse_reverse] at this
    rw [this]; simp
  have hz : (s.size : Int) = (t.length : Int) + 1 := by rw [sz, e]; simp
  refine ⟨e, hz, ?_, ?_⟩
  · have e1 : ((s.size : Int) - 1) = ((t.length : Nat) : Int) := by omega
    rw [e1, bt_nat s t.length (by rw [e]; simp)]
    congr 2
    simp [e]
  · rw [Lib.extract_data, List.drop_zero, Nat.sub_zero, e]
    have : ((s.size : Int) - 1).toNat = t.reverse.length := by rw [List.length_reverse]; omega
    rw [this, List.take_left]
    exact List.reverse_reverse t

theorem l4Norm_l0 (n : Bool) : ∀ (x : Nat) (s : ByteArray), x ≤ 1000000 → s.size ≤ 1000000 → Ev (fun k => spec_l4Norm.l0 k n s (x : Int)) (norm n s.data.toList x) := by
  intro x
  induction x with
  | zero =>
    intro s hx hs
    refine Ev.step (f := fun k => spec_l4Norm.l1 k n s ((0 : Nat) : Int)) (fun k => ?_) ?_
    · conv => lhs; unfold spec_l4Norm.l0
      rw [if_neg (by omega)]
    · have := l4Norm_l1 n 0 s.data.toList s rfl (by rw [← sz]; exact hs)
      unfold norm
      rw [stripR_zero, List.reverse_reverse]
      exact this
  | succ x ih =>
    intro s hx hs
    rcases h : s.data.toList.reverse with _ | ⟨c, t⟩
    · have e : s.data.toList = [] := by simpa using h
      refine Ev.step (f := fun k => spec_l4Norm.l1 k n s ((x + 1 : Nat) : Int)) (fun k => ?_) ?_
      · conv => lhs; unfold spec_l4Norm.l0
        rw [if_pos (by omega), Lib.toList_data, e, if_pos rfl]
      · have := l4Norm_l1 n (x + 1) s.data.toList s rfl (by rw [← sz]; exact hs)
        unfold norm
        rw [h]
        rw [e] at this
        exact this
    · obtain ⟨e, hz, hb, hd⟩ := split_last s c t h
      have hw : wrap64 ((s.size : Int) - 1) = (s.size : Int) - 1 := by rw [w64] <;> omega
      have hw2 : wrap64 (((x + 1 : Nat) : Int) - 1) = ((x : Nat) : Int) := by rw [w64] <;> omega
      have hne : ¬ (s.data.toList = []) := by rw [e]; simp
      by_cases cc : c = 48
      · refine Ev.step (f := fun k => spec_l4Norm.l0 k n (s.extract 0 ((s.size : Int) - 1).toNat) (x : Int)) (fun k => ?_) ?_
        · conv => lhs; unfold spec_l4Norm.l0
          rw [if_pos (by omega), Lib.toList_data, if_neg hne, hw, if_pos (by omega), if_pos (by omega), hb, if_pos ((b48 c).2 cc), if_pos (by omega), hw2]
        · have := ih (s.extract 0 ((s.size : Int) - 1).toNat) (by omega) (by
            have := congrArg List.length hd
            rw [List.length_reverse, ← sz] at this
            omega)
          unfold norm at this ⊢
          rw [hd] at this
          rw [h]
          simp only [stripR, if_pos cc]
          exact this
      · refine Ev.step (f := fun k => spec_l4Norm.l1 k n s ((x + 1 : Nat) : Int)) (fun k => ?_) ?_
        · conv => lhs; unfold spec_l4Norm.l0
          rw [if_pos (by omega), Lib.toList_data, if_neg hne, hw, if_pos (by omega), if_pos (by omega), hb, if_neg (fun h => cc ((b48 c).1 h))]
        · have := l4Norm_l1 n (x + 1) s.data.toList s rfl (by rw [← sz]; exact hs)
          unfold norm
          rw [h]
          simp only [stripR, if_neg cc]
          rw [← h, List.reverse_reverse]
          exact this
theorem l4Norm_f (n : Bool) (s : ByteArray) (x : Nat) (hx : x ≤ 1000000) (hs : s.size ≤ 1000000) : Ev (fun k => spec_l4Norm.f k n s (x : Int)) (norm n s.data.toList x) := l4Norm_l0 n x s hx hs

theorem made_end (n : Bool) (s : ByteArray) (x : Nat) (hs : s.size ≤ 1000000) :
    ((strings_TrimLeft.f s (⟨#[48]⟩ : ByteArray)).bind fun t290 => (if t290.toList = ([] : List UInt8) then ((impl_DecOk.f false (⟨#[]⟩ : ByteArray) 0).bind fun t292 => (if t292 = true then (some (false, (⟨#[]⟩ : ByteArray), 0, true)) else (some (false, (⟨#[]⟩ : ByteArray), 0, false)))) else ((impl_DecOk.f n t290 (x : Int)).bind fun t293 => (if t293 = true then (some (n, t290, (x : Int), true)) else (some (false, (⟨#[]⟩ : ByteArray), (0 : Int), false)))))) = some (normL n s.data.toList x) := by
  have e0 : strings_TrimLeft.f s (⟨#[48]⟩ : ByteArray) = some (mkB (s.data.toList.dropWhile (· == 48))) := by
    unfold strings_TrimLeft.f
    rw [if_pos ⟨by decide, by decide⟩]
    congr 1
    apply ba_ext
    rw [mkB_list]
    simp only [Lib.trimLeftS]
    congr 1
    funext b
    show ([48] : List UInt8).contains b = (b == 48)
    by_cases hb : b = 48 <;> simp [List.contains_cons, List.elem_nil, hb]
  rw [e0]
  simp only [Option.bind_some, Lib.toList_data, mkB_list]
  have hlen : (s.data.toList.dropWhile (· == 48)).length ≤ 1000000 := Nat.le_trans (List.Sublist.length_le (List.dropWhile_sublist _)) (by rw [← sz]; exact hs)
  unfold normL
  rcases h : s.data.toList.dropWhile (· == 48) with _ | ⟨b, t⟩
  · rw [if_pos rfl, impl_DecOk_f false ⟨#[]⟩ 0 (by decide), nil_ok]
    rfl
  · rw [h] at hlen
    rw [if_neg (by simp), impl_DecOk_f n (mkB (b :: t)) (x : Int) (by rw [sz, mkB_list]; omega)]
    simp only [Option.bind_some, okB, mkB_list]
    split <;> rfl

theorem made_f (n : Bool) : ∀ (x : Nat) (s : ByteArray), x ≤ 1000000 → s.size ≤ 1000000 → Ev (fun k => impl_made.f k n s (x : Int)) (norm n s.data.toList x) := by
  intro x
  unfold impl_made.f
  induction x with
  | zero =>
    intro s hx hs
    refine Ev.step (f := fun k => some (normL n s.data.toList 0)) (fun k => ?_) ?_
    · conv => lhs; unfold impl_made.l0
      rw [if_neg (by omega)]
      exact made_end n s 0 hs
    · unfold norm
      rw [stripR_zero, List.reverse_reverse]
      exact Ev.now _
  | succ x ih =>
    intro s hx hs
    rcases h : s.data.toList.reverse with _ | ⟨c, t⟩
    · have e : s.data.toList = [] := by simpa using h
      refine Ev.step (f := fun k => some (normL n s.data.toList (x + 1))) (fun k => ?_) ?_
      · conv => lhs; unfold impl_made.l0
        rw [if_pos (by omega), if_pos (by rw [Lib.toList_data]; exact e)]
        exact made_end n s (x + 1) hs
      · unfold norm
        rw [h, e]
        exact Ev.now _
    · obtain ⟨e, hz, hb, hd⟩ := split_last s c t h
      have hw : wrap64 ((s.size : Int) - 1) = (s.size : Int) - 1 := by rw [w64] <;> omega
      have hw2 : wrap64 (((x + 1 : Nat) : Int) - 1) = ((x : Nat) : Int) := by rw [w64] <;> omega
      have hne : ¬ (s.toList = []) := by rw [Lib.toList_data, e]; simp
      by_cases cc : c = 48
      · refine Ev.step (f := fun k => impl_made.l0 k n (s.extract 0 ((s.size : Int) - 1).toNat) (x : Int)) (fun k => ?_) ?_
        · conv => lhs; unfold impl_made.l0
          rw [if_pos (by omega), if_neg hne, hw, if_pos (by omega), if_pos (by omega), hb, if_pos ((b48 c).2 cc), if_pos (by omega), hw2]
        · have := ih (s.extract 0 ((s.size : Int) - 1).toNat) (by omega) (by
            have := congrArg List.length hd
            rw [List.length_reverse, ← sz] at this
            omega)
          unfold norm at this ⊢
          rw [hd] at this
          rw [h]
          simp only [stripR, if_pos cc]
          exact this
      · refine Ev.step (f := fun k => some (normL n s.data.toList (x + 1))) (fun k => ?_) ?_
        · conv => lhs; unfold impl_made.l0
          rw [if_pos (by omega), if_neg hne, hw, if_pos (by omega), if_pos (by omega), hb, if_neg (fun h => cc ((b48 c).1 h))]
          exact made_end n s (x + 1) hs
        · unfold norm
          rw [h]
          simp only [stripR, if_neg cc]
          rw [← h, List.reverse_reverse]
          exact Ev.now _

/-! ### what digits count -/
def dv (b : UInt8) : Nat := b.toNat - 48
def nv (l : List UInt8) : Nat := l.foldl (fun a b => 10 * a + dv b) 0
theorem nv_from (l : List UInt8) : ∀ a : Nat, l.foldl (fun a b => 10 * a + dv b) a = a * 10 ^ l.length + nv l := by
  induction l with
  | nil => intro a; simp [nv]
  | cons b t ih =>
    intro a
    unfold nv
    simp only [List.foldl_cons, List.length_cons]
    rw [ih (10 * a + dv b), ih (10 * 0 + dv b)]
    rw [Nat.pow_succ, Nat.mul_zero, Nat.zero_add, Nat.add_mul, ← Nat.add_assoc]
    congr 2
    rw [Nat.mul_comm 10 a, Nat.mul_assoc, Nat.mul_comm 10 (10 ^ t.length)]
theorem nv_nil : nv [] = 0 := rfl
theorem nv_cons (b : UInt8) (t : List UInt8) : nv (b :: t) = dv b * 10 ^ t.length + nv t := by
  have := nv_from t (10 * 0 + dv b)
  have e : nv (b :: t) = t.foldl (fun a b => 10 * a + dv b) (10 * 0 + dv b) := rfl
  rw [e, this, Nat.mul_zero, Nat.zero_add]
theorem nv_app (l m : List UInt8) : nv (l ++ m) = nv l * 10 ^ m.length + nv m := by
  unfold nv
  rw [List.foldl_append]
  exact nv_from m _
theorem nv_snoc (l : List UInt8) (b : UInt8) : nv (l ++ [b]) = 10 * nv l + dv b := by
  unfold nv
  rw [List.foldl_append]
  rfl
theorem dv_lt {b : UInt8} (h : digB b = true) : dv b < 10 := by
  simp only [digB, Bool.and_eq_true, decide_eq_true_eq] at h
  unfold dv; omega
theorem nv_lt : ∀ (l : List UInt8), l.all digB = true → nv l < 10 ^ l.length
  | [], _ => by simp [nv]
  | b :: t, h => by
    rw [List.all_cons, Bool.and_eq_true] at h
    have h1 := dv_lt h.1
    have h2 := nv_lt t h.2
    rw [nv_cons, List.length_cons, Nat.pow_succ]
    have : dv b * 10 ^ t.length ≤ 9 * 10 ^ t.length := Nat.mul_le_mul_right _ (by omega)
    omega
theorem nv_zeros (n : Nat) : nv (List.replicate n 48) = 0 := by
  induction n with
  | zero => rfl
  | succ n ih => rw [List.replicate_succ, nv_cons, ih]; simp [dv]
theorem nv_zeros_app (n : Nat) (l : List UInt8) : nv (List.replicate n 48 ++ l) = nv l := by rw [nv_app, nv_zeros]; simp
theorem nv_app_zeros (n : Nat) (l : List UInt8) : nv (l ++ List.replicate n 48) = nv l * 10 ^ n := by rw [nv_app, nv_zeros, List.length_replicate]; simp
theorem nv_drop (l : List UInt8) : nv (l.dropWhile (· == 48)) = nv l := by
  induction l with
  | nil => rfl
  | cons b t ih =>
    by_cases c : b = 48
    · subst c
      have : (List.dropWhile (· == (48 : UInt8)) (48 :: t)) = t.dropWhile (· == 48) := rfl
      rw [this, ih, nv_cons]; simp [dv]
    · have c' : (b == 48) = false := by simpa using c
      simp only [List.dropWhile, c']
theorem nv_inj : ∀ (l m : List UInt8), l.all digB = true → m.all digB = true → l.length = m.length → nv l = nv m → l = m
  | [], [], _, _, _, _ => rfl
  | [], _ :: _, _, _, h, _ => by simp at h
  | _ :: _, [], _, _, h, _ => by simp at h
  | b :: t, c :: u, hl, hm, hn, hv => by
    rw [List.all_cons, Bool.and_eq_true] at hl hm
    have hlen : t.length = u.length := by simpa using hn
    have h1 := nv_lt t hl.2
    have h2 := nv_lt u hm.2
    rw [nv_cons, nv_cons, ← hlen] at hv
    rw [← hlen] at h2
    have hp : 0 < 10 ^ t.length := Nat.pow_pos (by omega)
    have hd : dv b = dv c := by
      have a1 : (dv b * 10 ^ t.length + nv t) / 10 ^ t.length = dv b := by rw [Nat.mul_comm, Nat.mul_add_div hp, Nat.div_eq_of_lt h1, Nat.add_zero]
      have a2 : (dv c * 10 ^ t.length + nv u) / 10 ^ t.length = dv c := by rw [Nat.mul_comm, Nat.mul_add_div hp, Nat.div_eq_of_lt h2, Nat.add_zero]
      rw [← a1, hv, a2]
    have hv' : nv t = nv u := by rw [hd] at hv; omega
    have hbc : b = c := by
      apply UInt8.toNat.inj
      simp only [digB, Bool.and_eq_true, decide_eq_true_eq] at hl hm
      unfold dv at hd
      omega
    rw [hbc, nv_inj t u hl.2 hm.2 hlen hv']
theorem nv_head {b : UInt8} {t : List UInt8} (h : digB b = true) (hb : b ≠ 48) : 10 ^ t.length ≤ nv (b :: t) := by
  rw [nv_cons]
  have : 1 ≤ dv b := by
    simp only [digB, Bool.and_eq_true, decide_eq_true_eq] at h
    have : b.toNat ≠ 48 := fun e => hb ((b48n b).1 e)
    unfold dv; omega
  have := Nat.mul_le_mul_right (10 ^ t.length) this
  omega
theorem nv_inj_lead {b c : UInt8} {t u : List UInt8} (hl : (b :: t).all digB = true) (hm : (c :: u).all digB = true) (hb : b ≠ 48) (hc : c ≠ 48) (hv : nv (b :: t) = nv (c :: u)) : b :: t = c :: u := by
  have l1 := nv_lt _ hl
  have l2 := nv_lt _ hm
  rw [List.all_cons, Bool.and_eq_true] at hl hm
  have g1 := nv_head (t := t) hl.1 hb
  have g2 := nv_head (t := u) hm.1 hc
  have hlen : t.length = u.length := by
    rcases Nat.lt_trichotomy t.length u.length with h | h | h
    · have : 10 ^ (t.length + 1) ≤ 10 ^ u.length := Nat.pow_le_pow_right (by omega) h
      rw [List.length_cons] at l1; omega
    · exact h
    · have : 10 ^ (u.length + 1) ≤ 10 ^ t.length := Nat.pow_le_pow_right (by omega) h
      rw [List.length_cons] at l2; omega
  exact nv_inj _ _ (by rw [List.all_cons, Bool.and_eq_true]; exact hl) (by rw [List.all_cons, Bool.and_eq_true]; exact hm) (by simp [hlen]) hv

/-- Digits on a scale without needless noughts. -/
def Canon (l : List UInt8) (x : Nat) : Prop := ∃ b t, l = b :: t ∧ (b :: t).all digB = true ∧ b ≠ 48 ∧ (x = 0 ∨ ∃ u c, l = u ++ [c] ∧ c ≠ 48)
theorem canon_scale {l m : List UInt8} {x y M : Nat} (hl : Canon l x) (hm : Canon m y) (hx : x ≤ M) (hy : y ≤ M) (hv : nv l * 10 ^ (M - x) = nv m * 10 ^ (M - y)) : y ≤ x := by
  rcases Nat.lt_or_ge x y with h | h
  · exfalso
    obtain ⟨b, t, e, hd, hb, hlast⟩ := hm
    have e1 : M - x = (M - y) + (y - x) := by omega
    rw [e1, Nat.pow_add, Nat.mul_comm (10 ^ (M - y)), ← Nat.mul_assoc] at hv
    have hp : 0 < 10 ^ (M - y) := Nat.pow_pos (by omega)
    have hv2 : nv l * 10 ^ (y - x) = nv m := Nat.eq_of_mul_eq_mul_right hp hv
    have e2 : y - x = (y - x - 1) + 1 := by omega
    rw [e2, Nat.pow_succ, ← Nat.mul_assoc] at hv2
    rcases hlast with h0 | ⟨u, c, e3, hc⟩
    · omega
    · rw [e3, nv_snoc] at hv2
      have hcd : digB c = true := by
        have := List.all_eq_true.1 hd c (by rw [← e, e3]; simp)
        exact this
      have h1 := dv_lt hcd
      have h2 : dv c ≠ 0 := by
        simp only [digB, Bool.and_eq_true, decide_eq_true_eq] at hcd
        have : c.toNat ≠ 48 := fun e => hc ((b48n c).1 e)
        unfold dv; omega
      omega
  · exact h
theorem canon_uniq {l m : List UInt8} {x y M : Nat} (hl : Canon l x) (hm : Canon m y) (hx : x ≤ M) (hy : y ≤ M) (hv : nv l * 10 ^ (M - x) = nv m * 10 ^ (M - y)) : l = m ∧ x = y := by
  have h1 := canon_scale hl hm hx hy hv
  have h2 := canon_scale hm hl hy hx hv.symm
  have e : x = y := by omega
  subst e
  have hp : 0 < 10 ^ (M - x) := Nat.pow_pos (by omega)
  have hv2 : nv l = nv m := Nat.eq_of_mul_eq_mul_right hp hv
  obtain ⟨b, t, e1, hd1, hb1, _⟩ := hl
  obtain ⟨c, u, e2, hd2, hb2, _⟩ := hm
  subst e1; subst e2
  exact ⟨nv_inj_lead hd1 hd2 hb1 hb2 hv2, rfl⟩
theorem canon_pos {l : List UInt8} {x : Nat} (h : Canon l x) : 0 < nv l := by
  obtain ⟨b, t, e, hd, hb, _⟩ := h
  subst e
  rw [List.all_cons, Bool.and_eq_true] at hd
  exact Nat.lt_of_lt_of_le (Nat.pow_pos (by omega)) (nv_head hd.1 hb)
end Go.Proofs.YtilmhfkbpnejeaaDoor.Pure

namespace Go.Proofs.YtilmhfkbpnejeaaDoor.Pure
open Go.RowKit Go.Proofs.YtilmhfkbpnejeaaDoor.L Go.Proofs.YtilmhfkbpnejeaaDoorW.PrintWords Go.Proofs.YtilmhfkbpnejeaaDoorW.PrintLast Go.Proofs.YtilmhfkbpnejeaaDoorW.PrintMore
set_option linter.unusedVariables false
set_option linter.unusedSimpArgs false

/-- A right number: nought, or canonical. -/
theorem ok_canon {n : Bool} {s : ByteArray} {x : Int} (h : okB n s x = true) : (s.data.toList = [] ∧ n = false ∧ x = 0) ∨ (∃ y : Nat, x = y ∧ y ≤ 60 ∧ s.data.toList.length ≤ 60 ∧ Canon s.data.toList y) := by
  unfold okB at h
  rcases e : s.data.toList with _ | ⟨b, t⟩
  · rw [e] at h
    simp only [okL, Bool.and_eq_true, beq_iff_eq, Bool.not_eq_true'] at h
    exact .inl ⟨rfl, h⟩
  · rw [e] at h
    simp only [okL, Bool.and_eq_true, bne_iff_ne, decide_eq_true_eq, inB, Bool.or_eq_true, beq_iff_eq] at h
    obtain ⟨h1, h2, h3, ⟨h4, h5⟩, h6⟩ := h
    refine .inr ⟨x.toNat, by omega, by omega, h1, b, t, rfl, h2, fun c => h3 ((b48n b).2 c), ?_⟩
    rcases h6 with h6 | h6
    · left; omega
    · right
      refine ⟨(b :: t).dropLast, (b :: t).getLast (by simp), (List.dropLast_concat_getLast (by simp)).symm, fun c => h6 ((b48n _).2 c)⟩
theorem canon_ok {n : Bool} {l : List UInt8} {x : Nat} (h : Canon l x) (h1 : l.length ≤ 60) (h2 : x ≤ 60) : okL n x l = true := by
  obtain ⟨b, t, e, hd, hb, hl⟩ := h
  subst e
  simp only [okL, Bool.and_eq_true, bne_iff_ne, decide_eq_true_eq, inB, Bool.or_eq_true, beq_iff_eq]
  refine ⟨h1, hd, fun c => hb ((b48n b).1 c), ⟨by omega, by omega⟩, ?_⟩
  rcases hl with h | ⟨u, c, e, hc⟩
  · left; omega
  · right
    intro hh
    have : (b :: t).getLast (by simp) = c := by simp only [e, List.getLast_append, List.getLast_singleton]; simp
    rw [this] at hh
    exact hc ((b48n c).1 hh)

def sg (n : Bool) : Int := if n then -1 else 1
/-- A number's value, by 10 to the scale M. -/
def V (n : Bool) (s : ByteArray) (x : Int) (M : Nat) : Int := sg n * ((nv s.data.toList * 10 ^ (M - x.toNat) : Nat) : Int)
theorem V_zero (M : Nat) : V false ⟨#[]⟩ 0 M = 0 := by simp [V, nv]
theorem V_nil {n : Bool} {s : ByteArray} {x : Int} (h : s.data.toList = []) (M : Nat) : V n s x M = 0 := by simp [V, h, nv]
theorem sg_cases (n : Bool) : sg n = 1 ∨ sg n = -1 := by cases n <;> simp [sg]
theorem V_pos {n : Bool} {s : ByteArray} {x : Nat} (h : Canon s.data.toList x) (M : Nat) : (n = false → 0 < V n s x M) ∧ (n = true → V n s x M < 0) := by
  have h1 := canon_pos h
  have h2 : 0 < nv s.data.toList * 10 ^ (M - x) := Nat.mul_pos h1 (Nat.pow_pos (by omega))
  unfold V
  rw [Int.toNat_natCast]
  constructor <;> intro e <;> subst e <;> simp only [sg, if_true, Bool.false_eq_true, if_false] <;> omega
theorem V_neg {n : Bool} {s : ByteArray} {x : Int} (h : okB n s x = true) (M : Nat) : (n = true ↔ V n s x M < 0) ∧ (s.data.toList = [] ↔ V n s x M = 0) := by
  rcases ok_canon h with ⟨h1, h2, h3⟩ | ⟨y, rfl, h1, h2, h3⟩
  · subst h2
    rw [V_nil h1]
    simp [h1]
  · have := V_pos (n := n) h3 M
    have hne : s.data.toList ≠ [] := by obtain ⟨b, t, e, _⟩ := h3; rw [e]; simp
    cases n with
    | true => have := this.2 rfl; exact ⟨⟨fun _ => this, fun _ => rfl⟩, ⟨fun e => absurd e hne, fun e => by omega⟩⟩
    | false => have := this.1 rfl; exact ⟨⟨fun e => (by cases e), fun e => (by omega)⟩, ⟨fun e => absurd e hne, fun e => by omega⟩⟩
theorem V_uniq {n m : Bool} {s t : ByteArray} {x y : Int} {M : Nat} (h : okB n s x = true) (k : okB m t y = true) (hx : x ≤ M) (hy : y ≤ M) (hv : V n s x M = V m t y M) : n = m ∧ s = t ∧ x = y := by
  have a := V_neg h M
  have b := V_neg k M
  have hn : n = m := by
    have : n = true ↔ m = true := a.1.trans (by rw [hv]; exact b.1.symm)
    cases n with
    | true => exact (this.1 rfl).symm
    | false => cases m with
      | true => exact this.2 rfl
      | false => rfl
  subst hn
  rcases ok_canon h with ⟨h1, h2, h3⟩ | ⟨x, rfl, h1, h2, h3⟩
  · rcases ok_canon k with ⟨k1, k2, k3⟩ | ⟨y, rfl, k1, k2, k3⟩
    · exact ⟨rfl, ba_ext (by rw [h1, k1]), by rw [h3, k3]⟩
    · exfalso
      have e := b.2.2 (by rw [← hv]; exact a.2.1 h1)
      have := canon_pos k3
      rw [e] at this
      exact absurd this (by simp [nv])
  · rcases ok_canon k with ⟨k1, k2, k3⟩ | ⟨y, rfl, k1, k2, k3⟩
    · exfalso
      have e := a.2.2 (by rw [hv]; exact b.2.1 k1)
      have := canon_pos h3
      rw [e] at this
      exact absurd this (by simp [nv])
    · have hv' : nv s.data.toList * 10 ^ (M - x) = nv t.data.toList * 10 ^ (M - y) := by
        unfold V at hv
        rw [Int.toNat_natCast, Int.toNat_natCast] at hv
        rcases sg_cases n with e | e <;> rw [e] at hv <;> omega
      have := canon_uniq h3 k3 (by omega) (by omega) hv'
      exact ⟨rfl, ba_ext this.1, by rw [this.2]⟩

/-! ### what digits are made into -/
theorem strip_val : ∀ (l : List UInt8) (x : Nat), (stripR l x).2 ≤ x ∧ nv (stripR l x).1.reverse * 10 ^ (x - (stripR l x).2) = nv l.reverse ∧
    ((stripR l x).2 = 0 ∨ (stripR l x).1 = [] ∨ ∃ b t, (stripR l x).1 = b :: t ∧ b ≠ 48) ∧ (l.all digB = true → (stripR l x).1.all digB = true)
  | [], x => by simp [stripR]
  | b :: t, 0 => by simp [stripR]
  | b :: t, x + 1 => by
    by_cases c : b = 48
    · have ih := strip_val t x
      simp only [stripR, if_pos c]
      refine ⟨by omega, ?_, ih.2.2.1, fun h => ih.2.2.2 (by rw [List.all_cons, Bool.and_eq_true] at h; exact h.2)⟩
      have e : x + 1 - (stripR t x).2 = (x - (stripR t x).2) + 1 := by omega
      rw [e, Nat.pow_succ, ← Nat.mul_assoc, ih.2.1, List.reverse_cons, nv_snoc]
      subst c
      simp only [dv]
      have : (48 : UInt8).toNat = 48 := rfl
      omega
    · simp only [stripR, if_neg c]
      exact ⟨Nat.le_refl _, by simp, .inr (.inr ⟨b, t, rfl, c⟩), fun h => h⟩
theorem drop_last_ne {l : List UInt8} {b : UInt8} {t : List UInt8} (h : l.dropWhile (· == 48) = b :: t) : b ≠ 48 ∧ ∃ p, l = p ++ (b :: t) := by
  induction l with
  | nil => simp at h
  | cons a l ih =>
    by_cases c : a = 48
    · subst c
      have e : (List.dropWhile (· == (48 : UInt8)) (48 :: l)) = l.dropWhile (· == 48) := rfl
      rw [e] at h
      obtain ⟨h1, p, h2⟩ := ih h
      exact ⟨h1, 48 :: p, by rw [h2]; rfl⟩
    · have c' : (a == 48) = false := by simpa using c
      simp only [List.dropWhile, c'] at h
      injection h with h1 h2
      subst h1; subst h2
      exact ⟨c, [], rfl⟩
/-- The two cases of 'norm'. -/
theorem norm_cases (n : Bool) (l : List UInt8) (x : Nat) (hd : l.all digB = true) :
    (nv l = 0 ∧ norm n l x = zeroQ true) ∨ (∃ m y, Canon m y ∧ y ≤ x ∧ nv m * 10 ^ (x - y) = nv l ∧ norm n l x = if okL n y m then (n, mkB m, (y : Int), true) else zeroQ false) := by
  obtain ⟨h1, h2, h3, h4⟩ := strip_val l.reverse x
  rw [List.reverse_reverse] at h2
  have h4 := h4 (by rw [List.all_reverse]; exact hd)
  unfold norm normL
  rcases e : (stripR l.reverse x).1.reverse.dropWhile (· == 48) with _ | ⟨b, t⟩
  · left
    refine ⟨?_, rfl⟩
    rw [← h2, ← nv_drop, e]
    simp [nv]
  · right
    obtain ⟨hb, p, hp⟩ := drop_last_ne e
    refine ⟨b :: t, (stripR l.reverse x).2, ⟨b, t, rfl, ?_, hb, ?_⟩, h1, ?_, rfl⟩
    · have : (stripR l.reverse x).1.reverse.all digB = true := by rw [List.all_reverse]; exact h4
      rw [hp, List.all_append, Bool.and_eq_true] at this
      exact this.2
    · rcases h3 with h | h | ⟨c, u, hc, hne⟩
      · exact .inl h
      · rw [h] at e; simp at e
      · right
        rw [hc, List.reverse_cons] at hp
        refine ⟨(b :: t).dropLast, c, ?_, hne⟩
        have hl : (b :: t).getLast (by simp) = c := by
          have h5 : (u.reverse ++ [c]).getLast? = (p ++ (b :: t)).getLast? := by rw [hp]
          rw [List.getLast?_append, List.getLast?_append] at h5
          simp only [List.getLast?_singleton, Option.some_or] at h5
          rw [List.getLast?_eq_some_getLast (by simp : (b :: t) ≠ [])] at h5
          simp only [Option.some_or, Option.some.injEq] at h5
          exact h5.symm
        rw [← hl]
        exact (List.dropLast_concat_getLast (by simp)).symm
    · rw [← e, nv_drop]; exact h2

theorem norm_good (n : Bool) (l : List UInt8) (x : Nat) (hd : l.all digB = true) (hok : (norm n l x).2.2.2 = true) :
    okB (norm n l x).1 (norm n l x).2.1 (norm n l x).2.2.1 = true ∧ (norm n l x).2.2.1 ≤ x ∧ V (norm n l x).1 (norm n l x).2.1 (norm n l x).2.2.1 x = sg n * (nv l : Int) := by
  rcases norm_cases n l x hd with ⟨h1, h2⟩ | ⟨m, y, h1, h2, h3, h4⟩
  · rw [h2]
    refine ⟨rfl, by simp [zeroQ], ?_⟩
    show V false ⟨#[]⟩ 0 x = _
    rw [V_zero, h1]; simp
  · by_cases c : okL n y m = true
    · rw [if_pos c] at h4
      rw [h4]
      refine ⟨by rw [okB, mkB_list]; exact c, by show (y : Int) ≤ x; omega, ?_⟩
      show V n (mkB m) (y : Int) x = _
      rw [V, mkB_list, Int.toNat_natCast, h3]
    · rw [if_neg c] at h4
      rw [h4] at hok
      cases hok
theorem norm_is (n : Bool) (l : List UInt8) (x : Nat) (hd : l.all digB = true) {m : Bool} {t : ByteArray} {y : Int} (hk : okB m t y = true) (hy : y ≤ x) (hv : V m t y x = sg n * (nv l : Int)) :
    norm n l x = (m, t, y, true) := by
  have k := V_neg hk x
  rcases norm_cases n l x hd with ⟨h1, h2⟩ | ⟨l2, z, h1, h2, h3, h4⟩
  · rw [h1] at hv
    have e : t.data.toList = [] := k.2.2 (by rw [hv]; simp)
    rcases ok_canon hk with ⟨_, k2, k3⟩ | ⟨_, _, _, _, _, _, e2, _⟩
    · rw [h2, k2, k3, ba_ext (a := t) (b := ⟨#[]⟩) (by rw [e])]; rfl
    · rw [e] at e2; cases e2
  · have hp : 0 < nv l := by rw [← h3]; exact Nat.mul_pos (canon_pos h1) (Nat.pow_pos (by omega))
    rcases ok_canon hk with ⟨k1, k2, k3⟩ | ⟨w, rfl, k1, k2, k3⟩
    · exfalso
      rw [k.2.1 k1] at hv
      rcases sg_cases n with e | e <;> rw [e] at hv <;> omega
    · have hm : m = n := by
        have c := V_pos (n := m) k3 x
        cases m with
        | true => have := c.2 rfl; cases n with
          | true => rfl
          | false => simp only [sg, Bool.false_eq_true, if_false] at hv; omega
        | false => have := c.1 rfl; cases n with
          | false => rfl
          | true => simp only [sg, if_true] at hv; omega
      subst hm
      have hv' : nv l2 * 10 ^ (x - z) = nv t.data.toList * 10 ^ (x - w) := by
        unfold V at hv
        rw [Int.toNat_natCast] at hv
        rw [h3]
        rcases sg_cases m with e | e <;> rw [e] at hv <;> omega
      have u := canon_uniq h1 k3 h2 (by omega) hv'
      rw [h4, u.1, u.2, mkB_of]
      rw [if_pos]
      rw [okB] at hk
      exact hk
theorem norm_bad (n : Bool) (l : List UInt8) (x : Nat) (hok : (norm n l x).2.2.2 = false) : norm n l x = zeroQ false := by
  unfold norm normL at hok ⊢
  split at hok
  · cases hok
  · split at hok
    · cases hok
    · rename_i h; rw [if_neg h]
end Go.Proofs.YtilmhfkbpnejeaaDoor.Pure

namespace Go.Proofs.YtilmhfkbpnejeaaDoor.Pure
open Go.RowKit Go.Proofs.YtilmhfkbpnejeaaDoor.L Go.Proofs.YtilmhfkbpnejeaaDoorW.PrintWords Go.Proofs.YtilmhfkbpnejeaaDoorW.PrintLast Go.Proofs.YtilmhfkbpnejeaaDoorW.PrintMore
set_option linter.unusedVariables false
set_option linter.unusedSimpArgs false

def whole (l : List UInt8) : List UInt8 := l.takeWhile (· != 46)
def part (l : List UInt8) : List UInt8 := (l.dropWhile (· != 46)).drop 1
def readB (n : Bool) (l : List UInt8) : Bool × ByteArray × Int × Bool :=
  if l.length > 180 then zeroQ false
  else if (whole l).all digB = true then (if (part l).all digB = true then (if whole l ++ part l = [] then zeroQ false else norm n (whole l ++ part l) (part l).length) else zeroQ false) else zeroQ false
def readD : List UInt8 → Bool × ByteArray × Int × Bool
  | [] => readB false []
  | b :: t => if b = 45 then readB true t else if b = 43 then readB false t else readB false (b :: t)

theorem whole_add (l : List UInt8) : whole l ++ l.dropWhile (· != 46) = l := List.takeWhile_append_dropWhile
theorem whole_len (l : List UInt8) : (whole l).length ≤ l.length := by
  have := congrArg List.length (whole_add l)
  rw [List.length_append] at this
  omega
theorem take_whole (l : List UInt8) : l.take (whole l).length = whole l := by
  conv => lhs; arg 2; rw [← whole_add l]
  exact List.take_left
theorem drop_whole (l : List UInt8) : l.drop (whole l).length = l.dropWhile (· != 46) := by
  conv => lhs; arg 2; rw [← whole_add l]
  exact List.drop_left
theorem drop_part (l : List UInt8) : l.drop ((whole l).length + 1) = part l := by
  rw [part, ← drop_whole, List.drop_drop]
theorem part_nil (l : List UInt8) (h : (whole l).length = l.length) : part l = [] := by
  rw [← drop_part, List.drop_of_length_le (by omega)]
theorem at_whole : ∀ (l : List UInt8) (i : Nat) (h : i < l.length), (i < (whole l).length → l[i] ≠ 46) ∧ (i = (whole l).length → l[i] = 46)
  | [], i, h => by simp at h
  | b :: t, i, h => by
    by_cases c : b = 46
    · subst c
      have e : whole (46 :: t) = [] := rfl
      rw [e]
      refine ⟨fun h => by simp at h, fun h => ?_⟩
      have : i = 0 := by simpa using h
      subst this; rfl
    · have c' : (b != 46) = true := by simpa using c
      have e : whole (b :: t) = b :: whole t := by simp only [whole, List.takeWhile, c']
      rw [e, List.length_cons]
      match i, h with
      | 0, h => exact ⟨fun _ => c, fun h => by omega⟩
      | i + 1, h =>
        have ih := at_whole t i (by simpa using h)
        exact ⟨fun h => ih.1 (by omega), fun h => ih.2 (by omega)⟩
theorem b46 (b : UInt8) : ((b.toNat : Int) = 46) ↔ b = 46 := by
  constructor
  · intro h
    apply UInt8.toNat.inj
    have e2 : (46 : UInt8).toNat = 46 := rfl
    omega
  · intro h; subst h; rfl

theorem spec_j4 (n : Bool) (s w p : ByteArray) (hs : s.size ≤ 1000000) (hw : w.data.toList = whole s.data.toList) (hp : p.data.toList = part s.data.toList) :
    Ev (fun k => spec_ReadDec.j4 k s n w p) (readB n s.data.toList) := by
  have hzs := sz s
  have hlw : w.data.toList.length ≤ 1000000 := by rw [hw]; exact Nat.le_trans (whole_len _) (by omega)
  have hlp : p.data.toList.length ≤ 1000000 := by rw [hp, ← drop_part, List.length_drop]; omega
  unfold readB
  by_cases c : s.data.toList.length > 180
  · rw [if_pos c]
    refine Ev.step (f := fun _ => some (zeroQ false)) (fun k => ?_) (Ev.now _)
    simp only [spec_ReadDec.j4]
    rw [if_pos (by omega)]; rfl
  · rw [if_neg c]
    refine Ev.step (f := fun k => ((spec_l4Digits.f k w).bind fun t175 => (if t175 = true then ((spec_l4Digits.f k p).bind fun t176 => (if t176 = true then (if w.size + p.size ≤ 9223372036854775807 then (if (w ++ p).toList = ([] : List UInt8) then (some (false, (⟨#[]⟩ : ByteArray), 0, false)) else ((spec_l4Norm.f k n (w ++ p) (p.size : Int)).bind fun bt177 => (some (bt177.1, bt177.2.1, bt177.2.2.1, bt177.2.2.2)))) else (none)) else (some (false, (⟨#[]⟩ : ByteArray), 0, false)))) else (some (false, (⟨#[]⟩ : ByteArray), 0, false))))) (fun k => ?_) ?_
    · simp only [spec_ReadDec.j4]
      rw [if_neg (by omega)]
    · have d1 := l4Digits w (by omega)
      rw [hw] at d1
      refine Ev.bind d1 ?_
      by_cases c1 : (whole s.data.toList).all digB = true
      · rw [if_pos c1]
        simp only [c1, if_true]
        have d2 := l4Digits p (by omega)
        rw [hp] at d2
        refine Ev.bind d2 ?_
        by_cases c2 : (part s.data.toList).all digB = true
        · simp only [c2, if_true]
          have e1 := sz w
          have e2 := sz p
          simp only [Lib.toList_data, ba_app, hw, hp, show w.size + p.size ≤ 9223372036854775807 by omega, if_true]
          by_cases c3 : whole s.data.toList ++ part s.data.toList = []
          · simp only [c3, if_true]; exact Ev.now _
          · simp only [c3, if_false]
            have d3 := l4Norm_f n (w ++ p) p.data.toList.length hlp (by rw [app_size]; have := whole_len s.data.toList; rw [sz, sz]; have : p.data.toList.length ≤ 180 := (by rw [hp, ← drop_part, List.length_drop]; omega); rw [hw]; omega)
            rw [ba_app, hw, hp, ← hp, ← e2] at d3
            refine Ev.bind d3 ?_
            rw [hp, e2, hp]
            exact Ev.now _
        · rw [if_neg c2]
          simp only [c2]; exact Ev.now _
      · rw [if_neg c1]
        simp only [c1]; exact Ev.now _
theorem spec_j3 (n : Bool) (s : ByteArray) (hs : s.size ≤ 1000000) : Ev (fun k => spec_ReadDec.j3 k s n ((whole s.data.toList).length : Int)) (readB n s.data.toList) := by
  have hz := sz s
  have hl := whole_len s.data.toList
  have e1 : (s.extract 0 (((whole s.data.toList).length : Nat) : Int).toNat).data.toList = whole s.data.toList := by
    rw [Lib.extract_data, List.drop_zero, Int.toNat_natCast, Nat.sub_zero, take_whole]
  by_cases c : (whole s.data.toList).length < s.data.toList.length
  · have hw : wrap64 (((whole s.data.toList).length : Int) + 1) = (((whole s.data.toList).length + 1 : Nat) : Int) := by rw [w64] <;> omega
    refine Ev.step (f := fun k => spec_ReadDec.j4 k s n (s.extract 0 (((whole s.data.toList).length : Nat) : Int).toNat) (s.extract (((whole s.data.toList).length + 1 : Nat) : Int).toNat s.size)) (fun k => ?_) (spec_j4 n s _ _ hs e1 ?_)
    · simp only [spec_ReadDec.j3]
      rw [if_pos (by omega), if_pos (by omega), if_pos (by omega), hw, if_pos (by omega), if_pos (by omega)]
    · rw [Lib.extract_to_end, Int.toNat_natCast, drop_part]
  · refine Ev.step (f := fun k => spec_ReadDec.j4 k s n (s.extract 0 (((whole s.data.toList).length : Nat) : Int).toNat) ⟨#[]⟩) (fun k => ?_) (spec_j4 n s _ _ hs e1 ?_)
    · simp only [spec_ReadDec.j3]
      rw [if_pos (by omega), if_pos (by omega), if_neg (by omega)]
    · rw [part_nil _ (by omega)]
theorem spec_l0 (n : Bool) (s : ByteArray) (hs : s.size ≤ 1000000) : ∀ (m i : Nat), i + m = (whole s.data.toList).length → Ev (fun k => spec_ReadDec.l0 k s n (i : Int)) (readB n s.data.toList) := by
  have hz := sz s
  have hl := whole_len s.data.toList
  intro m
  induction m with
  | zero =>
    intro i hi
    have hi' : i = (whole s.data.toList).length := by omega
    subst hi'
    refine Ev.step (f := fun k => spec_ReadDec.j3 k s n ((whole s.data.toList).length : Int)) (fun k => ?_) (spec_j3 n s hs)
    conv => lhs; unfold spec_ReadDec.l0
    by_cases c : (whole s.data.toList).length < s.data.toList.length
    · rw [if_pos (by omega), if_pos (by omega), bt_nat s _ c, if_pos ((b46 _).2 ((at_whole _ _ c).2 rfl))]
    · rw [if_neg (by omega)]
  | succ m ih =>
    intro i hi
    have c : i < s.data.toList.length := by omega
    refine Ev.step (f := fun k => spec_ReadDec.l0 k s n ((i + 1 : Nat) : Int)) (fun k => ?_) (ih (i + 1) (by omega))
    conv => lhs; unfold spec_ReadDec.l0
    have hw : wrap64 ((i : Int) + 1) = ((i + 1 : Nat) : Int) := by rw [w64] <;> omega
    rw [if_pos (by omega), if_pos (by omega), bt_nat s _ c, if_neg (fun h => (at_whole s.data.toList i c).1 (by omega) ((b46 _).1 h)), hw]
theorem spec_j1 (n : Bool) (s : ByteArray) (hs : s.size ≤ 1000000) : Ev (fun k => spec_ReadDec.j1 k s n) (readB n s.data.toList) :=
  Ev.step (f := fun k => spec_ReadDec.l0 k s n 0) (fun k => by simp only [spec_ReadDec.j1]) (spec_l0 n s hs (whole s.data.toList).length 0 (by omega))
theorem bN (b : UInt8) (m : UInt8) : ((b.toNat : Int) = (m.toNat : Int)) ↔ b = m := by
  constructor
  · intro h; apply UInt8.toNat.inj; omega
  · intro h; subst h; rfl
theorem spec_ReadDec_f (s : ByteArray) (hs : s.size ≤ 1000000) : Ev (fun k => spec_ReadDec.f k s) (readD s.data.toList) := by
  have hz := sz s
  unfold spec_ReadDec.f
  rcases h : s.data.toList with _ | ⟨b, t⟩
  · rw [h] at hz
    have hz' : s.size = 0 := hz
    refine Ev.congr (f := fun k => spec_ReadDec.j0 k s false false) (fun k => by rw [if_neg (by omega)]) ?_
    refine Ev.step (f := fun k => spec_ReadDec.j1 k s false) (fun k => by simp only [spec_ReadDec.j0, Bool.false_eq_true, if_false]) ?_
    have := spec_j1 false s hs
    rw [h] at this
    exact this
  · rw [h, List.length_cons] at hz
    have hb := first_bt s b t h
    have hd : (s.extract 1 s.size).data.toList = t := by rw [Lib.extract_to_end, h]; rfl
    have hds : (s.extract 1 s.size).size ≤ 1000000 := by rw [sz, hd]; omega
    have n45 := bN b 45
    have n43 := bN b 43
    have e45 : ((45 : UInt8).toNat : Int) = 45 := rfl
    have e43 : ((43 : UInt8).toNat : Int) = 43 := rfl
    rw [e45] at n45
    rw [e43] at n43
    refine Ev.congr (f := fun k => if b = 45 then spec_ReadDec.j0 k s false true else spec_ReadDec.j0 k s false (b == 43)) (fun k => ?_) ?_
    · rw [if_pos (by omega), if_pos (by omega), hb]
      by_cases c : b = 45
      · rw [if_pos (n45.2 c), if_pos c]
      · rw [if_neg (fun h => c (n45.1 h)), if_neg c]
        congr 1
        rw [Bool.eq_iff_iff, beq_iff_eq, beq_iff_eq]
        exact n43
    · have jt : Ev (fun k => spec_ReadDec.j0 k s false true) (readB (b == 45) t) := by
        refine Ev.step (f := fun k => spec_ReadDec.j1 k (s.extract 1 s.size) (b == 45)) (fun k => ?_) ?_
        · simp only [spec_ReadDec.j0, if_true]
          rw [if_pos (by omega), if_pos (by omega), hb]
          congr 1
          rw [Bool.eq_iff_iff, beq_iff_eq, beq_iff_eq]
          exact n45
        · have := spec_j1 (b == 45) (s.extract 1 s.size) hds
          rw [hd] at this
          exact this
      unfold readD
      by_cases c : b = 45
      · simp only [c, if_true] at jt ⊢
        exact jt
      · simp only [c, if_false]
        by_cases c3 : b = 43
        · subst c3
          simp only [if_true, beq_self_eq_true] at jt ⊢
          exact jt
        · have c3' : (b == 43) = false := by simpa using c3
          simp only [c3, if_false, c3']
          refine Ev.step (f := fun k => spec_ReadDec.j1 k s false) (fun k => by simp only [spec_ReadDec.j0, Bool.false_eq_true, if_false]) ?_
          have := spec_j1 false s hs
          rw [h] at this
          exact this

/-! ### the program's way -/
theorem index_whole : ∀ l : List UInt8, Lib.indexByte l 46 = if (whole l).length < l.length then ((whole l).length : Int) else -1
  | [] => rfl
  | b :: t => by
    have ih := index_whole t
    have hl := whole_len t
    unfold Lib.indexByte
    by_cases c : b = 46
    · subst c
      have e : whole (46 :: t) = [] := rfl
      rw [e]; simp
    · have c1 : (b == 46) = false := by simpa using c
      have c' : (b != 46) = true := by simpa using c
      have e : whole (b :: t) = b :: whole t := by simp only [whole, List.takeWhile, c']
      by_cases d : (whole t).length < t.length
      · rw [if_pos d] at ih
        have h1 : (((whole t).length : Int) == -1) = false := by
          rw [beq_eq_false_iff_ne]; omega
        rw [e, ih, c1, h1, List.length_cons, List.length_cons, if_pos (by omega : (whole t).length + 1 < t.length + 1)]
        simp
      · rw [if_neg d] at ih
        rw [e, ih, c1, List.length_cons, List.length_cons, if_neg (by omega : ¬ ((whole t).length + 1 < t.length + 1))]
        rfl
theorem cut_f (s : ByteArray) (hs : s.size ≤ 9223372036854775807) : ∃ w p b, strings_Cut.f s (⟨#[46]⟩ : ByteArray) = some (w, p, b) ∧ w.data.toList = whole s.data.toList ∧ p.data.toList = part s.data.toList := by
  have hz := sz s
  have hl := whole_len s.data.toList
  have e : strings_Cut.f s (⟨#[46]⟩ : ByteArray) = if s.size ≤ 9223372036854775807 then
      (if 0 ≤ Lib.indexByte s.data.toList 46 then some (s.extract 0 (Lib.indexByte s.data.toList 46).toNat, s.extract ((Lib.indexByte s.data.toList 46).toNat + 1) s.size, true) else some (s, ⟨#[]⟩, false)) else none := rfl
  rw [e, if_pos hs, index_whole]
  by_cases c : (whole s.data.toList).length < s.data.toList.length
  · rw [if_pos c, if_pos (by omega)]
    refine ⟨_, _, _, rfl, ?_, ?_⟩
    · rw [Lib.extract_data, List.drop_zero, Int.toNat_natCast, Nat.sub_zero, take_whole]
    · rw [Lib.extract_to_end, Int.toNat_natCast, drop_part]
  · rw [if_neg c, if_neg (by omega)]
    refine ⟨_, _, _, rfl, ?_, ?_⟩
    · have := take_whole s.data.toList
      rw [List.take_of_length_le (by omega)] at this
      exact this
    · rw [part_nil _ (by omega)]
theorem impl_j1 (n : Bool) (x s : ByteArray) (hs : s.size ≤ 1000000) (hx : s.data.toList ≠ [] → 0 < x.size ∧ ((bt x 0) == 45) = n) : Ev (fun k => impl_ReadDec.j1 k x s) (readB n s.data.toList) := by
  have hzs := sz s
  obtain ⟨w, p, b, hc, hw, hp⟩ := cut_f s (by omega)
  have e1 := sz w
  have e2 := sz p
  have hlw : w.size ≤ s.size := by rw [e1, hw, hzs]; exact whole_len _
  have hlp : p.size ≤ s.size := by rw [e2, hp, ← drop_part, List.length_drop]; omega
  have app : (w ++ p).data.toList = whole s.data.toList ++ part s.data.toList := by rw [ba_app, hw, hp]
  unfold readB
  by_cases c : s.data.toList.length > 180
  · rw [if_pos c]
    refine Ev.step (f := fun _ => some (zeroQ false)) (fun k => ?_) (Ev.now _)
    simp only [impl_ReadDec.j1, hc, Option.bind_some]
    rw [if_pos (by omega)]; rfl
  · rw [if_neg c]
    by_cases c3 : whole s.data.toList ++ part s.data.toList = []
    · have : (if (whole s.data.toList).all digB = true then (if (part s.data.toList).all digB = true then (if whole s.data.toList ++ part s.data.toList = [] then zeroQ false else norm n (whole s.data.toList ++ part s.data.toList) (part s.data.toList).length) else zeroQ false) else zeroQ false) = zeroQ false := by
        rw [if_pos c3]; split <;> (try split) <;> rfl
      rw [this]
      refine Ev.step (f := fun _ => some (zeroQ false)) (fun k => ?_) (Ev.now _)
      simp only [impl_ReadDec.j1, hc, Option.bind_some]
      rw [if_neg (by omega), if_pos (by omega), Lib.toList_data, app, if_pos c3]; rfl
    · have hne : s.data.toList ≠ [] := fun h => c3 (by rw [h]; rfl)
      have hsz : (w ++ p).size ≤ 1000000 := by rw [app_size]; omega
      have hdig := isDigits_f (w ++ p) (by omega)
      rw [app, List.all_append] at hdig
      by_cases c1 : (whole s.data.toList).all digB = true
      · by_cases c2 : (part s.data.toList).all digB = true
        · rw [if_pos c1, if_pos c2, if_neg c3]
          refine Ev.step (f := fun k => ((impl_made.f k n (w ++ p) (p.size : Int)).bind fun bt515 => (some (bt515.1, bt515.2.1, bt515.2.2.1, bt515.2.2.2)))) (fun k => ?_) ?_
          · simp only [impl_ReadDec.j1, hc, Option.bind_some]
            rw [if_neg (by omega), if_pos (by omega), Lib.toList_data, app, if_neg c3, hdig, c1, c2]
            simp only [Option.bind_some, Bool.and_self, if_true]
            rw [if_pos (by have := (hx hne).1; omega), (hx hne).2]
          · have d3 := made_f n p.data.toList.length (w ++ p) (by omega) hsz
            rw [app, ← e2] at d3
            refine Ev.bind d3 ?_
            rw [e2, hp]
            exact Ev.now _
        · rw [if_pos c1, if_neg c2]
          refine Ev.step (f := fun _ => some (zeroQ false)) (fun k => ?_) (Ev.now _)
          simp only [impl_ReadDec.j1, hc, Option.bind_some]
          rw [Bool.not_eq_true] at c2
          rw [if_neg (by omega), if_pos (by omega), Lib.toList_data, app, if_neg c3, hdig, c1, c2]; rfl
      · rw [if_neg c1]
        refine Ev.step (f := fun _ => some (zeroQ false)) (fun k => ?_) (Ev.now _)
        simp only [impl_ReadDec.j1, hc, Option.bind_some]
        rw [Bool.not_eq_true] at c1
        rw [if_neg (by omega), if_pos (by omega), Lib.toList_data, app, if_neg c3, hdig, c1]; rfl
theorem impl_ReadDec_f (s : ByteArray) (hs : s.size ≤ 1000000) : Ev (fun k => impl_ReadDec.f k s) (readD s.data.toList) := by
  have hz := sz s
  unfold impl_ReadDec.f
  rcases h : s.data.toList with _ | ⟨b, t⟩
  · refine Ev.congr (f := fun k => impl_ReadDec.j0 k s s false) (fun k => by rw [if_pos (by rw [Lib.toList_data]; exact h)]) ?_
    refine Ev.step (f := fun k => impl_ReadDec.j1 k s s) (fun k => by simp only [impl_ReadDec.j0, Bool.false_eq_true, if_false]) ?_
    have := impl_j1 false s s hs (fun h' => absurd h h')
    rw [h] at this
    exact this
  · rw [h, List.length_cons] at hz
    have hb := first_bt s b t h
    have hd : (s.extract 1 s.size).data.toList = t := by rw [Lib.extract_to_end, h]; rfl
    have hds : (s.extract 1 s.size).size ≤ 1000000 := by rw [sz, hd]; omega
    have n45 := bN b 45
    have n43 := bN b 43
    have e45 : ((45 : UInt8).toNat : Int) = 45 := rfl
    have e43 : ((43 : UInt8).toNat : Int) = 43 := rfl
    rw [e45] at n45
    rw [e43] at n43
    have b45 : ((bt s 0) == 45) = (b == 45) := by rw [hb, Bool.eq_iff_iff, beq_iff_eq, beq_iff_eq]; exact n45
    refine Ev.congr (f := fun k => if b = 43 then impl_ReadDec.j0 k s s true else impl_ReadDec.j0 k s s (b == 45)) (fun k => ?_) ?_
    · rw [if_neg (by rw [Lib.toList_data, h]; simp), if_pos (by omega), b45, hb]
      by_cases c : b = 43
      · rw [if_pos (n43.2 c), if_pos c]
      · rw [if_neg (fun h => c (n43.1 h)), if_neg c]
    · have jt : Ev (fun k => impl_ReadDec.j0 k s s true) (readB (b == 45) t) := by
        refine Ev.step (f := fun k => impl_ReadDec.j1 k s (s.extract 1 s.size)) (fun k => ?_) ?_
        · simp only [impl_ReadDec.j0, if_true]
          rw [if_pos (by omega)]
        · have := impl_j1 (b == 45) s (s.extract 1 s.size) hds (fun _ => ⟨by omega, b45⟩)
          rw [hd] at this
          exact this
      unfold readD
      by_cases c3 : b = 43
      · subst c3
        simp only [if_true] at jt ⊢
        exact jt
      · simp only [c3, if_false]
        by_cases c : b = 45
        · subst c
          simp only [if_true, beq_self_eq_true] at jt ⊢
          exact jt
        · have c' : (b == 45) = false := by simpa using c
          simp only [c, if_false, c']
          refine Ev.step (f := fun k => impl_ReadDec.j1 k s s) (fun k => by simp only [impl_ReadDec.j0, Bool.false_eq_true, if_false]) ?_
          have := impl_j1 false s s hs (fun _ => ⟨by omega, by rw [b45, c']⟩)
          rw [h] at this
          exact this
end Go.Proofs.YtilmhfkbpnejeaaDoor.Pure

namespace Go.Proofs.YtilmhfkbpnejeaaDoor.Pure
open Go.RowKit Go.Proofs.YtilmhfkbpnejeaaDoor.L Go.Proofs.YtilmhfkbpnejeaaDoorW.PrintWords Go.Proofs.YtilmhfkbpnejeaaDoorW.PrintLast Go.Proofs.YtilmhfkbpnejeaaDoorW.PrintMore
set_option linter.unusedVariables false
set_option linter.unusedSimpArgs false

/-- The digits with noughts ahead, one more than the scale at least. -/
def longD (l : List UInt8) (x : Nat) : List UInt8 := List.replicate (x + 1 - l.length) 48 ++ l
def bodyD (D : List UInt8) (x : Nat) : List UInt8 := if x = 0 then D else D.take (D.length - x) ++ (46 :: D.drop (D.length - x))
def textD (n : Bool) (l : List UInt8) (x : Nat) : List UInt8 := if n then 45 :: bodyD (longD l x) x else bodyD (longD l x) x
theorem longD_len (l : List UInt8) (x : Nat) : (longD l x).length = max l.length (x + 1) := by
  unfold longD; rw [List.length_append, List.length_replicate]; omega
theorem one_list (b : UInt8) : ((⟨#[b]⟩ : ByteArray).data.toList) = [b] := rfl
theorem one_size (b : UInt8) : ((⟨#[b]⟩ : ByteArray).size) = 1 := rfl
theorem app_list2 (a b : ByteArray) : (a ++ b).data.toList = a.data.toList ++ b.data.toList := ba_app a b

theorem spec_text (n : Bool) (a : Bool) (q : ByteArray) (x : Nat) (hx : x ≤ 100) : ∀ (m : Nat) (s : ByteArray), m = x + 1 - s.data.toList.length → s.size ≤ 200 →
    Ev (fun k => spec_DecText.l0 k s n q (x : Int)) (mkB (textD n s.data.toList x)) := by
  intro m
  induction m with
  | zero =>
    intro s hm hs
    have hz := sz s
    have hD : longD s.data.toList x = s.data.toList := by unfold longD; rw [← hm]; rfl
    refine Ev.step (f := fun _ => some (mkB (textD n s.data.toList x))) (fun k => ?_) (Ev.now _)
    conv => lhs; unfold spec_DecText.l0
    rw [if_neg (by omega)]
    unfold textD bodyD
    rw [hD]
    by_cases c : x = 0
    · subst c
      rw [if_neg (by omega), if_pos rfl]
      cases n with
      | true =>
        simp only [if_true]
        rw [if_pos (by omega)]
        exact congrArg some (ba_ext (by rw [app_list2, mkB_list, one_list, List.singleton_append]))
      | false =>
        simp only [Bool.false_eq_true, if_false]
        rw [mkB_of]
    · have hw : wrap64 ((s.size : Int) - (x : Int)) = ((s.data.toList.length - x : Nat) : Int) := by rw [w64] <;> omega
      have e0 : (s.extract 0 (((s.data.toList.length - x : Nat) : Int)).toNat).data.toList = s.data.toList.take (s.data.toList.length - x) := by
        rw [Lib.extract_data, List.drop_zero, Int.toNat_natCast, Nat.sub_zero]
      have e1 : (s.extract (((s.data.toList.length - x : Nat) : Int)).toNat s.size).data.toList = s.data.toList.drop (s.data.toList.length - x) := by
        rw [Lib.extract_to_end, Int.toNat_natCast]
      have z0 := congrArg List.length e0
      have z1 := congrArg List.length e1
      rw [← sz, List.length_take] at z0
      rw [← sz, List.length_drop] at z1
      rw [if_pos (by omega), hw, if_neg c]
      rw [if_pos (by omega), if_pos (by omega), if_pos (by omega), if_pos (by rw [app_size, one_size]; omega)]
      cases n with
      | true =>
        simp only [if_true]
        rw [if_pos (by rw [app_size, app_size, one_size]; omega)]
        congr 1
        apply ba_ext; rw [app_list2, app_list2, app_list2, mkB_list, one_list, one_list, e0, e1]; simp
      | false =>
        simp only [Bool.false_eq_true, if_false]
        congr 1
        apply ba_ext; rw [app_list2, app_list2, mkB_list, one_list, e0, e1]; simp
  | succ m ih =>
    intro s hm hs
    have hz := sz s
    refine Ev.step (f := fun k => spec_DecText.l0 k ((⟨#[48]⟩ : ByteArray) ++ s) n q (x : Int)) (fun k => ?_) ?_
    · conv => lhs; unfold spec_DecText.l0
      rw [if_pos (by omega), if_pos (by omega)]
    · have := ih ((⟨#[48]⟩ : ByteArray) ++ s) (by rw [app_list2, one_list, List.length_append, List.length_singleton]; omega) (by rw [app_size, one_size]; omega)
      have e : textD n ((⟨#[48]⟩ : ByteArray) ++ s).data.toList x = textD n s.data.toList x := by
        have : longD ((⟨#[48]⟩ : ByteArray) ++ s).data.toList x = longD s.data.toList x := by
          rw [app_list2, one_list]
          unfold longD
          rw [← hm]
          have e3 : x + 1 - ([48] ++ s.data.toList).length = m := by simp; omega
          rw [e3, ← List.append_assoc, ← List.replicate_succ']
        unfold textD; rw [this]
      rw [e] at this
      exact this

def textQ (n : Bool) (s : ByteArray) (x : Int) : ByteArray := if okB n s x = true then mkB (textD n s.data.toList x.toNat) else ⟨#[]⟩
theorem spec_DecText_f (n : Bool) (s : ByteArray) (x : Int) (hs : s.size ≤ 1000000) : Ev (fun k => spec_DecText.f k n s x) (textQ n s x) := by
  unfold spec_DecText.f textQ
  refine Ev.bind (spec_DecOk_f n s x (by omega)) ?_
  cases e : okB n s x with
  | false => simp only [Bool.false_eq_true, if_false]; exact Ev.now _
  | true =>
    obtain ⟨h1, h2, h3⟩ := ok_len e
    simp only [if_true]
    have := spec_text n n s x.toNat (by omega) _ s rfl (by omega)
    have hx : ((x.toNat : Nat) : Int) = x := by omega
    rw [hx] at this
    exact this
theorem impl_text (n a : Bool) (q : ByteArray) (x : Nat) (hx : x ≤ 100) (s : ByteArray) (hs : s.size ≤ 200) (hl : x + 1 ≤ s.data.toList.length) :
    Ev (fun k => impl_DecText.j0 k s n q (x : Int)) (mkB (if n then 45 :: bodyD s.data.toList x else bodyD s.data.toList x)) := by
  have hz := sz s
  refine Ev.step (f := fun _ => some (mkB (if n then 45 :: bodyD s.data.toList x else bodyD s.data.toList x))) (fun k => ?_) (Ev.now _)
  have hw : wrap64 ((s.size : Int) - (x : Int)) = ((s.data.toList.length - x : Nat) : Int) := by rw [w64] <;> omega
  have e0 : (s.extract 0 (((s.data.toList.length - x : Nat) : Int)).toNat).data.toList = s.data.toList.take (s.data.toList.length - x) := by
    rw [Lib.extract_data, List.drop_zero, Int.toNat_natCast, Nat.sub_zero]
  have e1 : (s.extract (((s.data.toList.length - x : Nat) : Int)).toNat s.size).data.toList = s.data.toList.drop (s.data.toList.length - x) := by
    rw [Lib.extract_to_end, Int.toNat_natCast]
  have z0 := congrArg List.length e0
  have z1 := congrArg List.length e1
  rw [← sz, List.length_take] at z0
  rw [← sz, List.length_drop] at z1
  simp only [impl_DecText.j0]
  rw [hw, if_pos (by omega), if_pos (by omega)]
  unfold bodyD
  by_cases c : x = 0
  · subst c
    have e2 : s.data.toList.take (s.data.toList.length - 0) = s.data.toList := by rw [Nat.sub_zero, List.take_length]
    rw [e2] at e0
    rw [if_neg (by omega), if_pos rfl]
    cases n with
    | true =>
      simp only [if_true]
      rw [if_pos (by omega)]
      congr 1
      apply ba_ext; rw [app_list2, mkB_list, one_list, e0]; rfl
    | false =>
      simp only [Bool.false_eq_true, if_false]
      congr 1
      apply ba_ext; rw [mkB_list, e0]
  · rw [if_pos (by omega), if_neg c]
    rw [if_pos (by omega), if_pos (by rw [app_size, one_size]; omega)]
    cases n with
    | true =>
      simp only [if_true]
      rw [if_pos (by rw [app_size, app_size, one_size]; omega)]
      congr 1
      apply ba_ext; rw [app_list2, app_list2, app_list2, mkB_list, one_list, one_list, e0, e1]; simp
    | false =>
      simp only [Bool.false_eq_true, if_false]
      congr 1
      apply ba_ext; rw [app_list2, app_list2, mkB_list, one_list, e0, e1]; simp
theorem impl_DecText_f (n : Bool) (s : ByteArray) (x : Int) (hs : s.size ≤ 1000000) : Ev (fun k => impl_DecText.f k n s x) (textQ n s x) := by
  unfold impl_DecText.f textQ
  simp only [impl_DecOk_f n s x (by omega), Option.bind_some]
  cases e : okB n s x with
  | false => simp only [Bool.false_eq_true, if_false]; exact Ev.now _
  | true =>
    obtain ⟨h1, h2, h3⟩ := ok_len e
    have hz := sz s
    simp only [if_true]
    have hx : ((x.toNat : Nat) : Int) = x := by omega
    have w1 : wrap64 (x + 1) = x + 1 := by rw [w64] <;> omega
    have w2 : wrap64 (x + 1 - (s.size : Int)) = x + 1 - (s.size : Int) := by rw [w64] <;> omega
    rw [w1, w2]
    by_cases c : x + 1 - (s.size : Int) > 0
    · simp only [c, if_true, repeat_f (x + 1 - (s.size : Int)) (by omega) (by omega), Option.bind_some, Z_size]
      have : (x + 1 - (s.size : Int)).toNat + s.size ≤ 9223372036854775807 := by omega
      simp only [this, if_true]
      have hD : (Z (x + 1 - (s.size : Int)).toNat ++ s).data.toList = longD s.data.toList x.toNat := by
        rw [app_list2, Z_list, longD]
        congr 2; omega
      have := impl_text n n s x.toNat (by omega) (Z (x + 1 - (s.size : Int)).toNat ++ s) (by rw [app_size, Z_size]; omega) (by rw [hD, longD_len]; omega)
      rw [hx, hD] at this
      exact this
    · simp only [c, if_false]
      have hD : s.data.toList = longD s.data.toList x.toNat := by
        rw [longD]
        have : x.toNat + 1 - s.data.toList.length = 0 := by omega
        rw [this]; rfl
      have := impl_text n n s x.toNat (by omega) s (by omega) (by omega)
      rw [hx] at this
      rw [textD, ← hD]
      exact this

/-! ### there and back -/
theorem readD_cons (b : UInt8) (t : List UInt8) : readD (b :: t) = if b = 45 then readB true t else if b = 43 then readB false t else readB false (b :: t) := rfl
theorem digs_no_dot {l : List UInt8} (h : l.all digB = true) : whole l = l ∧ l.dropWhile (· != 46) = [] := by
  have hne : ∀ b ∈ l, (b != 46) = true := fun b hb => by
    have := List.all_eq_true.1 h b hb
    simp only [digB, Bool.and_eq_true, decide_eq_true_eq] at this
    rw [bne_iff_ne]
    intro e
    subst e
    have e2 : (46 : UInt8).toNat = 46 := rfl
    omega
  have hd : l.dropWhile (· != 46) = [] := (dropWhile_nil _ l).2 hne
  have := whole_add l
  rw [hd, List.append_nil] at this
  exact ⟨this, hd⟩
theorem dot_mid {p q : List UInt8} (h : p.all digB = true) : whole (p ++ 46 :: q) = p ∧ part (p ++ 46 :: q) = q := by
  induction p with
  | nil => exact ⟨rfl, rfl⟩
  | cons b t ih =>
    rw [List.all_cons, Bool.and_eq_true] at h
    have ih := ih h.2
    have c : (b != 46) = true := by
      rw [bne_iff_ne]
      intro e
      subst e
      exact absurd h.1 (by decide)
    have e1 : whole ((b :: t) ++ 46 :: q) = b :: whole (t ++ 46 :: q) := by simp only [whole, List.cons_append, List.takeWhile, c]
    have e2 : part ((b :: t) ++ 46 :: q) = part (t ++ 46 :: q) := by simp only [part, List.cons_append, List.dropWhile, c]
    rw [e1, e2, ih.1]
    exact ⟨rfl, ih.2⟩
theorem all_zeros (n : Nat) : (List.replicate n (48 : UInt8)).all digB = true := by
  rw [List.all_eq_true]
  intro b hb
  rw [(List.mem_replicate.1 hb).2]; decide
theorem ok_digs {n : Bool} {s : ByteArray} {x : Int} (h : okB n s x = true) : s.data.toList.all digB = true := by
  rcases ok_canon h with ⟨h1, _⟩ | ⟨_, _, _, _, b, t, e, hd, _⟩
  · rw [h1]; rfl
  · rw [e]; exact hd
theorem read_body (n : Bool) (s : ByteArray) (x : Int) (h : okB n s x = true) : ∀ m, (s.data.toList = [] → True) → (n = m) → readB m (bodyD (longD s.data.toList x.toNat) x.toNat) = (n, s, x, true) := by
  intro m _ hm
  subst hm
  obtain ⟨h1, h2, h3⟩ := ok_len h
  have hz := sz s
  have hl := longD_len s.data.toList x.toNat
  have hd : (longD s.data.toList x.toNat).all digB = true := by
    rw [longD, List.all_append, all_zeros, ok_digs h]; rfl
  have hv : nv (longD s.data.toList x.toNat) = nv s.data.toList := nv_zeros_app _ _
  have hx : ((x.toNat : Nat) : Int) = x := by omega
  have hne : longD s.data.toList x.toNat ≠ [] := fun e => by rw [e] at hl; simp at hl; omega
  have key : norm n (longD s.data.toList x.toNat) x.toNat = (n, s, x, true) := by
    refine norm_is n _ x.toNat hd h (by omega) ?_
    rw [hv, V, Nat.sub_self]; simp
  unfold readB bodyD
  by_cases c : x.toNat = 0
  · rw [if_pos c]
    obtain ⟨e1, e2⟩ := digs_no_dot hd
    have e3 : part (longD s.data.toList x.toNat) = [] := by rw [part, e2]; rfl
    rw [if_neg (by omega), e1, e3, if_pos hd, if_pos (show ([] : List UInt8).all digB = true from rfl), List.append_nil, if_neg hne]
    have : ([] : List UInt8).length = x.toNat := by rw [c]; rfl
    rw [this, key]
  · rw [if_neg c]
    have ht : ((longD s.data.toList x.toNat).take ((longD s.data.toList x.toNat).length - x.toNat)).all digB = true := by
      rw [List.all_eq_true] at hd ⊢
      exact fun b hb => hd b (List.mem_of_mem_take hb)
    have hdr : ((longD s.data.toList x.toNat).drop ((longD s.data.toList x.toNat).length - x.toNat)).all digB = true := by
      rw [List.all_eq_true] at hd ⊢
      exact fun b hb => hd b (List.mem_of_mem_drop hb)
    obtain ⟨e1, e2⟩ := dot_mid (q := (longD s.data.toList x.toNat).drop ((longD s.data.toList x.toNat).length - x.toNat)) ht
    rw [if_neg (by rw [List.length_append, List.length_cons, List.length_take, List.length_drop]; omega), e1, e2, if_pos ht, if_pos hdr, List.take_append_drop, if_neg hne, List.length_drop]
    have : (longD s.data.toList x.toNat).length - ((longD s.data.toList x.toNat).length - x.toNat) = x.toNat := by omega
    rw [this, key]
theorem body_head (s : ByteArray) (x : Nat) (h : s.data.toList.all digB = true) : ∃ b t, bodyD (longD s.data.toList x) x = b :: t ∧ digB b = true := by
  have hl := longD_len s.data.toList x
  have hd : (longD s.data.toList x).all digB = true := by rw [longD, List.all_append, all_zeros, h]; rfl
  rcases e : longD s.data.toList x with _ | ⟨b, t⟩
  · rw [e] at hl; simp at hl; omega
  · rw [e] at hl hd
    rw [List.all_cons, Bool.and_eq_true] at hd
    unfold bodyD
    by_cases c : x = 0
    · rw [if_pos c]; exact ⟨b, t, rfl, hd.1⟩
    · rw [if_neg c]
      have : (b :: t).length - x = ((b :: t).length - x - 1) + 1 := by omega
      rw [this, List.take_succ_cons]
      exact ⟨b, _, rfl, hd.1⟩
theorem read_text (n : Bool) (s : ByteArray) (x : Int) : readD (textQ n s x).data.toList = if okB n s x = true then (n, s, x, true) else zeroQ false := by
  unfold textQ
  by_cases h : okB n s x = true
  · rw [if_pos h, if_pos h, mkB_list, textD]
    cases n with
    | true =>
      simp only [if_true]
      have := read_body true s x h true (fun _ => trivial) rfl
      exact this
    | false =>
      simp only [Bool.false_eq_true, if_false]
      have := read_body false s x h false (fun _ => trivial) rfl
      obtain ⟨b, t, e, hb⟩ := body_head s x.toNat (ok_digs h)
      rw [e] at this ⊢
      have h1 : ¬ b = 45 := fun c => by subst c; exact absurd hb (by decide)
      have h2 : ¬ b = 43 := fun c => by subst c; exact absurd hb (by decide)
      rw [readD_cons, if_neg h1, if_neg h2]
      exact this
  · rw [if_neg h, if_neg h]; rfl
theorem readB_good (n : Bool) (l : List UInt8) (h : (readB n l).2.2.2 = true) : okB (readB n l).1 (readB n l).2.1 (readB n l).2.2.1 = true := by
  unfold readB at h ⊢
  by_cases c : l.length > 180
  · rw [if_pos c] at h; cases h
  · rw [if_neg c] at h ⊢
    by_cases c1 : (whole l).all digB = true
    · rw [if_pos c1] at h ⊢
      by_cases c2 : (part l).all digB = true
      · rw [if_pos c2] at h ⊢
        by_cases c3 : whole l ++ part l = []
        · rw [if_pos c3] at h; cases h
        · rw [if_neg c3] at h ⊢
          exact (norm_good n _ _ (by rw [List.all_append, c1, c2]; rfl) h).1
      · rw [if_neg c2] at h; cases h
    · rw [if_neg c1] at h; cases h
theorem readD_good (l : List UInt8) (h : (readD l).2.2.2 = true) : okB (readD l).1 (readD l).2.1 (readD l).2.2.1 = true := by
  rcases l with _ | ⟨b, t⟩
  · exact readB_good false [] h
  · rw [readD_cons] at h ⊢
    by_cases c : b = 45
    · rw [if_pos c] at h ⊢; exact readB_good _ _ h
    · rw [if_neg c] at h ⊢
      by_cases c2 : b = 43
      · rw [if_pos c2] at h ⊢; exact readB_good _ _ h
      · rw [if_neg c2] at h ⊢; exact readB_good _ _ h
theorem norm_cases2 (n : Bool) (l : List UInt8) (x : Nat) : (norm n l x).2.2.2 = true ∨ norm n l x = zeroQ false := by
  cases e : (norm n l x).2.2.2 with
  | true => exact .inl rfl
  | false => exact .inr (norm_bad n l x e)
theorem readB_cases (n : Bool) (l : List UInt8) : (readB n l).2.2.2 = true ∨ readB n l = zeroQ false := by
  unfold readB
  split
  · exact .inr rfl
  · split
    · split
      · split
        · exact .inr rfl
        · exact norm_cases2 _ _ _
      · exact .inr rfl
    · exact .inr rfl
theorem readD_cases (l : List UInt8) : (readD l).2.2.2 = true ∨ readD l = zeroQ false := by
  rcases l with _ | ⟨b, t⟩
  · exact readB_cases false []
  · rw [readD_cons]
    split
    · exact readB_cases _ _
    · split <;> exact readB_cases _ _
theorem readD_len (l : List UInt8) : (readD l).2.1.size ≤ 60 := by
  rcases readD_cases l with h | h
  · exact (ok_len (readD_good l h)).1
  · rw [h]; decide
theorem textQ_len (n : Bool) (s : ByteArray) (x : Int) : (textQ n s x).size ≤ 200 := by
  unfold textQ
  split
  · rename_i h
    obtain ⟨h1, h2, h3⟩ := ok_len h
    have hz := sz s
    have hl := longD_len s.data.toList x.toNat
    rw [sz, mkB_list]
    have hb : (bodyD (longD s.data.toList x.toNat) x.toNat).length ≤ 150 := by
      unfold bodyD
      split
      · omega
      · rw [List.length_append, List.length_cons, List.length_take, List.length_drop]; omega
    unfold textD
    split
    · rw [List.length_cons]; omega
    · omega
  · decide
end Go.Proofs.YtilmhfkbpnejeaaDoor.Pure

namespace Go.Proofs.YtilmhfkbpnejeaaDoor.L
open Go.RowKit Go.Proofs.YtilmhfkbpnejeaaDoorW.PrintWords Go.Proofs.YtilmhfkbpnejeaaDoorW.PrintLast Go.Proofs.YtilmhfkbpnejeaaDoorW.PrintMore
attribute [local go_sem] max2_int min2_int max_two min_two max_three min_three max_four min_four   -- for this text's walks alone
attribute [local go_sem] Go.Proofs.YtilmhfkbpnejeaaDoor.H.str_leq Go.Proofs.YtilmhfkbpnejeaaDoor.H.str_gtr Go.Proofs.YtilmhfkbpnejeaaDoor.H.str_geq
set_option linter.unusedVariables false
set_option linter.unusedSimpArgs false

/-! ### spec_DrawCompareDec: function 21 -/
def spec_DrawCompareDec.f (k : Nat) (l0 : List Int) : Option (Bool × ByteArray × Int × Bool × ByteArray × Int) := (spec_l1Open.f l0).bind fun bt240 => ((spec_l1Rd_dec.f k bt240.1 bt240.2).bind fun bt243 => ((spec_l1Rd_once.f bt240.1 bt243.2.2.2 5).bind fun bt248 => (if bt248.1 = true then (some (bt243.1, bt243.2.1, bt243.2.2.1, bt243.1, bt243.2.1, bt243.2.2.1)) else ((spec_l1Rd_dec.f k bt240.1 bt248.2).bind fun bt250 => (some (bt243.1, bt243.2.1, bt243.2.2.1, bt250.1, bt250.2.1, bt250.2.2.1))))))
theorem spec_DrawCompareDec.mono : ∀ a0 k, LeO (spec_DrawCompareDec.f k a0) (spec_DrawCompareDec.f (k + 1) a0) := by
  intro a0 k
  unfold spec_DrawCompareDec.f
  repeat' first
      | (with_reducible exact spec_l1Rd_dec.mono _ _ _)
      | (with_reducible exact LeO.refl _)
      | (with_reducible exact LeO.none _)
      | (with_reducible refine LeO.ite ?_ ?_)
      | (with_reducible refine LeO.bind ?_ (fun _ => ?_))
      | exact spec_l1Rd_dec.mono _ _ _
      | exact LeO.none _
      | refine LeO.ite ?_ ?_
      | refine LeO.bind ?_ (fun _ => ?_)
set_option maxHeartbeats 8000000 in
set_option maxRecDepth 100000 in
theorem spec_DrawCompareDec.calls (k : Nat) (A0 : Option Addr) (c0 : Nat) (l0 : List Int) (r1 : Bool) (r2 : ByteArray) (r3 : Int) (r4 : Bool) (r5 : ByteArray) (r6 : Int) (w : World) (hr0 : Kd.C (Kd.int .u8) w A0 l0.length l0) (hc0 : l0.length ≤ c0) (h : spec_DrawCompareDec.f k l0 = some (r1, r2, r3, r4, r5, r6)) :
    Calls Tryd.prog 21 #[.slice A0 l0.length c0] w fun e w' => e = .returned (.tuple #[.agg #[.bool r1, .string r2, .int .i64 r3], .agg #[.bool r4, .string r5, .int .i64 r6]]) ∧ Below w.heap.size w w' := by
  have hu26 := Tryd.underlying26
  have HR0 := Aside0.mk hr0
  have HC0 := Aside0.mk hc0
  clear hr0 hc0
  have HB := Aside0.mk (Below.refl w.heap.size w)
  have H : ((spec_l1Open.f l0).bind fun bt240 => ((spec_l1Rd_dec.f k bt240.1 bt240.2).bind fun bt243 => ((spec_l1Rd_once.f bt240.1 bt243.2.2.2 5).bind fun bt248 => (if bt248.1 = true then (some (bt243.1, bt243.2.1, bt243.2.2.1, bt243.1, bt243.2.1, bt243.2.2.1)) else ((spec_l1Rd_dec.f k bt240.1 bt248.2).bind fun bt250 => (some (bt243.1, bt243.2.1, bt243.2.2.1, bt250.1, bt250.2.1, bt250.2.2.1))))))) = some (r1, r2, r3, r4, r5, r6) := h
  clear h
  replace H := Option.bind_eq_some_iff.mp H
  obtain ⟨⟨t240, t241⟩, A20, H⟩ := H
  replace H : ((spec_l1Rd_dec.f k t240 t241).bind fun bt243 => ((spec_l1Rd_once.f t240 bt243.2.2.2 5).bind fun bt248 => (if bt248.1 = true then (some (bt243.1, bt243.2.1, bt243.2.2.1, bt243.1, bt243.2.1, bt243.2.2.1)) else ((spec_l1Rd_dec.f k t240 bt248.2).bind fun bt250 => (some (bt243.1, bt243.2.1, bt243.2.2.1, bt250.1, bt250.2.1, bt250.2.2.1)))))) = some (r1, r2, r3, r4, r5, r6) := H
  have A2 := Aside0.mk A20
  clear A20
  replace H := Option.bind_eq_some_iff.mp H
  obtain ⟨⟨t243, t244, t245, t246⟩, A30, H⟩ := H
  replace H : ((spec_l1Rd_once.f t240 t246 5).bind fun bt248 => (if bt248.1 = true then (some (t243, t244, t245, t243, t244, t245)) else ((spec_l1Rd_dec.f k t240 bt248.2).bind fun bt250 => (some (t243, t244, t245, bt250.1, bt250.2.1, bt250.2.2.1))))) = some (r1, r2, r3, r4, r5, r6) := H
  have A3 := Aside0.mk A30
  clear A30
  replace H := Option.bind_eq_some_iff.mp H
  obtain ⟨⟨t248, t249⟩, A40, H⟩ := H
  replace H : (if t248 = true then (some (t243, t244, t245, t243, t244, t245)) else ((spec_l1Rd_dec.f k t240 t249).bind fun bt250 => (some (t243, t244, t245, bt250.1, bt250.2.1, bt250.2.2.1)))) = some (r1, r2, r3, r4, r5, r6) := H
  have A4 := Aside0.mk A40
  clear A40
  by_cases c5 : t248 = true
  · subst c5
    have H1 : (some (t243, t244, t245, t243, t244, t245)) = some (r1, r2, r3, r4, r5, r6) := by rw [if_pos rfl] at H; exact H
    clear H
    have H := H1
    clear H1
    simp only [Option.some.injEq, Prod.mk.injEq] at H
    obtain ⟨rfl, rfl, rfl, rfl, rfl, rfl⟩ := H
    go_enter Tryd.func21, Tryd.ntmps21
    try go_wp2_with (first | ((with_reducible refine gate_dst (N := 2) rfl ?_); refine box_event ?hg (N := 2) ?hd (cs := #[.bool false, .string (⟨#[]⟩ : ByteArray), .int .i64 0]) (t := 26) ?hr ?_; (case hd => rfl); (case hg => rfl); (case hr => first | (go_simp; done) | (go_simp; rfl)); intro gb238 hg w6 hbox hb; have n0_ := Aside0.mk (below_step (by repeat (first | (with_reducible first | exact HB.out | apply below_alloc | apply pw_below_drewN | apply below_drew1) | exact HB.out)) hb); have n1_ := Aside0.mk (hbox); have n2_ := Aside0.mk ((by rw [hg]; exact (below_size (by repeat (first | (with_reducible first | exact HB.out | apply below_alloc | apply pw_below_drewN | apply below_drew1) | exact HB.out))) : w.heap.size ≤ gb238)); have n3_ := Aside0.mk ((by rw [hg]; exact (below_size (by repeat (first | (with_reducible first | exact HB.out | apply below_alloc | apply pw_below_drewN | apply below_drew1) | exact HB.out))) : w.heap.size ≤ gb238)); clear HB; have HB := n0_; have BK238 := n1_; have GW238 := n2_; have GE238 := n3_; clear n0_ n1_ n2_ n3_; clear hb hbox hg) | ((with_reducible refine gate_dst (N := 3) rfl ?_); refine box_event ?hg (N := 3) ?hd (cs := #[.bool false, .string (⟨#[]⟩ : ByteArray), .int .i64 0]) (t := 26) ?hr ?_; (case hd => rfl); (case hg => rfl); (case hr => first | (go_simp; done) | (go_simp; rfl)); intro gb239 hg w7 hbox hb; have n0_ := Aside0.mk (blk_below (g := gb238) (o := .cells #[.bool false, .string (⟨#[]⟩ : ByteArray), .int .i64 0] 26 (0, 0)) (by refine blk_up ?_; exact BK238.out) hb); have n1_ := Aside0.mk (below_step (by repeat (first | (with_reducible first | exact HB.out | apply below_alloc | apply pw_below_drewN | apply below_drew1 | refine below_set ?_ GE238.out) | exact HB.out)) hb); have n2_ := Aside0.mk (hbox); have n3_ := Aside0.mk ((by rw [hg]; exact (below_size (by repeat (first | (with_reducible first | exact HB.out | apply below_alloc | apply pw_below_drewN | apply below_drew1 | refine below_set ?_ GE238.out) | exact HB.out))) : w.heap.size ≤ gb239)); have n4_ := Aside0.mk ((by rw [hg]; exact (below_size (by repeat (first | (with_reducible first | exact HB.out | apply below_alloc | apply pw_below_drewN | apply below_drew1 | refine below_set ?_ GE238.out) | exact HB.out))) : w.heap.size ≤ gb239)); have n5_ := Aside0.mk ((by rw [hg]; exact Nat.ne_of_lt (blk_lt (g := gb238) (o := .cells #[.bool false, .string (⟨#[]⟩ : ByteArray), .int .i64 0] 26 (0, 0)) (by refine blk_up ?_; exact BK238.out)) : gb238 ≠ gb239)); have n6_ := Aside0.mk ((by rw [hg]; exact Nat.ne_of_gt (blk_lt (g := gb238) (o := .cells #[.bool false, .string (⟨#[]⟩ : ByteArray), .int .i64 0] 26 (0, 0)) (by refine blk_up ?_; exact BK238.out)) : gb239 ≠ gb238)); clear BK238; clear HB; have BK238 := n0_; have HB := n1_; have BK239 := n2_; have GW239 := n3_; have GE239 := n4_; have NB238_239 := n5_; have NB239_238 := n6_; clear n0_ n1_ n2_ n3_ n4_ n5_ n6_; clear hb hbox hg) | ((with_reducible refine gate_callee (f := 57) rfl ?_); refine goesL_ (some 7) rfl rfl Tryd.func57 (by kernel_rfl) rfl #[.slice A0 l0.length c0] rfl (by (try simp only [List.map_toArray, List.map_cons, List.map_nil]); first | done | rfl | (simp only [List.length_drop, List.length_take]; rfl)) ?_; (with_reducible refine (spec_l1Open.calls _ _ l0 t240 t241 w _ ?side1 ?side2 ?side3 A2.out).mono ?_); (case side1 => repeat (first | (with_reducible first | exact HB.out | apply below_alloc | apply pw_below_drewN | apply below_drew1 | refine below_set ?_ GE238.out | refine below_set ?_ GE239.out) | exact HB.out)); (case side2 => exact HR0.out); (case side3 => exact HC0.out); rintro e w8 ⟨g242, rfl, hi, hb, hb2⟩; refine ⟨_, rfl, ?_⟩; have n0_ := Aside0.mk (blk_below (g := gb238) (o := .cells #[.bool false, .string (⟨#[]⟩ : ByteArray), .int .i64 0] 26 (0, 0)) (by refine blk_up ?_; exact BK238.out) hb2); have n1_ := Aside0.mk (blk_below (g := gb239) (o := .cells #[.bool false, .string (⟨#[]⟩ : ByteArray), .int .i64 0] 26 (0, 0)) (by refine blk_up ?_; exact BK239.out) hb2); have n2_ := Aside0.mk (hb); have n3_ := Aside0.mk (hi); have n4_ := Aside0.mk (IsS115.ne_blk hi (blk_below (g := gb238) (o := .cells #[.bool false, .string (⟨#[]⟩ : ByteArray), .int .i64 0] 26 (0, 0)) (by refine blk_up ?_; exact BK238.out) hb2) (by decide)); have n5_ := Aside0.mk (Ne.symm (IsS115.ne_blk hi (blk_below (g := gb238) (o := .cells #[.bool false, .string (⟨#[]⟩ : ByteArray), .int .i64 0] 26 (0, 0)) (by refine blk_up ?_; exact BK238.out) hb2) (by decide))); have n6_ := Aside0.mk (IsS115.ne_blk hi (blk_below (g := gb239) (o := .cells #[.bool false, .string (⟨#[]⟩ : ByteArray), .int .i64 0] 26 (0, 0)) (by refine blk_up ?_; exact BK239.out) hb2) (by decide)); have n7_ := Aside0.mk (Ne.symm (IsS115.ne_blk hi (blk_below (g := gb239) (o := .cells #[.bool false, .string (⟨#[]⟩ : ByteArray), .int .i64 0] 26 (0, 0)) (by refine blk_up ?_; exact BK239.out) hb2) (by decide))); clear BK238; clear BK239; clear HB; have BK238 := n0_; have BK239 := n1_; have HB := n2_; have HI242 := n3_; have NB242_238 := n4_; have NB238_242 := n5_; have NB242_239 := n6_; have NB239_242 := n7_; clear n0_ n1_ n2_ n3_ n4_ n5_ n6_ n7_; (try clear hb); (try clear hb2); (try clear hk); (try clear hi)) | ((with_reducible refine gate_callee (f := 58) rfl ?_); refine goesL_ (some 9) rfl rfl Tryd.func58 (by kernel_rfl) rfl #[.pointer (some ⟨g242, 0, none⟩)] rfl (by (try simp only [List.map_toArray, List.map_cons, List.map_nil]); first | done | rfl | (simp only [List.length_drop, List.length_take]; rfl)) ?_; (with_reducible refine (spec_l1Rd_dec.calls k g242 t240 t241 t243 t244 t245 t246 w _ ?side1 ?side2 A3.out).mono ?_); (case side1 => repeat (first | (with_reducible first | exact HI242.out | apply IsS115.alloc | apply IsS115.drewN | apply IsS115.drew | apply IsS115.set_1 | refine IsS115.far ?_ NB242_238.out _ | refine IsS115.far ?_ NB242_239.out _) | exact HI242.out)); (case side2 => repeat (first | (with_reducible first | exact HB.out | apply below_alloc | apply pw_below_drewN | apply below_drew1 | refine below_set ?_ (IsS115.ge HI242.out) | refine below_set ?_ GE238.out | refine below_set ?_ GE239.out) | exact HB.out)); rintro e w9 ⟨rfl, hi, hb, hk⟩; refine ⟨_, rfl, ?_⟩; have n0_ := Aside0.mk (KeepBut.blk hk (g' := gb238) (o := .cells #[.bool false, .string (⟨#[]⟩ : ByteArray), .int .i64 0] 26 (0, 0)) (by refine blk_up ?_; exact BK238.out) NB238_242.out (by simp)); have n1_ := Aside0.mk (KeepBut.blk hk (g' := gb239) (o := .cells #[.bool false, .string (⟨#[]⟩ : ByteArray), .int .i64 0] 26 (0, 0)) (by refine blk_up ?_; exact BK239.out) NB239_242.out (by simp)); have n2_ := Aside0.mk (hb); have n3_ := Aside0.mk (hi); clear BK238; clear BK239; clear HB; clear HI242; have BK238 := n0_; have BK239 := n1_; have HB := n2_; have HI242 := n3_; clear n0_ n1_ n2_ n3_; (try clear hb); (try clear hb2); (try clear hk); (try clear hi)) | ((with_reducible refine gate_dst (N := 5) rfl ?_); refine box_event ?hg (N := 5) ?hd (cs := #[.bool false, .string (⟨#[]⟩ : ByteArray), .int .i64 0]) (t := 26) ?hr ?_; (case hd => rfl); (case hg => rfl); (case hr => first | (go_simp; done) | (go_simp; rfl)); intro gb247 hg w10 hbox hb; have n0_ := Aside0.mk (blk_below (g := gb238) (o := .cells #[.bool false, .string (⟨#[]⟩ : ByteArray), .int .i64 0] 26 (0, 0)) (by refine blk_up ?_; exact BK238.out) hb); have n1_ := Aside0.mk (blk_below (g := gb239) (o := .cells #[.bool false, .string (⟨#[]⟩ : ByteArray), .int .i64 0] 26 (0, 0)) (by refine blk_up ?_; exact BK239.out) hb); have n2_ := Aside0.mk (IsS115.below (by repeat (first | (with_reducible first | exact HI242.out | apply IsS115.alloc | apply IsS115.drewN | apply IsS115.drew | apply IsS115.set_1 | refine IsS115.far ?_ NB242_238.out _ | refine IsS115.far ?_ NB242_239.out _) | exact HI242.out)) hb); have n3_ := Aside0.mk (below_step (by repeat (first | (with_reducible first | exact HB.out | apply below_alloc | apply pw_below_drewN | apply below_drew1 | refine below_set ?_ (IsS115.ge HI242.out) | refine below_set ?_ GE238.out | refine below_set ?_ GE239.out) | exact HB.out)) hb); have n4_ := Aside0.mk (hbox); have n5_ := Aside0.mk ((by rw [hg]; exact (below_size (by repeat (first | (with_reducible first | exact HB.out | apply below_alloc | apply pw_below_drewN | apply below_drew1 | refine below_set ?_ (IsS115.ge HI242.out) | refine below_set ?_ GE238.out | refine below_set ?_ GE239.out) | exact HB.out))) : w.heap.size ≤ gb247)); have n6_ := Aside0.mk ((by rw [hg]; exact (below_size (by repeat (first | (with_reducible first | exact HB.out | apply below_alloc | apply pw_below_drewN | apply below_drew1 | refine below_set ?_ (IsS115.ge HI242.out) | refine below_set ?_ GE238.out | refine below_set ?_ GE239.out) | exact HB.out))) : w.heap.size ≤ gb247)); have n7_ := Aside0.mk ((by rw [hg]; exact Nat.ne_of_lt (blk_lt (g := gb238) (o := .cells #[.bool false, .string (⟨#[]⟩ : ByteArray), .int .i64 0] 26 (0, 0)) (by refine blk_up ?_; exact BK238.out)) : gb238 ≠ gb247)); have n8_ := Aside0.mk ((by rw [hg]; exact Nat.ne_of_gt (blk_lt (g := gb238) (o := .cells #[.bool false, .string (⟨#[]⟩ : ByteArray), .int .i64 0] 26 (0, 0)) (by refine blk_up ?_; exact BK238.out)) : gb247 ≠ gb238)); have n9_ := Aside0.mk ((by rw [hg]; exact Nat.ne_of_lt (blk_lt (g := gb239) (o := .cells #[.bool false, .string (⟨#[]⟩ : ByteArray), .int .i64 0] 26 (0, 0)) (by refine blk_up ?_; exact BK239.out)) : gb239 ≠ gb247)); have n10_ := Aside0.mk ((by rw [hg]; exact Nat.ne_of_gt (blk_lt (g := gb239) (o := .cells #[.bool false, .string (⟨#[]⟩ : ByteArray), .int .i64 0] 26 (0, 0)) (by refine blk_up ?_; exact BK239.out)) : gb247 ≠ gb239)); have n11_ := Aside0.mk ((by rw [hg]; exact Nat.ne_of_lt (IsS115.lt (show IsS115 w _ g242 t240 t246 from by repeat (first | (with_reducible first | exact HI242.out | apply IsS115.alloc | apply IsS115.drewN | apply IsS115.drew | apply IsS115.set_1 | refine IsS115.far ?_ NB242_238.out _ | refine IsS115.far ?_ NB242_239.out _) | exact HI242.out))) : g242 ≠ gb247)); have n12_ := Aside0.mk ((by rw [hg]; exact Nat.ne_of_gt (IsS115.lt (show IsS115 w _ g242 t240 t246 from by repeat (first | (with_reducible first | exact HI242.out | apply IsS115.alloc | apply IsS115.drewN | apply IsS115.drew | apply IsS115.set_1 | refine IsS115.far ?_ NB242_238.out _ | refine IsS115.far ?_ NB242_239.out _) | exact HI242.out))) : gb247 ≠ g242)); clear BK238; clear BK239; clear HI242; clear HB; have BK238 := n0_; have BK239 := n1_; have HI242 := n2_; have HB := n3_; have BK247 := n4_; have GW247 := n5_; have GE247 := n6_; have NB238_247 := n7_; have NB247_238 := n8_; have NB239_247 := n9_; have NB247_239 := n10_; have NB242_247 := n11_; have NB247_242 := n12_; clear n0_ n1_ n2_ n3_ n4_ n5_ n6_ n7_ n8_ n9_ n10_ n11_ n12_; clear hb hbox hg; have hnb11 := NB247_238.out; have hnc11 := NB238_247.out; have hnb12 := NB247_239.out; have hnc12 := NB239_247.out; have hnb13 := NB247_242.out; have hnc13 := NB242_247.out; have hcz14_0 : w10.cell? ⟨gb247, 0, none⟩ = some (.bool false) := (blk_cell BK247.out 0).trans rfl; have hcz14_1 : w10.cell? ⟨gb247, 1, none⟩ = some (.string (⟨#[]⟩ : ByteArray)) := (blk_cell BK247.out 1).trans rfl; have hcz14_2 : w10.cell? ⟨gb247, 2, none⟩ = some (.int .i64 0) := (blk_cell BK247.out 2).trans rfl; have hfz14_0 := blk_frozen BK247.out 0; have hfz14_1 := blk_frozen BK247.out 1; have hfz14_2 := blk_frozen BK247.out 2) | ((with_reducible refine gate_callee (f := 61) rfl ?_); refine goesL_ (some 11) rfl rfl Tryd.func61 (by kernel_rfl) rfl #[.pointer (some ⟨g242, 0, none⟩), .int .i64 5] rfl (by (try simp only [List.map_toArray, List.map_cons, List.map_nil]); first | done | rfl | (simp only [List.length_drop, List.length_take]; rfl)) ?_; (with_reducible refine (spec_l1Rd_once.calls g242 t240 t246 5 true t249 w _ ?side1 ?side2 A4.out).mono ?_); (case side1 => repeat (first | (with_reducible first | exact HI242.out | apply IsS115.alloc | apply IsS115.drewN | apply IsS115.drew | apply IsS115.set_1 | refine IsS115.far ?_ NB242_238.out _ | refine IsS115.far ?_ NB242_239.out _ | refine IsS115.far ?_ NB242_247.out _) | exact HI242.out)); (case side2 => repeat (first | (with_reducible first | exact HB.out | apply below_alloc | apply pw_below_drewN | apply below_drew1 | refine below_set ?_ (IsS115.ge HI242.out) | refine below_set ?_ GE238.out | refine below_set ?_ GE239.out | refine below_set ?_ GE247.out) | exact HB.out)); rintro e w15 ⟨rfl, hi, hb, hk⟩; refine ⟨_, rfl, ?_⟩; have n0_ := Aside0.mk (KeepBut.blk hk (g' := gb238) (o := .cells #[.bool false, .string (⟨#[]⟩ : ByteArray), .int .i64 0] 26 (0, 0)) (by refine blk_up ?_; refine blk_far ?_ NB238_247.out _; refine blk_up ?_; refine blk_far ?_ NB238_247.out _; refine blk_up ?_; refine blk_far ?_ NB238_247.out _; refine blk_up ?_; exact BK238.out) NB238_242.out (by simp)); have n1_ := Aside0.mk (KeepBut.blk hk (g' := gb239) (o := .cells #[.bool false, .string (⟨#[]⟩ : ByteArray), .int .i64 0] 26 (0, 0)) (by refine blk_up ?_; refine blk_far ?_ NB239_247.out _; refine blk_up ?_; refine blk_far ?_ NB239_247.out _; refine blk_up ?_; refine blk_far ?_ NB239_247.out _; refine blk_up ?_; exact BK239.out) NB239_242.out (by simp)); have n2_ := Aside0.mk (KeepBut.blk hk (g' := gb247) (o := .cells #[.bool t243, .string t244, .int .i64 t245] 26 (0, 0)) (by refine blk_up ?_; refine blk_put (cs := #[.bool t243, .string t244, .int .i64 0]) ?_ 2 _ rfl; refine blk_up ?_; refine blk_put (cs := #[.bool t243, .string (⟨#[]⟩ : ByteArray), .int .i64 0]) ?_ 1 _ rfl; refine blk_up ?_; refine blk_put (cs := #[.bool false, .string (⟨#[]⟩ : ByteArray), .int .i64 0]) ?_ 0 _ rfl; refine blk_up ?_; exact BK247.out) NB247_242.out (by simp)); have n3_ := Aside0.mk (hb); have n4_ := Aside0.mk (hi); clear BK238; clear BK239; clear BK247; clear HB; clear HI242; have BK238 := n0_; have BK239 := n1_; have BK247 := n2_; have HB := n3_; have HI242 := n4_; clear n0_ n1_ n2_ n3_ n4_; (try clear hb); (try clear hb2); (try clear hk); (try clear hi)))
    have n0_ := Aside0.mk (blk_drew BK238.out)
    have n1_ := Aside0.mk (blk_drew BK239.out)
    have n2_ := Aside0.mk (blk_drew BK247.out)
    have n3_ := Aside0.mk (IsS115.drew HI242.out)
    have n4_ := Aside0.mk (below_drew1 HB.out)
    clear BK238
    clear BK239
    clear BK247
    clear HI242
    clear HB
    have BK238 := n0_
    have BK239 := n1_
    have BK247 := n2_
    have HI242 := n3_
    have HB := n4_
    clear n0_ n1_ n2_ n3_ n4_
    refine start_ (n := 4) (S := fun w' => w'.cell? ⟨gb247, 0, none⟩ = some (.bool t243) ∧ w'.cell? ⟨gb247, 1, none⟩ = some (.string t244) ∧ w'.cell? ⟨gb247, 2, none⟩ = some (.int .i64 t245)) (ds := []) #[false, false, false, false] (by kernel_rfl) rfl rfl ⟨(blk_cell BK247.out 0).trans rfl, (blk_cell BK247.out 1).trans rfl, (blk_cell BK247.out 2).trans rfl⟩ (fun hHeld => ?_)
    generalize w15.drew = w16 at BK238 BK239 BK247 HI242 HB hHeld ⊢
    refine take_ (i := 0) (N := some 12) (v := ?_) (a' := ?_) #[true, false, false, false] rfl rfl (by kernel_rfl) (fun _ _ _ h => h) (Or.inl ⟨by rfl, ?_⟩) hHeld ?_ ?_
    rotate_left
    · rintro w' ⟨s0, s1, s2⟩
      go_simp
      with_reducible rfl
    rotate_left
    · simp only [Act.put, List.setIfInBounds_toArray, List.set_cons_zero, List.set_cons_succ, i64_w, i32_w]
      rfl
    refine take_ (i := 1) (N := some 13) (v := ?_) (a' := ?_) #[true, true, false, false] rfl rfl (by kernel_rfl) (fun _ _ _ h => h) (Or.inl ⟨by rfl, ?_⟩) hHeld ?_ ?_
    rotate_left
    · rintro w' ⟨s0, s1, s2⟩
      go_simp
      with_reducible rfl
    rotate_left
    · simp only [Act.put, List.setIfInBounds_toArray, List.set_cons_zero, List.set_cons_succ, i64_w, i32_w]
      rfl
    refine one_ (i := 2) (N := none) #[true, true, true, false] rfl rfl (by kernel_rfl) (by decide) (fun K hK => ?_)
    have hs17 : w16.cell? ⟨gb238, 0, none⟩ = some (.bool false) := (blk_cell BK238.out 0).trans rfl
    have hfs17 := blk_frozen BK238.out 0
    have hns17_1 := NB239_238.out
    have hns17_2 := NB247_238.out
    have hms17_1 := NB238_239.out
    have hms17_2 := NB238_247.out
    have hs18 : w16.cell? ⟨gb238, 1, none⟩ = some (.string (⟨#[]⟩ : ByteArray)) := (blk_cell BK238.out 1).trans rfl
    have hfs18 := blk_frozen BK238.out 1
    have hns18_1 := NB239_238.out
    have hns18_2 := NB247_238.out
    have hms18_1 := NB238_239.out
    have hms18_2 := NB238_247.out
    have hs19 : w16.cell? ⟨gb238, 2, none⟩ = some (.int .i64 0) := (blk_cell BK238.out 2).trans rfl
    have hfs19 := blk_frozen BK238.out 2
    have hns19_1 := NB239_238.out
    have hns19_2 := NB247_238.out
    have hms19_1 := NB238_239.out
    have hms19_2 := NB238_247.out
    refine skip_ (w1 := ?_) (by rfl) rfl ?_ ?_
    rotate_left
    · go_simp
      rfl
    refine hK.out _ _ ⟨((cell_far (p := ⟨gb238, _, none⟩) NB247_238.out _).trans (((cell_far (p := ⟨gb238, _, none⟩) NB247_238.out _).trans (((cell_far (p := ⟨gb238, _, none⟩) NB247_238.out _).trans (hHeld.1)))))), ((cell_far (p := ⟨gb238, _, none⟩) NB247_238.out _).trans (((cell_far (p := ⟨gb238, _, none⟩) NB247_238.out _).trans (((cell_far (p := ⟨gb238, _, none⟩) NB247_238.out _).trans (hHeld.2.1)))))), ((cell_far (p := ⟨gb238, _, none⟩) NB247_238.out _).trans (((cell_far (p := ⟨gb238, _, none⟩) NB247_238.out _).trans (((cell_far (p := ⟨gb238, _, none⟩) NB247_238.out _).trans (hHeld.2.2))))))⟩ (fun hHeld => ?_)
    clear hK K
    refine one_ (i := 3) (N := none) #[true, true, true, true] rfl rfl (by kernel_rfl) (by decide) (fun K hK => ?_)
    have hs20 : w16.cell? ⟨gb239, 0, none⟩ = some (.bool false) := (blk_cell BK239.out 0).trans rfl
    have hfs20 := blk_frozen BK239.out 0
    have hns20_0 := NB238_239.out
    have hns20_2 := NB247_239.out
    have hms20_0 := NB239_238.out
    have hms20_2 := NB239_247.out
    have hs21 : w16.cell? ⟨gb239, 1, none⟩ = some (.string (⟨#[]⟩ : ByteArray)) := (blk_cell BK239.out 1).trans rfl
    have hfs21 := blk_frozen BK239.out 1
    have hns21_0 := NB238_239.out
    have hns21_2 := NB247_239.out
    have hms21_0 := NB239_238.out
    have hms21_2 := NB239_247.out
    have hs22 : w16.cell? ⟨gb239, 2, none⟩ = some (.int .i64 0) := (blk_cell BK239.out 2).trans rfl
    have hfs22 := blk_frozen BK239.out 2
    have hns22_0 := NB238_239.out
    have hns22_2 := NB247_239.out
    have hms22_0 := NB239_238.out
    have hms22_2 := NB239_247.out
    refine skip_ (w1 := ?_) (by rfl) rfl ?_ ?_
    rotate_left
    · go_simp
      rfl
    refine hK.out _ _ ⟨((cell_far (p := ⟨gb239, _, none⟩) NB247_239.out _).trans (((cell_far (p := ⟨gb239, _, none⟩) NB247_239.out _).trans (((cell_far (p := ⟨gb239, _, none⟩) NB247_239.out _).trans (hHeld.1)))))), ((cell_far (p := ⟨gb239, _, none⟩) NB247_239.out _).trans (((cell_far (p := ⟨gb239, _, none⟩) NB247_239.out _).trans (((cell_far (p := ⟨gb239, _, none⟩) NB247_239.out _).trans (hHeld.2.1)))))), ((cell_far (p := ⟨gb239, _, none⟩) NB247_239.out _).trans (((cell_far (p := ⟨gb239, _, none⟩) NB247_239.out _).trans (((cell_far (p := ⟨gb239, _, none⟩) NB247_239.out _).trans (hHeld.2.2))))))⟩ (fun hHeld => ?_)
    clear hK K
    refine done_ (by kernel_rfl) ?_
    try go_wp2
    refine bodyPost_ret (results_cc rfl _ _ gb238 gb239 26 26 #[.bool t243, .string t244, .int .i64 t245] #[.bool t243, .string t244, .int .i64 t245] (0, 0) (0, 0) _ _ rfl (by refine blk_up ?_; refine blk_far ?_ NB238_239.out _; refine blk_up ?_; refine blk_far ?_ NB238_239.out _; refine blk_up ?_; refine blk_far ?_ NB238_239.out _; refine blk_up ?_; refine blk_put (cs := #[.bool t243, .string t244, .int .i64 0]) ?_ 2 _ rfl; refine blk_up ?_; refine blk_put (cs := #[.bool t243, .string (⟨#[]⟩ : ByteArray), .int .i64 0]) ?_ 1 _ rfl; refine blk_up ?_; refine blk_put (cs := #[.bool false, .string (⟨#[]⟩ : ByteArray), .int .i64 0]) ?_ 0 _ rfl; refine blk_up ?_; exact BK238.out) Tryd.underlying26 rfl (by kernel_rfl) rfl (by refine blk_up ?_; refine blk_put (cs := #[.bool t243, .string t244, .int .i64 0]) ?_ 2 _ rfl; refine blk_up ?_; refine blk_put (cs := #[.bool t243, .string (⟨#[]⟩ : ByteArray), .int .i64 0]) ?_ 1 _ rfl; refine blk_up ?_; refine blk_put (cs := #[.bool false, .string (⟨#[]⟩ : ByteArray), .int .i64 0]) ?_ 0 _ rfl; refine blk_up ?_; refine blk_far ?_ NB239_238.out _; refine blk_up ?_; refine blk_far ?_ NB239_238.out _; refine blk_up ?_; refine blk_far ?_ NB239_238.out _; refine blk_up ?_; exact BK239.out) Tryd.underlying26 rfl (by kernel_rfl)) rfl ?_
    exact ⟨by first | rfl | (simp [errW_none, errW_some] <;> rfl) | (simp [*, errW_none, errW_some] <;> rfl), by repeat (first | (with_reducible first | exact HB.out | apply below_alloc | apply pw_below_drewN | apply below_drew1 | refine below_set ?_ (IsS115.ge HI242.out) | refine below_set ?_ GE238.out | refine below_set ?_ GE239.out | refine below_set ?_ GE247.out) | exact HB.out)⟩
  · replace c5 := Bool.eq_false_iff.mpr c5
    subst c5
    have H1 : ((spec_l1Rd_dec.f k t240 t249).bind fun bt250 => (some (t243, t244, t245, bt250.1, bt250.2.1, bt250.2.2.1))) = some (r1, r2, r3, r4, r5, r6) := by rw [if_neg (show ¬ (false = true) by decide)] at H; exact H
    clear H
    have H := H1
    clear H1
    replace H := Option.bind_eq_some_iff.mp H
    obtain ⟨⟨t250, t251, t252, t253⟩, A230, H⟩ := H
    replace H : (some (t243, t244, t245, t250, t251, t252)) = some (r1, r2, r3, r4, r5, r6) := H
    have A23 := Aside0.mk A230
    clear A230
    simp only [Option.some.injEq, Prod.mk.injEq] at H
    obtain ⟨rfl, rfl, rfl, rfl, rfl, rfl⟩ := H
    go_enter Tryd.func21, Tryd.ntmps21
    try go_wp2_with (first | ((with_reducible refine gate_dst (N := 2) rfl ?_); refine box_event ?hg (N := 2) ?hd (cs := #[.bool false, .string (⟨#[]⟩ : ByteArray), .int .i64 0]) (t := 26) ?hr ?_; (case hd => rfl); (case hg => rfl); (case hr => first | (go_simp; done) | (go_simp; rfl)); intro gb238 hg w24 hbox hb; have n0_ := Aside0.mk (below_step (by repeat (first | (with_reducible first | exact HB.out | apply below_alloc | apply pw_below_drewN | apply below_drew1) | exact HB.out)) hb); have n1_ := Aside0.mk (hbox); have n2_ := Aside0.mk ((by rw [hg]; exact (below_size (by repeat (first | (with_reducible first | exact HB.out | apply below_alloc | apply pw_below_drewN | apply below_drew1) | exact HB.out))) : w.heap.size ≤ gb238)); have n3_ := Aside0.mk ((by rw [hg]; exact (below_size (by repeat (first | (with_reducible first | exact HB.out | apply below_alloc | apply pw_below_drewN | apply below_drew1) | exact HB.out))) : w.heap.size ≤ gb238)); clear HB; have HB := n0_; have BK238 := n1_; have GW238 := n2_; have GE238 := n3_; clear n0_ n1_ n2_ n3_; clear hb hbox hg) | ((with_reducible refine gate_dst (N := 3) rfl ?_); refine box_event ?hg (N := 3) ?hd (cs := #[.bool false, .string (⟨#[]⟩ : ByteArray), .int .i64 0]) (t := 26) ?hr ?_; (case hd => rfl); (case hg => rfl); (case hr => first | (go_simp; done) | (go_simp; rfl)); intro gb239 hg w25 hbox hb; have n0_ := Aside0.mk (blk_below (g := gb238) (o := .cells #[.bool false, .string (⟨#[]⟩ : ByteArray), .int .i64 0] 26 (0, 0)) (by refine blk_up ?_; exact BK238.out) hb); have n1_ := Aside0.mk (below_step (by repeat (first | (with_reducible first | exact HB.out | apply below_alloc | apply pw_below_drewN | apply below_drew1 | refine below_set ?_ GE238.out) | exact HB.out)) hb); have n2_ := Aside0.mk (hbox); have n3_ := Aside0.mk ((by rw [hg]; exact (below_size (by repeat (first | (with_reducible first | exact HB.out | apply below_alloc | apply pw_below_drewN | apply below_drew1 | refine below_set ?_ GE238.out) | exact HB.out))) : w.heap.size ≤ gb239)); have n4_ := Aside0.mk ((by rw [hg]; exact (below_size (by repeat (first | (with_reducible first | exact HB.out | apply below_alloc | apply pw_below_drewN | apply below_drew1 | refine below_set ?_ GE238.out) | exact HB.out))) : w.heap.size ≤ gb239)); have n5_ := Aside0.mk ((by rw [hg]; exact Nat.ne_of_lt (blk_lt (g := gb238) (o := .cells #[.bool false, .string (⟨#[]⟩ : ByteArray), .int .i64 0] 26 (0, 0)) (by refine blk_up ?_; exact BK238.out)) : gb238 ≠ gb239)); have n6_ := Aside0.mk ((by rw [hg]; exact Nat.ne_of_gt (blk_lt (g := gb238) (o := .cells #[.bool false, .string (⟨#[]⟩ : ByteArray), .int .i64 0] 26 (0, 0)) (by refine blk_up ?_; exact BK238.out)) : gb239 ≠ gb238)); clear BK238; clear HB; have BK238 := n0_; have HB := n1_; have BK239 := n2_; have GW239 := n3_; have GE239 := n4_; have NB238_239 := n5_; have NB239_238 := n6_; clear n0_ n1_ n2_ n3_ n4_ n5_ n6_; clear hb hbox hg) | ((with_reducible refine gate_callee (f := 57) rfl ?_); refine goesL_ (some 7) rfl rfl Tryd.func57 (by kernel_rfl) rfl #[.slice A0 l0.length c0] rfl (by (try simp only [List.map_toArray, List.map_cons, List.map_nil]); first | done | rfl | (simp only [List.length_drop, List.length_take]; rfl)) ?_; (with_reducible refine (spec_l1Open.calls _ _ l0 t240 t241 w _ ?side1 ?side2 ?side3 A2.out).mono ?_); (case side1 => repeat (first | (with_reducible first | exact HB.out | apply below_alloc | apply pw_below_drewN | apply below_drew1 | refine below_set ?_ GE238.out | refine below_set ?_ GE239.out) | exact HB.out)); (case side2 => exact HR0.out); (case side3 => exact HC0.out); rintro e w26 ⟨g242, rfl, hi, hb, hb2⟩; refine ⟨_, rfl, ?_⟩; have n0_ := Aside0.mk (blk_below (g := gb238) (o := .cells #[.bool false, .string (⟨#[]⟩ : ByteArray), .int .i64 0] 26 (0, 0)) (by refine blk_up ?_; exact BK238.out) hb2); have n1_ := Aside0.mk (blk_below (g := gb239) (o := .cells #[.bool false, .string (⟨#[]⟩ : ByteArray), .int .i64 0] 26 (0, 0)) (by refine blk_up ?_; exact BK239.out) hb2); have n2_ := Aside0.mk (hb); have n3_ := Aside0.mk (hi); have n4_ := Aside0.mk (IsS115.ne_blk hi (blk_below (g := gb238) (o := .cells #[.bool false, .string (⟨#[]⟩ : ByteArray), .int .i64 0] 26 (0, 0)) (by refine blk_up ?_; exact BK238.out) hb2) (by decide)); have n5_ := Aside0.mk (Ne.symm (IsS115.ne_blk hi (blk_below (g := gb238) (o := .cells #[.bool false, .string (⟨#[]⟩ : ByteArray), .int .i64 0] 26 (0, 0)) (by refine blk_up ?_; exact BK238.out) hb2) (by decide))); have n6_ := Aside0.mk (IsS115.ne_blk hi (blk_below (g := gb239) (o := .cells #[.bool false, .string (⟨#[]⟩ : ByteArray), .int .i64 0] 26 (0, 0)) (by refine blk_up ?_; exact BK239.out) hb2) (by decide)); have n7_ := Aside0.mk (Ne.symm (IsS115.ne_blk hi (blk_below (g := gb239) (o := .cells #[.bool false, .string (⟨#[]⟩ : ByteArray), .int .i64 0] 26 (0, 0)) (by refine blk_up ?_; exact BK239.out) hb2) (by decide))); clear BK238; clear BK239; clear HB; have BK238 := n0_; have BK239 := n1_; have HB := n2_; have HI242 := n3_; have NB242_238 := n4_; have NB238_242 := n5_; have NB242_239 := n6_; have NB239_242 := n7_; clear n0_ n1_ n2_ n3_ n4_ n5_ n6_ n7_; (try clear hb); (try clear hb2); (try clear hk); (try clear hi)) | ((with_reducible refine gate_callee (f := 58) rfl ?_); refine goesL_ (some 9) rfl rfl Tryd.func58 (by kernel_rfl) rfl #[.pointer (some ⟨g242, 0, none⟩)] rfl (by (try simp only [List.map_toArray, List.map_cons, List.map_nil]); first | done | rfl | (simp only [List.length_drop, List.length_take]; rfl)) ?_; (with_reducible refine (spec_l1Rd_dec.calls k g242 t240 t241 t243 t244 t245 t246 w _ ?side1 ?side2 A3.out).mono ?_); (case side1 => repeat (first | (with_reducible first | exact HI242.out | apply IsS115.alloc | apply IsS115.drewN | apply IsS115.drew | apply IsS115.set_1 | refine IsS115.far ?_ NB242_238.out _ | refine IsS115.far ?_ NB242_239.out _) | exact HI242.out)); (case side2 => repeat (first | (with_reducible first | exact HB.out | apply below_alloc | apply pw_below_drewN | apply below_drew1 | refine below_set ?_ (IsS115.ge HI242.out) | refine below_set ?_ GE238.out | refine below_set ?_ GE239.out) | exact HB.out)); rintro e w27 ⟨rfl, hi, hb, hk⟩; refine ⟨_, rfl, ?_⟩; have n0_ := Aside0.mk (KeepBut.blk hk (g' := gb238) (o := .cells #[.bool false, .string (⟨#[]⟩ : ByteArray), .int .i64 0] 26 (0, 0)) (by refine blk_up ?_; exact BK238.out) NB238_242.out (by simp)); have n1_ := Aside0.mk (KeepBut.blk hk (g' := gb239) (o := .cells #[.bool false, .string (⟨#[]⟩ : ByteArray), .int .i64 0] 26 (0, 0)) (by refine blk_up ?_; exact BK239.out) NB239_242.out (by simp)); have n2_ := Aside0.mk (hb); have n3_ := Aside0.mk (hi); clear BK238; clear BK239; clear HB; clear HI242; have BK238 := n0_; have BK239 := n1_; have HB := n2_; have HI242 := n3_; clear n0_ n1_ n2_ n3_; (try clear hb); (try clear hb2); (try clear hk); (try clear hi)) | ((with_reducible refine gate_dst (N := 5) rfl ?_); refine box_event ?hg (N := 5) ?hd (cs := #[.bool false, .string (⟨#[]⟩ : ByteArray), .int .i64 0]) (t := 26) ?hr ?_; (case hd => rfl); (case hg => rfl); (case hr => first | (go_simp; done) | (go_simp; rfl)); intro gb247 hg w28 hbox hb; have n0_ := Aside0.mk (blk_below (g := gb238) (o := .cells #[.bool false, .string (⟨#[]⟩ : ByteArray), .int .i64 0] 26 (0, 0)) (by refine blk_up ?_; exact BK238.out) hb); have n1_ := Aside0.mk (blk_below (g := gb239) (o := .cells #[.bool false, .string (⟨#[]⟩ : ByteArray), .int .i64 0] 26 (0, 0)) (by refine blk_up ?_; exact BK239.out) hb); have n2_ := Aside0.mk (IsS115.below (by repeat (first | (with_reducible first | exact HI242.out | apply IsS115.alloc | apply IsS115.drewN | apply IsS115.drew | apply IsS115.set_1 | refine IsS115.far ?_ NB242_238.out _ | refine IsS115.far ?_ NB242_239.out _) | exact HI242.out)) hb); have n3_ := Aside0.mk (below_step (by repeat (first | (with_reducible first | exact HB.out | apply below_alloc | apply pw_below_drewN | apply below_drew1 | refine below_set ?_ (IsS115.ge HI242.out) | refine below_set ?_ GE238.out | refine below_set ?_ GE239.out) | exact HB.out)) hb); have n4_ := Aside0.mk (hbox); have n5_ := Aside0.mk ((by rw [hg]; exact (below_size (by repeat (first | (with_reducible first | exact HB.out | apply below_alloc | apply pw_below_drewN | apply below_drew1 | refine below_set ?_ (IsS115.ge HI242.out) | refine below_set ?_ GE238.out | refine below_set ?_ GE239.out) | exact HB.out))) : w.heap.size ≤ gb247)); have n6_ := Aside0.mk ((by rw [hg]; exact (below_size (by repeat (first | (with_reducible first | exact HB.out | apply below_alloc | apply pw_below_drewN | apply below_drew1 | refine below_set ?_ (IsS115.ge HI242.out) | refine below_set ?_ GE238.out | refine below_set ?_ GE239.out) | exact HB.out))) : w.heap.size ≤ gb247)); have n7_ := Aside0.mk ((by rw [hg]; exact Nat.ne_of_lt (blk_lt (g := gb238) (o := .cells #[.bool false, .string (⟨#[]⟩ : ByteArray), .int .i64 0] 26 (0, 0)) (by refine blk_up ?_; exact BK238.out)) : gb238 ≠ gb247)); have n8_ := Aside0.mk ((by rw [hg]; exact Nat.ne_of_gt (blk_lt (g := gb238) (o := .cells #[.bool false, .string (⟨#[]⟩ : ByteArray), .int .i64 0] 26 (0, 0)) (by refine blk_up ?_; exact BK238.out)) : gb247 ≠ gb238)); have n9_ := Aside0.mk ((by rw [hg]; exact Nat.ne_of_lt (blk_lt (g := gb239) (o := .cells #[.bool false, .string (⟨#[]⟩ : ByteArray), .int .i64 0] 26 (0, 0)) (by refine blk_up ?_; exact BK239.out)) : gb239 ≠ gb247)); have n10_ := Aside0.mk ((by rw [hg]; exact Nat.ne_of_gt (blk_lt (g := gb239) (o := .cells #[.bool false, .string (⟨#[]⟩ : ByteArray), .int .i64 0] 26 (0, 0)) (by refine blk_up ?_; exact BK239.out)) : gb247 ≠ gb239)); have n11_ := Aside0.mk ((by rw [hg]; exact Nat.ne_of_lt (IsS115.lt (show IsS115 w _ g242 t240 t246 from by repeat (first | (with_reducible first | exact HI242.out | apply IsS115.alloc | apply IsS115.drewN | apply IsS115.drew | apply IsS115.set_1 | refine IsS115.far ?_ NB242_238.out _ | refine IsS115.far ?_ NB242_239.out _) | exact HI242.out))) : g242 ≠ gb247)); have n12_ := Aside0.mk ((by rw [hg]; exact Nat.ne_of_gt (IsS115.lt (show IsS115 w _ g242 t240 t246 from by repeat (first | (with_reducible first | exact HI242.out | apply IsS115.alloc | apply IsS115.drewN | apply IsS115.drew | apply IsS115.set_1 | refine IsS115.far ?_ NB242_238.out _ | refine IsS115.far ?_ NB242_239.out _) | exact HI242.out))) : gb247 ≠ g242)); clear BK238; clear BK239; clear HI242; clear HB; have BK238 := n0_; have BK239 := n1_; have HI242 := n2_; have HB := n3_; have BK247 := n4_; have GW247 := n5_; have GE247 := n6_; have NB238_247 := n7_; have NB247_238 := n8_; have NB239_247 := n9_; have NB247_239 := n10_; have NB242_247 := n11_; have NB247_242 := n12_; clear n0_ n1_ n2_ n3_ n4_ n5_ n6_ n7_ n8_ n9_ n10_ n11_ n12_; clear hb hbox hg; have hnb29 := NB247_238.out; have hnc29 := NB238_247.out; have hnb30 := NB247_239.out; have hnc30 := NB239_247.out; have hnb31 := NB247_242.out; have hnc31 := NB242_247.out; have hcz32_0 : w28.cell? ⟨gb247, 0, none⟩ = some (.bool false) := (blk_cell BK247.out 0).trans rfl; have hcz32_1 : w28.cell? ⟨gb247, 1, none⟩ = some (.string (⟨#[]⟩ : ByteArray)) := (blk_cell BK247.out 1).trans rfl; have hcz32_2 : w28.cell? ⟨gb247, 2, none⟩ = some (.int .i64 0) := (blk_cell BK247.out 2).trans rfl; have hfz32_0 := blk_frozen BK247.out 0; have hfz32_1 := blk_frozen BK247.out 1; have hfz32_2 := blk_frozen BK247.out 2) | ((with_reducible refine gate_callee (f := 61) rfl ?_); refine goesL_ (some 11) rfl rfl Tryd.func61 (by kernel_rfl) rfl #[.pointer (some ⟨g242, 0, none⟩), .int .i64 5] rfl (by (try simp only [List.map_toArray, List.map_cons, List.map_nil]); first | done | rfl | (simp only [List.length_drop, List.length_take]; rfl)) ?_; (with_reducible refine (spec_l1Rd_once.calls g242 t240 t246 5 false t249 w _ ?side1 ?side2 A4.out).mono ?_); (case side1 => repeat (first | (with_reducible first | exact HI242.out | apply IsS115.alloc | apply IsS115.drewN | apply IsS115.drew | apply IsS115.set_1 | refine IsS115.far ?_ NB242_238.out _ | refine IsS115.far ?_ NB242_239.out _ | refine IsS115.far ?_ NB242_247.out _) | exact HI242.out)); (case side2 => repeat (first | (with_reducible first | exact HB.out | apply below_alloc | apply pw_below_drewN | apply below_drew1 | refine below_set ?_ (IsS115.ge HI242.out) | refine below_set ?_ GE238.out | refine below_set ?_ GE239.out | refine below_set ?_ GE247.out) | exact HB.out)); rintro e w33 ⟨rfl, hi, hb, hk⟩; refine ⟨_, rfl, ?_⟩; have n0_ := Aside0.mk (KeepBut.blk hk (g' := gb238) (o := .cells #[.bool false, .string (⟨#[]⟩ : ByteArray), .int .i64 0] 26 (0, 0)) (by refine blk_up ?_; refine blk_far ?_ NB238_247.out _; refine blk_up ?_; refine blk_far ?_ NB238_247.out _; refine blk_up ?_; refine blk_far ?_ NB238_247.out _; refine blk_up ?_; exact BK238.out) NB238_242.out (by simp)); have n1_ := Aside0.mk (KeepBut.blk hk (g' := gb239) (o := .cells #[.bool false, .string (⟨#[]⟩ : ByteArray), .int .i64 0] 26 (0, 0)) (by refine blk_up ?_; refine blk_far ?_ NB239_247.out _; refine blk_up ?_; refine blk_far ?_ NB239_247.out _; refine blk_up ?_; refine blk_far ?_ NB239_247.out _; refine blk_up ?_; exact BK239.out) NB239_242.out (by simp)); have n2_ := Aside0.mk (KeepBut.blk hk (g' := gb247) (o := .cells #[.bool t243, .string t244, .int .i64 t245] 26 (0, 0)) (by refine blk_up ?_; refine blk_put (cs := #[.bool t243, .string t244, .int .i64 0]) ?_ 2 _ rfl; refine blk_up ?_; refine blk_put (cs := #[.bool t243, .string (⟨#[]⟩ : ByteArray), .int .i64 0]) ?_ 1 _ rfl; refine blk_up ?_; refine blk_put (cs := #[.bool false, .string (⟨#[]⟩ : ByteArray), .int .i64 0]) ?_ 0 _ rfl; refine blk_up ?_; exact BK247.out) NB247_242.out (by simp)); have n3_ := Aside0.mk (hb); have n4_ := Aside0.mk (hi); clear BK238; clear BK239; clear BK247; clear HB; clear HI242; have BK238 := n0_; have BK239 := n1_; have BK247 := n2_; have HB := n3_; have HI242 := n4_; clear n0_ n1_ n2_ n3_ n4_; (try clear hb); (try clear hb2); (try clear hk); (try clear hi)))
    have n0_ := Aside0.mk (blk_drew BK238.out)
    have n1_ := Aside0.mk (blk_drew BK239.out)
    have n2_ := Aside0.mk (blk_drew BK247.out)
    have n3_ := Aside0.mk (IsS115.drew HI242.out)
    have n4_ := Aside0.mk (below_drew1 HB.out)
    clear BK238
    clear BK239
    clear BK247
    clear HI242
    clear HB
    have BK238 := n0_
    have BK239 := n1_
    have BK247 := n2_
    have HI242 := n3_
    have HB := n4_
    clear n0_ n1_ n2_ n3_ n4_
    refine start_ (n := 5) (S := fun w' => w'.cell? ⟨gb247, 0, none⟩ = some (.bool t243) ∧ w'.cell? ⟨gb247, 1, none⟩ = some (.string t244) ∧ w'.cell? ⟨gb247, 2, none⟩ = some (.int .i64 t245)) (ds := []) #[false, false, false, false, false] (by kernel_rfl) rfl rfl ⟨(blk_cell BK247.out 0).trans rfl, (blk_cell BK247.out 1).trans rfl, (blk_cell BK247.out 2).trans rfl⟩ (fun hHeld => ?_)
    generalize w33.drew = w34 at BK238 BK239 BK247 HI242 HB hHeld ⊢
    refine pure_ (i := 1) (N := some 15) (v := ?_) (a' := ?_) #[false, true, false, false, false] rfl rfl (by kernel_rfl) (fun _ _ _ h => h) (Or.inl ⟨by rfl, ?_⟩) ?_ ?_
    rotate_left
    · intro w'
      go_simp
      with_reducible rfl
    rotate_left
    · simp only [Act.put, List.setIfInBounds_toArray, List.set_cons_zero, List.set_cons_succ, i64_w, i32_w]
      rfl
    refine take_ (i := 0) (N := some 14) (v := ?_) (a' := ?_) #[true, true, false, false, false] rfl rfl (by kernel_rfl) (fun _ _ _ h => h) (Or.inl ⟨by rfl, ?_⟩) hHeld ?_ ?_
    rotate_left
    · rintro w' ⟨s0, s1, s2⟩
      go_simp
      with_reducible rfl
    rotate_left
    · simp only [Act.put, List.setIfInBounds_toArray, List.set_cons_zero, List.set_cons_succ, i64_w, i32_w]
      rfl
    refine one_ (i := 2) (N := some 16) #[true, true, true, false, false] rfl rfl (by kernel_rfl) (by decide) (fun K hK => ?_)
    refine goes_ Tryd.func58 (by kernel_rfl) rfl #[.pointer (some ⟨g242, 0, none⟩)] (by rfl) rfl rfl (by (try simp only [List.map_toArray, List.map_cons, List.map_nil]); first | done | rfl | (simp only [List.length_drop, List.length_take]; rfl)) ?_
    with_reducible refine (spec_l1Rd_dec.calls k g242 t240 t249 t250 t251 t252 t253 w _ ?side1 ?side2 A23.out).mono ?_
    (case side1 => repeat (first | (with_reducible first | exact HI242.out | apply IsS115.alloc | apply IsS115.drewN | apply IsS115.drew | apply IsS115.set_1 | refine IsS115.far ?_ NB242_238.out _ | refine IsS115.far ?_ NB242_239.out _ | refine IsS115.far ?_ NB242_247.out _) | exact HI242.out))
    (case side2 => repeat (first | (with_reducible first | exact HB.out | apply below_alloc | apply pw_below_drewN | apply below_drew1 | refine below_set ?_ (IsS115.ge HI242.out) | refine below_set ?_ GE238.out | refine below_set ?_ GE239.out | refine below_set ?_ GE247.out) | exact HB.out))
    rintro e w35 ⟨rfl, hi, hb, hk⟩
    refine ⟨_, rfl, ?_⟩
    have n0_ := Aside0.mk (KeepBut.blk hk (g' := gb238) (o := .cells #[.bool false, .string (⟨#[]⟩ : ByteArray), .int .i64 0] 26 (0, 0)) (by refine blk_up ?_; exact BK238.out) NB238_242.out (by simp))
    have n1_ := Aside0.mk (KeepBut.blk hk (g' := gb239) (o := .cells #[.bool false, .string (⟨#[]⟩ : ByteArray), .int .i64 0] 26 (0, 0)) (by refine blk_up ?_; exact BK239.out) NB239_242.out (by simp))
    have n2_ := Aside0.mk (KeepBut.blk hk (g' := gb247) (o := .cells #[.bool t243, .string t244, .int .i64 t245] 26 (0, 0)) (by refine blk_up ?_; exact BK247.out) NB247_242.out (by simp))
    have n3_ := Aside0.mk (hb)
    have n4_ := Aside0.mk (hi)
    clear BK238
    clear BK239
    clear BK247
    clear HB
    clear HI242
    have BK238 := n0_
    have BK239 := n1_
    have BK247 := n2_
    have HB := n3_
    have HI242 := n4_
    clear n0_ n1_ n2_ n3_ n4_
    (try clear hb)
    (try clear hb2)
    (try clear hk)
    (try clear hi)
    refine hK.out _ _ ⟨(blk_cell BK247.out 0).trans rfl, (blk_cell BK247.out 1).trans rfl, (blk_cell BK247.out 2).trans rfl⟩ (fun hHeld => ?_)
    clear hK K
    refine norm_ (a' := ?_) ?_ ?_
    rotate_left
    · show Act.put _ (some 16) _ = _
      simp only [Act.put, List.setIfInBounds_toArray, List.set_cons_zero, List.set_cons_succ, i64_w, i32_w]
      rfl
    refine one_ (i := 3) (N := none) #[true, true, true, true, false] rfl rfl (by kernel_rfl) (by decide) (fun K hK => ?_)
    have hs36 : w35.cell? ⟨gb238, 0, none⟩ = some (.bool false) := (blk_cell BK238.out 0).trans rfl
    have hfs36 := blk_frozen BK238.out 0
    have hns36_1 := NB239_238.out
    have hns36_2 := NB247_238.out
    have hms36_1 := NB238_239.out
    have hms36_2 := NB238_247.out
    have hs37 : w35.cell? ⟨gb238, 1, none⟩ = some (.string (⟨#[]⟩ : ByteArray)) := (blk_cell BK238.out 1).trans rfl
    have hfs37 := blk_frozen BK238.out 1
    have hns37_1 := NB239_238.out
    have hns37_2 := NB247_238.out
    have hms37_1 := NB238_239.out
    have hms37_2 := NB238_247.out
    have hs38 : w35.cell? ⟨gb238, 2, none⟩ = some (.int .i64 0) := (blk_cell BK238.out 2).trans rfl
    have hfs38 := blk_frozen BK238.out 2
    have hns38_1 := NB239_238.out
    have hns38_2 := NB247_238.out
    have hms38_1 := NB238_239.out
    have hms38_2 := NB238_247.out
    refine skip_ (w1 := ?_) (by rfl) rfl ?_ ?_
    rotate_left
    · go_simp
      rfl
    refine hK.out _ _ ⟨((cell_far (p := ⟨gb238, _, none⟩) NB247_238.out _).trans (((cell_far (p := ⟨gb238, _, none⟩) NB247_238.out _).trans (((cell_far (p := ⟨gb238, _, none⟩) NB247_238.out _).trans (hHeld.1)))))), ((cell_far (p := ⟨gb238, _, none⟩) NB247_238.out _).trans (((cell_far (p := ⟨gb238, _, none⟩) NB247_238.out _).trans (((cell_far (p := ⟨gb238, _, none⟩) NB247_238.out _).trans (hHeld.2.1)))))), ((cell_far (p := ⟨gb238, _, none⟩) NB247_238.out _).trans (((cell_far (p := ⟨gb238, _, none⟩) NB247_238.out _).trans (((cell_far (p := ⟨gb238, _, none⟩) NB247_238.out _).trans (hHeld.2.2))))))⟩ (fun hHeld => ?_)
    clear hK K
    refine one_ (i := 4) (N := none) #[true, true, true, true, true] rfl rfl (by kernel_rfl) (by decide) (fun K hK => ?_)
    have hs39 : w35.cell? ⟨gb239, 0, none⟩ = some (.bool false) := (blk_cell BK239.out 0).trans rfl
    have hfs39 := blk_frozen BK239.out 0
    have hns39_0 := NB238_239.out
    have hns39_2 := NB247_239.out
    have hms39_0 := NB239_238.out
    have hms39_2 := NB239_247.out
    have hs40 : w35.cell? ⟨gb239, 1, none⟩ = some (.string (⟨#[]⟩ : ByteArray)) := (blk_cell BK239.out 1).trans rfl
    have hfs40 := blk_frozen BK239.out 1
    have hns40_0 := NB238_239.out
    have hns40_2 := NB247_239.out
    have hms40_0 := NB239_238.out
    have hms40_2 := NB239_247.out
    have hs41 : w35.cell? ⟨gb239, 2, none⟩ = some (.int .i64 0) := (blk_cell BK239.out 2).trans rfl
    have hfs41 := blk_frozen BK239.out 2
    have hns41_0 := NB238_239.out
    have hns41_2 := NB247_239.out
    have hms41_0 := NB239_238.out
    have hms41_2 := NB239_247.out
    refine skip_ (w1 := ?_) (by rfl) rfl ?_ ?_
    rotate_left
    · go_simp
      rfl
    refine hK.out _ _ ⟨((cell_far (p := ⟨gb239, _, none⟩) NB247_239.out _).trans (((cell_far (p := ⟨gb239, _, none⟩) NB247_239.out _).trans (((cell_far (p := ⟨gb239, _, none⟩) NB247_239.out _).trans (hHeld.1)))))), ((cell_far (p := ⟨gb239, _, none⟩) NB247_239.out _).trans (((cell_far (p := ⟨gb239, _, none⟩) NB247_239.out _).trans (((cell_far (p := ⟨gb239, _, none⟩) NB247_239.out _).trans (hHeld.2.1)))))), ((cell_far (p := ⟨gb239, _, none⟩) NB247_239.out _).trans (((cell_far (p := ⟨gb239, _, none⟩) NB247_239.out _).trans (((cell_far (p := ⟨gb239, _, none⟩) NB247_239.out _).trans (hHeld.2.2))))))⟩ (fun hHeld => ?_)
    clear hK K
    refine done_ (by kernel_rfl) ?_
    try go_wp2
    refine bodyPost_ret (results_cc rfl _ _ gb238 gb239 26 26 #[.bool t243, .string t244, .int .i64 t245] #[.bool t250, .string t251, .int .i64 t252] (0, 0) (0, 0) _ _ rfl (by refine blk_up ?_; refine blk_far ?_ NB238_239.out _; refine blk_up ?_; refine blk_far ?_ NB238_239.out _; refine blk_up ?_; refine blk_far ?_ NB238_239.out _; refine blk_up ?_; refine blk_put (cs := #[.bool t243, .string t244, .int .i64 0]) ?_ 2 _ rfl; refine blk_up ?_; refine blk_put (cs := #[.bool t243, .string (⟨#[]⟩ : ByteArray), .int .i64 0]) ?_ 1 _ rfl; refine blk_up ?_; refine blk_put (cs := #[.bool false, .string (⟨#[]⟩ : ByteArray), .int .i64 0]) ?_ 0 _ rfl; refine blk_up ?_; exact BK238.out) Tryd.underlying26 rfl (by kernel_rfl) rfl (by refine blk_up ?_; refine blk_put (cs := #[.bool t250, .string t251, .int .i64 0]) ?_ 2 _ rfl; refine blk_up ?_; refine blk_put (cs := #[.bool t250, .string (⟨#[]⟩ : ByteArray), .int .i64 0]) ?_ 1 _ rfl; refine blk_up ?_; refine blk_put (cs := #[.bool false, .string (⟨#[]⟩ : ByteArray), .int .i64 0]) ?_ 0 _ rfl; refine blk_up ?_; refine blk_far ?_ NB239_238.out _; refine blk_up ?_; refine blk_far ?_ NB239_238.out _; refine blk_up ?_; refine blk_far ?_ NB239_238.out _; refine blk_up ?_; exact BK239.out) Tryd.underlying26 rfl (by kernel_rfl)) rfl ?_
    exact ⟨by first | rfl | (simp [errW_none, errW_some] <;> rfl) | (simp [*, errW_none, errW_some] <;> rfl), by repeat (first | (with_reducible first | exact HB.out | apply below_alloc | apply pw_below_drewN | apply below_drew1 | refine below_set ?_ (IsS115.ge HI242.out) | refine below_set ?_ GE238.out | refine below_set ?_ GE239.out | refine below_set ?_ GE247.out) | exact HB.out)⟩

end Go.Proofs.YtilmhfkbpnejeaaDoor.L
