/- Words and contracts for the row RowFnTimes: what the Go functions answer that it calls; printed by programs of the kit and of this session, and merged. -/
import Derived.Test.YtilmhfkbpnejeaaDoorQt3
import Derived.Sort.Walk0
import Derived.Lib.PathFns
import Derived.Lib.IndexBytes
namespace Go.Proofs.YtilmhfkbpnejeaaDoor.L
open Go.RowKit Go.Proofs.YtilmhfkbpnejeaaDoorW.PrintWords Go.Proofs.YtilmhfkbpnejeaaDoorW.PrintLast Go.Proofs.YtilmhfkbpnejeaaDoorW.PrintMore
attribute [local go_sem] max2_int min2_int max_two min_two max_three min_three max_four min_four
attribute [local go_sem] Go.Proofs.YtilmhfkbpnejeaaDoor.H.str_leq Go.Proofs.YtilmhfkbpnejeaaDoor.H.str_gtr Go.Proofs.YtilmhfkbpnejeaaDoor.H.str_geq
set_option linter.unusedVariables false
set_option linter.unusedSimpArgs false

theorem wp_world_impl_made {P : Program} {c : Code} {Q : Exit → Act → World → Prop} {f : Act} {W : World} (F : World → Prop) (h : F W) (k : ∀ W, F W → Code.wp P c Q f W) : Code.wp P c Q f W := k W h

/-! ### impl_made: function 54 -/
def impl_made.l0 : Nat → Bool → ByteArray → Int → Option (Bool × ByteArray × Int × Bool)
  | 0, _, _, _ => none
  | k + 1, x0, x1, x2 => if x2 > 0 then (if x1.toList = ([] : List UInt8) then ((strings_TrimLeft.f x1 (⟨#[48]⟩ : ByteArray)).bind fun t290 => (if t290.toList = ([] : List UInt8) then ((impl_DecOk.f false (⟨#[]⟩ : ByteArray) 0).bind fun t292 => (if t292 = true then (some (false, (⟨#[]⟩ : ByteArray), 0, true)) else (some (false, (⟨#[]⟩ : ByteArray), 0, false)))) else ((impl_DecOk.f x0 t290 x2).bind fun t293 => (if t293 = true then (some (x0, t290, x2, true)) else (some (false, (⟨#[]⟩ : ByteArray), 0, false)))))) else (if 0 ≤ (wrap64 ((x1.size : Int) - 1)) then (if (wrap64 ((x1.size : Int) - 1)) < (x1.size : Int) then (if (bt x1 (wrap64 ((x1.size : Int) - 1))) = 48 then (if (wrap64 ((x1.size : Int) - 1)) ≤ (x1.size : Int) then (impl_made.l0 k x0 (x1.extract 0 ((wrap64 ((x1.size : Int) - 1)) : Int).toNat) (wrap64 (x2 - 1))) else (none)) else ((strings_TrimLeft.f x1 (⟨#[48]⟩ : ByteArray)).bind fun t294 => (if t294.toList = ([] : List UInt8) then ((impl_DecOk.f false (⟨#[]⟩ : ByteArray) 0).bind fun t296 => (if t296 = true then (some (false, (⟨#[]⟩ : ByteArray), 0, true)) else (some (false, (⟨#[]⟩ : ByteArray), 0, false)))) else ((impl_DecOk.f x0 t294 x2).bind fun t297 => (if t297 = true then (some (x0, t294, x2, true)) else (some (false, (⟨#[]⟩ : ByteArray), 0, false))))))) else (none)) else (none))) else ((strings_TrimLeft.f x1 (⟨#[48]⟩ : ByteArray)).bind fun t298 => (if t298.toList = ([] : List UInt8) then ((impl_DecOk.f false (⟨#[]⟩ : ByteArray) 0).bind fun t300 => (if t300 = true then (some (false, (⟨#[]⟩ : ByteArray), 0, true)) else (some (false, (⟨#[]⟩ : ByteArray), 0, false)))) else ((impl_DecOk.f x0 t298 x2).bind fun t301 => (if t301 = true then (some (x0, t298, x2, true)) else (some (false, (⟨#[]⟩ : ByteArray), 0, false))))))
def impl_made.f (k : Nat) (a0 : Bool) (a1 : ByteArray) (a2 : Int) : Option (Bool × ByteArray × Int × Bool) := impl_made.l0 k a0 a1 a2
set_option maxHeartbeats 8000000 in
set_option maxRecDepth 100000 in
theorem impl_made.calls (k : Nat) (a0 : Bool) (a1 : ByteArray) (a2 : Int) (r1 : Bool) (r2 : ByteArray) (r3 : Int) (r4 : Bool) (w : World) (h : impl_made.f k a0 a1 a2 = some (r1, r2, r3, r4)) :
    Calls Tryd.prog 54 #[.bool a0, .string a1, .int .i64 a2] w fun e w' => e = .returned (.tuple #[.agg #[.bool r1, .string r2, .int .i64 r3], .bool r4]) ∧ Below w.heap.size w w' := by
  have hu26 := Tryd.underlying26
  have HB := Aside0.mk (Below.refl w.heap.size w)
  have H : (impl_made.l0 k a0 a1 a2) = some (r1, r2, r3, r4) := h
  clear h
  have H' := Aside0.mk H
  clear H
  go_enter Tryd.func54, Tryd.ntmps54
  go_wp2_with (first | ((with_reducible refine gate_dst (N := 6) rfl ?_); (try (refine gate_guard (by rfl) ?_; dsimp only)); refine box_event ?hg (N := 6) ?hd (cs := #[.bool false, .string (⟨#[]⟩ : ByteArray), .int .i64 0]) (t := 26) ?hr ?_; (case hd => rfl); (case hg => rfl); (case hr => first | (go_simp; done) | (go_simp; rfl)); intro gb289 hg w4 hbox hb; have n0_ := Aside0.mk (below_step (by repeat (first | (with_reducible first | exact HB.out | apply below_alloc | apply pw_below_drewN | apply below_drew1) | exact HB.out)) hb); have n1_ := Aside0.mk (hbox); have n2_ := Aside0.mk ((by rw [hg]; exact (below_size (by repeat (first | (with_reducible first | exact HB.out | apply below_alloc | apply pw_below_drewN | apply below_drew1) | exact HB.out))) : w.heap.size ≤ gb289)); have n3_ := Aside0.mk ((by rw [hg]; exact (below_size (by repeat (first | (with_reducible first | exact HB.out | apply below_alloc | apply pw_below_drewN | apply below_drew1) | exact HB.out))) : w.heap.size ≤ gb289)); clear HB; have HB := n0_; have BK289 := n1_; have GW289 := n2_; have GE289 := n3_; clear n0_ n1_ n2_ n3_; clear hb hbox hg))
  go_loopg [1, 2] k (fun kq v1 v2 w' => ∃ (x1_1 : ByteArray) (x2_1 : Int), v1 = .string x1_1 ∧ v2 = .int .i64 x2_1 ∧ Aside0 (impl_made.l0 kq a0 x1_1 x2_1 = some (r1, r2, r3, r4)) ∧ Aside0 (kq ≤ k) ∧ Aside0 (w'.heap[gb289]? = some (.cells #[.bool false, .string (⟨#[]⟩ : ByteArray), .int .i64 0] 26 (0, 0))) ∧ Aside0 (Below w.heap.size w w'))
  case atStart => exact ⟨(a1), (a2), (by first | rfl | (simp; done) | (simp [*]; done)), (by first | rfl | (simp; done) | (simp [*]; done)), H', ⟨Nat.le_refl _⟩, ⟨by refine blk_up ?_; exact BK289.out⟩, ⟨by repeat (first | (with_reducible first | exact HB.out | apply below_alloc | apply pw_below_drewN | apply below_drew1 | refine below_set ?_ GE289.out) | exact HB.out)⟩⟩
  case round =>
    clear H'
    try clear p2
    obtain ⟨x1_1, x2_1, rfl, rfl, HA, HK1, BK289, HB⟩ := hrel
    cases gk with
    | zero => exact absurd HA.out (by simp [impl_made.l0])
    | succ k1 =>
      have H := HA.out
      clear HA
      simp only [impl_made.l0] at H
      by_cases c5 : x2_1 > 0
      · rw [if_pos c5] at H
        have c5b0 : decide (0 < x2_1) = true := decide_eq_true c5
        clear c5
        by_cases c6 : x1_1.toList = ([] : List UInt8)
        · rw [if_pos c6] at H
          have c6b0 : (x1_1.toList == ([] : List UInt8)) = true := beq_iff_eq.mpr c6
          have c6b1 : (x1_1.toList != ([] : List UInt8)) = false := bne_eq_false_iff_eq.mpr c6
          clear c6
          replace H := Option.bind_eq_some_iff.mp H
          obtain ⟨t290, A70, H⟩ := H
          replace H : (if t290.toList = ([] : List UInt8) then ((impl_DecOk.f false (⟨#[]⟩ : ByteArray) 0).bind fun t292 => (if t292 = true then (some (false, (⟨#[]⟩ : ByteArray), 0, true)) else (some (false, (⟨#[]⟩ : ByteArray), 0, false)))) else ((impl_DecOk.f a0 t290 x2_1).bind fun t293 => (if t293 = true then (some (a0, t290, x2_1, true)) else (some (false, (⟨#[]⟩ : ByteArray), 0, false))))) = some (r1, r2, r3, r4) := H
          have A7 := Aside0.mk A70
          clear A70
          by_cases c8 : t290.toList = ([] : List UInt8)
          · rw [if_pos c8] at H
            have c8b0 : (t290.toList == ([] : List UInt8)) = true := beq_iff_eq.mpr c8
            have c8b1 : (t290.toList != ([] : List UInt8)) = false := bne_eq_false_iff_eq.mpr c8
            clear c8
            replace H := Option.bind_eq_some_iff.mp H
            obtain ⟨t292, A90, H⟩ := H
            replace H : (if t292 = true then (some (false, (⟨#[]⟩ : ByteArray), 0, true)) else (some (false, (⟨#[]⟩ : ByteArray), 0, false))) = some (r1, r2, r3, r4) := H
            have A9 := Aside0.mk A90
            clear A90
            by_cases c10 : t292 = true
            · subst c10
              have H1 : (some (false, (⟨#[]⟩ : ByteArray), 0, true)) = some (r1, r2, r3, r4) := by rw [if_pos rfl] at H; exact H
              clear H
              have H := H1
              clear H1
              simp only [Option.some.injEq, Prod.mk.injEq] at H
              obtain ⟨rfl, rfl, rfl, rfl⟩ := H
              go_upto_region 4 with (first | ((with_reducible refine gate_callee (f := 94) rfl ?_); refine goesL_ (some 32) rfl rfl Tryd.func94 (by kernel_rfl) rfl #[.string x1_1, .string (⟨#[48]⟩ : ByteArray)] rfl (by (try simp only [List.map_toArray, List.map_cons, List.map_nil]); first | done | rfl | (simp only [List.length_drop, List.length_take]; rfl)) ?_; (with_reducible refine (strings_TrimLeft.calls x1_1 (⟨#[48]⟩ : ByteArray) t290 _ A7.out).mono ?_); rintro e w11 ⟨rfl, hb⟩; refine ⟨_, rfl, ?_⟩; have n0_ := Aside0.mk (blk_below (g := gb289) (o := .cells #[.bool false, .string (⟨#[]⟩ : ByteArray), .int .i64 0] 26 (0, 0)) (by refine blk_up ?_; exact BK289.out) hb); have n1_ := Aside0.mk (below_step (by repeat (first | (with_reducible first | exact HB.out | apply below_alloc | apply pw_below_drewN | apply below_drew1 | refine below_set ?_ GE289.out) | exact HB.out)) hb); clear BK289; clear HB; have BK289 := n0_; have HB := n1_; clear n0_ n1_; (try clear hb); (try clear hb2); (try clear hk); (try clear hi)) | ((with_reducible refine gate_dst (N := 8) rfl ?_); (try (refine gate_guard (by rfl) ?_; dsimp only)); refine box_event ?hg (N := 8) ?hd (cs := #[.bool false, .string (⟨#[]⟩ : ByteArray), .int .i64 0]) (t := 26) ?hr ?_; (case hd => rfl); (case hg => rfl); (case hr => first | (go_simp; done) | (go_simp; rfl)); intro gb291 hg w12 hbox hb; have n0_ := Aside0.mk (blk_below (g := gb289) (o := .cells #[.bool false, .string (⟨#[]⟩ : ByteArray), .int .i64 0] 26 (0, 0)) (by refine blk_up ?_; exact BK289.out) hb); have n1_ := Aside0.mk (below_step (by repeat (first | (with_reducible first | exact HB.out | apply below_alloc | apply pw_below_drewN | apply below_drew1 | refine below_set ?_ GE289.out) | exact HB.out)) hb); have n2_ := Aside0.mk (hbox); have n3_ := Aside0.mk ((by rw [hg]; exact (below_size (by repeat (first | (with_reducible first | exact HB.out | apply below_alloc | apply pw_below_drewN | apply below_drew1 | refine below_set ?_ GE289.out) | exact HB.out))) : w.heap.size ≤ gb291)); have n4_ := Aside0.mk ((by rw [hg]; exact (below_size (by repeat (first | (with_reducible first | exact HB.out | apply below_alloc | apply pw_below_drewN | apply below_drew1 | refine below_set ?_ GE289.out) | exact HB.out))) : w.heap.size ≤ gb291)); have n5_ := Aside0.mk ((by rw [hg]; exact Nat.ne_of_lt (blk_lt (g := gb289) (o := .cells #[.bool false, .string (⟨#[]⟩ : ByteArray), .int .i64 0] 26 (0, 0)) (by refine blk_up ?_; exact BK289.out)) : gb289 ≠ gb291)); have n6_ := Aside0.mk ((by rw [hg]; exact Nat.ne_of_gt (blk_lt (g := gb289) (o := .cells #[.bool false, .string (⟨#[]⟩ : ByteArray), .int .i64 0] 26 (0, 0)) (by refine blk_up ?_; exact BK289.out)) : gb291 ≠ gb289)); clear BK289; clear HB; have BK289 := n0_; have HB := n1_; have BK291 := n2_; have GW291 := n3_; have GE291 := n4_; have NB289_291 := n5_; have NB291_289 := n6_; clear n0_ n1_ n2_ n3_ n4_ n5_ n6_; clear hb hbox hg; have hnb13 := NB291_289.out; have hnc13 := NB289_291.out; have hcz14_0 : w12.cell? ⟨gb291, 0, none⟩ = some (.bool false) := (blk_cell BK291.out 0).trans rfl; have hcz14_1 : w12.cell? ⟨gb291, 1, none⟩ = some (.string (⟨#[]⟩ : ByteArray)) := (blk_cell BK291.out 1).trans rfl; have hcz14_2 : w12.cell? ⟨gb291, 2, none⟩ = some (.int .i64 0) := (blk_cell BK291.out 2).trans rfl; have hfz14_0 := blk_frozen BK291.out 0; have hfz14_1 := blk_frozen BK291.out 1; have hfz14_2 := blk_frozen BK291.out 2))
              refine wp_world_impl_made (fun W => Aside0 (W.heap[gb289]? = some (.cells #[.bool false, .string (⟨#[]⟩ : ByteArray), .int .i64 0] 26 (0, 0))) ∧ Aside0 (W.heap[gb291]? = some (.cells #[.bool a0, .string t290, .int .i64 x2_1] 26 (0, 0))) ∧ Aside0 (Below w.heap.size w W))
                ⟨⟨by refine blk_up ?_; refine blk_far ?_ NB289_291.out _; refine blk_up ?_; refine blk_far ?_ NB289_291.out _; refine blk_up ?_; refine blk_far ?_ NB289_291.out _; refine blk_up ?_; exact BK289.out⟩,
                 ⟨by refine blk_up ?_; refine blk_put (cs := #[.bool a0, .string t290, .int .i64 0]) ?_ 2 _ rfl; refine blk_up ?_; refine blk_put (cs := #[.bool a0, .string (⟨#[]⟩ : ByteArray), .int .i64 0]) ?_ 1 _ rfl; refine blk_up ?_; refine blk_put (cs := #[.bool false, .string (⟨#[]⟩ : ByteArray), .int .i64 0]) ?_ 0 _ rfl; refine blk_up ?_; exact BK291.out⟩,
                 ⟨by repeat (first | (with_reducible first | exact HB.out | apply below_alloc | apply pw_below_drewN | apply below_drew1 | refine below_set ?_ GE289.out | refine below_set ?_ GE291.out) | exact HB.out)⟩⟩ ?_
              clear BK289 BK291 HB
              rintro ww ⟨BK289, BK291, HB⟩
              have hwz_0 : ww.cell? ⟨gb291, 0, none⟩ = some (.bool a0) := (blk_cell BK291.out 0).trans rfl
              have hwf_0 := blk_frozen BK291.out 0
              have hwz_1 : ww.cell? ⟨gb291, 1, none⟩ = some (.string t290) := (blk_cell BK291.out 1).trans rfl
              have hwf_1 := blk_frozen BK291.out 1
              have hwz_2 : ww.cell? ⟨gb291, 2, none⟩ = some (.int .i64 x2_1) := (blk_cell BK291.out 2).trans rfl
              have hwf_2 := blk_frozen BK291.out 2
              go_wp2_with (first | ((with_reducible refine gate_callee (f := 27) rfl ?_); refine goesL_ (some 40) rfl rfl Tryd.func27 (by kernel_rfl) rfl #[.agg #[.bool false, .string (⟨#[]⟩ : ByteArray), .int .i64 0]] rfl (by (try simp only [List.map_toArray, List.map_cons, List.map_nil]); first | done | rfl | (simp only [List.length_drop, List.length_take]; rfl)) ?_; (with_reducible refine (impl_DecOk.calls false (⟨#[]⟩ : ByteArray) 0 true _ A9.out).mono ?_); rintro e w15 ⟨rfl, hb⟩; refine ⟨_, rfl, ?_⟩; have n0_ := Aside0.mk (blk_below (g := gb289) (o := .cells #[.bool false, .string (⟨#[]⟩ : ByteArray), .int .i64 0] 26 (0, 0)) (by refine blk_up ?_; refine blk_far ?_ NB289_291.out _; refine blk_up ?_; refine blk_far ?_ NB289_291.out _; refine blk_up ?_; refine blk_far ?_ NB289_291.out _; refine blk_up ?_; exact BK289.out) hb); have n1_ := Aside0.mk (blk_below (g := gb291) (o := .cells #[.bool false, .string (⟨#[]⟩ : ByteArray), .int .i64 0] 26 (0, 0)) (by refine blk_up ?_; refine blk_put (cs := #[.bool false, .string (⟨#[]⟩ : ByteArray), .int .i64 x2_1]) ?_ 2 _ rfl; refine blk_up ?_; refine blk_put (cs := #[.bool false, .string t290, .int .i64 x2_1]) ?_ 1 _ rfl; refine blk_up ?_; refine blk_put (cs := #[.bool a0, .string t290, .int .i64 x2_1]) ?_ 0 _ rfl; refine blk_up ?_; exact BK291.out) hb); have n2_ := Aside0.mk (below_step (by repeat (first | (with_reducible first | exact HB.out | apply below_alloc | apply pw_below_drewN | apply below_drew1 | refine below_set ?_ GE289.out | refine below_set ?_ GE291.out) | exact HB.out)) hb); clear BK289; clear BK291; clear HB; have BK289 := n0_; have BK291 := n1_; have HB := n2_; clear n0_ n1_ n2_; (try clear hb); (try clear hb2); (try clear hk); (try clear hi); have hcz16_0 : w15.cell? ⟨gb291, 0, none⟩ = some (.bool false) := (blk_cell BK291.out 0).trans rfl; have hcz16_1 : w15.cell? ⟨gb291, 1, none⟩ = some (.string (⟨#[]⟩ : ByteArray)) := (blk_cell BK291.out 1).trans rfl; have hcz16_2 : w15.cell? ⟨gb291, 2, none⟩ = some (.int .i64 0) := (blk_cell BK291.out 2).trans rfl; have hfz16_0 := blk_frozen BK291.out 0; have hfz16_1 := blk_frozen BK291.out 1; have hfz16_2 := blk_frozen BK291.out 2; have hcz17_0 : w15.cell? ⟨gb289, 0, none⟩ = some (.bool false) := (blk_cell BK289.out 0).trans rfl; have hcz17_1 : w15.cell? ⟨gb289, 1, none⟩ = some (.string (⟨#[]⟩ : ByteArray)) := (blk_cell BK289.out 1).trans rfl; have hcz17_2 : w15.cell? ⟨gb289, 2, none⟩ = some (.int .i64 0) := (blk_cell BK289.out 2).trans rfl; have hfz17_0 := blk_frozen BK289.out 0; have hfz17_1 := blk_frozen BK289.out 1; have hfz17_2 := blk_frozen BK289.out 2))
              refine bodyPost_ret (results_ct rfl _ _ gb289 26 #[.bool false, .string (⟨#[]⟩ : ByteArray), .int .i64 0] (0, 0) _ rfl (by refine blk_up ?_; refine blk_put (cs := #[.bool false, .string (⟨#[]⟩ : ByteArray), .int .i64 0]) ?_ 2 _ rfl; refine blk_up ?_; refine blk_put (cs := #[.bool false, .string (⟨#[]⟩ : ByteArray), .int .i64 0]) ?_ 1 _ rfl; refine blk_up ?_; refine blk_put (cs := #[.bool false, .string (⟨#[]⟩ : ByteArray), .int .i64 0]) ?_ 0 _ rfl; refine blk_up ?_; exact BK289.out) Tryd.underlying26 rfl (by kernel_rfl)) rfl ?_
              exact ⟨by first | rfl | (simp [errW_none, errW_some] <;> rfl) | (simp [*, errW_none, errW_some] <;> rfl), by repeat (first | (with_reducible first | exact HB.out | apply below_alloc | apply pw_below_drewN | apply below_drew1 | refine below_set ?_ GE289.out | refine below_set ?_ GE291.out) | exact HB.out)⟩
            · replace c10 := Bool.eq_false_iff.mpr c10
              subst c10
              have H1 : (some (false, (⟨#[]⟩ : ByteArray), 0, false)) = some (r1, r2, r3, r4) := by rw [if_neg (show ¬ (false = true) by decide)] at H; exact H
              clear H
              have H := H1
              clear H1
              simp only [Option.some.injEq, Prod.mk.injEq] at H
              obtain ⟨rfl, rfl, rfl, rfl⟩ := H
              go_upto_region 4 with (first | ((with_reducible refine gate_callee (f := 94) rfl ?_); refine goesL_ (some 32) rfl rfl Tryd.func94 (by kernel_rfl) rfl #[.string x1_1, .string (⟨#[48]⟩ : ByteArray)] rfl (by (try simp only [List.map_toArray, List.map_cons, List.map_nil]); first | done | rfl | (simp only [List.length_drop, List.length_take]; rfl)) ?_; (with_reducible refine (strings_TrimLeft.calls x1_1 (⟨#[48]⟩ : ByteArray) t290 _ A7.out).mono ?_); rintro e w18 ⟨rfl, hb⟩; refine ⟨_, rfl, ?_⟩; have n0_ := Aside0.mk (blk_below (g := gb289) (o := .cells #[.bool false, .string (⟨#[]⟩ : ByteArray), .int .i64 0] 26 (0, 0)) (by refine blk_up ?_; exact BK289.out) hb); have n1_ := Aside0.mk (below_step (by repeat (first | (with_reducible first | exact HB.out | apply below_alloc | apply pw_below_drewN | apply below_drew1 | refine below_set ?_ GE289.out) | exact HB.out)) hb); clear BK289; clear HB; have BK289 := n0_; have HB := n1_; clear n0_ n1_; (try clear hb); (try clear hb2); (try clear hk); (try clear hi)) | ((with_reducible refine gate_dst (N := 8) rfl ?_); (try (refine gate_guard (by rfl) ?_; dsimp only)); refine box_event ?hg (N := 8) ?hd (cs := #[.bool false, .string (⟨#[]⟩ : ByteArray), .int .i64 0]) (t := 26) ?hr ?_; (case hd => rfl); (case hg => rfl); (case hr => first | (go_simp; done) | (go_simp; rfl)); intro gb291 hg w19 hbox hb; have n0_ := Aside0.mk (blk_below (g := gb289) (o := .cells #[.bool false, .string (⟨#[]⟩ : ByteArray), .int .i64 0] 26 (0, 0)) (by refine blk_up ?_; exact BK289.out) hb); have n1_ := Aside0.mk (below_step (by repeat (first | (with_reducible first | exact HB.out | apply below_alloc | apply pw_below_drewN | apply below_drew1 | refine below_set ?_ GE289.out) | exact HB.out)) hb); have n2_ := Aside0.mk (hbox); have n3_ := Aside0.mk ((by rw [hg]; exact (below_size (by repeat (first | (with_reducible first | exact HB.out | apply below_alloc | apply pw_below_drewN | apply below_drew1 | refine below_set ?_ GE289.out) | exact HB.out))) : w.heap.size ≤ gb291)); have n4_ := Aside0.mk ((by rw [hg]; exact (below_size (by repeat (first | (with_reducible first | exact HB.out | apply below_alloc | apply pw_below_drewN | apply below_drew1 | refine below_set ?_ GE289.out) | exact HB.out))) : w.heap.size ≤ gb291)); have n5_ := Aside0.mk ((by rw [hg]; exact Nat.ne_of_lt (blk_lt (g := gb289) (o := .cells #[.bool false, .string (⟨#[]⟩ : ByteArray), .int .i64 0] 26 (0, 0)) (by refine blk_up ?_; exact BK289.out)) : gb289 ≠ gb291)); have n6_ := Aside0.mk ((by rw [hg]; exact Nat.ne_of_gt (blk_lt (g := gb289) (o := .cells #[.bool false, .string (⟨#[]⟩ : ByteArray), .int .i64 0] 26 (0, 0)) (by refine blk_up ?_; exact BK289.out)) : gb291 ≠ gb289)); clear BK289; clear HB; have BK289 := n0_; have HB := n1_; have BK291 := n2_; have GW291 := n3_; have GE291 := n4_; have NB289_291 := n5_; have NB291_289 := n6_; clear n0_ n1_ n2_ n3_ n4_ n5_ n6_; clear hb hbox hg; have hnb20 := NB291_289.out; have hnc20 := NB289_291.out; have hcz21_0 : w19.cell? ⟨gb291, 0, none⟩ = some (.bool false) := (blk_cell BK291.out 0).trans rfl; have hcz21_1 : w19.cell? ⟨gb291, 1, none⟩ = some (.string (⟨#[]⟩ : ByteArray)) := (blk_cell BK291.out 1).trans rfl; have hcz21_2 : w19.cell? ⟨gb291, 2, none⟩ = some (.int .i64 0) := (blk_cell BK291.out 2).trans rfl; have hfz21_0 := blk_frozen BK291.out 0; have hfz21_1 := blk_frozen BK291.out 1; have hfz21_2 := blk_frozen BK291.out 2))
              refine wp_world_impl_made (fun W => Aside0 (W.heap[gb289]? = some (.cells #[.bool false, .string (⟨#[]⟩ : ByteArray), .int .i64 0] 26 (0, 0))) ∧ Aside0 (W.heap[gb291]? = some (.cells #[.bool a0, .string t290, .int .i64 x2_1] 26 (0, 0))) ∧ Aside0 (Below w.heap.size w W))
                ⟨⟨by refine blk_up ?_; refine blk_far ?_ NB289_291.out _; refine blk_up ?_; refine blk_far ?_ NB289_291.out _; refine blk_up ?_; refine blk_far ?_ NB289_291.out _; refine blk_up ?_; exact BK289.out⟩,
                 ⟨by refine blk_up ?_; refine blk_put (cs := #[.bool a0, .string t290, .int .i64 0]) ?_ 2 _ rfl; refine blk_up ?_; refine blk_put (cs := #[.bool a0, .string (⟨#[]⟩ : ByteArray), .int .i64 0]) ?_ 1 _ rfl; refine blk_up ?_; refine blk_put (cs := #[.bool false, .string (⟨#[]⟩ : ByteArray), .int .i64 0]) ?_ 0 _ rfl; refine blk_up ?_; exact BK291.out⟩,
                 ⟨by repeat (first | (with_reducible first | exact HB.out | apply below_alloc | apply pw_below_drewN | apply below_drew1 | refine below_set ?_ GE289.out | refine below_set ?_ GE291.out) | exact HB.out)⟩⟩ ?_
              clear BK289 BK291 HB
              rintro ww ⟨BK289, BK291, HB⟩
              have hwz_0 : ww.cell? ⟨gb291, 0, none⟩ = some (.bool a0) := (blk_cell BK291.out 0).trans rfl
              have hwf_0 := blk_frozen BK291.out 0
              have hwz_1 : ww.cell? ⟨gb291, 1, none⟩ = some (.string t290) := (blk_cell BK291.out 1).trans rfl
              have hwf_1 := blk_frozen BK291.out 1
              have hwz_2 : ww.cell? ⟨gb291, 2, none⟩ = some (.int .i64 x2_1) := (blk_cell BK291.out 2).trans rfl
              have hwf_2 := blk_frozen BK291.out 2
              go_wp2_with (first | ((with_reducible refine gate_callee (f := 27) rfl ?_); refine goesL_ (some 40) rfl rfl Tryd.func27 (by kernel_rfl) rfl #[.agg #[.bool false, .string (⟨#[]⟩ : ByteArray), .int .i64 0]] rfl (by (try simp only [List.map_toArray, List.map_cons, List.map_nil]); first | done | rfl | (simp only [List.length_drop, List.length_take]; rfl)) ?_; (with_reducible refine (impl_DecOk.calls false (⟨#[]⟩ : ByteArray) 0 false _ A9.out).mono ?_); rintro e w22 ⟨rfl, hb⟩; refine ⟨_, rfl, ?_⟩; have n0_ := Aside0.mk (blk_below (g := gb289) (o := .cells #[.bool false, .string (⟨#[]⟩ : ByteArray), .int .i64 0] 26 (0, 0)) (by refine blk_up ?_; refine blk_far ?_ NB289_291.out _; refine blk_up ?_; refine blk_far ?_ NB289_291.out _; refine blk_up ?_; refine blk_far ?_ NB289_291.out _; refine blk_up ?_; exact BK289.out) hb); have n1_ := Aside0.mk (blk_below (g := gb291) (o := .cells #[.bool false, .string (⟨#[]⟩ : ByteArray), .int .i64 0] 26 (0, 0)) (by refine blk_up ?_; refine blk_put (cs := #[.bool false, .string (⟨#[]⟩ : ByteArray), .int .i64 x2_1]) ?_ 2 _ rfl; refine blk_up ?_; refine blk_put (cs := #[.bool false, .string t290, .int .i64 x2_1]) ?_ 1 _ rfl; refine blk_up ?_; refine blk_put (cs := #[.bool a0, .string t290, .int .i64 x2_1]) ?_ 0 _ rfl; refine blk_up ?_; exact BK291.out) hb); have n2_ := Aside0.mk (below_step (by repeat (first | (with_reducible first | exact HB.out | apply below_alloc | apply pw_below_drewN | apply below_drew1 | refine below_set ?_ GE289.out | refine below_set ?_ GE291.out) | exact HB.out)) hb); clear BK289; clear BK291; clear HB; have BK289 := n0_; have BK291 := n1_; have HB := n2_; clear n0_ n1_ n2_; (try clear hb); (try clear hb2); (try clear hk); (try clear hi); have hcz23_0 : w22.cell? ⟨gb289, 0, none⟩ = some (.bool false) := (blk_cell BK289.out 0).trans rfl; have hcz23_1 : w22.cell? ⟨gb289, 1, none⟩ = some (.string (⟨#[]⟩ : ByteArray)) := (blk_cell BK289.out 1).trans rfl; have hcz23_2 : w22.cell? ⟨gb289, 2, none⟩ = some (.int .i64 0) := (blk_cell BK289.out 2).trans rfl; have hfz23_0 := blk_frozen BK289.out 0; have hfz23_1 := blk_frozen BK289.out 1; have hfz23_2 := blk_frozen BK289.out 2))
              refine bodyPost_ret (results_ct rfl _ _ gb289 26 #[.bool false, .string (⟨#[]⟩ : ByteArray), .int .i64 0] (0, 0) _ rfl (by refine blk_up ?_; refine blk_put (cs := #[.bool false, .string (⟨#[]⟩ : ByteArray), .int .i64 0]) ?_ 2 _ rfl; refine blk_up ?_; refine blk_put (cs := #[.bool false, .string (⟨#[]⟩ : ByteArray), .int .i64 0]) ?_ 1 _ rfl; refine blk_up ?_; refine blk_put (cs := #[.bool false, .string (⟨#[]⟩ : ByteArray), .int .i64 0]) ?_ 0 _ rfl; refine blk_up ?_; exact BK289.out) Tryd.underlying26 rfl (by kernel_rfl)) rfl ?_
              exact ⟨by first | rfl | (simp [errW_none, errW_some] <;> rfl) | (simp [*, errW_none, errW_some] <;> rfl), by repeat (first | (with_reducible first | exact HB.out | apply below_alloc | apply pw_below_drewN | apply below_drew1 | refine below_set ?_ GE289.out | refine below_set ?_ GE291.out) | exact HB.out)⟩
          · rw [if_neg c8] at H
            have c8b0 : (t290.toList == ([] : List UInt8)) = false := beq_eq_false_iff_ne.mpr c8
            have c8b1 : (t290.toList != ([] : List UInt8)) = true := bne_iff_ne.mpr c8
            replace H := Option.bind_eq_some_iff.mp H
            obtain ⟨t293, A240, H⟩ := H
            replace H : (if t293 = true then (some (a0, t290, x2_1, true)) else (some (false, (⟨#[]⟩ : ByteArray), 0, false))) = some (r1, r2, r3, r4) := H
            have A24 := Aside0.mk A240
            clear A240
            by_cases c25 : t293 = true
            · subst c25
              have H1 : (some (a0, t290, x2_1, true)) = some (r1, r2, r3, r4) := by rw [if_pos rfl] at H; exact H
              clear H
              have H := H1
              clear H1
              simp only [Option.some.injEq, Prod.mk.injEq] at H
              obtain ⟨rfl, rfl, rfl, rfl⟩ := H
              go_upto_region 4 with (first | ((with_reducible refine gate_callee (f := 94) rfl ?_); refine goesL_ (some 32) rfl rfl Tryd.func94 (by kernel_rfl) rfl #[.string x1_1, .string (⟨#[48]⟩ : ByteArray)] rfl (by (try simp only [List.map_toArray, List.map_cons, List.map_nil]); first | done | rfl | (simp only [List.length_drop, List.length_take]; rfl)) ?_; (with_reducible refine (strings_TrimLeft.calls x1_1 (⟨#[48]⟩ : ByteArray) t290 _ A7.out).mono ?_); rintro e w26 ⟨rfl, hb⟩; refine ⟨_, rfl, ?_⟩; have n0_ := Aside0.mk (blk_below (g := gb289) (o := .cells #[.bool false, .string (⟨#[]⟩ : ByteArray), .int .i64 0] 26 (0, 0)) (by refine blk_up ?_; exact BK289.out) hb); have n1_ := Aside0.mk (below_step (by repeat (first | (with_reducible first | exact HB.out | apply below_alloc | apply pw_below_drewN | apply below_drew1 | refine below_set ?_ GE289.out) | exact HB.out)) hb); clear BK289; clear HB; have BK289 := n0_; have HB := n1_; clear n0_ n1_; (try clear hb); (try clear hb2); (try clear hk); (try clear hi)) | ((with_reducible refine gate_dst (N := 8) rfl ?_); (try (refine gate_guard (by rfl) ?_; dsimp only)); refine box_event ?hg (N := 8) ?hd (cs := #[.bool false, .string (⟨#[]⟩ : ByteArray), .int .i64 0]) (t := 26) ?hr ?_; (case hd => rfl); (case hg => rfl); (case hr => first | (go_simp; done) | (go_simp; rfl)); intro gb291 hg w27 hbox hb; have n0_ := Aside0.mk (blk_below (g := gb289) (o := .cells #[.bool false, .string (⟨#[]⟩ : ByteArray), .int .i64 0] 26 (0, 0)) (by refine blk_up ?_; exact BK289.out) hb); have n1_ := Aside0.mk (below_step (by repeat (first | (with_reducible first | exact HB.out | apply below_alloc | apply pw_below_drewN | apply below_drew1 | refine below_set ?_ GE289.out) | exact HB.out)) hb); have n2_ := Aside0.mk (hbox); have n3_ := Aside0.mk ((by rw [hg]; exact (below_size (by repeat (first | (with_reducible first | exact HB.out | apply below_alloc | apply pw_below_drewN | apply below_drew1 | refine below_set ?_ GE289.out) | exact HB.out))) : w.heap.size ≤ gb291)); have n4_ := Aside0.mk ((by rw [hg]; exact (below_size (by repeat (first | (with_reducible first | exact HB.out | apply below_alloc | apply pw_below_drewN | apply below_drew1 | refine below_set ?_ GE289.out) | exact HB.out))) : w.heap.size ≤ gb291)); have n5_ := Aside0.mk ((by rw [hg]; exact Nat.ne_of_lt (blk_lt (g := gb289) (o := .cells #[.bool false, .string (⟨#[]⟩ : ByteArray), .int .i64 0] 26 (0, 0)) (by refine blk_up ?_; exact BK289.out)) : gb289 ≠ gb291)); have n6_ := Aside0.mk ((by rw [hg]; exact Nat.ne_of_gt (blk_lt (g := gb289) (o := .cells #[.bool false, .string (⟨#[]⟩ : ByteArray), .int .i64 0] 26 (0, 0)) (by refine blk_up ?_; exact BK289.out)) : gb291 ≠ gb289)); clear BK289; clear HB; have BK289 := n0_; have HB := n1_; have BK291 := n2_; have GW291 := n3_; have GE291 := n4_; have NB289_291 := n5_; have NB291_289 := n6_; clear n0_ n1_ n2_ n3_ n4_ n5_ n6_; clear hb hbox hg; have hnb28 := NB291_289.out; have hnc28 := NB289_291.out; have hcz29_0 : w27.cell? ⟨gb291, 0, none⟩ = some (.bool false) := (blk_cell BK291.out 0).trans rfl; have hcz29_1 : w27.cell? ⟨gb291, 1, none⟩ = some (.string (⟨#[]⟩ : ByteArray)) := (blk_cell BK291.out 1).trans rfl; have hcz29_2 : w27.cell? ⟨gb291, 2, none⟩ = some (.int .i64 0) := (blk_cell BK291.out 2).trans rfl; have hfz29_0 := blk_frozen BK291.out 0; have hfz29_1 := blk_frozen BK291.out 1; have hfz29_2 := blk_frozen BK291.out 2))
              refine wp_world_impl_made (fun W => Aside0 (W.heap[gb289]? = some (.cells #[.bool false, .string (⟨#[]⟩ : ByteArray), .int .i64 0] 26 (0, 0))) ∧ Aside0 (W.heap[gb291]? = some (.cells #[.bool a0, .string t290, .int .i64 x2_1] 26 (0, 0))) ∧ Aside0 (Below w.heap.size w W))
                ⟨⟨by refine blk_up ?_; refine blk_far ?_ NB289_291.out _; refine blk_up ?_; refine blk_far ?_ NB289_291.out _; refine blk_up ?_; refine blk_far ?_ NB289_291.out _; refine blk_up ?_; exact BK289.out⟩,
                 ⟨by refine blk_up ?_; refine blk_put (cs := #[.bool a0, .string t290, .int .i64 0]) ?_ 2 _ rfl; refine blk_up ?_; refine blk_put (cs := #[.bool a0, .string (⟨#[]⟩ : ByteArray), .int .i64 0]) ?_ 1 _ rfl; refine blk_up ?_; refine blk_put (cs := #[.bool false, .string (⟨#[]⟩ : ByteArray), .int .i64 0]) ?_ 0 _ rfl; refine blk_up ?_; exact BK291.out⟩,
                 ⟨by repeat (first | (with_reducible first | exact HB.out | apply below_alloc | apply pw_below_drewN | apply below_drew1 | refine below_set ?_ GE289.out | refine below_set ?_ GE291.out) | exact HB.out)⟩⟩ ?_
              clear BK289 BK291 HB
              rintro ww ⟨BK289, BK291, HB⟩
              have hwz_0 : ww.cell? ⟨gb291, 0, none⟩ = some (.bool a0) := (blk_cell BK291.out 0).trans rfl
              have hwf_0 := blk_frozen BK291.out 0
              have hwz_1 : ww.cell? ⟨gb291, 1, none⟩ = some (.string t290) := (blk_cell BK291.out 1).trans rfl
              have hwf_1 := blk_frozen BK291.out 1
              have hwz_2 : ww.cell? ⟨gb291, 2, none⟩ = some (.int .i64 x2_1) := (blk_cell BK291.out 2).trans rfl
              have hwf_2 := blk_frozen BK291.out 2
              go_wp2_with (first | ((with_reducible refine gate_callee (f := 27) rfl ?_); refine goesL_ (some 40) rfl rfl Tryd.func27 (by kernel_rfl) rfl #[.agg #[.bool a0, .string t290, .int .i64 x2_1]] rfl (by (try simp only [List.map_toArray, List.map_cons, List.map_nil]); first | done | rfl | (simp only [List.length_drop, List.length_take]; rfl)) ?_; (with_reducible refine (impl_DecOk.calls a0 t290 x2_1 true _ A24.out).mono ?_); rintro e w30 ⟨rfl, hb⟩; refine ⟨_, rfl, ?_⟩; have n0_ := Aside0.mk (blk_below (g := gb289) (o := .cells #[.bool false, .string (⟨#[]⟩ : ByteArray), .int .i64 0] 26 (0, 0)) (by refine blk_up ?_; exact BK289.out) hb); have n1_ := Aside0.mk (blk_below (g := gb291) (o := .cells #[.bool a0, .string t290, .int .i64 x2_1] 26 (0, 0)) (by refine blk_up ?_; exact BK291.out) hb); have n2_ := Aside0.mk (below_step (by repeat (first | (with_reducible first | exact HB.out | apply below_alloc | apply pw_below_drewN | apply below_drew1 | refine below_set ?_ GE289.out | refine below_set ?_ GE291.out) | exact HB.out)) hb); clear BK289; clear BK291; clear HB; have BK289 := n0_; have BK291 := n1_; have HB := n2_; clear n0_ n1_ n2_; (try clear hb); (try clear hb2); (try clear hk); (try clear hi); have hcz31_0 : w30.cell? ⟨gb291, 0, none⟩ = some (.bool a0) := (blk_cell BK291.out 0).trans rfl; have hcz31_1 : w30.cell? ⟨gb291, 1, none⟩ = some (.string t290) := (blk_cell BK291.out 1).trans rfl; have hcz31_2 : w30.cell? ⟨gb291, 2, none⟩ = some (.int .i64 x2_1) := (blk_cell BK291.out 2).trans rfl; have hfz31_0 := blk_frozen BK291.out 0; have hfz31_1 := blk_frozen BK291.out 1; have hfz31_2 := blk_frozen BK291.out 2; have hcz32_0 : w30.cell? ⟨gb289, 0, none⟩ = some (.bool false) := (blk_cell BK289.out 0).trans rfl; have hcz32_1 : w30.cell? ⟨gb289, 1, none⟩ = some (.string (⟨#[]⟩ : ByteArray)) := (blk_cell BK289.out 1).trans rfl; have hcz32_2 : w30.cell? ⟨gb289, 2, none⟩ = some (.int .i64 0) := (blk_cell BK289.out 2).trans rfl; have hfz32_0 := blk_frozen BK289.out 0; have hfz32_1 := blk_frozen BK289.out 1; have hfz32_2 := blk_frozen BK289.out 2))
              refine bodyPost_ret (results_ct rfl _ _ gb289 26 #[.bool a0, .string t290, .int .i64 x2_1] (0, 0) _ rfl (by refine blk_up ?_; refine blk_put (cs := #[.bool a0, .string t290, .int .i64 0]) ?_ 2 _ rfl; refine blk_up ?_; refine blk_put (cs := #[.bool a0, .string (⟨#[]⟩ : ByteArray), .int .i64 0]) ?_ 1 _ rfl; refine blk_up ?_; refine blk_put (cs := #[.bool false, .string (⟨#[]⟩ : ByteArray), .int .i64 0]) ?_ 0 _ rfl; refine blk_up ?_; exact BK289.out) Tryd.underlying26 rfl (by kernel_rfl)) rfl ?_
              exact ⟨by first | rfl | (simp [errW_none, errW_some] <;> rfl) | (simp [*, errW_none, errW_some] <;> rfl), by repeat (first | (with_reducible first | exact HB.out | apply below_alloc | apply pw_below_drewN | apply below_drew1 | refine below_set ?_ GE289.out | refine below_set ?_ GE291.out) | exact HB.out)⟩
            · replace c25 := Bool.eq_false_iff.mpr c25
              subst c25
              have H1 : (some (false, (⟨#[]⟩ : ByteArray), 0, false)) = some (r1, r2, r3, r4) := by rw [if_neg (show ¬ (false = true) by decide)] at H; exact H
              clear H
              have H := H1
              clear H1
              simp only [Option.some.injEq, Prod.mk.injEq] at H
              obtain ⟨rfl, rfl, rfl, rfl⟩ := H
              go_upto_region 4 with (first | ((with_reducible refine gate_callee (f := 94) rfl ?_); refine goesL_ (some 32) rfl rfl Tryd.func94 (by kernel_rfl) rfl #[.string x1_1, .string (⟨#[48]⟩ : ByteArray)] rfl (by (try simp only [List.map_toArray, List.map_cons, List.map_nil]); first | done | rfl | (simp only [List.length_drop, List.length_take]; rfl)) ?_; (with_reducible refine (strings_TrimLeft.calls x1_1 (⟨#[48]⟩ : ByteArray) t290 _ A7.out).mono ?_); rintro e w33 ⟨rfl, hb⟩; refine ⟨_, rfl, ?_⟩; have n0_ := Aside0.mk (blk_below (g := gb289) (o := .cells #[.bool false, .string (⟨#[]⟩ : ByteArray), .int .i64 0] 26 (0, 0)) (by refine blk_up ?_; exact BK289.out) hb); have n1_ := Aside0.mk (below_step (by repeat (first | (with_reducible first | exact HB.out | apply below_alloc | apply pw_below_drewN | apply below_drew1 | refine below_set ?_ GE289.out) | exact HB.out)) hb); clear BK289; clear HB; have BK289 := n0_; have HB := n1_; clear n0_ n1_; (try clear hb); (try clear hb2); (try clear hk); (try clear hi)) | ((with_reducible refine gate_dst (N := 8) rfl ?_); (try (refine gate_guard (by rfl) ?_; dsimp only)); refine box_event ?hg (N := 8) ?hd (cs := #[.bool false, .string (⟨#[]⟩ : ByteArray), .int .i64 0]) (t := 26) ?hr ?_; (case hd => rfl); (case hg => rfl); (case hr => first | (go_simp; done) | (go_simp; rfl)); intro gb291 hg w34 hbox hb; have n0_ := Aside0.mk (blk_below (g := gb289) (o := .cells #[.bool false, .string (⟨#[]⟩ : ByteArray), .int .i64 0] 26 (0, 0)) (by refine blk_up ?_; exact BK289.out) hb); have n1_ := Aside0.mk (below_step (by repeat (first | (with_reducible first | exact HB.out | apply below_alloc | apply pw_below_drewN | apply below_drew1 | refine below_set ?_ GE289.out) | exact HB.out)) hb); have n2_ := Aside0.mk (hbox); have n3_ := Aside0.mk ((by rw [hg]; exact (below_size (by repeat (first | (with_reducible first | exact HB.out | apply below_alloc | apply pw_below_drewN | apply below_drew1 | refine below_set ?_ GE289.out) | exact HB.out))) : w.heap.size ≤ gb291)); have n4_ := Aside0.mk ((by rw [hg]; exact (below_size (by repeat (first | (with_reducible first | exact HB.out | apply below_alloc | apply pw_below_drewN | apply below_drew1 | refine below_set ?_ GE289.out) | exact HB.out))) : w.heap.size ≤ gb291)); have n5_ := Aside0.mk ((by rw [hg]; exact Nat.ne_of_lt (blk_lt (g := gb289) (o := .cells #[.bool false, .string (⟨#[]⟩ : ByteArray), .int .i64 0] 26 (0, 0)) (by refine blk_up ?_; exact BK289.out)) : gb289 ≠ gb291)); have n6_ := Aside0.mk ((by rw [hg]; exact Nat.ne_of_gt (blk_lt (g := gb289) (o := .cells #[.bool false, .string (⟨#[]⟩ : ByteArray), .int .i64 0] 26 (0, 0)) (by refine blk_up ?_; exact BK289.out)) : gb291 ≠ gb289)); clear BK289; clear HB; have BK289 := n0_; have HB := n1_; have BK291 := n2_; have GW291 := n3_; have GE291 := n4_; have NB289_291 := n5_; have NB291_289 := n6_; clear n0_ n1_ n2_ n3_ n4_ n5_ n6_; clear hb hbox hg; have hnb35 := NB291_289.out; have hnc35 := NB289_291.out; have hcz36_0 : w34.cell? ⟨gb291, 0, none⟩ = some (.bool false) := (blk_cell BK291.out 0).trans rfl; have hcz36_1 : w34.cell? ⟨gb291, 1, none⟩ = some (.string (⟨#[]⟩ : ByteArray)) := (blk_cell BK291.out 1).trans rfl; have hcz36_2 : w34.cell? ⟨gb291, 2, none⟩ = some (.int .i64 0) := (blk_cell BK291.out 2).trans rfl; have hfz36_0 := blk_frozen BK291.out 0; have hfz36_1 := blk_frozen BK291.out 1; have hfz36_2 := blk_frozen BK291.out 2))
              refine wp_world_impl_made (fun W => Aside0 (W.heap[gb289]? = some (.cells #[.bool false, .string (⟨#[]⟩ : ByteArray), .int .i64 0] 26 (0, 0))) ∧ Aside0 (W.heap[gb291]? = some (.cells #[.bool a0, .string t290, .int .i64 x2_1] 26 (0, 0))) ∧ Aside0 (Below w.heap.size w W))
                ⟨⟨by refine blk_up ?_; refine blk_far ?_ NB289_291.out _; refine blk_up ?_; refine blk_far ?_ NB289_291.out _; refine blk_up ?_; refine blk_far ?_ NB289_291.out _; refine blk_up ?_; exact BK289.out⟩,
                 ⟨by refine blk_up ?_; refine blk_put (cs := #[.bool a0, .string t290, .int .i64 0]) ?_ 2 _ rfl; refine blk_up ?_; refine blk_put (cs := #[.bool a0, .string (⟨#[]⟩ : ByteArray), .int .i64 0]) ?_ 1 _ rfl; refine blk_up ?_; refine blk_put (cs := #[.bool false, .string (⟨#[]⟩ : ByteArray), .int .i64 0]) ?_ 0 _ rfl; refine blk_up ?_; exact BK291.out⟩,
                 ⟨by repeat (first | (with_reducible first | exact HB.out | apply below_alloc | apply pw_below_drewN | apply below_drew1 | refine below_set ?_ GE289.out | refine below_set ?_ GE291.out) | exact HB.out)⟩⟩ ?_
              clear BK289 BK291 HB
              rintro ww ⟨BK289, BK291, HB⟩
              have hwz_0 : ww.cell? ⟨gb291, 0, none⟩ = some (.bool a0) := (blk_cell BK291.out 0).trans rfl
              have hwf_0 := blk_frozen BK291.out 0
              have hwz_1 : ww.cell? ⟨gb291, 1, none⟩ = some (.string t290) := (blk_cell BK291.out 1).trans rfl
              have hwf_1 := blk_frozen BK291.out 1
              have hwz_2 : ww.cell? ⟨gb291, 2, none⟩ = some (.int .i64 x2_1) := (blk_cell BK291.out 2).trans rfl
              have hwf_2 := blk_frozen BK291.out 2
              go_wp2_with (first | ((with_reducible refine gate_callee (f := 27) rfl ?_); refine goesL_ (some 40) rfl rfl Tryd.func27 (by kernel_rfl) rfl #[.agg #[.bool a0, .string t290, .int .i64 x2_1]] rfl (by (try simp only [List.map_toArray, List.map_cons, List.map_nil]); first | done | rfl | (simp only [List.length_drop, List.length_take]; rfl)) ?_; (with_reducible refine (impl_DecOk.calls a0 t290 x2_1 false _ A24.out).mono ?_); rintro e w37 ⟨rfl, hb⟩; refine ⟨_, rfl, ?_⟩; have n0_ := Aside0.mk (blk_below (g := gb289) (o := .cells #[.bool false, .string (⟨#[]⟩ : ByteArray), .int .i64 0] 26 (0, 0)) (by refine blk_up ?_; exact BK289.out) hb); have n1_ := Aside0.mk (blk_below (g := gb291) (o := .cells #[.bool a0, .string t290, .int .i64 x2_1] 26 (0, 0)) (by refine blk_up ?_; exact BK291.out) hb); have n2_ := Aside0.mk (below_step (by repeat (first | (with_reducible first | exact HB.out | apply below_alloc | apply pw_below_drewN | apply below_drew1 | refine below_set ?_ GE289.out | refine below_set ?_ GE291.out) | exact HB.out)) hb); clear BK289; clear BK291; clear HB; have BK289 := n0_; have BK291 := n1_; have HB := n2_; clear n0_ n1_ n2_; (try clear hb); (try clear hb2); (try clear hk); (try clear hi); have hcz38_0 : w37.cell? ⟨gb289, 0, none⟩ = some (.bool false) := (blk_cell BK289.out 0).trans rfl; have hcz38_1 : w37.cell? ⟨gb289, 1, none⟩ = some (.string (⟨#[]⟩ : ByteArray)) := (blk_cell BK289.out 1).trans rfl; have hcz38_2 : w37.cell? ⟨gb289, 2, none⟩ = some (.int .i64 0) := (blk_cell BK289.out 2).trans rfl; have hfz38_0 := blk_frozen BK289.out 0; have hfz38_1 := blk_frozen BK289.out 1; have hfz38_2 := blk_frozen BK289.out 2))
              refine bodyPost_ret (results_ct rfl _ _ gb289 26 #[.bool false, .string (⟨#[]⟩ : ByteArray), .int .i64 0] (0, 0) _ rfl (by refine blk_up ?_; refine blk_put (cs := #[.bool false, .string (⟨#[]⟩ : ByteArray), .int .i64 0]) ?_ 2 _ rfl; refine blk_up ?_; refine blk_put (cs := #[.bool false, .string (⟨#[]⟩ : ByteArray), .int .i64 0]) ?_ 1 _ rfl; refine blk_up ?_; refine blk_put (cs := #[.bool false, .string (⟨#[]⟩ : ByteArray), .int .i64 0]) ?_ 0 _ rfl; refine blk_up ?_; exact BK289.out) Tryd.underlying26 rfl (by kernel_rfl)) rfl ?_
              exact ⟨by first | rfl | (simp [errW_none, errW_some] <;> rfl) | (simp [*, errW_none, errW_some] <;> rfl), by repeat (first | (with_reducible first | exact HB.out | apply below_alloc | apply pw_below_drewN | apply below_drew1 | refine below_set ?_ GE289.out | refine below_set ?_ GE291.out) | exact HB.out)⟩
        · rw [if_neg c6] at H
          have c6b0 : (x1_1.toList == ([] : List UInt8)) = false := beq_eq_false_iff_ne.mpr c6
          have c6b1 : (x1_1.toList != ([] : List UInt8)) = true := bne_iff_ne.mpr c6
          obtain ⟨ji39, hji39⟩ : ∃ j_ : Int, (wrap64 ((x1_1.size : Int) - 1)) = j_ := ⟨_, rfl⟩
          replace H : (if 0 ≤ (ji39) then (if (ji39) < (x1_1.size : Int) then (if (bt x1_1 (ji39)) = 48 then (if (ji39) ≤ (x1_1.size : Int) then (impl_made.l0 k1 a0 (x1_1.extract 0 ((ji39) : Int).toNat) (wrap64 (x2_1 - 1))) else (none)) else ((strings_TrimLeft.f x1_1 (⟨#[48]⟩ : ByteArray)).bind fun t294 => (if t294.toList = ([] : List UInt8) then ((impl_DecOk.f false (⟨#[]⟩ : ByteArray) 0).bind fun t296 => (if t296 = true then (some (false, (⟨#[]⟩ : ByteArray), 0, true)) else (some (false, (⟨#[]⟩ : ByteArray), 0, false)))) else ((impl_DecOk.f a0 t294 x2_1).bind fun t297 => (if t297 = true then (some (a0, t294, x2_1, true)) else (some (false, (⟨#[]⟩ : ByteArray), 0, false))))))) else (none)) else (none)) = some (r1, r2, r3, r4) := by first | (rw [hji39] at H; exact H) | (simp only [hji39] at H ⊢; exact H)
          have hji39w : (IntKind.i64.wrap ((x1_1.size : Int) - 1)) = ji39 := (i64_w _).trans hji39
          by_cases c40 : 0 ≤ (ji39)
          · rw [if_pos c40] at H
            have c40b0 : decide (0 ≤ (ji39)) = true := decide_eq_true c40
            clear c40
            by_cases c41 : (ji39) < (x1_1.size : Int)
            · rw [if_pos c41] at H
              have c41b0 : decide ((ji39) < (x1_1.size : Int)) = true := decide_eq_true c41
              clear c41
              by_cases c43 : (bt x1_1 (ji39)) = 48
              · rw [if_pos c43] at H
                have c43b0 : ((bt x1_1 (ji39)) == 48) = true := beq_iff_eq.mpr c43
                have c43b1 : ((bt x1_1 (ji39)) != 48) = false := bne_eq_false_iff_eq.mpr c43
                clear c43
                have c44b0 := eq_true (of_decide_eq_true (by first | (with_reducible assumption) | assumption) : 0 ≤ (ji39))
                by_cases c45 : (ji39) ≤ (x1_1.size : Int)
                · rw [if_pos c45] at H
                  have c45b0 := eq_true c45
                  have c45b1 : decide ((ji39) ≤ (x1_1.size : Int)) = true := decide_eq_true c45
                  clear c45
                  obtain ⟨js46, hjs46⟩ : ∃ s_ : ByteArray, (x1_1.extract 0 ((ji39) : Int).toNat) = s_ := ⟨_, rfl⟩
                  replace H : (impl_made.l0 k1 a0 js46 (wrap64 (x2_1 - 1))) = some (r1, r2, r3, r4) := by first | (rw [hjs46] at H; exact H) | (simp only [hjs46] at H ⊢; exact H) | exact H
                  have H' := Aside0.mk H
                  clear H
                  have p42 : 0 ≤ ((ji39) : Int) := of_decide_eq_true (by first | (with_reducible assumption) | assumption)
                  have q42 : (ji39) < (x1_1.size : Int) := of_decide_eq_true (by first | (with_reducible assumption) | assumption)
                  have hx42 := bt_at x1_1 (ji39)
                  replace p42 := eq_true p42
                  replace q42 := eq_true q42
                  go_wp2
                  go_roundg k1
                  case measure => have := HK1.out; omega
                  case rel => exact ⟨(js46), (wrap64 (x2_1 - 1)), (by first | rfl | (simp; done) | (simp only [← hjs46] <;> (first | rfl | simp)) | (simp [*]; done)), (by first | rfl | (simp; done) | (simp [*]; done)), H', ⟨by have := HK1.out; omega⟩, ⟨by refine blk_up ?_; exact BK289.out⟩, ⟨by repeat (first | (with_reducible first | exact HB.out | apply below_alloc | apply pw_below_drewN | apply below_drew1 | refine below_set ?_ GE289.out) | exact HB.out)⟩⟩
                · rw [if_neg c45] at H
                  exact absurd H (by simp)
              · rw [if_neg c43] at H
                have c43b0 : ((bt x1_1 (ji39)) == 48) = false := beq_eq_false_iff_ne.mpr c43
                have c43b1 : ((bt x1_1 (ji39)) != 48) = true := bne_iff_ne.mpr c43
                replace H := Option.bind_eq_some_iff.mp H
                obtain ⟨t294, A470, H⟩ := H
                replace H : (if t294.toList = ([] : List UInt8) then ((impl_DecOk.f false (⟨#[]⟩ : ByteArray) 0).bind fun t296 => (if t296 = true then (some (false, (⟨#[]⟩ : ByteArray), 0, true)) else (some (false, (⟨#[]⟩ : ByteArray), 0, false)))) else ((impl_DecOk.f a0 t294 x2_1).bind fun t297 => (if t297 = true then (some (a0, t294, x2_1, true)) else (some (false, (⟨#[]⟩ : ByteArray), 0, false))))) = some (r1, r2, r3, r4) := H
                have A47 := Aside0.mk A470
                clear A470
                by_cases c48 : t294.toList = ([] : List UInt8)
                · rw [if_pos c48] at H
                  have c48b0 : (t294.toList == ([] : List UInt8)) = true := beq_iff_eq.mpr c48
                  have c48b1 : (t294.toList != ([] : List UInt8)) = false := bne_eq_false_iff_eq.mpr c48
                  clear c48
                  replace H := Option.bind_eq_some_iff.mp H
                  obtain ⟨t296, A490, H⟩ := H
                  replace H : (if t296 = true then (some (false, (⟨#[]⟩ : ByteArray), 0, true)) else (some (false, (⟨#[]⟩ : ByteArray), 0, false))) = some (r1, r2, r3, r4) := H
                  have A49 := Aside0.mk A490
                  clear A490
                  by_cases c50 : t296 = true
                  · subst c50
                    have H1 : (some (false, (⟨#[]⟩ : ByteArray), 0, true)) = some (r1, r2, r3, r4) := by rw [if_pos rfl] at H; exact H
                    clear H
                    have H := H1
                    clear H1
                    simp only [Option.some.injEq, Prod.mk.injEq] at H
                    obtain ⟨rfl, rfl, rfl, rfl⟩ := H
                    have p42 : 0 ≤ ((ji39) : Int) := of_decide_eq_true (by first | (with_reducible assumption) | assumption)
                    have q42 : (ji39) < (x1_1.size : Int) := of_decide_eq_true (by first | (with_reducible assumption) | assumption)
                    have hx42 := bt_at x1_1 (ji39)
                    replace p42 := eq_true p42
                    replace q42 := eq_true q42
                    go_upto_region 4 with (first | ((with_reducible refine gate_callee (f := 94) rfl ?_); refine goesL_ (some 32) rfl rfl Tryd.func94 (by kernel_rfl) rfl #[.string x1_1, .string (⟨#[48]⟩ : ByteArray)] rfl (by (try simp only [List.map_toArray, List.map_cons, List.map_nil]); first | done | rfl | (simp only [List.length_drop, List.length_take]; rfl)) ?_; (with_reducible refine (strings_TrimLeft.calls x1_1 (⟨#[48]⟩ : ByteArray) t294 _ A47.out).mono ?_); rintro e w51 ⟨rfl, hb⟩; refine ⟨_, rfl, ?_⟩; have n0_ := Aside0.mk (blk_below (g := gb289) (o := .cells #[.bool false, .string (⟨#[]⟩ : ByteArray), .int .i64 0] 26 (0, 0)) (by refine blk_up ?_; exact BK289.out) hb); have n1_ := Aside0.mk (below_step (by repeat (first | (with_reducible first | exact HB.out | apply below_alloc | apply pw_below_drewN | apply below_drew1 | refine below_set ?_ GE289.out) | exact HB.out)) hb); clear BK289; clear HB; have BK289 := n0_; have HB := n1_; clear n0_ n1_; (try clear hb); (try clear hb2); (try clear hk); (try clear hi)) | ((with_reducible refine gate_dst (N := 8) rfl ?_); (try (refine gate_guard (by rfl) ?_; dsimp only)); refine box_event ?hg (N := 8) ?hd (cs := #[.bool false, .string (⟨#[]⟩ : ByteArray), .int .i64 0]) (t := 26) ?hr ?_; (case hd => rfl); (case hg => rfl); (case hr => first | (go_simp; done) | (go_simp; rfl)); intro gb295 hg w52 hbox hb; have n0_ := Aside0.mk (blk_below (g := gb289) (o := .cells #[.bool false, .string (⟨#[]⟩ : ByteArray), .int .i64 0] 26 (0, 0)) (by refine blk_up ?_; exact BK289.out) hb); have n1_ := Aside0.mk (below_step (by repeat (first | (with_reducible first | exact HB.out | apply below_alloc | apply pw_below_drewN | apply below_drew1 | refine below_set ?_ GE289.out) | exact HB.out)) hb); have n2_ := Aside0.mk (hbox); have n3_ := Aside0.mk ((by rw [hg]; exact (below_size (by repeat (first | (with_reducible first | exact HB.out | apply below_alloc | apply pw_below_drewN | apply below_drew1 | refine below_set ?_ GE289.out) | exact HB.out))) : w.heap.size ≤ gb295)); have n4_ := Aside0.mk ((by rw [hg]; exact (below_size (by repeat (first | (with_reducible first | exact HB.out | apply below_alloc | apply pw_below_drewN | apply below_drew1 | refine below_set ?_ GE289.out) | exact HB.out))) : w.heap.size ≤ gb295)); have n5_ := Aside0.mk ((by rw [hg]; exact Nat.ne_of_lt (blk_lt (g := gb289) (o := .cells #[.bool false, .string (⟨#[]⟩ : ByteArray), .int .i64 0] 26 (0, 0)) (by refine blk_up ?_; exact BK289.out)) : gb289 ≠ gb295)); have n6_ := Aside0.mk ((by rw [hg]; exact Nat.ne_of_gt (blk_lt (g := gb289) (o := .cells #[.bool false, .string (⟨#[]⟩ : ByteArray), .int .i64 0] 26 (0, 0)) (by refine blk_up ?_; exact BK289.out)) : gb295 ≠ gb289)); clear BK289; clear HB; have BK289 := n0_; have HB := n1_; have BK295 := n2_; have GW295 := n3_; have GE295 := n4_; have NB289_295 := n5_; have NB295_289 := n6_; clear n0_ n1_ n2_ n3_ n4_ n5_ n6_; clear hb hbox hg; have hnb53 := NB295_289.out; have hnc53 := NB289_295.out; have hcz54_0 : w52.cell? ⟨gb295, 0, none⟩ = some (.bool false) := (blk_cell BK295.out 0).trans rfl; have hcz54_1 : w52.cell? ⟨gb295, 1, none⟩ = some (.string (⟨#[]⟩ : ByteArray)) := (blk_cell BK295.out 1).trans rfl; have hcz54_2 : w52.cell? ⟨gb295, 2, none⟩ = some (.int .i64 0) := (blk_cell BK295.out 2).trans rfl; have hfz54_0 := blk_frozen BK295.out 0; have hfz54_1 := blk_frozen BK295.out 1; have hfz54_2 := blk_frozen BK295.out 2))
                    refine wp_world_impl_made (fun W => Aside0 (W.heap[gb289]? = some (.cells #[.bool false, .string (⟨#[]⟩ : ByteArray), .int .i64 0] 26 (0, 0))) ∧ Aside0 (W.heap[gb295]? = some (.cells #[.bool a0, .string t294, .int .i64 x2_1] 26 (0, 0))) ∧ Aside0 (Below w.heap.size w W))
                      ⟨⟨by refine blk_up ?_; refine blk_far ?_ NB289_295.out _; refine blk_up ?_; refine blk_far ?_ NB289_295.out _; refine blk_up ?_; refine blk_far ?_ NB289_295.out _; refine blk_up ?_; exact BK289.out⟩,
                       ⟨by refine blk_up ?_; refine blk_put (cs := #[.bool a0, .string t294, .int .i64 0]) ?_ 2 _ rfl; refine blk_up ?_; refine blk_put (cs := #[.bool a0, .string (⟨#[]⟩ : ByteArray), .int .i64 0]) ?_ 1 _ rfl; refine blk_up ?_; refine blk_put (cs := #[.bool false, .string (⟨#[]⟩ : ByteArray), .int .i64 0]) ?_ 0 _ rfl; refine blk_up ?_; exact BK295.out⟩,
                       ⟨by repeat (first | (with_reducible first | exact HB.out | apply below_alloc | apply pw_below_drewN | apply below_drew1 | refine below_set ?_ GE289.out | refine below_set ?_ GE295.out) | exact HB.out)⟩⟩ ?_
                    clear BK289 BK295 HB
                    rintro ww ⟨BK289, BK295, HB⟩
                    have hwz_0 : ww.cell? ⟨gb295, 0, none⟩ = some (.bool a0) := (blk_cell BK295.out 0).trans rfl
                    have hwf_0 := blk_frozen BK295.out 0
                    have hwz_1 : ww.cell? ⟨gb295, 1, none⟩ = some (.string t294) := (blk_cell BK295.out 1).trans rfl
                    have hwf_1 := blk_frozen BK295.out 1
                    have hwz_2 : ww.cell? ⟨gb295, 2, none⟩ = some (.int .i64 x2_1) := (blk_cell BK295.out 2).trans rfl
                    have hwf_2 := blk_frozen BK295.out 2
                    go_wp2_with (first | ((with_reducible refine gate_callee (f := 27) rfl ?_); refine goesL_ (some 40) rfl rfl Tryd.func27 (by kernel_rfl) rfl #[.agg #[.bool false, .string (⟨#[]⟩ : ByteArray), .int .i64 0]] rfl (by (try simp only [List.map_toArray, List.map_cons, List.map_nil]); first | done | rfl | (simp only [List.length_drop, List.length_take]; rfl)) ?_; (with_reducible refine (impl_DecOk.calls false (⟨#[]⟩ : ByteArray) 0 true _ A49.out).mono ?_); rintro e w55 ⟨rfl, hb⟩; refine ⟨_, rfl, ?_⟩; have n0_ := Aside0.mk (blk_below (g := gb289) (o := .cells #[.bool false, .string (⟨#[]⟩ : ByteArray), .int .i64 0] 26 (0, 0)) (by refine blk_up ?_; refine blk_far ?_ NB289_295.out _; refine blk_up ?_; refine blk_far ?_ NB289_295.out _; refine blk_up ?_; refine blk_far ?_ NB289_295.out _; refine blk_up ?_; exact BK289.out) hb); have n1_ := Aside0.mk (blk_below (g := gb295) (o := .cells #[.bool false, .string (⟨#[]⟩ : ByteArray), .int .i64 0] 26 (0, 0)) (by refine blk_up ?_; refine blk_put (cs := #[.bool false, .string (⟨#[]⟩ : ByteArray), .int .i64 x2_1]) ?_ 2 _ rfl; refine blk_up ?_; refine blk_put (cs := #[.bool false, .string t294, .int .i64 x2_1]) ?_ 1 _ rfl; refine blk_up ?_; refine blk_put (cs := #[.bool a0, .string t294, .int .i64 x2_1]) ?_ 0 _ rfl; refine blk_up ?_; exact BK295.out) hb); have n2_ := Aside0.mk (below_step (by repeat (first | (with_reducible first | exact HB.out | apply below_alloc | apply pw_below_drewN | apply below_drew1 | refine below_set ?_ GE289.out | refine below_set ?_ GE295.out) | exact HB.out)) hb); clear BK289; clear BK295; clear HB; have BK289 := n0_; have BK295 := n1_; have HB := n2_; clear n0_ n1_ n2_; (try clear hb); (try clear hb2); (try clear hk); (try clear hi); have hcz56_0 : w55.cell? ⟨gb295, 0, none⟩ = some (.bool false) := (blk_cell BK295.out 0).trans rfl; have hcz56_1 : w55.cell? ⟨gb295, 1, none⟩ = some (.string (⟨#[]⟩ : ByteArray)) := (blk_cell BK295.out 1).trans rfl; have hcz56_2 : w55.cell? ⟨gb295, 2, none⟩ = some (.int .i64 0) := (blk_cell BK295.out 2).trans rfl; have hfz56_0 := blk_frozen BK295.out 0; have hfz56_1 := blk_frozen BK295.out 1; have hfz56_2 := blk_frozen BK295.out 2; have hcz57_0 : w55.cell? ⟨gb289, 0, none⟩ = some (.bool false) := (blk_cell BK289.out 0).trans rfl; have hcz57_1 : w55.cell? ⟨gb289, 1, none⟩ = some (.string (⟨#[]⟩ : ByteArray)) := (blk_cell BK289.out 1).trans rfl; have hcz57_2 : w55.cell? ⟨gb289, 2, none⟩ = some (.int .i64 0) := (blk_cell BK289.out 2).trans rfl; have hfz57_0 := blk_frozen BK289.out 0; have hfz57_1 := blk_frozen BK289.out 1; have hfz57_2 := blk_frozen BK289.out 2))
                    refine bodyPost_ret (results_ct rfl _ _ gb289 26 #[.bool false, .string (⟨#[]⟩ : ByteArray), .int .i64 0] (0, 0) _ rfl (by refine blk_up ?_; refine blk_put (cs := #[.bool false, .string (⟨#[]⟩ : ByteArray), .int .i64 0]) ?_ 2 _ rfl; refine blk_up ?_; refine blk_put (cs := #[.bool false, .string (⟨#[]⟩ : ByteArray), .int .i64 0]) ?_ 1 _ rfl; refine blk_up ?_; refine blk_put (cs := #[.bool false, .string (⟨#[]⟩ : ByteArray), .int .i64 0]) ?_ 0 _ rfl; refine blk_up ?_; exact BK289.out) Tryd.underlying26 rfl (by kernel_rfl)) rfl ?_
                    exact ⟨by first | rfl | (simp [errW_none, errW_some] <;> rfl) | (simp only [← hji39]; first | rfl | (simp [errW_none, errW_some] <;> rfl)) | (simp [*, errW_none, errW_some] <;> rfl), by repeat (first | (with_reducible first | exact HB.out | apply below_alloc | apply pw_below_drewN | apply below_drew1 | refine below_set ?_ GE289.out | refine below_set ?_ GE295.out) | exact HB.out)⟩
                  · replace c50 := Bool.eq_false_iff.mpr c50
                    subst c50
                    have H1 : (some (false, (⟨#[]⟩ : ByteArray), 0, false)) = some (r1, r2, r3, r4) := by rw [if_neg (show ¬ (false = true) by decide)] at H; exact H
                    clear H
                    have H := H1
                    clear H1
                    simp only [Option.some.injEq, Prod.mk.injEq] at H
                    obtain ⟨rfl, rfl, rfl, rfl⟩ := H
                    have p42 : 0 ≤ ((ji39) : Int) := of_decide_eq_true (by first | (with_reducible assumption) | assumption)
                    have q42 : (ji39) < (x1_1.size : Int) := of_decide_eq_true (by first | (with_reducible assumption) | assumption)
                    have hx42 := bt_at x1_1 (ji39)
                    replace p42 := eq_true p42
                    replace q42 := eq_true q42
                    go_upto_region 4 with (first | ((with_reducible refine gate_callee (f := 94) rfl ?_); refine goesL_ (some 32) rfl rfl Tryd.func94 (by kernel_rfl) rfl #[.string x1_1, .string (⟨#[48]⟩ : ByteArray)] rfl (by (try simp only [List.map_toArray, List.map_cons, List.map_nil]); first | done | rfl | (simp only [List.length_drop, List.length_take]; rfl)) ?_; (with_reducible refine (strings_TrimLeft.calls x1_1 (⟨#[48]⟩ : ByteArray) t294 _ A47.out).mono ?_); rintro e w58 ⟨rfl, hb⟩; refine ⟨_, rfl, ?_⟩; have n0_ := Aside0.mk (blk_below (g := gb289) (o := .cells #[.bool false, .string (⟨#[]⟩ : ByteArray), .int .i64 0] 26 (0, 0)) (by refine blk_up ?_; exact BK289.out) hb); have n1_ := Aside0.mk (below_step (by repeat (first | (with_reducible first | exact HB.out | apply below_alloc | apply pw_below_drewN | apply below_drew1 | refine below_set ?_ GE289.out) | exact HB.out)) hb); clear BK289; clear HB; have BK289 := n0_; have HB := n1_; clear n0_ n1_; (try clear hb); (try clear hb2); (try clear hk); (try clear hi)) | ((with_reducible refine gate_dst (N := 8) rfl ?_); (try (refine gate_guard (by rfl) ?_; dsimp only)); refine box_event ?hg (N := 8) ?hd (cs := #[.bool false, .string (⟨#[]⟩ : ByteArray), .int .i64 0]) (t := 26) ?hr ?_; (case hd => rfl); (case hg => rfl); (case hr => first | (go_simp; done) | (go_simp; rfl)); intro gb295 hg w59 hbox hb; have n0_ := Aside0.mk (blk_below (g := gb289) (o := .cells #[.bool false, .string (⟨#[]⟩ : ByteArray), .int .i64 0] 26 (0, 0)) (by refine blk_up ?_; exact BK289.out) hb); have n1_ := Aside0.mk (below_step (by repeat (first | (with_reducible first | exact HB.out | apply below_alloc | apply pw_below_drewN | apply below_drew1 | refine below_set ?_ GE289.out) | exact HB.out)) hb); have n2_ := Aside0.mk (hbox); have n3_ := Aside0.mk ((by rw [hg]; exact (below_size (by repeat (first | (with_reducible first | exact HB.out | apply below_alloc | apply pw_below_drewN | apply below_drew1 | refine below_set ?_ GE289.out) | exact HB.out))) : w.heap.size ≤ gb295)); have n4_ := Aside0.mk ((by rw [hg]; exact (below_size (by repeat (first | (with_reducible first | exact HB.out | apply below_alloc | apply pw_below_drewN | apply below_drew1 | refine below_set ?_ GE289.out) | exact HB.out))) : w.heap.size ≤ gb295)); have n5_ := Aside0.mk ((by rw [hg]; exact Nat.ne_of_lt (blk_lt (g := gb289) (o := .cells #[.bool false, .string (⟨#[]⟩ : ByteArray), .int .i64 0] 26 (0, 0)) (by refine blk_up ?_; exact BK289.out)) : gb289 ≠ gb295)); have n6_ := Aside0.mk ((by rw [hg]; exact Nat.ne_of_gt (blk_lt (g := gb289) (o := .cells #[.bool false, .string (⟨#[]⟩ : ByteArray), .int .i64 0] 26 (0, 0)) (by refine blk_up ?_; exact BK289.out)) : gb295 ≠ gb289)); clear BK289; clear HB; have BK289 := n0_; have HB := n1_; have BK295 := n2_; have GW295 := n3_; have GE295 := n4_; have NB289_295 := n5_; have NB295_289 := n6_; clear n0_ n1_ n2_ n3_ n4_ n5_ n6_; clear hb hbox hg; have hnb60 := NB295_289.out; have hnc60 := NB289_295.out; have hcz61_0 : w59.cell? ⟨gb295, 0, none⟩ = some (.bool false) := (blk_cell BK295.out 0).trans rfl; have hcz61_1 : w59.cell? ⟨gb295, 1, none⟩ = some (.string (⟨#[]⟩ : ByteArray)) := (blk_cell BK295.out 1).trans rfl; have hcz61_2 : w59.cell? ⟨gb295, 2, none⟩ = some (.int .i64 0) := (blk_cell BK295.out 2).trans rfl; have hfz61_0 := blk_frozen BK295.out 0; have hfz61_1 := blk_frozen BK295.out 1; have hfz61_2 := blk_frozen BK295.out 2))
                    refine wp_world_impl_made (fun W => Aside0 (W.heap[gb289]? = some (.cells #[.bool false, .string (⟨#[]⟩ : ByteArray), .int .i64 0] 26 (0, 0))) ∧ Aside0 (W.heap[gb295]? = some (.cells #[.bool a0, .string t294, .int .i64 x2_1] 26 (0, 0))) ∧ Aside0 (Below w.heap.size w W))
                      ⟨⟨by refine blk_up ?_; refine blk_far ?_ NB289_295.out _; refine blk_up ?_; refine blk_far ?_ NB289_295.out _; refine blk_up ?_; refine blk_far ?_ NB289_295.out _; refine blk_up ?_; exact BK289.out⟩,
                       ⟨by refine blk_up ?_; refine blk_put (cs := #[.bool a0, .string t294, .int .i64 0]) ?_ 2 _ rfl; refine blk_up ?_; refine blk_put (cs := #[.bool a0, .string (⟨#[]⟩ : ByteArray), .int .i64 0]) ?_ 1 _ rfl; refine blk_up ?_; refine blk_put (cs := #[.bool false, .string (⟨#[]⟩ : ByteArray), .int .i64 0]) ?_ 0 _ rfl; refine blk_up ?_; exact BK295.out⟩,
                       ⟨by repeat (first | (with_reducible first | exact HB.out | apply below_alloc | apply pw_below_drewN | apply below_drew1 | refine below_set ?_ GE289.out | refine below_set ?_ GE295.out) | exact HB.out)⟩⟩ ?_
                    clear BK289 BK295 HB
                    rintro ww ⟨BK289, BK295, HB⟩
                    have hwz_0 : ww.cell? ⟨gb295, 0, none⟩ = some (.bool a0) := (blk_cell BK295.out 0).trans rfl
                    have hwf_0 := blk_frozen BK295.out 0
                    have hwz_1 : ww.cell? ⟨gb295, 1, none⟩ = some (.string t294) := (blk_cell BK295.out 1).trans rfl
                    have hwf_1 := blk_frozen BK295.out 1
                    have hwz_2 : ww.cell? ⟨gb295, 2, none⟩ = some (.int .i64 x2_1) := (blk_cell BK295.out 2).trans rfl
                    have hwf_2 := blk_frozen BK295.out 2
                    go_wp2_with (first | ((with_reducible refine gate_callee (f := 27) rfl ?_); refine goesL_ (some 40) rfl rfl Tryd.func27 (by kernel_rfl) rfl #[.agg #[.bool false, .string (⟨#[]⟩ : ByteArray), .int .i64 0]] rfl (by (try simp only [List.map_toArray, List.map_cons, List.map_nil]); first | done | rfl | (simp only [List.length_drop, List.length_take]; rfl)) ?_; (with_reducible refine (impl_DecOk.calls false (⟨#[]⟩ : ByteArray) 0 false _ A49.out).mono ?_); rintro e w62 ⟨rfl, hb⟩; refine ⟨_, rfl, ?_⟩; have n0_ := Aside0.mk (blk_below (g := gb289) (o := .cells #[.bool false, .string (⟨#[]⟩ : ByteArray), .int .i64 0] 26 (0, 0)) (by refine blk_up ?_; refine blk_far ?_ NB289_295.out _; refine blk_up ?_; refine blk_far ?_ NB289_295.out _; refine blk_up ?_; refine blk_far ?_ NB289_295.out _; refine blk_up ?_; exact BK289.out) hb); have n1_ := Aside0.mk (blk_below (g := gb295) (o := .cells #[.bool false, .string (⟨#[]⟩ : ByteArray), .int .i64 0] 26 (0, 0)) (by refine blk_up ?_; refine blk_put (cs := #[.bool false, .string (⟨#[]⟩ : ByteArray), .int .i64 x2_1]) ?_ 2 _ rfl; refine blk_up ?_; refine blk_put (cs := #[.bool false, .string t294, .int .i64 x2_1]) ?_ 1 _ rfl; refine blk_up ?_; refine blk_put (cs := #[.bool a0, .string t294, .int .i64 x2_1]) ?_ 0 _ rfl; refine blk_up ?_; exact BK295.out) hb); have n2_ := Aside0.mk (below_step (by repeat (first | (with_reducible first | exact HB.out | apply below_alloc | apply pw_below_drewN | apply below_drew1 | refine below_set ?_ GE289.out | refine below_set ?_ GE295.out) | exact HB.out)) hb); clear BK289; clear BK295; clear HB; have BK289 := n0_; have BK295 := n1_; have HB := n2_; clear n0_ n1_ n2_; (try clear hb); (try clear hb2); (try clear hk); (try clear hi); have hcz63_0 : w62.cell? ⟨gb289, 0, none⟩ = some (.bool false) := (blk_cell BK289.out 0).trans rfl; have hcz63_1 : w62.cell? ⟨gb289, 1, none⟩ = some (.string (⟨#[]⟩ : ByteArray)) := (blk_cell BK289.out 1).trans rfl; have hcz63_2 : w62.cell? ⟨gb289, 2, none⟩ = some (.int .i64 0) := (blk_cell BK289.out 2).trans rfl; have hfz63_0 := blk_frozen BK289.out 0; have hfz63_1 := blk_frozen BK289.out 1; have hfz63_2 := blk_frozen BK289.out 2))
                    refine bodyPost_ret (results_ct rfl _ _ gb289 26 #[.bool false, .string (⟨#[]⟩ : ByteArray), .int .i64 0] (0, 0) _ rfl (by refine blk_up ?_; refine blk_put (cs := #[.bool false, .string (⟨#[]⟩ : ByteArray), .int .i64 0]) ?_ 2 _ rfl; refine blk_up ?_; refine blk_put (cs := #[.bool false, .string (⟨#[]⟩ : ByteArray), .int .i64 0]) ?_ 1 _ rfl; refine blk_up ?_; refine blk_put (cs := #[.bool false, .string (⟨#[]⟩ : ByteArray), .int .i64 0]) ?_ 0 _ rfl; refine blk_up ?_; exact BK289.out) Tryd.underlying26 rfl (by kernel_rfl)) rfl ?_
                    exact ⟨by first | rfl | (simp [errW_none, errW_some] <;> rfl) | (simp only [← hji39]; first | rfl | (simp [errW_none, errW_some] <;> rfl)) | (simp [*, errW_none, errW_some] <;> rfl), by repeat (first | (with_reducible first | exact HB.out | apply below_alloc | apply pw_below_drewN | apply below_drew1 | refine below_set ?_ GE289.out | refine below_set ?_ GE295.out) | exact HB.out)⟩
                · rw [if_neg c48] at H
                  have c48b0 : (t294.toList == ([] : List UInt8)) = false := beq_eq_false_iff_ne.mpr c48
                  have c48b1 : (t294.toList != ([] : List UInt8)) = true := bne_iff_ne.mpr c48
                  replace H := Option.bind_eq_some_iff.mp H
                  obtain ⟨t297, A640, H⟩ := H
                  replace H : (if t297 = true then (some (a0, t294, x2_1, true)) else (some (false, (⟨#[]⟩ : ByteArray), 0, false))) = some (r1, r2, r3, r4) := H
                  have A64 := Aside0.mk A640
                  clear A640
                  by_cases c65 : t297 = true
                  · subst c65
                    have H1 : (some (a0, t294, x2_1, true)) = some (r1, r2, r3, r4) := by rw [if_pos rfl] at H; exact H
                    clear H
                    have H := H1
                    clear H1
                    simp only [Option.some.injEq, Prod.mk.injEq] at H
                    obtain ⟨rfl, rfl, rfl, rfl⟩ := H
                    have p42 : 0 ≤ ((ji39) : Int) := of_decide_eq_true (by first | (with_reducible assumption) | assumption)
                    have q42 : (ji39) < (x1_1.size : Int) := of_decide_eq_true (by first | (with_reducible assumption) | assumption)
                    have hx42 := bt_at x1_1 (ji39)
                    replace p42 := eq_true p42
                    replace q42 := eq_true q42
                    go_upto_region 4 with (first | ((with_reducible refine gate_callee (f := 94) rfl ?_); refine goesL_ (some 32) rfl rfl Tryd.func94 (by kernel_rfl) rfl #[.string x1_1, .string (⟨#[48]⟩ : ByteArray)] rfl (by (try simp only [List.map_toArray, List.map_cons, List.map_nil]); first | done | rfl | (simp only [List.length_drop, List.length_take]; rfl)) ?_; (with_reducible refine (strings_TrimLeft.calls x1_1 (⟨#[48]⟩ : ByteArray) t294 _ A47.out).mono ?_); rintro e w66 ⟨rfl, hb⟩; refine ⟨_, rfl, ?_⟩; have n0_ := Aside0.mk (blk_below (g := gb289) (o := .cells #[.bool false, .string (⟨#[]⟩ : ByteArray), .int .i64 0] 26 (0, 0)) (by refine blk_up ?_; exact BK289.out) hb); have n1_ := Aside0.mk (below_step (by repeat (first | (with_reducible first | exact HB.out | apply below_alloc | apply pw_below_drewN | apply below_drew1 | refine below_set ?_ GE289.out) | exact HB.out)) hb); clear BK289; clear HB; have BK289 := n0_; have HB := n1_; clear n0_ n1_; (try clear hb); (try clear hb2); (try clear hk); (try clear hi)) | ((with_reducible refine gate_dst (N := 8) rfl ?_); (try (refine gate_guard (by rfl) ?_; dsimp only)); refine box_event ?hg (N := 8) ?hd (cs := #[.bool false, .string (⟨#[]⟩ : ByteArray), .int .i64 0]) (t := 26) ?hr ?_; (case hd => rfl); (case hg => rfl); (case hr => first | (go_simp; done) | (go_simp; rfl)); intro gb295 hg w67 hbox hb; have n0_ := Aside0.mk (blk_below (g := gb289) (o := .cells #[.bool false, .string (⟨#[]⟩ : ByteArray), .int .i64 0] 26 (0, 0)) (by refine blk_up ?_; exact BK289.out) hb); have n1_ := Aside0.mk (below_step (by repeat (first | (with_reducible first | exact HB.out | apply below_alloc | apply pw_below_drewN | apply below_drew1 | refine below_set ?_ GE289.out) | exact HB.out)) hb); have n2_ := Aside0.mk (hbox); have n3_ := Aside0.mk ((by rw [hg]; exact (below_size (by repeat (first | (with_reducible first | exact HB.out | apply below_alloc | apply pw_below_drewN | apply below_drew1 | refine below_set ?_ GE289.out) | exact HB.out))) : w.heap.size ≤ gb295)); have n4_ := Aside0.mk ((by rw [hg]; exact (below_size (by repeat (first | (with_reducible first | exact HB.out | apply below_alloc | apply pw_below_drewN | apply below_drew1 | refine below_set ?_ GE289.out) | exact HB.out))) : w.heap.size ≤ gb295)); have n5_ := Aside0.mk ((by rw [hg]; exact Nat.ne_of_lt (blk_lt (g := gb289) (o := .cells #[.bool false, .string (⟨#[]⟩ : ByteArray), .int .i64 0] 26 (0, 0)) (by refine blk_up ?_; exact BK289.out)) : gb289 ≠ gb295)); have n6_ := Aside0.mk ((by rw [hg]; exact Nat.ne_of_gt (blk_lt (g := gb289) (o := .cells #[.bool false, .string (⟨#[]⟩ : ByteArray), .int .i64 0] 26 (0, 0)) (by refine blk_up ?_; exact BK289.out)) : gb295 ≠ gb289)); clear BK289; clear HB; have BK289 := n0_; have HB := n1_; have BK295 := n2_; have GW295 := n3_; have GE295 := n4_; have NB289_295 := n5_; have NB295_289 := n6_; clear n0_ n1_ n2_ n3_ n4_ n5_ n6_; clear hb hbox hg; have hnb68 := NB295_289.out; have hnc68 := NB289_295.out; have hcz69_0 : w67.cell? ⟨gb295, 0, none⟩ = some (.bool false) := (blk_cell BK295.out 0).trans rfl; have hcz69_1 : w67.cell? ⟨gb295, 1, none⟩ = some (.string (⟨#[]⟩ : ByteArray)) := (blk_cell BK295.out 1).trans rfl; have hcz69_2 : w67.cell? ⟨gb295, 2, none⟩ = some (.int .i64 0) := (blk_cell BK295.out 2).trans rfl; have hfz69_0 := blk_frozen BK295.out 0; have hfz69_1 := blk_frozen BK295.out 1; have hfz69_2 := blk_frozen BK295.out 2))
                    refine wp_world_impl_made (fun W => Aside0 (W.heap[gb289]? = some (.cells #[.bool false, .string (⟨#[]⟩ : ByteArray), .int .i64 0] 26 (0, 0))) ∧ Aside0 (W.heap[gb295]? = some (.cells #[.bool a0, .string t294, .int .i64 x2_1] 26 (0, 0))) ∧ Aside0 (Below w.heap.size w W))
                      ⟨⟨by refine blk_up ?_; refine blk_far ?_ NB289_295.out _; refine blk_up ?_; refine blk_far ?_ NB289_295.out _; refine blk_up ?_; refine blk_far ?_ NB289_295.out _; refine blk_up ?_; exact BK289.out⟩,
                       ⟨by refine blk_up ?_; refine blk_put (cs := #[.bool a0, .string t294, .int .i64 0]) ?_ 2 _ rfl; refine blk_up ?_; refine blk_put (cs := #[.bool a0, .string (⟨#[]⟩ : ByteArray), .int .i64 0]) ?_ 1 _ rfl; refine blk_up ?_; refine blk_put (cs := #[.bool false, .string (⟨#[]⟩ : ByteArray), .int .i64 0]) ?_ 0 _ rfl; refine blk_up ?_; exact BK295.out⟩,
                       ⟨by repeat (first | (with_reducible first | exact HB.out | apply below_alloc | apply pw_below_drewN | apply below_drew1 | refine below_set ?_ GE289.out | refine below_set ?_ GE295.out) | exact HB.out)⟩⟩ ?_
                    clear BK289 BK295 HB
                    rintro ww ⟨BK289, BK295, HB⟩
                    have hwz_0 : ww.cell? ⟨gb295, 0, none⟩ = some (.bool a0) := (blk_cell BK295.out 0).trans rfl
                    have hwf_0 := blk_frozen BK295.out 0
                    have hwz_1 : ww.cell? ⟨gb295, 1, none⟩ = some (.string t294) := (blk_cell BK295.out 1).trans rfl
                    have hwf_1 := blk_frozen BK295.out 1
                    have hwz_2 : ww.cell? ⟨gb295, 2, none⟩ = some (.int .i64 x2_1) := (blk_cell BK295.out 2).trans rfl
                    have hwf_2 := blk_frozen BK295.out 2
                    go_wp2_with (first | ((with_reducible refine gate_callee (f := 27) rfl ?_); refine goesL_ (some 40) rfl rfl Tryd.func27 (by kernel_rfl) rfl #[.agg #[.bool a0, .string t294, .int .i64 x2_1]] rfl (by (try simp only [List.map_toArray, List.map_cons, List.map_nil]); first | done | rfl | (simp only [List.length_drop, List.length_take]; rfl)) ?_; (with_reducible refine (impl_DecOk.calls a0 t294 x2_1 true _ A64.out).mono ?_); rintro e w70 ⟨rfl, hb⟩; refine ⟨_, rfl, ?_⟩; have n0_ := Aside0.mk (blk_below (g := gb289) (o := .cells #[.bool false, .string (⟨#[]⟩ : ByteArray), .int .i64 0] 26 (0, 0)) (by refine blk_up ?_; exact BK289.out) hb); have n1_ := Aside0.mk (blk_below (g := gb295) (o := .cells #[.bool a0, .string t294, .int .i64 x2_1] 26 (0, 0)) (by refine blk_up ?_; exact BK295.out) hb); have n2_ := Aside0.mk (below_step (by repeat (first | (with_reducible first | exact HB.out | apply below_alloc | apply pw_below_drewN | apply below_drew1 | refine below_set ?_ GE289.out | refine below_set ?_ GE295.out) | exact HB.out)) hb); clear BK289; clear BK295; clear HB; have BK289 := n0_; have BK295 := n1_; have HB := n2_; clear n0_ n1_ n2_; (try clear hb); (try clear hb2); (try clear hk); (try clear hi); have hcz71_0 : w70.cell? ⟨gb295, 0, none⟩ = some (.bool a0) := (blk_cell BK295.out 0).trans rfl; have hcz71_1 : w70.cell? ⟨gb295, 1, none⟩ = some (.string t294) := (blk_cell BK295.out 1).trans rfl; have hcz71_2 : w70.cell? ⟨gb295, 2, none⟩ = some (.int .i64 x2_1) := (blk_cell BK295.out 2).trans rfl; have hfz71_0 := blk_frozen BK295.out 0; have hfz71_1 := blk_frozen BK295.out 1; have hfz71_2 := blk_frozen BK295.out 2; have hcz72_0 : w70.cell? ⟨gb289, 0, none⟩ = some (.bool false) := (blk_cell BK289.out 0).trans rfl; have hcz72_1 : w70.cell? ⟨gb289, 1, none⟩ = some (.string (⟨#[]⟩ : ByteArray)) := (blk_cell BK289.out 1).trans rfl; have hcz72_2 : w70.cell? ⟨gb289, 2, none⟩ = some (.int .i64 0) := (blk_cell BK289.out 2).trans rfl; have hfz72_0 := blk_frozen BK289.out 0; have hfz72_1 := blk_frozen BK289.out 1; have hfz72_2 := blk_frozen BK289.out 2))
                    refine bodyPost_ret (results_ct rfl _ _ gb289 26 #[.bool a0, .string t294, .int .i64 x2_1] (0, 0) _ rfl (by refine blk_up ?_; refine blk_put (cs := #[.bool a0, .string t294, .int .i64 0]) ?_ 2 _ rfl; refine blk_up ?_; refine blk_put (cs := #[.bool a0, .string (⟨#[]⟩ : ByteArray), .int .i64 0]) ?_ 1 _ rfl; refine blk_up ?_; refine blk_put (cs := #[.bool false, .string (⟨#[]⟩ : ByteArray), .int .i64 0]) ?_ 0 _ rfl; refine blk_up ?_; exact BK289.out) Tryd.underlying26 rfl (by kernel_rfl)) rfl ?_
                    exact ⟨by first | rfl | (simp [errW_none, errW_some] <;> rfl) | (simp only [← hji39]; first | rfl | (simp [errW_none, errW_some] <;> rfl)) | (simp [*, errW_none, errW_some] <;> rfl), by repeat (first | (with_reducible first | exact HB.out | apply below_alloc | apply pw_below_drewN | apply below_drew1 | refine below_set ?_ GE289.out | refine below_set ?_ GE295.out) | exact HB.out)⟩
                  · replace c65 := Bool.eq_false_iff.mpr c65
                    subst c65
                    have H1 : (some (false, (⟨#[]⟩ : ByteArray), 0, false)) = some (r1, r2, r3, r4) := by rw [if_neg (show ¬ (false = true) by decide)] at H; exact H
                    clear H
                    have H := H1
                    clear H1
                    simp only [Option.some.injEq, Prod.mk.injEq] at H
                    obtain ⟨rfl, rfl, rfl, rfl⟩ := H
                    have p42 : 0 ≤ ((ji39) : Int) := of_decide_eq_true (by first | (with_reducible assumption) | assumption)
                    have q42 : (ji39) < (x1_1.size : Int) := of_decide_eq_true (by first | (with_reducible assumption) | assumption)
                    have hx42 := bt_at x1_1 (ji39)
                    replace p42 := eq_true p42
                    replace q42 := eq_true q42
                    go_upto_region 4 with (first | ((with_reducible refine gate_callee (f := 94) rfl ?_); refine goesL_ (some 32) rfl rfl Tryd.func94 (by kernel_rfl) rfl #[.string x1_1, .string (⟨#[48]⟩ : ByteArray)] rfl (by (try simp only [List.map_toArray, List.map_cons, List.map_nil]); first | done | rfl | (simp only [List.length_drop, List.length_take]; rfl)) ?_; (with_reducible refine (strings_TrimLeft.calls x1_1 (⟨#[48]⟩ : ByteArray) t294 _ A47.out).mono ?_); rintro e w73 ⟨rfl, hb⟩; refine ⟨_, rfl, ?_⟩; have n0_ := Aside0.mk (blk_below (g := gb289) (o := .cells #[.bool false, .string (⟨#[]⟩ : ByteArray), .int .i64 0] 26 (0, 0)) (by refine blk_up ?_; exact BK289.out) hb); have n1_ := Aside0.mk (below_step (by repeat (first | (with_reducible first | exact HB.out | apply below_alloc | apply pw_below_drewN | apply below_drew1 | refine below_set ?_ GE289.out) | exact HB.out)) hb); clear BK289; clear HB; have BK289 := n0_; have HB := n1_; clear n0_ n1_; (try clear hb); (try clear hb2); (try clear hk); (try clear hi)) | ((with_reducible refine gate_dst (N := 8) rfl ?_); (try (refine gate_guard (by rfl) ?_; dsimp only)); refine box_event ?hg (N := 8) ?hd (cs := #[.bool false, .string (⟨#[]⟩ : ByteArray), .int .i64 0]) (t := 26) ?hr ?_; (case hd => rfl); (case hg => rfl); (case hr => first | (go_simp; done) | (go_simp; rfl)); intro gb295 hg w74 hbox hb; have n0_ := Aside0.mk (blk_below (g := gb289) (o := .cells #[.bool false, .string (⟨#[]⟩ : ByteArray), .int .i64 0] 26 (0, 0)) (by refine blk_up ?_; exact BK289.out) hb); have n1_ := Aside0.mk (below_step (by repeat (first | (with_reducible first | exact HB.out | apply below_alloc | apply pw_below_drewN | apply below_drew1 | refine below_set ?_ GE289.out) | exact HB.out)) hb); have n2_ := Aside0.mk (hbox); have n3_ := Aside0.mk ((by rw [hg]; exact (below_size (by repeat (first | (with_reducible first | exact HB.out | apply below_alloc | apply pw_below_drewN | apply below_drew1 | refine below_set ?_ GE289.out) | exact HB.out))) : w.heap.size ≤ gb295)); have n4_ := Aside0.mk ((by rw [hg]; exact (below_size (by repeat (first | (with_reducible first | exact HB.out | apply below_alloc | apply pw_below_drewN | apply below_drew1 | refine below_set ?_ GE289.out) | exact HB.out))) : w.heap.size ≤ gb295)); have n5_ := Aside0.mk ((by rw [hg]; exact Nat.ne_of_lt (blk_lt (g := gb289) (o := .cells #[.bool false, .string (⟨#[]⟩ : ByteArray), .int .i64 0] 26 (0, 0)) (by refine blk_up ?_; exact BK289.out)) : gb289 ≠ gb295)); have n6_ := Aside0.mk ((by rw [hg]; exact Nat.ne_of_gt (blk_lt (g := gb289) (o := .cells #[.bool false, .string (⟨#[]⟩ : ByteArray), .int .i64 0] 26 (0, 0)) (by refine blk_up ?_; exact BK289.out)) : gb295 ≠ gb289)); clear BK289; clear HB; have BK289 := n0_; have HB := n1_; have BK295 := n2_; have GW295 := n3_; have GE295 := n4_; have NB289_295 := n5_; have NB295_289 := n6_; clear n0_ n1_ n2_ n3_ n4_ n5_ n6_; clear hb hbox hg; have hnb75 := NB295_289.out; have hnc75 := NB289_295.out; have hcz76_0 : w74.cell? ⟨gb295, 0, none⟩ = some (.bool false) := (blk_cell BK295.out 0).trans rfl; have hcz76_1 : w74.cell? ⟨gb295, 1, none⟩ = some (.string (⟨#[]⟩ : ByteArray)) := (blk_cell BK295.out 1).trans rfl; have hcz76_2 : w74.cell? ⟨gb295, 2, none⟩ = some (.int .i64 0) := (blk_cell BK295.out 2).trans rfl; have hfz76_0 := blk_frozen BK295.out 0; have hfz76_1 := blk_frozen BK295.out 1; have hfz76_2 := blk_frozen BK295.out 2))
                    refine wp_world_impl_made (fun W => Aside0 (W.heap[gb289]? = some (.cells #[.bool false, .string (⟨#[]⟩ : ByteArray), .int .i64 0] 26 (0, 0))) ∧ Aside0 (W.heap[gb295]? = some (.cells #[.bool a0, .string t294, .int .i64 x2_1] 26 (0, 0))) ∧ Aside0 (Below w.heap.size w W))
                      ⟨⟨by refine blk_up ?_; refine blk_far ?_ NB289_295.out _; refine blk_up ?_; refine blk_far ?_ NB289_295.out _; refine blk_up ?_; refine blk_far ?_ NB289_295.out _; refine blk_up ?_; exact BK289.out⟩,
                       ⟨by refine blk_up ?_; refine blk_put (cs := #[.bool a0, .string t294, .int .i64 0]) ?_ 2 _ rfl; refine blk_up ?_; refine blk_put (cs := #[.bool a0, .string (⟨#[]⟩ : ByteArray), .int .i64 0]) ?_ 1 _ rfl; refine blk_up ?_; refine blk_put (cs := #[.bool false, .string (⟨#[]⟩ : ByteArray), .int .i64 0]) ?_ 0 _ rfl; refine blk_up ?_; exact BK295.out⟩,
                       ⟨by repeat (first | (with_reducible first | exact HB.out | apply below_alloc | apply pw_below_drewN | apply below_drew1 | refine below_set ?_ GE289.out | refine below_set ?_ GE295.out) | exact HB.out)⟩⟩ ?_
                    clear BK289 BK295 HB
                    rintro ww ⟨BK289, BK295, HB⟩
                    have hwz_0 : ww.cell? ⟨gb295, 0, none⟩ = some (.bool a0) := (blk_cell BK295.out 0).trans rfl
                    have hwf_0 := blk_frozen BK295.out 0
                    have hwz_1 : ww.cell? ⟨gb295, 1, none⟩ = some (.string t294) := (blk_cell BK295.out 1).trans rfl
                    have hwf_1 := blk_frozen BK295.out 1
                    have hwz_2 : ww.cell? ⟨gb295, 2, none⟩ = some (.int .i64 x2_1) := (blk_cell BK295.out 2).trans rfl
                    have hwf_2 := blk_frozen BK295.out 2
                    go_wp2_with (first | ((with_reducible refine gate_callee (f := 27) rfl ?_); refine goesL_ (some 40) rfl rfl Tryd.func27 (by kernel_rfl) rfl #[.agg #[.bool a0, .string t294, .int .i64 x2_1]] rfl (by (try simp only [List.map_toArray, List.map_cons, List.map_nil]); first | done | rfl | (simp only [List.length_drop, List.length_take]; rfl)) ?_; (with_reducible refine (impl_DecOk.calls a0 t294 x2_1 false _ A64.out).mono ?_); rintro e w77 ⟨rfl, hb⟩; refine ⟨_, rfl, ?_⟩; have n0_ := Aside0.mk (blk_below (g := gb289) (o := .cells #[.bool false, .string (⟨#[]⟩ : ByteArray), .int .i64 0] 26 (0, 0)) (by refine blk_up ?_; exact BK289.out) hb); have n1_ := Aside0.mk (blk_below (g := gb295) (o := .cells #[.bool a0, .string t294, .int .i64 x2_1] 26 (0, 0)) (by refine blk_up ?_; exact BK295.out) hb); have n2_ := Aside0.mk (below_step (by repeat (first | (with_reducible first | exact HB.out | apply below_alloc | apply pw_below_drewN | apply below_drew1 | refine below_set ?_ GE289.out | refine below_set ?_ GE295.out) | exact HB.out)) hb); clear BK289; clear BK295; clear HB; have BK289 := n0_; have BK295 := n1_; have HB := n2_; clear n0_ n1_ n2_; (try clear hb); (try clear hb2); (try clear hk); (try clear hi); have hcz78_0 : w77.cell? ⟨gb289, 0, none⟩ = some (.bool false) := (blk_cell BK289.out 0).trans rfl; have hcz78_1 : w77.cell? ⟨gb289, 1, none⟩ = some (.string (⟨#[]⟩ : ByteArray)) := (blk_cell BK289.out 1).trans rfl; have hcz78_2 : w77.cell? ⟨gb289, 2, none⟩ = some (.int .i64 0) := (blk_cell BK289.out 2).trans rfl; have hfz78_0 := blk_frozen BK289.out 0; have hfz78_1 := blk_frozen BK289.out 1; have hfz78_2 := blk_frozen BK289.out 2))
                    refine bodyPost_ret (results_ct rfl _ _ gb289 26 #[.bool false, .string (⟨#[]⟩ : ByteArray), .int .i64 0] (0, 0) _ rfl (by refine blk_up ?_; refine blk_put (cs := #[.bool false, .string (⟨#[]⟩ : ByteArray), .int .i64 0]) ?_ 2 _ rfl; refine blk_up ?_; refine blk_put (cs := #[.bool false, .string (⟨#[]⟩ : ByteArray), .int .i64 0]) ?_ 1 _ rfl; refine blk_up ?_; refine blk_put (cs := #[.bool false, .string (⟨#[]⟩ : ByteArray), .int .i64 0]) ?_ 0 _ rfl; refine blk_up ?_; exact BK289.out) Tryd.underlying26 rfl (by kernel_rfl)) rfl ?_
                    exact ⟨by first | rfl | (simp [errW_none, errW_some] <;> rfl) | (simp only [← hji39]; first | rfl | (simp [errW_none, errW_some] <;> rfl)) | (simp [*, errW_none, errW_some] <;> rfl), by repeat (first | (with_reducible first | exact HB.out | apply below_alloc | apply pw_below_drewN | apply below_drew1 | refine below_set ?_ GE289.out | refine below_set ?_ GE295.out) | exact HB.out)⟩
            · rw [if_neg c41] at H
              exact absurd H (by simp)
          · rw [if_neg c40] at H
            exact absurd H (by simp)
      · rw [if_neg c5] at H
        have c5b0 : decide (0 < x2_1) = false := decide_eq_false c5
        clear c5
        replace H := Option.bind_eq_some_iff.mp H
        obtain ⟨t298, A790, H⟩ := H
        replace H : (if t298.toList = ([] : List UInt8) then ((impl_DecOk.f false (⟨#[]⟩ : ByteArray) 0).bind fun t300 => (if t300 = true then (some (false, (⟨#[]⟩ : ByteArray), 0, true)) else (some (false, (⟨#[]⟩ : ByteArray), 0, false)))) else ((impl_DecOk.f a0 t298 x2_1).bind fun t301 => (if t301 = true then (some (a0, t298, x2_1, true)) else (some (false, (⟨#[]⟩ : ByteArray), 0, false))))) = some (r1, r2, r3, r4) := H
        have A79 := Aside0.mk A790
        clear A790
        by_cases c80 : t298.toList = ([] : List UInt8)
        · rw [if_pos c80] at H
          have c80b0 : (t298.toList == ([] : List UInt8)) = true := beq_iff_eq.mpr c80
          have c80b1 : (t298.toList != ([] : List UInt8)) = false := bne_eq_false_iff_eq.mpr c80
          clear c80
          replace H := Option.bind_eq_some_iff.mp H
          obtain ⟨t300, A810, H⟩ := H
          replace H : (if t300 = true then (some (false, (⟨#[]⟩ : ByteArray), 0, true)) else (some (false, (⟨#[]⟩ : ByteArray), 0, false))) = some (r1, r2, r3, r4) := H
          have A81 := Aside0.mk A810
          clear A810
          by_cases c82 : t300 = true
          · subst c82
            have H1 : (some (false, (⟨#[]⟩ : ByteArray), 0, true)) = some (r1, r2, r3, r4) := by rw [if_pos rfl] at H; exact H
            clear H
            have H := H1
            clear H1
            simp only [Option.some.injEq, Prod.mk.injEq] at H
            obtain ⟨rfl, rfl, rfl, rfl⟩ := H
            go_upto_region 4 with (first | ((with_reducible refine gate_callee (f := 94) rfl ?_); refine goesL_ (some 32) rfl rfl Tryd.func94 (by kernel_rfl) rfl #[.string x1_1, .string (⟨#[48]⟩ : ByteArray)] rfl (by (try simp only [List.map_toArray, List.map_cons, List.map_nil]); first | done | rfl | (simp only [List.length_drop, List.length_take]; rfl)) ?_; (with_reducible refine (strings_TrimLeft.calls x1_1 (⟨#[48]⟩ : ByteArray) t298 _ A79.out).mono ?_); rintro e w83 ⟨rfl, hb⟩; refine ⟨_, rfl, ?_⟩; have n0_ := Aside0.mk (blk_below (g := gb289) (o := .cells #[.bool false, .string (⟨#[]⟩ : ByteArray), .int .i64 0] 26 (0, 0)) (by refine blk_up ?_; exact BK289.out) hb); have n1_ := Aside0.mk (below_step (by repeat (first | (with_reducible first | exact HB.out | apply below_alloc | apply pw_below_drewN | apply below_drew1 | refine below_set ?_ GE289.out) | exact HB.out)) hb); clear BK289; clear HB; have BK289 := n0_; have HB := n1_; clear n0_ n1_; (try clear hb); (try clear hb2); (try clear hk); (try clear hi)) | ((with_reducible refine gate_dst (N := 8) rfl ?_); (try (refine gate_guard (by rfl) ?_; dsimp only)); refine box_event ?hg (N := 8) ?hd (cs := #[.bool false, .string (⟨#[]⟩ : ByteArray), .int .i64 0]) (t := 26) ?hr ?_; (case hd => rfl); (case hg => rfl); (case hr => first | (go_simp; done) | (go_simp; rfl)); intro gb299 hg w84 hbox hb; have n0_ := Aside0.mk (blk_below (g := gb289) (o := .cells #[.bool false, .string (⟨#[]⟩ : ByteArray), .int .i64 0] 26 (0, 0)) (by refine blk_up ?_; exact BK289.out) hb); have n1_ := Aside0.mk (below_step (by repeat (first | (with_reducible first | exact HB.out | apply below_alloc | apply pw_below_drewN | apply below_drew1 | refine below_set ?_ GE289.out) | exact HB.out)) hb); have n2_ := Aside0.mk (hbox); have n3_ := Aside0.mk ((by rw [hg]; exact (below_size (by repeat (first | (with_reducible first | exact HB.out | apply below_alloc | apply pw_below_drewN | apply below_drew1 | refine below_set ?_ GE289.out) | exact HB.out))) : w.heap.size ≤ gb299)); have n4_ := Aside0.mk ((by rw [hg]; exact (below_size (by repeat (first | (with_reducible first | exact HB.out | apply below_alloc | apply pw_below_drewN | apply below_drew1 | refine below_set ?_ GE289.out) | exact HB.out))) : w.heap.size ≤ gb299)); have n5_ := Aside0.mk ((by rw [hg]; exact Nat.ne_of_lt (blk_lt (g := gb289) (o := .cells #[.bool false, .string (⟨#[]⟩ : ByteArray), .int .i64 0] 26 (0, 0)) (by refine blk_up ?_; exact BK289.out)) : gb289 ≠ gb299)); have n6_ := Aside0.mk ((by rw [hg]; exact Nat.ne_of_gt (blk_lt (g := gb289) (o := .cells #[.bool false, .string (⟨#[]⟩ : ByteArray), .int .i64 0] 26 (0, 0)) (by refine blk_up ?_; exact BK289.out)) : gb299 ≠ gb289)); clear BK289; clear HB; have BK289 := n0_; have HB := n1_; have BK299 := n2_; have GW299 := n3_; have GE299 := n4_; have NB289_299 := n5_; have NB299_289 := n6_; clear n0_ n1_ n2_ n3_ n4_ n5_ n6_; clear hb hbox hg; have hnb85 := NB299_289.out; have hnc85 := NB289_299.out; have hcz86_0 : w84.cell? ⟨gb299, 0, none⟩ = some (.bool false) := (blk_cell BK299.out 0).trans rfl; have hcz86_1 : w84.cell? ⟨gb299, 1, none⟩ = some (.string (⟨#[]⟩ : ByteArray)) := (blk_cell BK299.out 1).trans rfl; have hcz86_2 : w84.cell? ⟨gb299, 2, none⟩ = some (.int .i64 0) := (blk_cell BK299.out 2).trans rfl; have hfz86_0 := blk_frozen BK299.out 0; have hfz86_1 := blk_frozen BK299.out 1; have hfz86_2 := blk_frozen BK299.out 2))
            refine wp_world_impl_made (fun W => Aside0 (W.heap[gb289]? = some (.cells #[.bool false, .string (⟨#[]⟩ : ByteArray), .int .i64 0] 26 (0, 0))) ∧ Aside0 (W.heap[gb299]? = some (.cells #[.bool a0, .string t298, .int .i64 x2_1] 26 (0, 0))) ∧ Aside0 (Below w.heap.size w W))
              ⟨⟨by refine blk_up ?_; refine blk_far ?_ NB289_299.out _; refine blk_up ?_; refine blk_far ?_ NB289_299.out _; refine blk_up ?_; refine blk_far ?_ NB289_299.out _; refine blk_up ?_; exact BK289.out⟩,
               ⟨by refine blk_up ?_; refine blk_put (cs := #[.bool a0, .string t298, .int .i64 0]) ?_ 2 _ rfl; refine blk_up ?_; refine blk_put (cs := #[.bool a0, .string (⟨#[]⟩ : ByteArray), .int .i64 0]) ?_ 1 _ rfl; refine blk_up ?_; refine blk_put (cs := #[.bool false, .string (⟨#[]⟩ : ByteArray), .int .i64 0]) ?_ 0 _ rfl; refine blk_up ?_; exact BK299.out⟩,
               ⟨by repeat (first | (with_reducible first | exact HB.out | apply below_alloc | apply pw_below_drewN | apply below_drew1 | refine below_set ?_ GE289.out | refine below_set ?_ GE299.out) | exact HB.out)⟩⟩ ?_
            clear BK289 BK299 HB
            rintro ww ⟨BK289, BK299, HB⟩
            have hwz_0 : ww.cell? ⟨gb299, 0, none⟩ = some (.bool a0) := (blk_cell BK299.out 0).trans rfl
            have hwf_0 := blk_frozen BK299.out 0
            have hwz_1 : ww.cell? ⟨gb299, 1, none⟩ = some (.string t298) := (blk_cell BK299.out 1).trans rfl
            have hwf_1 := blk_frozen BK299.out 1
            have hwz_2 : ww.cell? ⟨gb299, 2, none⟩ = some (.int .i64 x2_1) := (blk_cell BK299.out 2).trans rfl
            have hwf_2 := blk_frozen BK299.out 2
            go_wp2_with (first | ((with_reducible refine gate_callee (f := 27) rfl ?_); refine goesL_ (some 40) rfl rfl Tryd.func27 (by kernel_rfl) rfl #[.agg #[.bool false, .string (⟨#[]⟩ : ByteArray), .int .i64 0]] rfl (by (try simp only [List.map_toArray, List.map_cons, List.map_nil]); first | done | rfl | (simp only [List.length_drop, List.length_take]; rfl)) ?_; (with_reducible refine (impl_DecOk.calls false (⟨#[]⟩ : ByteArray) 0 true _ A81.out).mono ?_); rintro e w87 ⟨rfl, hb⟩; refine ⟨_, rfl, ?_⟩; have n0_ := Aside0.mk (blk_below (g := gb289) (o := .cells #[.bool false, .string (⟨#[]⟩ : ByteArray), .int .i64 0] 26 (0, 0)) (by refine blk_up ?_; refine blk_far ?_ NB289_299.out _; refine blk_up ?_; refine blk_far ?_ NB289_299.out _; refine blk_up ?_; refine blk_far ?_ NB289_299.out _; refine blk_up ?_; exact BK289.out) hb); have n1_ := Aside0.mk (blk_below (g := gb299) (o := .cells #[.bool false, .string (⟨#[]⟩ : ByteArray), .int .i64 0] 26 (0, 0)) (by refine blk_up ?_; refine blk_put (cs := #[.bool false, .string (⟨#[]⟩ : ByteArray), .int .i64 x2_1]) ?_ 2 _ rfl; refine blk_up ?_; refine blk_put (cs := #[.bool false, .string t298, .int .i64 x2_1]) ?_ 1 _ rfl; refine blk_up ?_; refine blk_put (cs := #[.bool a0, .string t298, .int .i64 x2_1]) ?_ 0 _ rfl; refine blk_up ?_; exact BK299.out) hb); have n2_ := Aside0.mk (below_step (by repeat (first | (with_reducible first | exact HB.out | apply below_alloc | apply pw_below_drewN | apply below_drew1 | refine below_set ?_ GE289.out | refine below_set ?_ GE299.out) | exact HB.out)) hb); clear BK289; clear BK299; clear HB; have BK289 := n0_; have BK299 := n1_; have HB := n2_; clear n0_ n1_ n2_; (try clear hb); (try clear hb2); (try clear hk); (try clear hi); have hcz88_0 : w87.cell? ⟨gb299, 0, none⟩ = some (.bool false) := (blk_cell BK299.out 0).trans rfl; have hcz88_1 : w87.cell? ⟨gb299, 1, none⟩ = some (.string (⟨#[]⟩ : ByteArray)) := (blk_cell BK299.out 1).trans rfl; have hcz88_2 : w87.cell? ⟨gb299, 2, none⟩ = some (.int .i64 0) := (blk_cell BK299.out 2).trans rfl; have hfz88_0 := blk_frozen BK299.out 0; have hfz88_1 := blk_frozen BK299.out 1; have hfz88_2 := blk_frozen BK299.out 2; have hcz89_0 : w87.cell? ⟨gb289, 0, none⟩ = some (.bool false) := (blk_cell BK289.out 0).trans rfl; have hcz89_1 : w87.cell? ⟨gb289, 1, none⟩ = some (.string (⟨#[]⟩ : ByteArray)) := (blk_cell BK289.out 1).trans rfl; have hcz89_2 : w87.cell? ⟨gb289, 2, none⟩ = some (.int .i64 0) := (blk_cell BK289.out 2).trans rfl; have hfz89_0 := blk_frozen BK289.out 0; have hfz89_1 := blk_frozen BK289.out 1; have hfz89_2 := blk_frozen BK289.out 2))
            refine bodyPost_ret (results_ct rfl _ _ gb289 26 #[.bool false, .string (⟨#[]⟩ : ByteArray), .int .i64 0] (0, 0) _ rfl (by refine blk_up ?_; refine blk_put (cs := #[.bool false, .string (⟨#[]⟩ : ByteArray), .int .i64 0]) ?_ 2 _ rfl; refine blk_up ?_; refine blk_put (cs := #[.bool false, .string (⟨#[]⟩ : ByteArray), .int .i64 0]) ?_ 1 _ rfl; refine blk_up ?_; refine blk_put (cs := #[.bool false, .string (⟨#[]⟩ : ByteArray), .int .i64 0]) ?_ 0 _ rfl; refine blk_up ?_; exact BK289.out) Tryd.underlying26 rfl (by kernel_rfl)) rfl ?_
            exact ⟨by first | rfl | (simp [errW_none, errW_some] <;> rfl) | (simp [*, errW_none, errW_some] <;> rfl), by repeat (first | (with_reducible first | exact HB.out | apply below_alloc | apply pw_below_drewN | apply below_drew1 | refine below_set ?_ GE289.out | refine below_set ?_ GE299.out) | exact HB.out)⟩
          · replace c82 := Bool.eq_false_iff.mpr c82
            subst c82
            have H1 : (some (false, (⟨#[]⟩ : ByteArray), 0, false)) = some (r1, r2, r3, r4) := by rw [if_neg (show ¬ (false = true) by decide)] at H; exact H
            clear H
            have H := H1
            clear H1
            simp only [Option.some.injEq, Prod.mk.injEq] at H
            obtain ⟨rfl, rfl, rfl, rfl⟩ := H
            go_upto_region 4 with (first | ((with_reducible refine gate_callee (f := 94) rfl ?_); refine goesL_ (some 32) rfl rfl Tryd.func94 (by kernel_rfl) rfl #[.string x1_1, .string (⟨#[48]⟩ : ByteArray)] rfl (by (try simp only [List.map_toArray, List.map_cons, List.map_nil]); first | done | rfl | (simp only [List.length_drop, List.length_take]; rfl)) ?_; (with_reducible refine (strings_TrimLeft.calls x1_1 (⟨#[48]⟩ : ByteArray) t298 _ A79.out).mono ?_); rintro e w90 ⟨rfl, hb⟩; refine ⟨_, rfl, ?_⟩; have n0_ := Aside0.mk (blk_below (g := gb289) (o := .cells #[.bool false, .string (⟨#[]⟩ : ByteArray), .int .i64 0] 26 (0, 0)) (by refine blk_up ?_; exact BK289.out) hb); have n1_ := Aside0.mk (below_step (by repeat (first | (with_reducible first | exact HB.out | apply below_alloc | apply pw_below_drewN | apply below_drew1 | refine below_set ?_ GE289.out) | exact HB.out)) hb); clear BK289; clear HB; have BK289 := n0_; have HB := n1_; clear n0_ n1_; (try clear hb); (try clear hb2); (try clear hk); (try clear hi)) | ((with_reducible refine gate_dst (N := 8) rfl ?_); (try (refine gate_guard (by rfl) ?_; dsimp only)); refine box_event ?hg (N := 8) ?hd (cs := #[.bool false, .string (⟨#[]⟩ : ByteArray), .int .i64 0]) (t := 26) ?hr ?_; (case hd => rfl); (case hg => rfl); (case hr => first | (go_simp; done) | (go_simp; rfl)); intro gb299 hg w91 hbox hb; have n0_ := Aside0.mk (blk_below (g := gb289) (o := .cells #[.bool false, .string (⟨#[]⟩ : ByteArray), .int .i64 0] 26 (0, 0)) (by refine blk_up ?_; exact BK289.out) hb); have n1_ := Aside0.mk (below_step (by repeat (first | (with_reducible first | exact HB.out | apply below_alloc | apply pw_below_drewN | apply below_drew1 | refine below_set ?_ GE289.out) | exact HB.out)) hb); have n2_ := Aside0.mk (hbox); have n3_ := Aside0.mk ((by rw [hg]; exact (below_size (by repeat (first | (with_reducible first | exact HB.out | apply below_alloc | apply pw_below_drewN | apply below_drew1 | refine below_set ?_ GE289.out) | exact HB.out))) : w.heap.size ≤ gb299)); have n4_ := Aside0.mk ((by rw [hg]; exact (below_size (by repeat (first | (with_reducible first | exact HB.out | apply below_alloc | apply pw_below_drewN | apply below_drew1 | refine below_set ?_ GE289.out) | exact HB.out))) : w.heap.size ≤ gb299)); have n5_ := Aside0.mk ((by rw [hg]; exact Nat.ne_of_lt (blk_lt (g := gb289) (o := .cells #[.bool false, .string (⟨#[]⟩ : ByteArray), .int .i64 0] 26 (0, 0)) (by refine blk_up ?_; exact BK289.out)) : gb289 ≠ gb299)); have n6_ := Aside0.mk ((by rw [hg]; exact Nat.ne_of_gt (blk_lt (g := gb289) (o := .cells #[.bool false, .string (⟨#[]⟩ : ByteArray), .int .i64 0] 26 (0, 0)) (by refine blk_up ?_; exact BK289.out)) : gb299 ≠ gb289)); clear BK289; clear HB; have BK289 := n0_; have HB := n1_; have BK299 := n2_; have GW299 := n3_; have GE299 := n4_; have NB289_299 := n5_; have NB299_289 := n6_; clear n0_ n1_ n2_ n3_ n4_ n5_ n6_; clear hb hbox hg; have hnb92 := NB299_289.out; have hnc92 := NB289_299.out; have hcz93_0 : w91.cell? ⟨gb299, 0, none⟩ = some (.bool false) := (blk_cell BK299.out 0).trans rfl; have hcz93_1 : w91.cell? ⟨gb299, 1, none⟩ = some (.string (⟨#[]⟩ : ByteArray)) := (blk_cell BK299.out 1).trans rfl; have hcz93_2 : w91.cell? ⟨gb299, 2, none⟩ = some (.int .i64 0) := (blk_cell BK299.out 2).trans rfl; have hfz93_0 := blk_frozen BK299.out 0; have hfz93_1 := blk_frozen BK299.out 1; have hfz93_2 := blk_frozen BK299.out 2))
            refine wp_world_impl_made (fun W => Aside0 (W.heap[gb289]? = some (.cells #[.bool false, .string (⟨#[]⟩ : ByteArray), .int .i64 0] 26 (0, 0))) ∧ Aside0 (W.heap[gb299]? = some (.cells #[.bool a0, .string t298, .int .i64 x2_1] 26 (0, 0))) ∧ Aside0 (Below w.heap.size w W))
              ⟨⟨by refine blk_up ?_; refine blk_far ?_ NB289_299.out _; refine blk_up ?_; refine blk_far ?_ NB289_299.out _; refine blk_up ?_; refine blk_far ?_ NB289_299.out _; refine blk_up ?_; exact BK289.out⟩,
               ⟨by refine blk_up ?_; refine blk_put (cs := #[.bool a0, .string t298, .int .i64 0]) ?_ 2 _ rfl; refine blk_up ?_; refine blk_put (cs := #[.bool a0, .string (⟨#[]⟩ : ByteArray), .int .i64 0]) ?_ 1 _ rfl; refine blk_up ?_; refine blk_put (cs := #[.bool false, .string (⟨#[]⟩ : ByteArray), .int .i64 0]) ?_ 0 _ rfl; refine blk_up ?_; exact BK299.out⟩,
               ⟨by repeat (first | (with_reducible first | exact HB.out | apply below_alloc | apply pw_below_drewN | apply below_drew1 | refine below_set ?_ GE289.out | refine below_set ?_ GE299.out) | exact HB.out)⟩⟩ ?_
            clear BK289 BK299 HB
            rintro ww ⟨BK289, BK299, HB⟩
            have hwz_0 : ww.cell? ⟨gb299, 0, none⟩ = some (.bool a0) := (blk_cell BK299.out 0).trans rfl
            have hwf_0 := blk_frozen BK299.out 0
            have hwz_1 : ww.cell? ⟨gb299, 1, none⟩ = some (.string t298) := (blk_cell BK299.out 1).trans rfl
            have hwf_1 := blk_frozen BK299.out 1
            have hwz_2 : ww.cell? ⟨gb299, 2, none⟩ = some (.int .i64 x2_1) := (blk_cell BK299.out 2).trans rfl
            have hwf_2 := blk_frozen BK299.out 2
            go_wp2_with (first | ((with_reducible refine gate_callee (f := 27) rfl ?_); refine goesL_ (some 40) rfl rfl Tryd.func27 (by kernel_rfl) rfl #[.agg #[.bool false, .string (⟨#[]⟩ : ByteArray), .int .i64 0]] rfl (by (try simp only [List.map_toArray, List.map_cons, List.map_nil]); first | done | rfl | (simp only [List.length_drop, List.length_take]; rfl)) ?_; (with_reducible refine (impl_DecOk.calls false (⟨#[]⟩ : ByteArray) 0 false _ A81.out).mono ?_); rintro e w94 ⟨rfl, hb⟩; refine ⟨_, rfl, ?_⟩; have n0_ := Aside0.mk (blk_below (g := gb289) (o := .cells #[.bool false, .string (⟨#[]⟩ : ByteArray), .int .i64 0] 26 (0, 0)) (by refine blk_up ?_; refine blk_far ?_ NB289_299.out _; refine blk_up ?_; refine blk_far ?_ NB289_299.out _; refine blk_up ?_; refine blk_far ?_ NB289_299.out _; refine blk_up ?_; exact BK289.out) hb); have n1_ := Aside0.mk (blk_below (g := gb299) (o := .cells #[.bool false, .string (⟨#[]⟩ : ByteArray), .int .i64 0] 26 (0, 0)) (by refine blk_up ?_; refine blk_put (cs := #[.bool false, .string (⟨#[]⟩ : ByteArray), .int .i64 x2_1]) ?_ 2 _ rfl; refine blk_up ?_; refine blk_put (cs := #[.bool false, .string t298, .int .i64 x2_1]) ?_ 1 _ rfl; refine blk_up ?_; refine blk_put (cs := #[.bool a0, .string t298, .int .i64 x2_1]) ?_ 0 _ rfl; refine blk_up ?_; exact BK299.out) hb); have n2_ := Aside0.mk (below_step (by repeat (first | (with_reducible first | exact HB.out | apply below_alloc | apply pw_below_drewN | apply below_drew1 | refine below_set ?_ GE289.out | refine below_set ?_ GE299.out) | exact HB.out)) hb); clear BK289; clear BK299; clear HB; have BK289 := n0_; have BK299 := n1_; have HB := n2_; clear n0_ n1_ n2_; (try clear hb); (try clear hb2); (try clear hk); (try clear hi); have hcz95_0 : w94.cell? ⟨gb289, 0, none⟩ = some (.bool false) := (blk_cell BK289.out 0).trans rfl; have hcz95_1 : w94.cell? ⟨gb289, 1, none⟩ = some (.string (⟨#[]⟩ : ByteArray)) := (blk_cell BK289.out 1).trans rfl; have hcz95_2 : w94.cell? ⟨gb289, 2, none⟩ = some (.int .i64 0) := (blk_cell BK289.out 2).trans rfl; have hfz95_0 := blk_frozen BK289.out 0; have hfz95_1 := blk_frozen BK289.out 1; have hfz95_2 := blk_frozen BK289.out 2))
            refine bodyPost_ret (results_ct rfl _ _ gb289 26 #[.bool false, .string (⟨#[]⟩ : ByteArray), .int .i64 0] (0, 0) _ rfl (by refine blk_up ?_; refine blk_put (cs := #[.bool false, .string (⟨#[]⟩ : ByteArray), .int .i64 0]) ?_ 2 _ rfl; refine blk_up ?_; refine blk_put (cs := #[.bool false, .string (⟨#[]⟩ : ByteArray), .int .i64 0]) ?_ 1 _ rfl; refine blk_up ?_; refine blk_put (cs := #[.bool false, .string (⟨#[]⟩ : ByteArray), .int .i64 0]) ?_ 0 _ rfl; refine blk_up ?_; exact BK289.out) Tryd.underlying26 rfl (by kernel_rfl)) rfl ?_
            exact ⟨by first | rfl | (simp [errW_none, errW_some] <;> rfl) | (simp [*, errW_none, errW_some] <;> rfl), by repeat (first | (with_reducible first | exact HB.out | apply below_alloc | apply pw_below_drewN | apply below_drew1 | refine below_set ?_ GE289.out | refine below_set ?_ GE299.out) | exact HB.out)⟩
        · rw [if_neg c80] at H
          have c80b0 : (t298.toList == ([] : List UInt8)) = false := beq_eq_false_iff_ne.mpr c80
          have c80b1 : (t298.toList != ([] : List UInt8)) = true := bne_iff_ne.mpr c80
          replace H := Option.bind_eq_some_iff.mp H
          obtain ⟨t301, A960, H⟩ := H
          replace H : (if t301 = true then (some (a0, t298, x2_1, true)) else (some (false, (⟨#[]⟩ : ByteArray), 0, false))) = some (r1, r2, r3, r4) := H
          have A96 := Aside0.mk A960
          clear A960
          by_cases c97 : t301 = true
          · subst c97
            have H1 : (some (a0, t298, x2_1, true)) = some (r1, r2, r3, r4) := by rw [if_pos rfl] at H; exact H
            clear H
            have H := H1
            clear H1
            simp only [Option.some.injEq, Prod.mk.injEq] at H
            obtain ⟨rfl, rfl, rfl, rfl⟩ := H
            go_upto_region 4 with (first | ((with_reducible refine gate_callee (f := 94) rfl ?_); refine goesL_ (some 32) rfl rfl Tryd.func94 (by kernel_rfl) rfl #[.string x1_1, .string (⟨#[48]⟩ : ByteArray)] rfl (by (try simp only [List.map_toArray, List.map_cons, List.map_nil]); first | done | rfl | (simp only [List.length_drop, List.length_take]; rfl)) ?_; (with_reducible refine (strings_TrimLeft.calls x1_1 (⟨#[48]⟩ : ByteArray) t298 _ A79.out).mono ?_); rintro e w98 ⟨rfl, hb⟩; refine ⟨_, rfl, ?_⟩; have n0_ := Aside0.mk (blk_below (g := gb289) (o := .cells #[.bool false, .string (⟨#[]⟩ : ByteArray), .int .i64 0] 26 (0, 0)) (by refine blk_up ?_; exact BK289.out) hb); have n1_ := Aside0.mk (below_step (by repeat (first | (with_reducible first | exact HB.out | apply below_alloc | apply pw_below_drewN | apply below_drew1 | refine below_set ?_ GE289.out) | exact HB.out)) hb); clear BK289; clear HB; have BK289 := n0_; have HB := n1_; clear n0_ n1_; (try clear hb); (try clear hb2); (try clear hk); (try clear hi)) | ((with_reducible refine gate_dst (N := 8) rfl ?_); (try (refine gate_guard (by rfl) ?_; dsimp only)); refine box_event ?hg (N := 8) ?hd (cs := #[.bool false, .string (⟨#[]⟩ : ByteArray), .int .i64 0]) (t := 26) ?hr ?_; (case hd => rfl); (case hg => rfl); (case hr => first | (go_simp; done) | (go_simp; rfl)); intro gb299 hg w99 hbox hb; have n0_ := Aside0.mk (blk_below (g := gb289) (o := .cells #[.bool false, .string (⟨#[]⟩ : ByteArray), .int .i64 0] 26 (0, 0)) (by refine blk_up ?_; exact BK289.out) hb); have n1_ := Aside0.mk (below_step (by repeat (first | (with_reducible first | exact HB.out | apply below_alloc | apply pw_below_drewN | apply below_drew1 | refine below_set ?_ GE289.out) | exact HB.out)) hb); have n2_ := Aside0.mk (hbox); have n3_ := Aside0.mk ((by rw [hg]; exact (below_size (by repeat (first | (with_reducible first | exact HB.out | apply below_alloc | apply pw_below_drewN | apply below_drew1 | refine below_set ?_ GE289.out) | exact HB.out))) : w.heap.size ≤ gb299)); have n4_ := Aside0.mk ((by rw [hg]; exact (below_size (by repeat (first | (with_reducible first | exact HB.out | apply below_alloc | apply pw_below_drewN | apply below_drew1 | refine below_set ?_ GE289.out) | exact HB.out))) : w.heap.size ≤ gb299)); have n5_ := Aside0.mk ((by rw [hg]; exact Nat.ne_of_lt (blk_lt (g := gb289) (o := .cells #[.bool false, .string (⟨#[]⟩ : ByteArray), .int .i64 0] 26 (0, 0)) (by refine blk_up ?_; exact BK289.out)) : gb289 ≠ gb299)); have n6_ := Aside0.mk ((by rw [hg]; exact Nat.ne_of_gt (blk_lt (g := gb289) (o := .cells #[.bool false, .string (⟨#[]⟩ : ByteArray), .int .i64 0] 26 (0, 0)) (by refine blk_up ?_; exact BK289.out)) : gb299 ≠ gb289)); clear BK289; clear HB; have BK289 := n0_; have HB := n1_; have BK299 := n2_; have GW299 := n3_; have GE299 := n4_; have NB289_299 := n5_; have NB299_289 := n6_; clear n0_ n1_ n2_ n3_ n4_ n5_ n6_; clear hb hbox hg; have hnb100 := NB299_289.out; have hnc100 := NB289_299.out; have hcz101_0 : w99.cell? ⟨gb299, 0, none⟩ = some (.bool false) := (blk_cell BK299.out 0).trans rfl; have hcz101_1 : w99.cell? ⟨gb299, 1, none⟩ = some (.string (⟨#[]⟩ : ByteArray)) := (blk_cell BK299.out 1).trans rfl; have hcz101_2 : w99.cell? ⟨gb299, 2, none⟩ = some (.int .i64 0) := (blk_cell BK299.out 2).trans rfl; have hfz101_0 := blk_frozen BK299.out 0; have hfz101_1 := blk_frozen BK299.out 1; have hfz101_2 := blk_frozen BK299.out 2))
            refine wp_world_impl_made (fun W => Aside0 (W.heap[gb289]? = some (.cells #[.bool false, .string (⟨#[]⟩ : ByteArray), .int .i64 0] 26 (0, 0))) ∧ Aside0 (W.heap[gb299]? = some (.cells #[.bool a0, .string t298, .int .i64 x2_1] 26 (0, 0))) ∧ Aside0 (Below w.heap.size w W))
              ⟨⟨by refine blk_up ?_; refine blk_far ?_ NB289_299.out _; refine blk_up ?_; refine blk_far ?_ NB289_299.out _; refine blk_up ?_; refine blk_far ?_ NB289_299.out _; refine blk_up ?_; exact BK289.out⟩,
               ⟨by refine blk_up ?_; refine blk_put (cs := #[.bool a0, .string t298, .int .i64 0]) ?_ 2 _ rfl; refine blk_up ?_; refine blk_put (cs := #[.bool a0, .string (⟨#[]⟩ : ByteArray), .int .i64 0]) ?_ 1 _ rfl; refine blk_up ?_; refine blk_put (cs := #[.bool false, .string (⟨#[]⟩ : ByteArray), .int .i64 0]) ?_ 0 _ rfl; refine blk_up ?_; exact BK299.out⟩,
               ⟨by repeat (first | (with_reducible first | exact HB.out | apply below_alloc | apply pw_below_drewN | apply below_drew1 | refine below_set ?_ GE289.out | refine below_set ?_ GE299.out) | exact HB.out)⟩⟩ ?_
            clear BK289 BK299 HB
            rintro ww ⟨BK289, BK299, HB⟩
            have hwz_0 : ww.cell? ⟨gb299, 0, none⟩ = some (.bool a0) := (blk_cell BK299.out 0).trans rfl
            have hwf_0 := blk_frozen BK299.out 0
            have hwz_1 : ww.cell? ⟨gb299, 1, none⟩ = some (.string t298) := (blk_cell BK299.out 1).trans rfl
            have hwf_1 := blk_frozen BK299.out 1
            have hwz_2 : ww.cell? ⟨gb299, 2, none⟩ = some (.int .i64 x2_1) := (blk_cell BK299.out 2).trans rfl
            have hwf_2 := blk_frozen BK299.out 2
            go_wp2_with (first | ((with_reducible refine gate_callee (f := 27) rfl ?_); refine goesL_ (some 40) rfl rfl Tryd.func27 (by kernel_rfl) rfl #[.agg #[.bool a0, .string t298, .int .i64 x2_1]] rfl (by (try simp only [List.map_toArray, List.map_cons, List.map_nil]); first | done | rfl | (simp only [List.length_drop, List.length_take]; rfl)) ?_; (with_reducible refine (impl_DecOk.calls a0 t298 x2_1 true _ A96.out).mono ?_); rintro e w102 ⟨rfl, hb⟩; refine ⟨_, rfl, ?_⟩; have n0_ := Aside0.mk (blk_below (g := gb289) (o := .cells #[.bool false, .string (⟨#[]⟩ : ByteArray), .int .i64 0] 26 (0, 0)) (by refine blk_up ?_; exact BK289.out) hb); have n1_ := Aside0.mk (blk_below (g := gb299) (o := .cells #[.bool a0, .string t298, .int .i64 x2_1] 26 (0, 0)) (by refine blk_up ?_; exact BK299.out) hb); have n2_ := Aside0.mk (below_step (by repeat (first | (with_reducible first | exact HB.out | apply below_alloc | apply pw_below_drewN | apply below_drew1 | refine below_set ?_ GE289.out | refine below_set ?_ GE299.out) | exact HB.out)) hb); clear BK289; clear BK299; clear HB; have BK289 := n0_; have BK299 := n1_; have HB := n2_; clear n0_ n1_ n2_; (try clear hb); (try clear hb2); (try clear hk); (try clear hi); have hcz103_0 : w102.cell? ⟨gb299, 0, none⟩ = some (.bool a0) := (blk_cell BK299.out 0).trans rfl; have hcz103_1 : w102.cell? ⟨gb299, 1, none⟩ = some (.string t298) := (blk_cell BK299.out 1).trans rfl; have hcz103_2 : w102.cell? ⟨gb299, 2, none⟩ = some (.int .i64 x2_1) := (blk_cell BK299.out 2).trans rfl; have hfz103_0 := blk_frozen BK299.out 0; have hfz103_1 := blk_frozen BK299.out 1; have hfz103_2 := blk_frozen BK299.out 2; have hcz104_0 : w102.cell? ⟨gb289, 0, none⟩ = some (.bool false) := (blk_cell BK289.out 0).trans rfl; have hcz104_1 : w102.cell? ⟨gb289, 1, none⟩ = some (.string (⟨#[]⟩ : ByteArray)) := (blk_cell BK289.out 1).trans rfl; have hcz104_2 : w102.cell? ⟨gb289, 2, none⟩ = some (.int .i64 0) := (blk_cell BK289.out 2).trans rfl; have hfz104_0 := blk_frozen BK289.out 0; have hfz104_1 := blk_frozen BK289.out 1; have hfz104_2 := blk_frozen BK289.out 2))
            refine bodyPost_ret (results_ct rfl _ _ gb289 26 #[.bool a0, .string t298, .int .i64 x2_1] (0, 0) _ rfl (by refine blk_up ?_; refine blk_put (cs := #[.bool a0, .string t298, .int .i64 0]) ?_ 2 _ rfl; refine blk_up ?_; refine blk_put (cs := #[.bool a0, .string (⟨#[]⟩ : ByteArray), .int .i64 0]) ?_ 1 _ rfl; refine blk_up ?_; refine blk_put (cs := #[.bool false, .string (⟨#[]⟩ : ByteArray), .int .i64 0]) ?_ 0 _ rfl; refine blk_up ?_; exact BK289.out) Tryd.underlying26 rfl (by kernel_rfl)) rfl ?_
            exact ⟨by first | rfl | (simp [errW_none, errW_some] <;> rfl) | (simp [*, errW_none, errW_some] <;> rfl), by repeat (first | (with_reducible first | exact HB.out | apply below_alloc | apply pw_below_drewN | apply below_drew1 | refine below_set ?_ GE289.out | refine below_set ?_ GE299.out) | exact HB.out)⟩
          · replace c97 := Bool.eq_false_iff.mpr c97
            subst c97
            have H1 : (some (false, (⟨#[]⟩ : ByteArray), 0, false)) = some (r1, r2, r3, r4) := by rw [if_neg (show ¬ (false = true) by decide)] at H; exact H
            clear H
            have H := H1
            clear H1
            simp only [Option.some.injEq, Prod.mk.injEq] at H
            obtain ⟨rfl, rfl, rfl, rfl⟩ := H
            go_upto_region 4 with (first | ((with_reducible refine gate_callee (f := 94) rfl ?_); refine goesL_ (some 32) rfl rfl Tryd.func94 (by kernel_rfl) rfl #[.string x1_1, .string (⟨#[48]⟩ : ByteArray)] rfl (by (try simp only [List.map_toArray, List.map_cons, List.map_nil]); first | done | rfl | (simp only [List.length_drop, List.length_take]; rfl)) ?_; (with_reducible refine (strings_TrimLeft.calls x1_1 (⟨#[48]⟩ : ByteArray) t298 _ A79.out).mono ?_); rintro e w105 ⟨rfl, hb⟩; refine ⟨_, rfl, ?_⟩; have n0_ := Aside0.mk (blk_below (g := gb289) (o := .cells #[.bool false, .string (⟨#[]⟩ : ByteArray), .int .i64 0] 26 (0, 0)) (by refine blk_up ?_; exact BK289.out) hb); have n1_ := Aside0.mk (below_step (by repeat (first | (with_reducible first | exact HB.out | apply below_alloc | apply pw_below_drewN | apply below_drew1 | refine below_set ?_ GE289.out) | exact HB.out)) hb); clear BK289; clear HB; have BK289 := n0_; have HB := n1_; clear n0_ n1_; (try clear hb); (try clear hb2); (try clear hk); (try clear hi)) | ((with_reducible refine gate_dst (N := 8) rfl ?_); (try (refine gate_guard (by rfl) ?_; dsimp only)); refine box_event ?hg (N := 8) ?hd (cs := #[.bool false, .string (⟨#[]⟩ : ByteArray), .int .i64 0]) (t := 26) ?hr ?_; (case hd => rfl); (case hg => rfl); (case hr => first | (go_simp; done) | (go_simp; rfl)); intro gb299 hg w106 hbox hb; have n0_ := Aside0.mk (blk_below (g := gb289) (o := .cells #[.bool false, .string (⟨#[]⟩ : ByteArray), .int .i64 0] 26 (0, 0)) (by refine blk_up ?_; exact BK289.out) hb); have n1_ := Aside0.mk (below_step (by repeat (first | (with_reducible first | exact HB.out | apply below_alloc | apply pw_below_drewN | apply below_drew1 | refine below_set ?_ GE289.out) | exact HB.out)) hb); have n2_ := Aside0.mk (hbox); have n3_ := Aside0.mk ((by rw [hg]; exact (below_size (by repeat (first | (with_reducible first | exact HB.out | apply below_alloc | apply pw_below_drewN | apply below_drew1 | refine below_set ?_ GE289.out) | exact HB.out))) : w.heap.size ≤ gb299)); have n4_ := Aside0.mk ((by rw [hg]; exact (below_size (by repeat (first | (with_reducible first | exact HB.out | apply below_alloc | apply pw_below_drewN | apply below_drew1 | refine below_set ?_ GE289.out) | exact HB.out))) : w.heap.size ≤ gb299)); have n5_ := Aside0.mk ((by rw [hg]; exact Nat.ne_of_lt (blk_lt (g := gb289) (o := .cells #[.bool false, .string (⟨#[]⟩ : ByteArray), .int .i64 0] 26 (0, 0)) (by refine blk_up ?_; exact BK289.out)) : gb289 ≠ gb299)); have n6_ := Aside0.mk ((by rw [hg]; exact Nat.ne_of_gt (blk_lt (g := gb289) (o := .cells #[.bool false, .string (⟨#[]⟩ : ByteArray), .int .i64 0] 26 (0, 0)) (by refine blk_up ?_; exact BK289.out)) : gb299 ≠ gb289)); clear BK289; clear HB; have BK289 := n0_; have HB := n1_; have BK299 := n2_; have GW299 := n3_; have GE299 := n4_; have NB289_299 := n5_; have NB299_289 := n6_; clear n0_ n1_ n2_ n3_ n4_ n5_ n6_; clear hb hbox hg; have hnb107 := NB299_289.out; have hnc107 := NB289_299.out; have hcz108_0 : w106.cell? ⟨gb299, 0, none⟩ = some (.bool false) := (blk_cell BK299.out 0).trans rfl; have hcz108_1 : w106.cell? ⟨gb299, 1, none⟩ = some (.string (⟨#[]⟩ : ByteArray)) := (blk_cell BK299.out 1).trans rfl; have hcz108_2 : w106.cell? ⟨gb299, 2, none⟩ = some (.int .i64 0) := (blk_cell BK299.out 2).trans rfl; have hfz108_0 := blk_frozen BK299.out 0; have hfz108_1 := blk_frozen BK299.out 1; have hfz108_2 := blk_frozen BK299.out 2))
            refine wp_world_impl_made (fun W => Aside0 (W.heap[gb289]? = some (.cells #[.bool false, .string (⟨#[]⟩ : ByteArray), .int .i64 0] 26 (0, 0))) ∧ Aside0 (W.heap[gb299]? = some (.cells #[.bool a0, .string t298, .int .i64 x2_1] 26 (0, 0))) ∧ Aside0 (Below w.heap.size w W))
              ⟨⟨by refine blk_up ?_; refine blk_far ?_ NB289_299.out _; refine blk_up ?_; refine blk_far ?_ NB289_299.out _; refine blk_up ?_; refine blk_far ?_ NB289_299.out _; refine blk_up ?_; exact BK289.out⟩,
               ⟨by refine blk_up ?_; refine blk_put (cs := #[.bool a0, .string t298, .int .i64 0]) ?_ 2 _ rfl; refine blk_up ?_; refine blk_put (cs := #[.bool a0, .string (⟨#[]⟩ : ByteArray), .int .i64 0]) ?_ 1 _ rfl; refine blk_up ?_; refine blk_put (cs := #[.bool false, .string (⟨#[]⟩ : ByteArray), .int .i64 0]) ?_ 0 _ rfl; refine blk_up ?_; exact BK299.out⟩,
               ⟨by repeat (first | (with_reducible first | exact HB.out | apply below_alloc | apply pw_below_drewN | apply below_drew1 | refine below_set ?_ GE289.out | refine below_set ?_ GE299.out) | exact HB.out)⟩⟩ ?_
            clear BK289 BK299 HB
            rintro ww ⟨BK289, BK299, HB⟩
            have hwz_0 : ww.cell? ⟨gb299, 0, none⟩ = some (.bool a0) := (blk_cell BK299.out 0).trans rfl
            have hwf_0 := blk_frozen BK299.out 0
            have hwz_1 : ww.cell? ⟨gb299, 1, none⟩ = some (.string t298) := (blk_cell BK299.out 1).trans rfl
            have hwf_1 := blk_frozen BK299.out 1
            have hwz_2 : ww.cell? ⟨gb299, 2, none⟩ = some (.int .i64 x2_1) := (blk_cell BK299.out 2).trans rfl
            have hwf_2 := blk_frozen BK299.out 2
            go_wp2_with (first | ((with_reducible refine gate_callee (f := 27) rfl ?_); refine goesL_ (some 40) rfl rfl Tryd.func27 (by kernel_rfl) rfl #[.agg #[.bool a0, .string t298, .int .i64 x2_1]] rfl (by (try simp only [List.map_toArray, List.map_cons, List.map_nil]); first | done | rfl | (simp only [List.length_drop, List.length_take]; rfl)) ?_; (with_reducible refine (impl_DecOk.calls a0 t298 x2_1 false _ A96.out).mono ?_); rintro e w109 ⟨rfl, hb⟩; refine ⟨_, rfl, ?_⟩; have n0_ := Aside0.mk (blk_below (g := gb289) (o := .cells #[.bool false, .string (⟨#[]⟩ : ByteArray), .int .i64 0] 26 (0, 0)) (by refine blk_up ?_; exact BK289.out) hb); have n1_ := Aside0.mk (blk_below (g := gb299) (o := .cells #[.bool a0, .string t298, .int .i64 x2_1] 26 (0, 0)) (by refine blk_up ?_; exact BK299.out) hb); have n2_ := Aside0.mk (below_step (by repeat (first | (with_reducible first | exact HB.out | apply below_alloc | apply pw_below_drewN | apply below_drew1 | refine below_set ?_ GE289.out | refine below_set ?_ GE299.out) | exact HB.out)) hb); clear BK289; clear BK299; clear HB; have BK289 := n0_; have BK299 := n1_; have HB := n2_; clear n0_ n1_ n2_; (try clear hb); (try clear hb2); (try clear hk); (try clear hi); have hcz110_0 : w109.cell? ⟨gb289, 0, none⟩ = some (.bool false) := (blk_cell BK289.out 0).trans rfl; have hcz110_1 : w109.cell? ⟨gb289, 1, none⟩ = some (.string (⟨#[]⟩ : ByteArray)) := (blk_cell BK289.out 1).trans rfl; have hcz110_2 : w109.cell? ⟨gb289, 2, none⟩ = some (.int .i64 0) := (blk_cell BK289.out 2).trans rfl; have hfz110_0 := blk_frozen BK289.out 0; have hfz110_1 := blk_frozen BK289.out 1; have hfz110_2 := blk_frozen BK289.out 2))
            refine bodyPost_ret (results_ct rfl _ _ gb289 26 #[.bool false, .string (⟨#[]⟩ : ByteArray), .int .i64 0] (0, 0) _ rfl (by refine blk_up ?_; refine blk_put (cs := #[.bool false, .string (⟨#[]⟩ : ByteArray), .int .i64 0]) ?_ 2 _ rfl; refine blk_up ?_; refine blk_put (cs := #[.bool false, .string (⟨#[]⟩ : ByteArray), .int .i64 0]) ?_ 1 _ rfl; refine blk_up ?_; refine blk_put (cs := #[.bool false, .string (⟨#[]⟩ : ByteArray), .int .i64 0]) ?_ 0 _ rfl; refine blk_up ?_; exact BK289.out) Tryd.underlying26 rfl (by kernel_rfl)) rfl ?_
            exact ⟨by first | rfl | (simp [errW_none, errW_some] <;> rfl) | (simp [*, errW_none, errW_some] <;> rfl), by repeat (first | (with_reducible first | exact HB.out | apply below_alloc | apply pw_below_drewN | apply below_drew1 | refine below_set ?_ GE289.out | refine below_set ?_ GE299.out) | exact HB.out)⟩

/-! ### impl_plusDigits: function 59 -/
def impl_plusDigits.l0 : Nat → ByteArray → ByteArray → List Int → Int → Int → Option (ByteArray)
 | 0, _, _, _, _, _ => none
 | k + 1, x0, x1, x5, x6, x7 => if x7 ≥ 0 then (if 0 ≤ x7 then (if x7 < (x0.size : Int) then (if x7 < (x1.size : Int) then (if 0 ≤ (wrap64 (x7 + 1)) then (if (wrap64 (x7 + 1)) < (x5.length : Int) then (impl_plusDigits.l0 k x0 x1 (x5.set ((wrap64 (x7 + 1)) : Int).toNat (48 + ((((((((((bt x0 x7) - 48) % 256) + (bt x1 x7)) % 256) - 48) % 256) + x6) % 256) % 10))) ((((((((((bt x0 x7) - 48) % 256) + (bt x1 x7)) % 256) - 48) % 256) + x6) % 256) / 10) (wrap64 (x7 - 1))) else (none)) else (none)) else (none)) else (none)) else (none)) else (if 0 < (x5.length : Int) then (some (strOfNums (x5.set (0 : Int).toNat ((48 + x6) % 256)))) else (none))
def impl_plusDigits.f (k : Nat) (a0 : ByteArray) (a1 : ByteArray) : Option (ByteArray) := if 0 ≤ (wrap64 ((a0.size : Int) + 1)) then (if (wrap64 ((a0.size : Int) + 1) : Int).toNat ≤ 281474976710656 then (impl_plusDigits.l0 k a0 a1 (List.replicate (wrap64 ((a0.size : Int) + 1) : Int).toNat 0) 0 (wrap64 ((a0.size : Int) - 1))) else (none)) else (none)
def impl_plusDigits.T5 : Bool × List (List Nat × List Nat) := (true, [([], []), ([], []), ([0, 1], [0, 1]), ([2], [2]), ([], []), ([], []), ([4, 5], [4, 5]), ([3, 6], [3, 6]), ([7], [7]), ([], []), ([8, 9], [8, 9]), ([10, 0, 1, 2, 3, 4, 5, 6, 7, 8, 9, 10], [10])])
def impl_plusDigits.B5 : List Nat := [0, 0, 3, 7, 0, 0, 48, 127, 255, 0, 1023, 2047]
theorem impl_plusDigits.tab5 : rtab .any (opsOf Tryd.f59 5) = impl_plusDigits.T5 := by kernel_rfl
theorem impl_plusDigits.bits5 : waitsOk impl_plusDigits.T5.2 impl_plusDigits.B5 = true := by kernel_rfl
set_option maxHeartbeats 8000000 in
set_option maxRecDepth 100000 in
theorem impl_plusDigits.calls (k : Nat) (a0 : ByteArray) (a1 : ByteArray) (r : ByteArray) (w : World) (h : impl_plusDigits.f k a0 a1 = some r) :
  Calls Tryd.prog 59 #[.string a0, .string a1] w fun e w' => e = .returned (.string r) ∧ Below w.heap.size w w' := by
 have HB := Aside0.mk (Below.refl w.heap.size w)
 have H : (if 0 ≤ (wrap64 ((a0.size : Int) + 1)) then (if (wrap64 ((a0.size : Int) + 1) : Int).toNat ≤ 281474976710656 then (impl_plusDigits.l0 k a0 a1 (List.replicate (wrap64 ((a0.size : Int) + 1) : Int).toNat 0) 0 (wrap64 ((a0.size : Int) - 1))) else (none)) else (none)) = some r := h
 clear h
 obtain ⟨ji3, hji3⟩ : ∃ j_ : Int, (wrap64 ((a0.size : Int) + 1)) = j_ := ⟨_, rfl⟩
 replace H : (if 0 ≤ (ji3) then (if (ji3 : Int).toNat ≤ 281474976710656 then (impl_plusDigits.l0 k a0 a1 (List.replicate (ji3 : Int).toNat 0) 0 (wrap64 ((a0.size : Int) - 1))) else (none)) else (none)) = some r := by first | (rw [hji3] at H; exact H) | (simp only [hji3] at H ⊢; exact H)
 have hji3w : (IntKind.i64.wrap ((a0.size : Int) + 1)) = ji3 := (i64_w _).trans hji3
 by_cases c4 : 0 ≤ (ji3)
 ·rw [if_pos c4] at H
  have c4b0 := eq_true c4
  have c4b1 : decide (0 ≤ (ji3)) = true := decide_eq_true c4
  clear c4
  by_cases c5 : (ji3 : Int).toNat ≤ 281474976710656
  ·rw [if_pos c5] at H
   have c5b0 := eq_true c5
   have c5b1 : decide ((ji3 : Int).toNat ≤ 281474976710656) = true := decide_eq_true c5
   clear c5
   obtain ⟨y302, hy302⟩ : ∃ y_ : List Int, y_ = (List.replicate (ji3 : Int).toNat 0) := ⟨_, rfl⟩
   replace H : (impl_plusDigits.l0 k a0 a1 y302 0 (wrap64 ((a0.size : Int) - 1))) = some r := by first | (rw [hy302]; with_reducible exact H) | (have H2_ := (Option.bind_some _ _).symm.trans H; rw [hy302]; with_reducible exact H2_) | (have H2_ := (Option.bind_some _ _).symm.trans H; with_reducible exact H2_) | with_reducible exact H | (rw [hy302]; exact H) | exact H
   have Ny302 := Aside0.mk hy302
   clear hy302
   have H' := Aside0.mk H
   clear H
   go_enter Tryd.func59, Tryd.ntmps59
   go_wp2_with (first | ((with_reducible refine gate_dst (N := 12) rfl ?_); refine Kd.R_make (Kd.int .u8) _ 5 rfl (N := 12) rfl 29 _ _ rfl ji3 rfl rfl Tryd.underlying29 (.int .u8 0) 1 info5 rfl (by decide) (by omega) 0 (ok := fun _ => True) (okp := fun _ => True) rfl (fun _ hk => hk) trivial (of_decide_eq_true (by first | (with_reducible assumption) | assumption)) (Nat.le_trans (Nat.mul_le_mul_right _ (of_decide_eq_true (by first | (with_reducible assumption) | assumption) : ji3.toNat ≤ 281474976710656)) (by omega)) (Below.refl _ _) (Nat.le_refl _) ?_; intro v303 w6 ho7 hb hg_ hnew_; clear hg_ hnew_; (first | rw [← Ny302.out] at ho7 | (simp only [Int.reduceToNat] at ho7; rw [← Ny302.out] at ho7)); have n0_ := Aside0.mk (Kd.R_lower ho7 (below_size (by repeat (first | (with_reducible first | exact HB.out | apply below_alloc | apply pw_below_drewN | apply below_drew1) | exact HB.out)))); have n1_ := Aside0.mk (below_step (by repeat (first | (with_reducible first | exact HB.out | apply below_alloc | apply pw_below_drewN | apply below_drew1) | exact HB.out)) hb); clear HB; have HO304 := n0_; have HB := n1_; clear n0_ n1_; clear hb ho7))
   go_loopg [6, 7] k (fun kq v6 v7 w' => ∃ (x5_1 : List Int) (x6_1 : Int) (x7_1 : Int), v6 = .int .u8 x6_1 ∧ v7 = .int .i64 x7_1 ∧ Aside0 (impl_plusDigits.l0 kq a0 a1 x5_1 x6_1 x7_1 = some r) ∧ Aside0 (kq ≤ k) ∧ Aside0 (Kd.R (Kd.int .u8) 5 w' w.heap.size (fun _ => True) v303 x5_1) ∧ Aside0 (Below w.heap.size w w'))
   case atStart => exact ⟨(y302), (0), (wrap64 ((a0.size : Int) - 1)), (by first | rfl | (simp; done) | (simp [*]; done)), (by first | rfl | (simp; done) | (simp [*]; done)), H', ⟨Nat.le_refl _⟩, ⟨by (with_reducible repeat (first | apply Kd.R_alloc | apply Kd.R_drewN | apply Kd.R_drew)); exact HO304.out⟩, ⟨by repeat (first | (with_reducible first | exact HB.out | apply below_alloc | apply pw_below_drewN | apply below_drew1) | exact HB.out)⟩⟩
   case round =>
    clear H'
    try clear p2
    try clear c4
    try clear c4b0
    try clear c4b1
    try clear c5
    try clear c5b0
    try clear c5b1
    try clear p6
    obtain ⟨x5_1, x6_1, x7_1, rfl, rfl, HA, HK1, HO_5, HB⟩ := hrel
    cases gk with
    | zero => exact absurd HA.out (by simp [impl_plusDigits.l0])
    | succ k1 =>
     have H := HA.out
     clear HA
     simp only [impl_plusDigits.l0] at H
     by_cases c8 : x7_1 ≥ 0
     ·rw [if_pos c8] at H
      have c8b0 : decide (0 ≤ x7_1) = true := decide_eq_true c8
      clear c8
      by_cases c9 : 0 ≤ x7_1
      ·rw [if_pos c9] at H
       have c9b0 : decide (0 ≤ x7_1) = true := decide_eq_true c9
       clear c9
       by_cases c10 : x7_1 < (a0.size : Int)
       ·rw [if_pos c10] at H
        have c10b0 : decide (x7_1 < (a0.size : Int)) = true := decide_eq_true c10
        clear c10
        obtain ⟨jn12, hjn12⟩ : ∃ s_ : Int, (((bt a0 x7_1) - 48) % 256) = s_ := ⟨_, rfl⟩
        have hjn12l : 0 ≤ jn12 := by rw [← hjn12]; exact Int.emod_nonneg _ (by decide)
        have hjn12h : jn12 < 256 := by rw [← hjn12]; exact Int.emod_lt_of_pos _ (by decide)
        replace H : (if x7_1 < (a1.size : Int) then (if 0 ≤ (wrap64 (x7_1 + 1)) then (if (wrap64 (x7_1 + 1)) < (x5_1.length : Int) then (impl_plusDigits.l0 k1 a0 a1 (x5_1.set ((wrap64 (x7_1 + 1)) : Int).toNat (48 + (((((((jn12 + (bt a1 x7_1)) % 256) - 48) % 256) + x6_1) % 256) % 10))) (((((((jn12 + (bt a1 x7_1)) % 256) - 48) % 256) + x6_1) % 256) / 10) (wrap64 (x7_1 - 1))) else (none)) else (none)) else (none)) = some r := by first | (rw [hjn12] at H; exact H) | (simp only [hjn12] at H ⊢; exact H) | exact H
        by_cases c13 : x7_1 < (a1.size : Int)
        ·rw [if_pos c13] at H
         have c13b0 : decide (x7_1 < (a1.size : Int)) = true := decide_eq_true c13
         clear c13
         obtain ⟨jn15, hjn15⟩ : ∃ s_ : Int, ((jn12 + (bt a1 x7_1)) % 256) = s_ := ⟨_, rfl⟩
         have hjn15l : 0 ≤ jn15 := by rw [← hjn15]; exact Int.emod_nonneg _ (by decide)
         have hjn15h : jn15 < 256 := by rw [← hjn15]; exact Int.emod_lt_of_pos _ (by decide)
         replace H : (if 0 ≤ (wrap64 (x7_1 + 1)) then (if (wrap64 (x7_1 + 1)) < (x5_1.length : Int) then (impl_plusDigits.l0 k1 a0 a1 (x5_1.set ((wrap64 (x7_1 + 1)) : Int).toNat (48 + (((((jn15 - 48) % 256) + x6_1) % 256) % 10))) (((((jn15 - 48) % 256) + x6_1) % 256) / 10) (wrap64 (x7_1 - 1))) else (none)) else (none)) = some r := by first | (rw [hjn15] at H; exact H) | (simp only [hjn15] at H ⊢; exact H) | exact H
         obtain ⟨jn16, hjn16⟩ : ∃ s_ : Int, ((jn15 - 48) % 256) = s_ := ⟨_, rfl⟩
         have hjn16l : 0 ≤ jn16 := by rw [← hjn16]; exact Int.emod_nonneg _ (by decide)
         have hjn16h : jn16 < 256 := by rw [← hjn16]; exact Int.emod_lt_of_pos _ (by decide)
         replace H : (if 0 ≤ (wrap64 (x7_1 + 1)) then (if (wrap64 (x7_1 + 1)) < (x5_1.length : Int) then (impl_plusDigits.l0 k1 a0 a1 (x5_1.set ((wrap64 (x7_1 + 1)) : Int).toNat (48 + (((jn16 + x6_1) % 256) % 10))) (((jn16 + x6_1) % 256) / 10) (wrap64 (x7_1 - 1))) else (none)) else (none)) = some r := by first | (rw [hjn16] at H; exact H) | (simp only [hjn16] at H ⊢; exact H) | exact H
         obtain ⟨jn17, hjn17⟩ : ∃ s_ : Int, ((jn16 + x6_1) % 256) = s_ := ⟨_, rfl⟩
         have hjn17l : 0 ≤ jn17 := by rw [← hjn17]; exact Int.emod_nonneg _ (by decide)
         have hjn17h : jn17 < 256 := by rw [← hjn17]; exact Int.emod_lt_of_pos _ (by decide)
         replace H : (if 0 ≤ (wrap64 (x7_1 + 1)) then (if (wrap64 (x7_1 + 1)) < (x5_1.length : Int) then (impl_plusDigits.l0 k1 a0 a1 (x5_1.set ((wrap64 (x7_1 + 1)) : Int).toNat (48 + (jn17 % 10))) (jn17 / 10) (wrap64 (x7_1 - 1))) else (none)) else (none)) = some r := by first | (rw [hjn17] at H; exact H) | (simp only [hjn17] at H ⊢; exact H) | exact H
         obtain ⟨ji18, hji18⟩ : ∃ j_ : Int, (wrap64 (x7_1 + 1)) = j_ := ⟨_, rfl⟩
         replace H : (if 0 ≤ (ji18) then (if (ji18) < (x5_1.length : Int) then (impl_plusDigits.l0 k1 a0 a1 (x5_1.set ((ji18) : Int).toNat (48 + (jn17 % 10))) (jn17 / 10) (wrap64 (x7_1 - 1))) else (none)) else (none)) = some r := by first | (rw [hji18] at H; exact H) | (simp only [hji18] at H ⊢; exact H)
         have hji18w : (IntKind.i64.wrap (x7_1 + 1)) = ji18 := (i64_w _).trans hji18
         by_cases c19 : 0 ≤ (ji18)
         ·rw [if_pos c19] at H
          have c19b0 : decide (0 ≤ (ji18)) = true := decide_eq_true c19
          clear c19
          by_cases c20 : (ji18) < (x5_1.length : Int)
          ·rw [if_pos c20] at H
           have c20b0 : decide ((ji18) < (x5_1.length : Int)) = true := decide_eq_true c20
           clear c20
           obtain ⟨y305, hy305⟩ : ∃ y_ : List Int, y_ = (x5_1.set ((ji18) : Int).toNat (48 + (jn17 % 10))) := ⟨_, rfl⟩
           replace H : (impl_plusDigits.l0 k1 a0 a1 y305 (jn17 / 10) (wrap64 (x7_1 - 1))) = some r := by first | (rw [hy305]; with_reducible exact H) | (have H2_ := (Option.bind_some _ _).symm.trans H; rw [hy305]; with_reducible exact H2_) | (have H2_ := (Option.bind_some _ _).symm.trans H; with_reducible exact H2_) | with_reducible exact H | (rw [hy305]; exact H) | exact H
           have Ny305 := Aside0.mk hy305
           clear hy305
           have H' := Aside0.mk H
           clear H
           try go_wp2
           have n0_ := Aside0.mk (Kd.R_drew HO_5.out)
           have n1_ := Aside0.mk (below_drew1 HB.out)
           clear HO_5
           clear HB
           have HO_5 := n0_
           have HB := n1_
           clear n0_ n1_
           have p11 : 0 ≤ (x7_1 : Int) := of_decide_eq_true (by first | (with_reducible assumption) | assumption)
           have q11 : x7_1 < (a0.size : Int) := of_decide_eq_true (by first | (with_reducible assumption) | assumption)
           have hx11 := bt_at a0 x7_1
           replace p11 := eq_true p11
           replace q11 := eq_true q11
           have p14 : 0 ≤ (x7_1 : Int) := of_decide_eq_true (by first | (with_reducible assumption) | assumption)
           have q14 : x7_1 < (a1.size : Int) := of_decide_eq_true (by first | (with_reducible assumption) | assumption)
           have hx14 := bt_at a1 x7_1
           replace p14 := eq_true p14
           replace q14 := eq_true q14
           refine start_ (n := 12) (S := fun w' => True) (ds := []) #[false, false, false, false, false, false, false, false, false, false, false, false] (by kernel_rfl) rfl rfl trivial (fun hHeld => ?_); refine with_tabW impl_plusDigits.tab5 impl_plusDigits.bits5 (fun HT_ HW_ => ?_)
           generalize wr.drew = w22 at HO_5 HB hHeld ⊢
           refine pure_ (i := 0) (N := some 20) (v := ?_) (a' := ?_) #[true, false, false, false, false, false, false, false, false, false, false, false] rfl rfl (any_of HT_.out (by kernel_rfl)) (fun _ _ _ h => h) (Or.inl ⟨by rfl, ?_⟩) ?_ ?_
           rotate_left
           ·intro w'
            go_simp
            with_reducible rfl
           rotate_left
           ·simp only [Act.put, List.setIfInBounds_toArray, List.set_cons_zero, List.set_cons_succ, i64_w, i32_w]
            rfl
           refine pure_ (i := 1) (N := some 21) (v := ?_) (a' := ?_) #[true, true, false, false, false, false, false, false, false, false, false, false] rfl rfl (any_of HT_.out (by kernel_rfl)) (fun _ _ _ h => h) (Or.inl ⟨by rfl, ?_⟩) ?_ ?_
           rotate_left
           ·intro w'
            go_simp
            with_reducible rfl
           rotate_left
           ·simp only [Act.put, List.setIfInBounds_toArray, List.set_cons_zero, List.set_cons_succ, i64_w, i32_w]
            rfl
           refine pure_ (i := 4) (N := some 24) (v := ?_) (a' := ?_) #[true, true, false, false, true, false, false, false, false, false, false, false] rfl rfl (any_of HT_.out (by kernel_rfl)) (fun _ _ _ h => h) (Or.inl ⟨by rfl, ?_⟩) ?_ ?_
           rotate_left
           ·intro w'
            go_simp
            with_reducible rfl
           rotate_left
           ·simp only [Act.put, List.setIfInBounds_toArray, List.set_cons_zero, List.set_cons_succ, i64_w, i32_w]
            rfl
           refine pure_ (i := 5) (N := some 25) (v := ?_) (a' := ?_) #[true, true, false, false, true, true, false, false, false, false, false, false] rfl rfl (any_of HT_.out (by kernel_rfl)) (fun _ _ _ h => h) (Or.inl ⟨by rfl, ?_⟩) ?_ ?_
           rotate_left
           ·intro w'
            go_simp
            with_reducible rfl
           rotate_left
           ·simp only [Act.put, List.setIfInBounds_toArray, List.set_cons_zero, List.set_cons_succ, i64_w, i32_w]
            rfl
           refine pure_ (i := 9) (N := some 29) (v := ?_) (a' := ?_) #[true, true, false, false, true, true, false, false, false, true, false, false] rfl rfl (any_of HT_.out (by kernel_rfl)) (fun _ _ _ h => h) (Or.inl ⟨by rfl, ?_⟩) ?_ ?_
           rotate_left
           ·intro w'
            go_simp
            with_reducible rfl
           rotate_left
           ·simp only [Act.put, List.setIfInBounds_toArray, List.set_cons_zero, List.set_cons_succ, i64_w, i32_w]
            rfl
           refine take_ (i := 2) (N := some 22) (v := ?_) (a' := ?_) #[true, true, true, false, true, true, false, false, false, true, false, false] rfl rfl (take_ofW HT_.out HW_.out (by kernel_rfl)) (fun _ _ _ h => h) (Or.inl ⟨by rfl, ?_⟩) hHeld ?_ ?_
           rotate_left
           ·intro w' _
            go_simp
            with_reducible rfl
           rotate_left
           ·simp only [Act.put, List.setIfInBounds_toArray, List.set_cons_zero, List.set_cons_succ, i64_w, i32_w]
            rfl
           refine pure_ (i := 3) (N := some 23) (v := ?_) (a' := ?_) #[true, true, true, true, true, true, false, false, false, true, false, false] rfl rfl (any_of HT_.out (by kernel_rfl)) (fun _ _ _ h => h) (Or.inl ⟨by rfl, ?_⟩) ?_ ?_
           rotate_left
           ·intro w'
            go_simp
            with_reducible rfl
           rotate_left
           ·simp only [Act.put, List.setIfInBounds_toArray, List.set_cons_zero, List.set_cons_succ, i64_w, i32_w]
            rfl
           refine take_ (i := 6) (N := some 26) (v := ?_) (a' := ?_) #[true, true, true, true, true, true, true, false, false, true, false, false] rfl rfl (take_ofW HT_.out HW_.out (by kernel_rfl)) (fun _ _ _ h => h) (Or.inl ⟨by rfl, ?_⟩) hHeld ?_ ?_
           rotate_left
           ·intro w' _
            go_simp
            with_reducible rfl
           rotate_left
           ·simp only [Act.put, List.setIfInBounds_toArray, List.set_cons_zero, List.set_cons_succ, i64_w, i32_w]
            rfl
           refine pure_ (i := 7) (N := some 27) (v := ?_) (a' := ?_) #[true, true, true, true, true, true, true, true, false, true, false, false] rfl rfl (any_of HT_.out (by kernel_rfl)) (fun _ _ _ h => h) (Or.inl ⟨by rfl, ?_⟩) ?_ ?_
           rotate_left
           ·intro w'
            go_simp
            with_reducible rfl
           rotate_left
           ·simp only [Act.put, List.setIfInBounds_toArray, List.set_cons_zero, List.set_cons_succ, i64_w, i32_w]
            rfl
           refine pure_ (i := 8) (N := some 28) (v := ?_) (a' := ?_) #[true, true, true, true, true, true, true, true, true, true, false, false] rfl rfl (any_of HT_.out (by kernel_rfl)) (fun _ _ _ h => h) (Or.inl ⟨by rfl, ?_⟩) ?_ ?_
           rotate_left
           ·intro w'
            go_simp
            with_reducible rfl
           rotate_left
           ·simp only [Act.put, List.setIfInBounds_toArray, List.set_cons_zero, List.set_cons_succ, i64_w, i32_w]
            rfl
           refine pure_ (i := 10) (N := some 30) (v := ?_) (a' := ?_) #[true, true, true, true, true, true, true, true, true, true, true, false] rfl rfl (any_of HT_.out (by kernel_rfl)) (fun _ _ _ h => h) (Or.inl ⟨by rfl, ?_⟩) ?_ ?_
           rotate_left
           ·intro w'
            go_simp
            with_reducible rfl
           rotate_left
           ·simp only [Act.put, List.setIfInBounds_toArray, List.set_cons_zero, List.set_cons_succ, i64_w, i32_w]
            rfl
           refine pure_ (i := 11) (N := some 8) (v := ?_) (a' := ?_) #[true, true, true, true, true, true, true, true, true, true, true, true] rfl rfl (any_of HT_.out (by kernel_rfl)) (fun _ _ _ h => h) (Or.inl ⟨by rfl, ?_⟩) ?_ ?_
           rotate_left
           ·intro w'
            go_simp
            with_reducible rfl
           rotate_left
           ·simp only [Act.put, List.setIfInBounds_toArray, List.set_cons_zero, List.set_cons_succ, i64_w, i32_w]
            rfl
           refine done_ (done_of HT_.out (by kernel_rfl)) ?_
           have p21 : 0 ≤ ((ji18) : Int) := of_decide_eq_true (by first | (with_reducible assumption) | assumption)
           have q21 : ((ji18) : Int) < ((x5_1.length : Int) : Int) := of_decide_eq_true (by first | (with_reducible assumption) | assumption)
           obtain ⟨go21, co21, eo21, gb21, gl21, cl21, HG21⟩ := Kd.R_form HO_5.out (by omega)
           (first | cases eo21 | (injection eo21 with ea_ en_ ec_; (first | subst ea_ | (injection ea_ with ea_; subst ea_)); subst ec_; clear en_))
           have GB21 := Aside0.mk gb21
           have GG21 := Aside0.mk HG21
           clear gb21 gl21 HG21
           obtain ⟨hx21_0, hf21_0⟩ := Kd.R_celln 0 HO_5.out ((ji18) : Int) p21 q21
           replace p21 := eq_true p21
           replace q21 := eq_true q21
           obtain ⟨hy23_, hz23_⟩ := Kd.R_celln 0 HO_5.out ((ji18) : Int) (of_decide_eq_true (by first | (with_reducible assumption) | assumption)) (of_decide_eq_true (by first | (with_reducible assumption) | assumption))
           have HP23 := Kd.R_putg HO_5.out ((ji18) : Int) (48 + (jn17 % 10))
           try go_wp2_with (first | ((with_reducible refine gate_store (t := 5) (p := 39) rfl ?_); refine store_event (t := 5) (p := 39) (v := ?vo_w24) (w1 := (w22.setCell ⟨go21, ((ji18) : Int).toNat, none⟩ (.int .u8 (48 + (jn17 % 10))))) ?hg ?ho ?hn ?hr ?_; (case ho => rfl); (case hg => rfl); (case hn => rfl); (case hr => first | (go_simp; done) | (go_simp; rfl)); intro w24 hw; have hg : w22.grownBy w24 (some go21) := (by rw [hw]; exact HP23.2); have hp_ : Kd.R (Kd.int .u8) 5 w24 w.heap.size (fun _ => True) (.slice (some ⟨go21, 0, none⟩) x5_1.length co21) y305 := (by rw [hw, Ny305.out]; exact HP23.1); clear HP23; have n0_ := Aside0.mk (hp_); have n1_ := Aside0.mk ((by rw [hw]; exact below_set (HB.out) GB21.out : Below w.heap.size w w24)); clear HO_5; clear HB; have HO_5 := n0_; have HB := n1_; clear n0_ n1_; clear hg hw hp_))
           go_roundg k1
           case measure => have := HK1.out; omega
           case rel => exact ⟨(y305), (jn17 / 10), (wrap64 (x7_1 - 1)), (by first | rfl | (simp; done) | (refine congrArg (Value.int _) ?_; (try rw [Int.tdiv_eq_ediv_of_nonneg (by omega)]); omega) | (simp only [← hjn17] <;> (first | rfl | simp)) | (simp [*]; done)), (by first | rfl | (simp; done) | (refine congrArg (Value.int _) ?_; (try rw [Int.tdiv_eq_ediv_of_nonneg (by omega)]); omega) | (simp [*]; done)), H', ⟨by have := HK1.out; omega⟩, ⟨by (with_reducible repeat (first | apply Kd.R_alloc | apply Kd.R_drewN | apply Kd.R_drew)); exact HO_5.out⟩, ⟨by repeat (first | (with_reducible first | exact HB.out | apply below_alloc | apply pw_below_drewN | apply below_drew1) | exact HB.out)⟩⟩
          ·rw [if_neg c20] at H
           exact absurd H (by simp)
         ·rw [if_neg c19] at H
          exact absurd H (by simp)
        ·rw [if_neg c13] at H
         exact absurd H (by simp)
       ·rw [if_neg c10] at H
        exact absurd H (by simp)
      ·rw [if_neg c9] at H
       exact absurd H (by simp)
     ·rw [if_neg c8] at H
      have c8b0 : decide (0 ≤ x7_1) = false := decide_eq_false c8
      clear c8
      obtain ⟨jn25, hjn25⟩ : ∃ s_ : Int, ((48 + x6_1) % 256) = s_ := ⟨_, rfl⟩
      have hjn25l : 0 ≤ jn25 := by rw [← hjn25]; exact Int.emod_nonneg _ (by decide)
      have hjn25h : jn25 < 256 := by rw [← hjn25]; exact Int.emod_lt_of_pos _ (by decide)
      replace H : (if 0 < (x5_1.length : Int) then (some (strOfNums (x5_1.set (0 : Int).toNat jn25))) else (none)) = some r := by first | (rw [hjn25] at H; exact H) | (simp only [hjn25] at H ⊢; exact H) | exact H
      by_cases c26 : 0 < (x5_1.length : Int)
      ·rw [if_pos c26] at H
       have c26b0 : decide (0 < (x5_1.length : Int)) = true := decide_eq_true c26
       have c26b1 : decide (0 < x5_1.length) = true := decide_eq_true (by omega)
       clear c26
       obtain ⟨y306, hy306⟩ : ∃ y_ : List Int, y_ = (x5_1.set (0 : Int).toNat jn25) := ⟨_, rfl⟩
       replace H : (some (strOfNums y306)) = some r := by first | (rw [hy306]; with_reducible exact H) | (have H2_ := (Option.bind_some _ _).symm.trans H; rw [hy306]; with_reducible exact H2_) | (have H2_ := (Option.bind_some _ _).symm.trans H; with_reducible exact H2_) | with_reducible exact H | (rw [hy306]; exact H) | exact H
       have Ny306 := Aside0.mk hy306
       clear hy306
       obtain rfl := Option.some.inj H
       have p27 : 0 ≤ (0 : Int) := (by omega)
       have q27 : (0 : Int) < ((x5_1.length : Int) : Int) := of_decide_eq_true (by first | (with_reducible assumption) | assumption)
       have qi27 : (0 < x5_1.length) = True := eq_true (by omega)
       obtain ⟨go27, co27, eo27, gb27, gl27, cl27, HG27⟩ := Kd.R_form HO_5.out (by omega)
       (first | cases eo27 | (injection eo27 with ea_ en_ ec_; (first | subst ea_ | (injection ea_ with ea_; subst ea_)); subst ec_; clear en_))
       have GB27 := Aside0.mk gb27
       have GG27 := Aside0.mk HG27
       clear gb27 gl27 HG27
       obtain ⟨hx27_0, hf27_0⟩ := Kd.R_celln 0 HO_5.out (0 : Int) p27 q27
       (try rw [show ((0 : Int)).toNat = 0 from rfl] at hx27_0)
       (try simp only [Nat.reduceMul, Nat.zero_mul, Nat.zero_add, Nat.reduceAdd] at hx27_0)
       (try rw [show ((0 : Int)).toNat = 0 from rfl] at hf27_0)
       (try simp only [Nat.reduceMul, Nat.zero_mul, Nat.zero_add, Nat.reduceAdd] at hf27_0)
       replace p27 := eq_true p27
       replace q27 := eq_true q27
       have HP28 := Kd.R_putg HO_5.out (0 : Int) jn25
       go_wp2_with (first | ((with_reducible refine gate_store (t := 5) (p := 43) rfl ?_); refine store_event (t := 5) (p := 43) (v := ?vo_w29) (w1 := (wr.setCell ⟨go27, (0 : Int).toNat, none⟩ (.int .u8 jn25))) ?hg ?ho ?hn ?hr ?_; (case ho => rfl); (case hg => rfl); (case hn => rfl); (case hr => first | (go_simp; done) | (go_simp; rfl)); intro w29 hw; have hg : wr.grownBy w29 (some go27) := (by rw [hw]; exact HP28.2); have hp_ : Kd.R (Kd.int .u8) 5 w29 w.heap.size (fun _ => True) (.slice (some ⟨go27, 0, none⟩) x5_1.length co27) y306 := (by rw [hw, Ny306.out]; exact HP28.1); clear HP28; have n0_ := Aside0.mk (hp_); have n1_ := Aside0.mk ((by rw [hw]; exact below_set (HB.out) GB27.out : Below w.heap.size w w29)); clear HO_5; clear HB; have HO_5 := n0_; have HB := n1_; clear n0_ n1_; clear hg hw hp_; have hcv30 := own_string (P := Tryd.prog) Tryd.underlying29 Tryd.underlying5 Tryd.underlying9 (Kd.own_of_R HO_5.out)))
       go_ret
       exact ⟨by first | rfl | (simp [errW_none, errW_some] <;> rfl) | (simp only [← hji3, ← hjn25]; first | rfl | (simp [errW_none, errW_some] <;> rfl)) | (simp [*, errW_none, errW_some] <;> rfl), by repeat (first | (with_reducible first | exact HB.out | apply below_alloc | apply pw_below_drewN | apply below_drew1) | exact HB.out)⟩
      ·rw [if_neg c26] at H
       exact absurd H (by simp)
  ·rw [if_neg c5] at H
   exact absurd H (by simp)
 ·rw [if_neg c4] at H
  exact absurd H (by simp)

/-! ### impl_minusDigits: function 60 -/
def impl_minusDigits.l0 : Nat → ByteArray → ByteArray → List Int → Int → Int → Option (ByteArray)
 | 0, _, _, _, _, _ => none
 | k + 1, x0, x1, x5, x6, x7 => if x7 ≥ 0 then (if 0 ≤ x7 then (if x7 < (x0.size : Int) then (if x7 < (x1.size : Int) then (if x7 < (x5.length : Int) then (impl_minusDigits.l0 k x0 x1 (x5.set (x7 : Int).toNat (48 + (((((((10 + (bt x0 x7)) % 256) - (bt x1 x7)) % 256) - x6) % 256) % 10))) ((1 - (((((((10 + (bt x0 x7)) % 256) - (bt x1 x7)) % 256) - x6) % 256) / 10)) % 256) (wrap64 (x7 - 1))) else (none)) else (none)) else (none)) else (none)) else (some (strOfNums x5))
def impl_minusDigits.f (k : Nat) (a0 : ByteArray) (a1 : ByteArray) : Option (ByteArray) := if 0 ≤ (a0.size : Int) then (if ((a0.size : Int) : Int).toNat ≤ 281474976710656 then (impl_minusDigits.l0 k a0 a1 (List.replicate ((a0.size : Int) : Int).toNat 0) 0 (wrap64 ((a0.size : Int) - 1))) else (none)) else (none)
def impl_minusDigits.T5 : Bool × List (List Nat × List Nat) := (true, [([], []), ([], []), ([0, 1], [0, 1]), ([2], [2]), ([], []), ([], []), ([4, 5], [4, 5]), ([3, 6], [3, 6]), ([], []), ([7, 8], [7, 8]), ([9, 0, 1, 2, 3, 4, 5, 6, 7, 8, 9], [9])])
def impl_minusDigits.B5 : List Nat := [0, 0, 3, 7, 0, 0, 48, 127, 0, 511, 1023]
theorem impl_minusDigits.tab5 : rtab .any (opsOf Tryd.f60 5) = impl_minusDigits.T5 := by kernel_rfl
theorem impl_minusDigits.bits5 : waitsOk impl_minusDigits.T5.2 impl_minusDigits.B5 = true := by kernel_rfl
set_option maxHeartbeats 8000000 in
set_option maxRecDepth 100000 in
theorem impl_minusDigits.calls (k : Nat) (a0 : ByteArray) (a1 : ByteArray) (r : ByteArray) (w : World) (h : impl_minusDigits.f k a0 a1 = some r) :
  Calls Tryd.prog 60 #[.string a0, .string a1] w fun e w' => e = .returned (.string r) ∧ Below w.heap.size w w' := by
 have HB := Aside0.mk (Below.refl w.heap.size w)
 have H : (if 0 ≤ (a0.size : Int) then (if ((a0.size : Int) : Int).toNat ≤ 281474976710656 then (impl_minusDigits.l0 k a0 a1 (List.replicate ((a0.size : Int) : Int).toNat 0) 0 (wrap64 ((a0.size : Int) - 1))) else (none)) else (none)) = some r := h
 clear h
 by_cases c3 : 0 ≤ (a0.size : Int)
 ·rw [if_pos c3] at H
  have c3b0 := eq_true c3
  have c3b1 : decide (0 ≤ (a0.size : Int)) = true := decide_eq_true c3
  clear c3
  by_cases c4 : ((a0.size : Int) : Int).toNat ≤ 281474976710656
  ·rw [if_pos c4] at H
   have c4b0 := eq_true c4
   have c4b1 : decide (((a0.size : Int) : Int).toNat ≤ 281474976710656) = true := decide_eq_true c4
   clear c4
   obtain ⟨y307, hy307⟩ : ∃ y_ : List Int, y_ = (List.replicate ((a0.size : Int) : Int).toNat 0) := ⟨_, rfl⟩
   replace H : (impl_minusDigits.l0 k a0 a1 y307 0 (wrap64 ((a0.size : Int) - 1))) = some r := by first | (rw [hy307]; with_reducible exact H) | (have H2_ := (Option.bind_some _ _).symm.trans H; rw [hy307]; with_reducible exact H2_) | (have H2_ := (Option.bind_some _ _).symm.trans H; with_reducible exact H2_) | with_reducible exact H | (rw [hy307]; exact H) | exact H
   have Ny307 := Aside0.mk hy307
   clear hy307
   have H' := Aside0.mk H
   clear H
   go_enter Tryd.func60, Tryd.ntmps60
   go_wp2_with (first | ((with_reducible refine gate_dst (N := 11) rfl ?_); refine Kd.R_make (Kd.int .u8) _ 5 rfl (N := 11) rfl 29 _ _ rfl (a0.size : Int) rfl rfl Tryd.underlying29 (.int .u8 0) 1 info5 rfl (by decide) (by omega) 0 (ok := fun _ => True) (okp := fun _ => True) rfl (fun _ hk => hk) trivial (of_decide_eq_true (by first | (with_reducible assumption) | assumption)) (Nat.le_trans (Nat.mul_le_mul_right _ (of_decide_eq_true (by first | (with_reducible assumption) | assumption) : (a0.size : Int).toNat ≤ 281474976710656)) (by omega)) (Below.refl _ _) (Nat.le_refl _) ?_; intro v308 w5 ho6 hb hg_ hnew_; clear hg_ hnew_; (first | rw [← Ny307.out] at ho6 | (simp only [Int.reduceToNat] at ho6; rw [← Ny307.out] at ho6)); have n0_ := Aside0.mk (Kd.R_lower ho6 (below_size (by repeat (first | (with_reducible first | exact HB.out | apply below_alloc | apply pw_below_drewN | apply below_drew1) | exact HB.out)))); have n1_ := Aside0.mk (below_step (by repeat (first | (with_reducible first | exact HB.out | apply below_alloc | apply pw_below_drewN | apply below_drew1) | exact HB.out)) hb); clear HB; have HO309 := n0_; have HB := n1_; clear n0_ n1_; clear hb ho6))
   go_loopg [6, 7] k (fun kq v6 v7 w' => ∃ (x5_1 : List Int) (x6_1 : Int) (x7_1 : Int), v6 = .int .u8 x6_1 ∧ v7 = .int .i64 x7_1 ∧ Aside0 (impl_minusDigits.l0 kq a0 a1 x5_1 x6_1 x7_1 = some r) ∧ Aside0 (kq ≤ k) ∧ Aside0 (Kd.R (Kd.int .u8) 5 w' w.heap.size (fun _ => True) v308 x5_1) ∧ Aside0 (Below w.heap.size w w'))
   case atStart => exact ⟨(y307), (0), (wrap64 ((a0.size : Int) - 1)), (by first | rfl | (simp; done) | (simp [*]; done)), (by first | rfl | (simp; done) | (simp [*]; done)), H', ⟨Nat.le_refl _⟩, ⟨by (with_reducible repeat (first | apply Kd.R_alloc | apply Kd.R_drewN | apply Kd.R_drew)); exact HO309.out⟩, ⟨by repeat (first | (with_reducible first | exact HB.out | apply below_alloc | apply pw_below_drewN | apply below_drew1) | exact HB.out)⟩⟩
   case round =>
    clear H'
    try clear p2
    try clear c3
    try clear c3b0
    try clear c3b1
    try clear c4
    try clear c4b0
    try clear c4b1
    try clear c6
    try clear p6
    obtain ⟨x5_1, x6_1, x7_1, rfl, rfl, HA, HK1, HO_5, HB⟩ := hrel
    cases gk with
    | zero => exact absurd HA.out (by simp [impl_minusDigits.l0])
    | succ k1 =>
     have H := HA.out
     clear HA
     simp only [impl_minusDigits.l0] at H
     by_cases c7 : x7_1 ≥ 0
     ·rw [if_pos c7] at H
      have c7b0 : decide (0 ≤ x7_1) = true := decide_eq_true c7
      clear c7
      by_cases c8 : 0 ≤ x7_1
      ·rw [if_pos c8] at H
       have c8b0 : decide (0 ≤ x7_1) = true := decide_eq_true c8
       clear c8
       by_cases c9 : x7_1 < (a0.size : Int)
       ·rw [if_pos c9] at H
        have c9b0 : decide (x7_1 < (a0.size : Int)) = true := decide_eq_true c9
        clear c9
        obtain ⟨jn11, hjn11⟩ : ∃ s_ : Int, ((10 + (bt a0 x7_1)) % 256) = s_ := ⟨_, rfl⟩
        have hjn11l : 0 ≤ jn11 := by rw [← hjn11]; exact Int.emod_nonneg _ (by decide)
        have hjn11h : jn11 < 256 := by rw [← hjn11]; exact Int.emod_lt_of_pos _ (by decide)
        replace H : (if x7_1 < (a1.size : Int) then (if x7_1 < (x5_1.length : Int) then (impl_minusDigits.l0 k1 a0 a1 (x5_1.set (x7_1 : Int).toNat (48 + (((((jn11 - (bt a1 x7_1)) % 256) - x6_1) % 256) % 10))) ((1 - (((((jn11 - (bt a1 x7_1)) % 256) - x6_1) % 256) / 10)) % 256) (wrap64 (x7_1 - 1))) else (none)) else (none)) = some r := by first | (rw [hjn11] at H; exact H) | (simp only [hjn11] at H ⊢; exact H) | exact H
        by_cases c12 : x7_1 < (a1.size : Int)
        ·rw [if_pos c12] at H
         have c12b0 : decide (x7_1 < (a1.size : Int)) = true := decide_eq_true c12
         clear c12
         obtain ⟨jn14, hjn14⟩ : ∃ s_ : Int, ((jn11 - (bt a1 x7_1)) % 256) = s_ := ⟨_, rfl⟩
         have hjn14l : 0 ≤ jn14 := by rw [← hjn14]; exact Int.emod_nonneg _ (by decide)
         have hjn14h : jn14 < 256 := by rw [← hjn14]; exact Int.emod_lt_of_pos _ (by decide)
         replace H : (if x7_1 < (x5_1.length : Int) then (impl_minusDigits.l0 k1 a0 a1 (x5_1.set (x7_1 : Int).toNat (48 + (((jn14 - x6_1) % 256) % 10))) ((1 - (((jn14 - x6_1) % 256) / 10)) % 256) (wrap64 (x7_1 - 1))) else (none)) = some r := by first | (rw [hjn14] at H; exact H) | (simp only [hjn14] at H ⊢; exact H) | exact H
         obtain ⟨jn15, hjn15⟩ : ∃ s_ : Int, ((jn14 - x6_1) % 256) = s_ := ⟨_, rfl⟩
         have hjn15l : 0 ≤ jn15 := by rw [← hjn15]; exact Int.emod_nonneg _ (by decide)
         have hjn15h : jn15 < 256 := by rw [← hjn15]; exact Int.emod_lt_of_pos _ (by decide)
         replace H : (if x7_1 < (x5_1.length : Int) then (impl_minusDigits.l0 k1 a0 a1 (x5_1.set (x7_1 : Int).toNat (48 + (jn15 % 10))) ((1 - (jn15 / 10)) % 256) (wrap64 (x7_1 - 1))) else (none)) = some r := by first | (rw [hjn15] at H; exact H) | (simp only [hjn15] at H ⊢; exact H) | exact H
         obtain ⟨jn16, hjn16⟩ : ∃ s_ : Int, ((1 - (jn15 / 10)) % 256) = s_ := ⟨_, rfl⟩
         have hjn16l : 0 ≤ jn16 := by rw [← hjn16]; exact Int.emod_nonneg _ (by decide)
         have hjn16h : jn16 < 256 := by rw [← hjn16]; exact Int.emod_lt_of_pos _ (by decide)
         replace H : (if x7_1 < (x5_1.length : Int) then (impl_minusDigits.l0 k1 a0 a1 (x5_1.set (x7_1 : Int).toNat (48 + (jn15 % 10))) jn16 (wrap64 (x7_1 - 1))) else (none)) = some r := by first | (rw [hjn16] at H; exact H) | (simp only [hjn16] at H ⊢; exact H) | exact H
         by_cases c17 : x7_1 < (x5_1.length : Int)
         ·rw [if_pos c17] at H
          have c17b0 : decide (x7_1 < (x5_1.length : Int)) = true := decide_eq_true c17
          clear c17
          obtain ⟨y310, hy310⟩ : ∃ y_ : List Int, y_ = (x5_1.set (x7_1 : Int).toNat (48 + (jn15 % 10))) := ⟨_, rfl⟩
          replace H : (impl_minusDigits.l0 k1 a0 a1 y310 jn16 (wrap64 (x7_1 - 1))) = some r := by first | (rw [hy310]; with_reducible exact H) | (have H2_ := (Option.bind_some _ _).symm.trans H; rw [hy310]; with_reducible exact H2_) | (have H2_ := (Option.bind_some _ _).symm.trans H; with_reducible exact H2_) | with_reducible exact H | (rw [hy310]; exact H) | exact H
          have Ny310 := Aside0.mk hy310
          clear hy310
          have H' := Aside0.mk H
          clear H
          try go_wp2
          have n0_ := Aside0.mk (Kd.R_drew HO_5.out)
          have n1_ := Aside0.mk (below_drew1 HB.out)
          clear HO_5
          clear HB
          have HO_5 := n0_
          have HB := n1_
          clear n0_ n1_
          have p10 : 0 ≤ (x7_1 : Int) := of_decide_eq_true (by first | (with_reducible assumption) | assumption)
          have q10 : x7_1 < (a0.size : Int) := of_decide_eq_true (by first | (with_reducible assumption) | assumption)
          have hx10 := bt_at a0 x7_1
          replace p10 := eq_true p10
          replace q10 := eq_true q10
          have p13 : 0 ≤ (x7_1 : Int) := of_decide_eq_true (by first | (with_reducible assumption) | assumption)
          have q13 : x7_1 < (a1.size : Int) := of_decide_eq_true (by first | (with_reducible assumption) | assumption)
          have hx13 := bt_at a1 x7_1
          replace p13 := eq_true p13
          replace q13 := eq_true q13
          refine start_ (n := 11) (S := fun w' => True) (ds := []) #[false, false, false, false, false, false, false, false, false, false, false] (by kernel_rfl) rfl rfl trivial (fun hHeld => ?_); refine with_tabW impl_minusDigits.tab5 impl_minusDigits.bits5 (fun HT_ HW_ => ?_)
          generalize wr.drew = w19 at HO_5 HB hHeld ⊢
          refine pure_ (i := 0) (N := some 19) (v := ?_) (a' := ?_) #[true, false, false, false, false, false, false, false, false, false, false] rfl rfl (any_of HT_.out (by kernel_rfl)) (fun _ _ _ h => h) (Or.inl ⟨by rfl, ?_⟩) ?_ ?_
          rotate_left
          ·intro w'
           go_simp
           with_reducible rfl
          rotate_left
          ·simp only [Act.put, List.setIfInBounds_toArray, List.set_cons_zero, List.set_cons_succ, i64_w, i32_w]
           rfl
          refine pure_ (i := 1) (N := some 20) (v := ?_) (a' := ?_) #[true, true, false, false, false, false, false, false, false, false, false] rfl rfl (any_of HT_.out (by kernel_rfl)) (fun _ _ _ h => h) (Or.inl ⟨by rfl, ?_⟩) ?_ ?_
          rotate_left
          ·intro w'
           go_simp
           with_reducible rfl
          rotate_left
          ·simp only [Act.put, List.setIfInBounds_toArray, List.set_cons_zero, List.set_cons_succ, i64_w, i32_w]
           rfl
          refine pure_ (i := 4) (N := some 23) (v := ?_) (a' := ?_) #[true, true, false, false, true, false, false, false, false, false, false] rfl rfl (any_of HT_.out (by kernel_rfl)) (fun _ _ _ h => h) (Or.inl ⟨by rfl, ?_⟩) ?_ ?_
          rotate_left
          ·intro w'
           go_simp
           with_reducible rfl
          rotate_left
          ·simp only [Act.put, List.setIfInBounds_toArray, List.set_cons_zero, List.set_cons_succ, i64_w, i32_w]
           rfl
          refine pure_ (i := 5) (N := some 24) (v := ?_) (a' := ?_) #[true, true, false, false, true, true, false, false, false, false, false] rfl rfl (any_of HT_.out (by kernel_rfl)) (fun _ _ _ h => h) (Or.inl ⟨by rfl, ?_⟩) ?_ ?_
          rotate_left
          ·intro w'
           go_simp
           with_reducible rfl
          rotate_left
          ·simp only [Act.put, List.setIfInBounds_toArray, List.set_cons_zero, List.set_cons_succ, i64_w, i32_w]
           rfl
          refine pure_ (i := 8) (N := some 27) (v := ?_) (a' := ?_) #[true, true, false, false, true, true, false, false, true, false, false] rfl rfl (any_of HT_.out (by kernel_rfl)) (fun _ _ _ h => h) (Or.inl ⟨by rfl, ?_⟩) ?_ ?_
          rotate_left
          ·intro w'
           go_simp
           with_reducible rfl
          rotate_left
          ·simp only [Act.put, List.setIfInBounds_toArray, List.set_cons_zero, List.set_cons_succ, i64_w, i32_w]
           rfl
          refine take_ (i := 2) (N := some 21) (v := ?_) (a' := ?_) #[true, true, true, false, true, true, false, false, true, false, false] rfl rfl (take_ofW HT_.out HW_.out (by kernel_rfl)) (fun _ _ _ h => h) (Or.inl ⟨by rfl, ?_⟩) hHeld ?_ ?_
          rotate_left
          ·intro w' _
           go_simp
           with_reducible rfl
          rotate_left
          ·simp only [Act.put, List.setIfInBounds_toArray, List.set_cons_zero, List.set_cons_succ, i64_w, i32_w]
           rfl
          refine pure_ (i := 3) (N := some 22) (v := ?_) (a' := ?_) #[true, true, true, true, true, true, false, false, true, false, false] rfl rfl (any_of HT_.out (by kernel_rfl)) (fun _ _ _ h => h) (Or.inl ⟨by rfl, ?_⟩) ?_ ?_
          rotate_left
          ·intro w'
           go_simp
           with_reducible rfl
          rotate_left
          ·simp only [Act.put, List.setIfInBounds_toArray, List.set_cons_zero, List.set_cons_succ, i64_w, i32_w]
           rfl
          refine take_ (i := 6) (N := some 25) (v := ?_) (a' := ?_) #[true, true, true, true, true, true, true, false, true, false, false] rfl rfl (take_ofW HT_.out HW_.out (by kernel_rfl)) (fun _ _ _ h => h) (Or.inl ⟨by rfl, ?_⟩) hHeld ?_ ?_
          rotate_left
          ·intro w' _
           go_simp
           with_reducible rfl
          rotate_left
          ·simp only [Act.put, List.setIfInBounds_toArray, List.set_cons_zero, List.set_cons_succ, i64_w, i32_w]
           rfl
          refine pure_ (i := 7) (N := some 26) (v := ?_) (a' := ?_) #[true, true, true, true, true, true, true, true, true, false, false] rfl rfl (any_of HT_.out (by kernel_rfl)) (fun _ _ _ h => h) (Or.inl ⟨by rfl, ?_⟩) ?_ ?_
          rotate_left
          ·intro w'
           go_simp
           with_reducible rfl
          rotate_left
          ·simp only [Act.put, List.setIfInBounds_toArray, List.set_cons_zero, List.set_cons_succ, i64_w, i32_w]
           rfl
          refine pure_ (i := 9) (N := some 28) (v := ?_) (a' := ?_) #[true, true, true, true, true, true, true, true, true, true, false] rfl rfl (any_of HT_.out (by kernel_rfl)) (fun _ _ _ h => h) (Or.inl ⟨by rfl, ?_⟩) ?_ ?_
          rotate_left
          ·intro w'
           go_simp
           with_reducible rfl
          rotate_left
          ·simp only [Act.put, List.setIfInBounds_toArray, List.set_cons_zero, List.set_cons_succ, i64_w, i32_w]
           rfl
          refine pure_ (i := 10) (N := some 8) (v := ?_) (a' := ?_) #[true, true, true, true, true, true, true, true, true, true, true] rfl rfl (any_of HT_.out (by kernel_rfl)) (fun _ _ _ h => h) (Or.inl ⟨by rfl, ?_⟩) ?_ ?_
          rotate_left
          ·intro w'
           go_simp
           with_reducible rfl
          rotate_left
          ·simp only [Act.put, List.setIfInBounds_toArray, List.set_cons_zero, List.set_cons_succ, i64_w, i32_w]
           rfl
          refine done_ (done_of HT_.out (by kernel_rfl)) ?_
          have p18 : 0 ≤ (x7_1 : Int) := of_decide_eq_true (by first | (with_reducible assumption) | assumption)
          have q18 : (x7_1 : Int) < ((x5_1.length : Int) : Int) := of_decide_eq_true (by first | (with_reducible assumption) | assumption)
          obtain ⟨go18, co18, eo18, gb18, gl18, cl18, HG18⟩ := Kd.R_form HO_5.out (by omega)
          (first | cases eo18 | (injection eo18 with ea_ en_ ec_; (first | subst ea_ | (injection ea_ with ea_; subst ea_)); subst ec_; clear en_))
          have GB18 := Aside0.mk gb18
          have GG18 := Aside0.mk HG18
          clear gb18 gl18 HG18
          obtain ⟨hx18_0, hf18_0⟩ := Kd.R_celln 0 HO_5.out (x7_1 : Int) p18 q18
          replace p18 := eq_true p18
          replace q18 := eq_true q18
          obtain ⟨hy20_, hz20_⟩ := Kd.R_celln 0 HO_5.out (x7_1 : Int) (of_decide_eq_true (by first | (with_reducible assumption) | assumption)) (of_decide_eq_true (by first | (with_reducible assumption) | assumption))
          have HP20 := Kd.R_putg HO_5.out (x7_1 : Int) (48 + (jn15 % 10))
          try go_wp2_with (first | ((with_reducible refine gate_store (t := 5) (p := 37) rfl ?_); refine store_event (t := 5) (p := 37) (v := ?vo_w21) (w1 := (w19.setCell ⟨go18, (x7_1 : Int).toNat, none⟩ (.int .u8 (48 + (jn15 % 10))))) ?hg ?ho ?hn ?hr ?_; (case ho => rfl); (case hg => rfl); (case hn => rfl); (case hr => first | (go_simp; done) | (go_simp; rfl)); intro w21 hw; have hg : w19.grownBy w21 (some go18) := (by rw [hw]; exact HP20.2); have hp_ : Kd.R (Kd.int .u8) 5 w21 w.heap.size (fun _ => True) (.slice (some ⟨go18, 0, none⟩) x5_1.length co18) y310 := (by rw [hw, Ny310.out]; exact HP20.1); clear HP20; have n0_ := Aside0.mk (hp_); have n1_ := Aside0.mk ((by rw [hw]; exact below_set (HB.out) GB18.out : Below w.heap.size w w21)); clear HO_5; clear HB; have HO_5 := n0_; have HB := n1_; clear n0_ n1_; clear hg hw hp_))
          go_roundg k1
          case measure => have := HK1.out; omega
          case rel => exact ⟨(y310), (jn16), (wrap64 (x7_1 - 1)), (by first | rfl | (simp; done) | (refine congrArg (Value.int _) ?_; (try rw [Int.tdiv_eq_ediv_of_nonneg (by omega)]); omega) | (simp only [← hjn16] <;> (first | rfl | simp)) | (simp [*]; done)), (by first | rfl | (simp; done) | (refine congrArg (Value.int _) ?_; (try rw [Int.tdiv_eq_ediv_of_nonneg (by omega)]); omega) | (simp [*]; done)), H', ⟨by have := HK1.out; omega⟩, ⟨by (with_reducible repeat (first | apply Kd.R_alloc | apply Kd.R_drewN | apply Kd.R_drew)); exact HO_5.out⟩, ⟨by repeat (first | (with_reducible first | exact HB.out | apply below_alloc | apply pw_below_drewN | apply below_drew1) | exact HB.out)⟩⟩
         ·rw [if_neg c17] at H
          exact absurd H (by simp)
        ·rw [if_neg c12] at H
         exact absurd H (by simp)
       ·rw [if_neg c9] at H
        exact absurd H (by simp)
      ·rw [if_neg c8] at H
       exact absurd H (by simp)
     ·rw [if_neg c7] at H
      have c7b0 : decide (0 ≤ x7_1) = false := decide_eq_false c7
      clear c7
      obtain rfl := Option.some.inj H
      have hcv22 := own_string (P := Tryd.prog) Tryd.underlying29 Tryd.underlying5 Tryd.underlying9 (Kd.own_of_R HO_5.out)
      go_wp2
      go_ret
      exact ⟨by first | rfl | (simp [errW_none, errW_some] <;> rfl) | (simp [*, errW_none, errW_some] <;> rfl), by repeat (first | (with_reducible first | exact HB.out | apply below_alloc | apply pw_below_drewN | apply below_drew1) | exact HB.out)⟩
  ·rw [if_neg c4] at H
   exact absurd H (by simp)
 ·rw [if_neg c3] at H
  exact absurd H (by simp)

/-! ### impl_AddDec: function 20 -/
def impl_AddDec.j0 : Nat → Bool → Bool → ByteArray → Int → Bool → ByteArray → Int → Option (Bool × ByteArray × Int × Bool)
 | 0, _, _, _, _, _, _, _ => none
 | k + 1, x16, x312000, x312001, x312002, x313000, x313001, x313002 => if x16 = true then (some (false, (⟨#[]⟩ : ByteArray), 0, false)) else ((impl_level.f x312000 x312001 x312002 x313000 x313001 x313002).bind fun bt316 => (if (x312000 == x313000) = true then ((impl_plusDigits.f k bt316.1 bt316.2.1).bind fun t319 => ((impl_made.f k x312000 t319 bt316.2.2).bind fun bt320 => (some (bt320.1, bt320.2.1, bt320.2.2.1, bt320.2.2.2)))) else (if ((Op.bytesLess bt316.1.toList bt316.2.1.toList) = true) then ((impl_minusDigits.f k bt316.2.1 bt316.1).bind fun t324 => ((impl_made.f k x313000 t324 bt316.2.2).bind fun bt325 => (some (bt325.1, bt325.2.1, bt325.2.2.1, bt325.2.2.2)))) else ((impl_minusDigits.f k bt316.1 bt316.2.1).bind fun t329 => ((impl_made.f k x312000 t329 bt316.2.2).bind fun bt330 => (some (bt330.1, bt330.2.1, bt330.2.2.1, bt330.2.2.2)))))))
def impl_AddDec.f (k : Nat) (a0_0 : Bool) (a0_1 : ByteArray) (a0_2 : Int) (a1_0 : Bool) (a1_1 : ByteArray) (a1_2 : Int) : Option (Bool × ByteArray × Int × Bool) := (impl_DecOk.f a0_0 a0_1 a0_2).bind fun t314 => (if t314 = true then ((impl_DecOk.f a1_0 a1_1 a1_2).bind fun t315 => (impl_AddDec.j0 k (!t315) a0_0 a0_1 a0_2 a1_0 a1_1 a1_2)) else (impl_AddDec.j0 k true a0_0 a0_1 a0_2 a1_0 a1_1 a1_2))
def impl_AddDec.T5 : Bool × List (List Nat × List Nat) := (true, [([], []), ([0], [0]), ([], []), ([], []), ([2, 3], [2, 3]), ([], []), ([1, 4, 5, 4], [1, 4, 5]), ([6], [6]), ([6], [6]), ([7, 6, 0, 1, 2, 3, 4, 5, 6, 7, 8], [7]), ([8, 9, 0, 1, 2, 3, 4, 5, 6, 7, 8, 9], [8])])
def impl_AddDec.B5 : List Nat := [0, 1, 0, 0, 12, 0, 63, 127, 127, 511, 1023]
theorem impl_AddDec.tab5 : rtab .any (opsOf Tryd.f20 5) = impl_AddDec.T5 := by kernel_rfl
theorem impl_AddDec.bits5 : waitsOk impl_AddDec.T5.2 impl_AddDec.B5 = true := by kernel_rfl
def impl_AddDec.T7 : Bool × List (List Nat × List Nat) := (true, [([], []), ([0], [0]), ([], []), ([], []), ([2, 3], [2, 3]), ([], []), ([1, 4, 5, 4], [1, 4, 5]), ([6], [6]), ([6], [6]), ([7, 6, 0, 1, 2, 3, 4, 5, 6, 7, 8], [7]), ([8, 9, 0, 1, 2, 3, 4, 5, 6, 7, 8, 9], [8])])
def impl_AddDec.B7 : List Nat := [0, 1, 0, 0, 12, 0, 63, 127, 127, 511, 1023]
theorem impl_AddDec.tab7 : rtab .any (opsOf Tryd.f20 7) = impl_AddDec.T7 := by kernel_rfl
theorem impl_AddDec.bits7 : waitsOk impl_AddDec.T7.2 impl_AddDec.B7 = true := by kernel_rfl
def impl_AddDec.T8 : Bool × List (List Nat × List Nat) := (true, [([], []), ([0], [0]), ([], []), ([], []), ([2, 3], [2, 3]), ([], []), ([1, 4, 5, 4], [1, 4, 5]), ([6], [6]), ([6], [6]), ([7, 6, 0, 1, 2, 3, 4, 5, 6, 7, 8], [7]), ([8, 9, 0, 1, 2, 3, 4, 5, 6, 7, 8, 9], [8])])
def impl_AddDec.B8 : List Nat := [0, 1, 0, 0, 12, 0, 63, 127, 127, 511, 1023]
theorem impl_AddDec.tab8 : rtab .any (opsOf Tryd.f20 8) = impl_AddDec.T8 := by kernel_rfl
theorem impl_AddDec.bits8 : waitsOk impl_AddDec.T8.2 impl_AddDec.B8 = true := by kernel_rfl
set_option maxHeartbeats 8000000 in
set_option maxRecDepth 100000 in
theorem impl_AddDec.calls (k : Nat) (a0_0 : Bool) (a0_1 : ByteArray) (a0_2 : Int) (a1_0 : Bool) (a1_1 : ByteArray) (a1_2 : Int) (r1 : Bool) (r2 : ByteArray) (r3 : Int) (r4 : Bool) (w : World) (h : impl_AddDec.f k a0_0 a0_1 a0_2 a1_0 a1_1 a1_2 = some (r1, r2, r3, r4)) :
  Calls Tryd.prog 20 #[.agg #[.bool a0_0, .string a0_1, .int .i64 a0_2], .agg #[.bool a1_0, .string a1_1, .int .i64 a1_2]] w fun e w' => e = .returned (.tuple #[.agg #[.bool r1, .string r2, .int .i64 r3], .bool r4]) ∧ Below w.heap.size w w' := by
 have hu26 := Tryd.underlying26
 have HB := Aside0.mk (Below.refl w.heap.size w)
 have H : ((impl_DecOk.f a0_0 a0_1 a0_2).bind fun t314 => (if t314 = true then ((impl_DecOk.f a1_0 a1_1 a1_2).bind fun t315 => (impl_AddDec.j0 k (!t315) a0_0 a0_1 a0_2 a1_0 a1_1 a1_2)) else (impl_AddDec.j0 k true a0_0 a0_1 a0_2 a1_0 a1_1 a1_2))) = some (r1, r2, r3, r4) := h
 clear h
 have HC3 := Aside0.mk H
 clear H
 go_enter Tryd.func20, Tryd.ntmps20
 go_upto_region 1 with (first | ((with_reducible refine gate_dst (N := 2) rfl ?_); refine box_event ?hg (N := 2) ?hd (cs := #[.bool a0_0, .string a0_1, .int .i64 a0_2]) (t := 26) ?hr ?_; (case hd => rfl); (case hg => rfl); (case hr => first | (go_simp; done) | (go_simp; rfl)); intro gb311 hg w4 hbox hb; have n0_ := Aside0.mk (below_step (by repeat (first | (with_reducible first | exact HB.out | apply below_alloc | apply pw_below_drewN | apply below_drew1) | exact HB.out)) hb); have n1_ := Aside0.mk (hbox); have n2_ := Aside0.mk ((by rw [hg]; exact (below_size (by repeat (first | (with_reducible first | exact HB.out | apply below_alloc | apply pw_below_drewN | apply below_drew1) | exact HB.out))) : w.heap.size ≤ gb311)); have n3_ := Aside0.mk ((by rw [hg]; exact (below_size (by repeat (first | (with_reducible first | exact HB.out | apply below_alloc | apply pw_below_drewN | apply below_drew1) | exact HB.out))) : w.heap.size ≤ gb311)); clear HB; have HB := n0_; have BK311 := n1_; have GW311 := n2_; have GE311 := n3_; clear n0_ n1_ n2_ n3_; clear hb hbox hg) | ((with_reducible refine gate_dst (N := 3) rfl ?_); refine box_event ?hg (N := 3) ?hd (cs := #[.bool a1_0, .string a1_1, .int .i64 a1_2]) (t := 26) ?hr ?_; (case hd => rfl); (case hg => rfl); (case hr => first | (go_simp; done) | (go_simp; rfl)); intro gb312 hg w5 hbox hb; have n0_ := Aside0.mk (blk_below (g := gb311) (o := .cells #[.bool a0_0, .string a0_1, .int .i64 a0_2] 26 (0, 0)) (by refine blk_up ?_; exact BK311.out) hb); have n1_ := Aside0.mk (below_step (by repeat (first | (with_reducible first | exact HB.out | apply below_alloc | apply pw_below_drewN | apply below_drew1 | refine below_set ?_ GE311.out) | exact HB.out)) hb); have n2_ := Aside0.mk (hbox); have n3_ := Aside0.mk ((by rw [hg]; exact (below_size (by repeat (first | (with_reducible first | exact HB.out | apply below_alloc | apply pw_below_drewN | apply below_drew1 | refine below_set ?_ GE311.out) | exact HB.out))) : w.heap.size ≤ gb312)); have n4_ := Aside0.mk ((by rw [hg]; exact (below_size (by repeat (first | (with_reducible first | exact HB.out | apply below_alloc | apply pw_below_drewN | apply below_drew1 | refine below_set ?_ GE311.out) | exact HB.out))) : w.heap.size ≤ gb312)); have n5_ := Aside0.mk ((by rw [hg]; exact Nat.ne_of_lt (blk_lt (g := gb311) (o := .cells #[.bool a0_0, .string a0_1, .int .i64 a0_2] 26 (0, 0)) (by refine blk_up ?_; exact BK311.out)) : gb311 ≠ gb312)); have n6_ := Aside0.mk ((by rw [hg]; exact Nat.ne_of_gt (blk_lt (g := gb311) (o := .cells #[.bool a0_0, .string a0_1, .int .i64 a0_2] 26 (0, 0)) (by refine blk_up ?_; exact BK311.out)) : gb312 ≠ gb311)); clear BK311; clear HB; have BK311 := n0_; have HB := n1_; have BK312 := n2_; have GW312 := n3_; have GE312 := n4_; have NB311_312 := n5_; have NB312_311 := n6_; clear n0_ n1_ n2_ n3_ n4_ n5_ n6_; clear hb hbox hg) | ((with_reducible refine gate_dst (N := 4) rfl ?_); refine box_event ?hg (N := 4) ?hd (cs := #[.bool false, .string (⟨#[]⟩ : ByteArray), .int .i64 0]) (t := 26) ?hr ?_; (case hd => rfl); (case hg => rfl); (case hr => first | (go_simp; done) | (go_simp; rfl)); intro gb313 hg w6 hbox hb; have n0_ := Aside0.mk (blk_below (g := gb311) (o := .cells #[.bool a0_0, .string a0_1, .int .i64 a0_2] 26 (0, 0)) (by refine blk_up ?_; exact BK311.out) hb); have n1_ := Aside0.mk (blk_below (g := gb312) (o := .cells #[.bool a1_0, .string a1_1, .int .i64 a1_2] 26 (0, 0)) (by refine blk_up ?_; exact BK312.out) hb); have n2_ := Aside0.mk (below_step (by repeat (first | (with_reducible first | exact HB.out | apply below_alloc | apply pw_below_drewN | apply below_drew1 | refine below_set ?_ GE311.out | refine below_set ?_ GE312.out) | exact HB.out)) hb); have n3_ := Aside0.mk (hbox); have n4_ := Aside0.mk ((by rw [hg]; exact (below_size (by repeat (first | (with_reducible first | exact HB.out | apply below_alloc | apply pw_below_drewN | apply below_drew1 | refine below_set ?_ GE311.out | refine below_set ?_ GE312.out) | exact HB.out))) : w.heap.size ≤ gb313)); have n5_ := Aside0.mk ((by rw [hg]; exact (below_size (by repeat (first | (with_reducible first | exact HB.out | apply below_alloc | apply pw_below_drewN | apply below_drew1 | refine below_set ?_ GE311.out | refine below_set ?_ GE312.out) | exact HB.out))) : w.heap.size ≤ gb313)); have n6_ := Aside0.mk ((by rw [hg]; exact Nat.ne_of_lt (blk_lt (g := gb311) (o := .cells #[.bool a0_0, .string a0_1, .int .i64 a0_2] 26 (0, 0)) (by refine blk_up ?_; exact BK311.out)) : gb311 ≠ gb313)); have n7_ := Aside0.mk ((by rw [hg]; exact Nat.ne_of_gt (blk_lt (g := gb311) (o := .cells #[.bool a0_0, .string a0_1, .int .i64 a0_2] 26 (0, 0)) (by refine blk_up ?_; exact BK311.out)) : gb313 ≠ gb311)); have n8_ := Aside0.mk ((by rw [hg]; exact Nat.ne_of_lt (blk_lt (g := gb312) (o := .cells #[.bool a1_0, .string a1_1, .int .i64 a1_2] 26 (0, 0)) (by refine blk_up ?_; exact BK312.out)) : gb312 ≠ gb313)); have n9_ := Aside0.mk ((by rw [hg]; exact Nat.ne_of_gt (blk_lt (g := gb312) (o := .cells #[.bool a1_0, .string a1_1, .int .i64 a1_2] 26 (0, 0)) (by refine blk_up ?_; exact BK312.out)) : gb313 ≠ gb312)); clear BK311; clear BK312; clear HB; have BK311 := n0_; have BK312 := n1_; have HB := n2_; have BK313 := n3_; have GW313 := n4_; have GE313 := n5_; have NB311_313 := n6_; have NB313_311 := n7_; have NB312_313 := n8_; have NB313_312 := n9_; clear n0_ n1_ n2_ n3_ n4_ n5_ n6_ n7_ n8_ n9_; clear hb hbox hg))
 (try simp only [Act.put, List.setIfInBounds_toArray, List.set_cons_zero, List.set_cons_succ])
 go_cut [16] (fun v16 wc => ∃ (kq : Nat) (x16_2 : Bool), v16 = .bool x16_2 ∧ Aside0 (impl_AddDec.j0 kq x16_2 a0_0 a0_1 a0_2 a1_0 a1_1 a1_2 = some (r1, r2, r3, r4)) ∧ Aside0 (kq ≤ k) ∧ Aside0 (wc.heap[gb311]? = some (.cells #[.bool a0_0, .string a0_1, .int .i64 a0_2] 26 (0, 0))) ∧ Aside0 (wc.heap[gb312]? = some (.cells #[.bool a1_0, .string a1_1, .int .i64 a1_2] 26 (0, 0))) ∧ Aside0 (wc.heap[gb313]? = some (.cells #[.bool false, .string (⟨#[]⟩ : ByteArray), .int .i64 0] 26 (0, 0))) ∧ Aside0 (Below w.heap.size w wc))
 case first =>
  have H := HC3.out
  clear HC3
  replace H := Option.bind_eq_some_iff.mp H
  obtain ⟨t314, A70, H⟩ := H
  replace H : (if t314 = true then ((impl_DecOk.f a1_0 a1_1 a1_2).bind fun t315 => (impl_AddDec.j0 k (!t315) a0_0 a0_1 a0_2 a1_0 a1_1 a1_2)) else (impl_AddDec.j0 k true a0_0 a0_1 a0_2 a1_0 a1_1 a1_2)) = some (r1, r2, r3, r4) := H
  have A7 := Aside0.mk A70
  clear A70
  by_cases c8 : t314 = true
  ·subst c8
   have H1 : ((impl_DecOk.f a1_0 a1_1 a1_2).bind fun t315 => (impl_AddDec.j0 k (!t315) a0_0 a0_1 a0_2 a1_0 a1_1 a1_2)) = some (r1, r2, r3, r4) := by rw [if_pos rfl] at H; exact H
   clear H
   have H := H1
   clear H1
   replace H := Option.bind_eq_some_iff.mp H
   obtain ⟨t315, A90, H⟩ := H
   replace H : (impl_AddDec.j0 k (!t315) a0_0 a0_1 a0_2 a1_0 a1_1 a1_2) = some (r1, r2, r3, r4) := H
   have A9 := Aside0.mk A90
   clear A90
   have H' := Aside0.mk H
   clear H
   have hnb10 := NB311_312.out
   have hnc10 := NB312_311.out
   have hnb11 := NB311_313.out
   have hnc11 := NB313_311.out
   have hcz12_0 : w6.cell? ⟨gb311, 0, none⟩ = some (.bool a0_0) := (blk_cell BK311.out 0).trans rfl
   have hcz12_1 : w6.cell? ⟨gb311, 1, none⟩ = some (.string a0_1) := (blk_cell BK311.out 1).trans rfl
   have hcz12_2 : w6.cell? ⟨gb311, 2, none⟩ = some (.int .i64 a0_2) := (blk_cell BK311.out 2).trans rfl
   have hfz12_0 := blk_frozen BK311.out 0
   have hfz12_1 := blk_frozen BK311.out 1
   have hfz12_2 := blk_frozen BK311.out 2
   go_wp2_with (first | ((with_reducible refine gate_callee (f := 27) rfl ?_); refine goesL_ (some 10) rfl rfl Tryd.func27 (by kernel_rfl) rfl #[.agg #[.bool a0_0, .string a0_1, .int .i64 a0_2]] rfl (by (try simp only [List.map_toArray, List.map_cons, List.map_nil]); first | done | rfl | (simp only [List.length_drop, List.length_take]; rfl)) ?_; (with_reducible refine (impl_DecOk.calls a0_0 a0_1 a0_2 true _ A7.out).mono ?_); rintro e w13 ⟨rfl, hb⟩; refine ⟨_, rfl, ?_⟩; have n0_ := Aside0.mk (blk_below (g := gb311) (o := .cells #[.bool a0_0, .string a0_1, .int .i64 a0_2] 26 (0, 0)) (by refine blk_up ?_; exact BK311.out) hb); have n1_ := Aside0.mk (blk_below (g := gb312) (o := .cells #[.bool a1_0, .string a1_1, .int .i64 a1_2] 26 (0, 0)) (by refine blk_up ?_; exact BK312.out) hb); have n2_ := Aside0.mk (blk_below (g := gb313) (o := .cells #[.bool false, .string (⟨#[]⟩ : ByteArray), .int .i64 0] 26 (0, 0)) (by refine blk_up ?_; exact BK313.out) hb); have n3_ := Aside0.mk (below_step (by repeat (first | (with_reducible first | exact HB.out | apply below_alloc | apply pw_below_drewN | apply below_drew1 | refine below_set ?_ GE311.out | refine below_set ?_ GE312.out | refine below_set ?_ GE313.out) | exact HB.out)) hb); clear BK311; clear BK312; clear BK313; clear HB; have BK311 := n0_; have BK312 := n1_; have BK313 := n2_; have HB := n3_; clear n0_ n1_ n2_ n3_; (try clear hb); (try clear hb2); (try clear hk); (try clear hi); have hnb14 := NB312_313.out; have hnc14 := NB313_312.out; have hcz15_0 : w13.cell? ⟨gb312, 0, none⟩ = some (.bool a1_0) := (blk_cell BK312.out 0).trans rfl; have hcz15_1 : w13.cell? ⟨gb312, 1, none⟩ = some (.string a1_1) := (blk_cell BK312.out 1).trans rfl; have hcz15_2 : w13.cell? ⟨gb312, 2, none⟩ = some (.int .i64 a1_2) := (blk_cell BK312.out 2).trans rfl; have hfz15_0 := blk_frozen BK312.out 0; have hfz15_1 := blk_frozen BK312.out 1; have hfz15_2 := blk_frozen BK312.out 2) | (go_at_call 27; (with_reducible refine (impl_DecOk.calls a1_0 a1_1 a1_2 t315 _ A9.out).mono ?_); rintro e w16 ⟨rfl, hb⟩; have n0_ := Aside0.mk (blk_below (g := gb311) (o := .cells #[.bool a0_0, .string a0_1, .int .i64 a0_2] 26 (0, 0)) (by refine blk_up ?_; exact BK311.out) hb); have n1_ := Aside0.mk (blk_below (g := gb312) (o := .cells #[.bool a1_0, .string a1_1, .int .i64 a1_2] 26 (0, 0)) (by refine blk_up ?_; exact BK312.out) hb); have n2_ := Aside0.mk (blk_below (g := gb313) (o := .cells #[.bool false, .string (⟨#[]⟩ : ByteArray), .int .i64 0] 26 (0, 0)) (by refine blk_up ?_; exact BK313.out) hb); have n3_ := Aside0.mk (below_step (by repeat (first | (with_reducible first | exact HB.out | apply below_alloc | apply pw_below_drewN | apply below_drew1 | refine below_set ?_ GE311.out | refine below_set ?_ GE312.out | refine below_set ?_ GE313.out) | exact HB.out)) hb); clear BK311; clear BK312; clear BK313; clear HB; have BK311 := n0_; have BK312 := n1_; have BK313 := n2_; have HB := n3_; clear n0_ n1_ n2_ n3_; (try clear hb); (try clear hb2); (try clear hk); (try clear hi)))
   go_meet
   case rel => exact ⟨_, (!t315), (by first | rfl | (simp; done) | (simp [*]; done)), H', ⟨by first | omega | exact Nat.le_refl _⟩, ⟨by refine blk_up ?_; exact BK311.out⟩, ⟨by refine blk_up ?_; exact BK312.out⟩, ⟨by refine blk_up ?_; exact BK313.out⟩, ⟨by repeat (first | (with_reducible first | exact HB.out | apply below_alloc | apply pw_below_drewN | apply below_drew1 | refine below_set ?_ GE311.out | refine below_set ?_ GE312.out | refine below_set ?_ GE313.out) | exact HB.out)⟩⟩
  ·replace c8 := Bool.eq_false_iff.mpr c8
   subst c8
   have H1 : (impl_AddDec.j0 k true a0_0 a0_1 a0_2 a1_0 a1_1 a1_2) = some (r1, r2, r3, r4) := by rw [if_neg (show ¬ (false = true) by decide)] at H; exact H
   clear H
   have H := H1
   clear H1
   have H' := Aside0.mk H
   clear H
   have hnb17 := NB311_312.out
   have hnc17 := NB312_311.out
   have hnb18 := NB311_313.out
   have hnc18 := NB313_311.out
   have hcz19_0 : w6.cell? ⟨gb311, 0, none⟩ = some (.bool a0_0) := (blk_cell BK311.out 0).trans rfl
   have hcz19_1 : w6.cell? ⟨gb311, 1, none⟩ = some (.string a0_1) := (blk_cell BK311.out 1).trans rfl
   have hcz19_2 : w6.cell? ⟨gb311, 2, none⟩ = some (.int .i64 a0_2) := (blk_cell BK311.out 2).trans rfl
   have hfz19_0 := blk_frozen BK311.out 0
   have hfz19_1 := blk_frozen BK311.out 1
   have hfz19_2 := blk_frozen BK311.out 2
   go_wp2_with (first | ((with_reducible refine gate_callee (f := 27) rfl ?_); refine goesL_ (some 10) rfl rfl Tryd.func27 (by kernel_rfl) rfl #[.agg #[.bool a0_0, .string a0_1, .int .i64 a0_2]] rfl (by (try simp only [List.map_toArray, List.map_cons, List.map_nil]); first | done | rfl | (simp only [List.length_drop, List.length_take]; rfl)) ?_; (with_reducible refine (impl_DecOk.calls a0_0 a0_1 a0_2 false _ A7.out).mono ?_); rintro e w20 ⟨rfl, hb⟩; refine ⟨_, rfl, ?_⟩; have n0_ := Aside0.mk (blk_below (g := gb311) (o := .cells #[.bool a0_0, .string a0_1, .int .i64 a0_2] 26 (0, 0)) (by refine blk_up ?_; exact BK311.out) hb); have n1_ := Aside0.mk (blk_below (g := gb312) (o := .cells #[.bool a1_0, .string a1_1, .int .i64 a1_2] 26 (0, 0)) (by refine blk_up ?_; exact BK312.out) hb); have n2_ := Aside0.mk (blk_below (g := gb313) (o := .cells #[.bool false, .string (⟨#[]⟩ : ByteArray), .int .i64 0] 26 (0, 0)) (by refine blk_up ?_; exact BK313.out) hb); have n3_ := Aside0.mk (below_step (by repeat (first | (with_reducible first | exact HB.out | apply below_alloc | apply pw_below_drewN | apply below_drew1 | refine below_set ?_ GE311.out | refine below_set ?_ GE312.out | refine below_set ?_ GE313.out) | exact HB.out)) hb); clear BK311; clear BK312; clear BK313; clear HB; have BK311 := n0_; have BK312 := n1_; have BK313 := n2_; have HB := n3_; clear n0_ n1_ n2_ n3_; (try clear hb); (try clear hb2); (try clear hk); (try clear hi)))
   go_meet
   case rel => exact ⟨_, (true), (by first | rfl | (simp; done) | (simp [*]; done)), H', ⟨by first | omega | exact Nat.le_refl _⟩, ⟨by refine blk_up ?_; exact BK311.out⟩, ⟨by refine blk_up ?_; exact BK312.out⟩, ⟨by refine blk_up ?_; exact BK313.out⟩, ⟨by repeat (first | (with_reducible first | exact HB.out | apply below_alloc | apply pw_below_drewN | apply below_drew1 | refine below_set ?_ GE311.out | refine below_set ?_ GE312.out | refine below_set ?_ GE313.out) | exact HB.out)⟩⟩
 case rest =>
  clear HC3
  try clear c1
  try clear c2
  try clear p2
  try clear c8
  try clear c10
  try clear c11
  try clear c14
  try clear c17
  try clear c18
  try clear c20
  try clear hcz12_0
  try clear hcz12_1
  try clear hcz12_2
  try clear hcz15_0
  try clear hcz15_1
  try clear hcz15_2
  try clear hcz19_0
  try clear hcz19_1
  try clear hcz19_2
  try clear hfz12_0
  try clear hfz12_1
  try clear hfz12_2
  try clear hfz15_0
  try clear hfz15_1
  try clear hfz15_2
  try clear hfz19_0
  try clear hfz19_1
  try clear hfz19_2
  obtain ⟨kq, x16_2, rfl, HA, HJ2, BK311, BK312, BK313, HB⟩ := hcut
  cases kq with
  | zero => exact absurd HA.out (by simp [impl_AddDec.j0])
  | succ kj2 =>
   have H := HA.out
   clear HA
   simp only [impl_AddDec.j0] at H
   by_cases c21 : x16_2 = true
   ·subst c21
    have H1 : (some (false, (⟨#[]⟩ : ByteArray), 0, false)) = some (r1, r2, r3, r4) := by rw [if_pos rfl] at H; exact H
    clear H
    have H := H1
    clear H1
    simp only [Option.some.injEq, Prod.mk.injEq] at H
    obtain ⟨rfl, rfl, rfl, rfl⟩ := H
    have hnb22 := NB313_311.out
    have hnc22 := NB311_313.out
    have hnb23 := NB313_312.out
    have hnc23 := NB312_313.out
    have hcz24_0 : wc.cell? ⟨gb313, 0, none⟩ = some (.bool false) := (blk_cell BK313.out 0).trans rfl
    have hcz24_1 : wc.cell? ⟨gb313, 1, none⟩ = some (.string (⟨#[]⟩ : ByteArray)) := (blk_cell BK313.out 1).trans rfl
    have hcz24_2 : wc.cell? ⟨gb313, 2, none⟩ = some (.int .i64 0) := (blk_cell BK313.out 2).trans rfl
    have hfz24_0 := blk_frozen BK313.out 0
    have hfz24_1 := blk_frozen BK313.out 1
    have hfz24_2 := blk_frozen BK313.out 2
    go_wp2
    refine bodyPost_ret (results_ct rfl _ _ gb313 26 #[.bool false, .string (⟨#[]⟩ : ByteArray), .int .i64 0] (0, 0) _ rfl (by refine blk_up ?_; refine blk_put (cs := #[.bool false, .string (⟨#[]⟩ : ByteArray), .int .i64 0]) ?_ 2 _ rfl; refine blk_up ?_; refine blk_put (cs := #[.bool false, .string (⟨#[]⟩ : ByteArray), .int .i64 0]) ?_ 1 _ rfl; refine blk_up ?_; refine blk_put (cs := #[.bool false, .string (⟨#[]⟩ : ByteArray), .int .i64 0]) ?_ 0 _ rfl; refine blk_up ?_; exact BK313.out) Tryd.underlying26 rfl (by kernel_rfl)) rfl ?_
    exact ⟨by first | rfl | (simp [errW_none, errW_some] <;> rfl) | (simp [*, errW_none, errW_some] <;> rfl), by repeat (first | (with_reducible first | exact HB.out | apply below_alloc | apply pw_below_drewN | apply below_drew1 | refine below_set ?_ GE311.out | refine below_set ?_ GE312.out | refine below_set ?_ GE313.out) | exact HB.out)⟩
   ·replace c21 := Bool.eq_false_iff.mpr c21
    subst c21
    have H1 : ((impl_level.f a0_0 a0_1 a0_2 a1_0 a1_1 a1_2).bind fun bt316 => (if (a0_0 == a1_0) = true then ((impl_plusDigits.f kj2 bt316.1 bt316.2.1).bind fun t319 => ((impl_made.f kj2 a0_0 t319 bt316.2.2).bind fun bt320 => (some (bt320.1, bt320.2.1, bt320.2.2.1, bt320.2.2.2)))) else (if ((Op.bytesLess bt316.1.toList bt316.2.1.toList) = true) then ((impl_minusDigits.f kj2 bt316.2.1 bt316.1).bind fun t324 => ((impl_made.f kj2 a1_0 t324 bt316.2.2).bind fun bt325 => (some (bt325.1, bt325.2.1, bt325.2.2.1, bt325.2.2.2)))) else ((impl_minusDigits.f kj2 bt316.1 bt316.2.1).bind fun t329 => ((impl_made.f kj2 a0_0 t329 bt316.2.2).bind fun bt330 => (some (bt330.1, bt330.2.1, bt330.2.2.1, bt330.2.2.2))))))) = some (r1, r2, r3, r4) := by rw [if_neg (show ¬ (false = true) by decide)] at H; exact H
    clear H
    have H := H1
    clear H1
    replace H := Option.bind_eq_some_iff.mp H
    obtain ⟨⟨t316, t317, t318⟩, A250, H⟩ := H
    replace H : (if (a0_0 == a1_0) = true then ((impl_plusDigits.f kj2 t316 t317).bind fun t319 => ((impl_made.f kj2 a0_0 t319 t318).bind fun bt320 => (some (bt320.1, bt320.2.1, bt320.2.2.1, bt320.2.2.2)))) else (if ((Op.bytesLess t316.toList t317.toList) = true) then ((impl_minusDigits.f kj2 t317 t316).bind fun t324 => ((impl_made.f kj2 a1_0 t324 t318).bind fun bt325 => (some (bt325.1, bt325.2.1, bt325.2.2.1, bt325.2.2.2)))) else ((impl_minusDigits.f kj2 t316 t317).bind fun t329 => ((impl_made.f kj2 a0_0 t329 t318).bind fun bt330 => (some (bt330.1, bt330.2.1, bt330.2.2.1, bt330.2.2.2)))))) = some (r1, r2, r3, r4) := H
    have A25 := Aside0.mk A250
    clear A250
    by_cases c26 : (a0_0 == a1_0) = true
    ·rw [if_pos c26] at H
     have c26b0 : (a0_0 == a1_0) = true := c26
     (try (have c26b1 : decide (a0_0 = a1_0) = true := by simpa using c26))
     (try (have c26b2 : (a0_0 == a1_0) = true := by simpa using c26))
     clear c26
     replace H := Option.bind_eq_some_iff.mp H
     obtain ⟨t319, A270, H⟩ := H
     replace H : ((impl_made.f kj2 a0_0 t319 t318).bind fun bt320 => (some (bt320.1, bt320.2.1, bt320.2.2.1, bt320.2.2.2))) = some (r1, r2, r3, r4) := H
     have A27 := Aside0.mk A270
     clear A270
     replace H := Option.bind_eq_some_iff.mp H
     obtain ⟨⟨t320, t321, t322, t323⟩, A280, H⟩ := H
     replace H : (some (t320, t321, t322, t323)) = some (r1, r2, r3, r4) := H
     have A28 := Aside0.mk A280
     clear A280
     simp only [Option.some.injEq, Prod.mk.injEq] at H
     obtain ⟨rfl, rfl, rfl, rfl⟩ := H
     have hnb29 := NB311_312.out
     have hnc29 := NB312_311.out
     have hnb30 := NB311_313.out
     have hnc30 := NB313_311.out
     have hcz31_0 : wc.cell? ⟨gb311, 0, none⟩ = some (.bool a0_0) := (blk_cell BK311.out 0).trans rfl
     have hcz31_1 : wc.cell? ⟨gb311, 1, none⟩ = some (.string a0_1) := (blk_cell BK311.out 1).trans rfl
     have hcz31_2 : wc.cell? ⟨gb311, 2, none⟩ = some (.int .i64 a0_2) := (blk_cell BK311.out 2).trans rfl
     have hfz31_0 := blk_frozen BK311.out 0
     have hfz31_1 := blk_frozen BK311.out 1
     have hfz31_2 := blk_frozen BK311.out 2
     have hnb32 := NB312_313.out
     have hnc32 := NB313_312.out
     have hcz33_0 : wc.cell? ⟨gb312, 0, none⟩ = some (.bool a1_0) := (blk_cell BK312.out 0).trans rfl
     have hcz33_1 : wc.cell? ⟨gb312, 1, none⟩ = some (.string a1_1) := (blk_cell BK312.out 1).trans rfl
     have hcz33_2 : wc.cell? ⟨gb312, 2, none⟩ = some (.int .i64 a1_2) := (blk_cell BK312.out 2).trans rfl
     have hfz33_0 := blk_frozen BK312.out 0
     have hfz33_1 := blk_frozen BK312.out 1
     have hfz33_2 := blk_frozen BK312.out 2
     try go_wp2_with (first | ((with_reducible refine gate_callee (f := 51) rfl ?_); refine goesL_ (some 21) rfl rfl Tryd.func51 (by kernel_rfl) rfl #[.agg #[.bool a0_0, .string a0_1, .int .i64 a0_2], .agg #[.bool a1_0, .string a1_1, .int .i64 a1_2]] rfl (by (try simp only [List.map_toArray, List.map_cons, List.map_nil]); first | done | rfl | (simp only [List.length_drop, List.length_take]; rfl)) ?_; (with_reducible refine (impl_level.calls a0_0 a0_1 a0_2 a1_0 a1_1 a1_2 t316 t317 t318 _ A25.out).mono ?_); rintro e w34 ⟨rfl, hb⟩; refine ⟨_, rfl, ?_⟩; have n0_ := Aside0.mk (blk_below (g := gb311) (o := .cells #[.bool a0_0, .string a0_1, .int .i64 a0_2] 26 (0, 0)) (by refine blk_up ?_; exact BK311.out) hb); have n1_ := Aside0.mk (blk_below (g := gb312) (o := .cells #[.bool a1_0, .string a1_1, .int .i64 a1_2] 26 (0, 0)) (by refine blk_up ?_; exact BK312.out) hb); have n2_ := Aside0.mk (blk_below (g := gb313) (o := .cells #[.bool false, .string (⟨#[]⟩ : ByteArray), .int .i64 0] 26 (0, 0)) (by refine blk_up ?_; exact BK313.out) hb); have n3_ := Aside0.mk (below_step (by repeat (first | (with_reducible first | exact HB.out | apply below_alloc | apply pw_below_drewN | apply below_drew1 | refine below_set ?_ GE311.out | refine below_set ?_ GE312.out | refine below_set ?_ GE313.out) | exact HB.out)) hb); clear BK311; clear BK312; clear BK313; clear HB; have BK311 := n0_; have BK312 := n1_; have BK313 := n2_; have HB := n3_; clear n0_ n1_ n2_ n3_; (try clear hb); (try clear hb2); (try clear hk); (try clear hi); have hcz35_0 : w34.cell? ⟨gb311, 0, none⟩ = some (.bool a0_0) := (blk_cell BK311.out 0).trans rfl; have hcz35_1 : w34.cell? ⟨gb311, 1, none⟩ = some (.string a0_1) := (blk_cell BK311.out 1).trans rfl; have hcz35_2 : w34.cell? ⟨gb311, 2, none⟩ = some (.int .i64 a0_2) := (blk_cell BK311.out 2).trans rfl; have hfz35_0 := blk_frozen BK311.out 0; have hfz35_1 := blk_frozen BK311.out 1; have hfz35_2 := blk_frozen BK311.out 2; have hcz36_0 : w34.cell? ⟨gb312, 0, none⟩ = some (.bool a1_0) := (blk_cell BK312.out 0).trans rfl; have hcz36_1 : w34.cell? ⟨gb312, 1, none⟩ = some (.string a1_1) := (blk_cell BK312.out 1).trans rfl; have hcz36_2 : w34.cell? ⟨gb312, 2, none⟩ = some (.int .i64 a1_2) := (blk_cell BK312.out 2).trans rfl; have hfz36_0 := blk_frozen BK312.out 0; have hfz36_1 := blk_frozen BK312.out 1; have hfz36_2 := blk_frozen BK312.out 2))
     have n0_ := Aside0.mk (blk_drew BK311.out)
     have n1_ := Aside0.mk (blk_drew BK312.out)
     have n2_ := Aside0.mk (blk_drew BK313.out)
     have n3_ := Aside0.mk (below_drew1 HB.out)
     clear BK311
     clear BK312
     clear BK313
     clear HB
     have BK311 := n0_
     have BK312 := n1_
     have BK313 := n2_
     have HB := n3_
     clear n0_ n1_ n2_ n3_
     refine start_ (n := 11) (S := fun w' => w'.cell? ⟨gb311, 0, none⟩ = some (.bool a0_0) ∧ w'.cell? ⟨gb311, 1, none⟩ = some (.string a0_1) ∧ w'.cell? ⟨gb311, 2, none⟩ = some (.int .i64 a0_2)) (ds := []) #[false, false, false, false, false, false, false, false, false, false, false] (by kernel_rfl) rfl rfl ⟨(blk_cell BK311.out 0).trans rfl, (blk_cell BK311.out 1).trans rfl, (blk_cell BK311.out 2).trans rfl⟩ (fun hHeld => ?_); refine with_tabW impl_AddDec.tab5 impl_AddDec.bits5 (fun HT_ HW_ => ?_)
     generalize w34.drew = w37 at BK311 BK312 BK313 HB hHeld ⊢
     refine pure_ (i := 0) (N := some 31) (v := ?_) (a' := ?_) #[true, false, false, false, false, false, false, false, false, false, false] rfl rfl (any_of HT_.out (by kernel_rfl)) (fun _ _ _ h => h) (Or.inl ⟨by rfl, ?_⟩) ?_ ?_
     rotate_left
     ·intro w'
      go_simp
      with_reducible rfl
     rotate_left
     ·simp only [Act.put, List.setIfInBounds_toArray, List.set_cons_zero, List.set_cons_succ, i64_w, i32_w]
      rfl
     refine pure_ (i := 2) (N := some 33) (v := ?_) (a' := ?_) #[true, false, true, false, false, false, false, false, false, false, false] rfl rfl (any_of HT_.out (by kernel_rfl)) (fun _ _ _ h => h) (Or.inl ⟨by rfl, ?_⟩) ?_ ?_
     rotate_left
     ·intro w'
      go_simp
      with_reducible rfl
     rotate_left
     ·simp only [Act.put, List.setIfInBounds_toArray, List.set_cons_zero, List.set_cons_succ, i64_w, i32_w]
      rfl
     refine pure_ (i := 3) (N := some 34) (v := ?_) (a' := ?_) #[true, false, true, true, false, false, false, false, false, false, false] rfl rfl (any_of HT_.out (by kernel_rfl)) (fun _ _ _ h => h) (Or.inl ⟨by rfl, ?_⟩) ?_ ?_
     rotate_left
     ·intro w'
      go_simp
      with_reducible rfl
     rotate_left
     ·simp only [Act.put, List.setIfInBounds_toArray, List.set_cons_zero, List.set_cons_succ, i64_w, i32_w]
      rfl
     refine pure_ (i := 5) (N := some 36) (v := ?_) (a' := ?_) #[true, false, true, true, false, true, false, false, false, false, false] rfl rfl (any_of HT_.out (by kernel_rfl)) (fun _ _ _ h => h) (Or.inl ⟨by rfl, ?_⟩) ?_ ?_
     rotate_left
     ·intro w'
      go_simp
      with_reducible rfl
     rotate_left
     ·simp only [Act.put, List.setIfInBounds_toArray, List.set_cons_zero, List.set_cons_succ, i64_w, i32_w]
      rfl
     refine take_ (i := 1) (N := some 32) (v := ?_) (a' := ?_) #[true, true, true, true, false, true, false, false, false, false, false] rfl rfl (take_ofW HT_.out HW_.out (by kernel_rfl)) (fun _ _ _ h => h) (Or.inl ⟨by rfl, ?_⟩) hHeld ?_ ?_
     rotate_left
     ·rintro w' ⟨s0, s1, s2⟩
      go_simp
      with_reducible rfl
     rotate_left
     ·simp only [Act.put, List.setIfInBounds_toArray, List.set_cons_zero, List.set_cons_succ, i64_w, i32_w]
      rfl
     refine one_ (i := 4) (N := some 35) #[true, true, true, true, true, true, false, false, false, false, false] rfl rfl (one_of HT_.out (by kernel_rfl)) (by decide) (fun K hK => ?_)
     refine goes_ Tryd.func59 (by kernel_rfl) rfl #[.string t316, .string t317] (by rfl) rfl rfl (by (try simp only [List.map_toArray, List.map_cons, List.map_nil]); first | done | rfl | (simp only [List.length_drop, List.length_take]; rfl)) ?_
     with_reducible refine (impl_plusDigits.calls kj2 t316 t317 t319 _ A27.out).mono ?_
     rintro e w38 ⟨rfl, hb⟩
     refine ⟨_, rfl, ?_⟩
     have n0_ := Aside0.mk (blk_below (g := gb311) (o := .cells #[.bool a0_0, .string a0_1, .int .i64 a0_2] 26 (0, 0)) (by refine blk_up ?_; exact BK311.out) hb)
     have n1_ := Aside0.mk (blk_below (g := gb312) (o := .cells #[.bool a1_0, .string a1_1, .int .i64 a1_2] 26 (0, 0)) (by refine blk_up ?_; exact BK312.out) hb)
     have n2_ := Aside0.mk (blk_below (g := gb313) (o := .cells #[.bool false, .string (⟨#[]⟩ : ByteArray), .int .i64 0] 26 (0, 0)) (by refine blk_up ?_; exact BK313.out) hb)
     have n3_ := Aside0.mk (below_step (by repeat (first | (with_reducible first | exact HB.out | apply below_alloc | apply pw_below_drewN | apply below_drew1 | refine below_set ?_ GE311.out | refine below_set ?_ GE312.out | refine below_set ?_ GE313.out) | exact HB.out)) hb)
     clear BK311
     clear BK312
     clear BK313
     clear HB
     have BK311 := n0_
     have BK312 := n1_
     have BK313 := n2_
     have HB := n3_
     clear n0_ n1_ n2_ n3_
     (try clear hb)
     (try clear hb2)
     (try clear hk)
     (try clear hi)
     refine hK.out _ _ ⟨(blk_cell BK311.out 0).trans rfl, (blk_cell BK311.out 1).trans rfl, (blk_cell BK311.out 2).trans rfl⟩ (fun hHeld => ?_)
     clear hK K
     refine norm_ (a' := ?_) ?_ ?_
     rotate_left
     ·show Act.put _ (some 35) _ = _
      simp only [Act.put, List.setIfInBounds_toArray, List.set_cons_zero, List.set_cons_succ, i64_w, i32_w]
      rfl
     refine one_ (i := 6) (N := some 37) #[true, true, true, true, true, true, true, false, false, false, false] rfl rfl (one_of HT_.out (by kernel_rfl)) (by decide) (fun K hK => ?_)
     refine goes_ Tryd.func54 (by kernel_rfl) rfl #[.bool a0_0, .string t319, .int .i64 t318] (by rfl) rfl rfl (by (try simp only [List.map_toArray, List.map_cons, List.map_nil]); first | done | rfl | (simp only [List.length_drop, List.length_take]; rfl)) ?_
     with_reducible refine (impl_made.calls kj2 a0_0 t319 t318 t320 t321 t322 t323 _ A28.out).mono ?_
     rintro e w39 ⟨rfl, hb⟩
     refine ⟨_, rfl, ?_⟩
     have n0_ := Aside0.mk (blk_below (g := gb311) (o := .cells #[.bool a0_0, .string a0_1, .int .i64 a0_2] 26 (0, 0)) (by refine blk_up ?_; exact BK311.out) hb)
     have n1_ := Aside0.mk (blk_below (g := gb312) (o := .cells #[.bool a1_0, .string a1_1, .int .i64 a1_2] 26 (0, 0)) (by refine blk_up ?_; exact BK312.out) hb)
     have n2_ := Aside0.mk (blk_below (g := gb313) (o := .cells #[.bool false, .string (⟨#[]⟩ : ByteArray), .int .i64 0] 26 (0, 0)) (by refine blk_up ?_; exact BK313.out) hb)
     have n3_ := Aside0.mk (below_step (by repeat (first | (with_reducible first | exact HB.out | apply below_alloc | apply pw_below_drewN | apply below_drew1 | refine below_set ?_ GE311.out | refine below_set ?_ GE312.out | refine below_set ?_ GE313.out) | exact HB.out)) hb)
     clear BK311
     clear BK312
     clear BK313
     clear HB
     have BK311 := n0_
     have BK312 := n1_
     have BK313 := n2_
     have HB := n3_
     clear n0_ n1_ n2_ n3_
     (try clear hb)
     (try clear hb2)
     (try clear hk)
     (try clear hi)
     refine hK.out _ _ ⟨(blk_cell BK311.out 0).trans rfl, (blk_cell BK311.out 1).trans rfl, (blk_cell BK311.out 2).trans rfl⟩ (fun hHeld => ?_)
     clear hK K
     refine norm_ (a' := ?_) ?_ ?_
     rotate_left
     ·show Act.put _ (some 37) _ = _
      simp only [Act.put, List.setIfInBounds_toArray, List.set_cons_zero, List.set_cons_succ, i64_w, i32_w]
      rfl
     refine pure_ (i := 7) (N := some 38) (v := ?_) (a' := ?_) #[true, true, true, true, true, true, true, true, false, false, false] rfl rfl (any_of HT_.out (by kernel_rfl)) (fun _ _ _ h => h) (Or.inl ⟨by rfl, ?_⟩) ?_ ?_
     rotate_left
     ·intro w'
      go_simp
      with_reducible rfl
     rotate_left
     ·simp only [Act.put, List.setIfInBounds_toArray, List.set_cons_zero, List.set_cons_succ, i64_w, i32_w]
      rfl
     refine pure_ (i := 8) (N := some 39) (v := ?_) (a' := ?_) #[true, true, true, true, true, true, true, true, true, false, false] rfl rfl (any_of HT_.out (by kernel_rfl)) (fun _ _ _ h => h) (Or.inl ⟨by rfl, ?_⟩) ?_ ?_
     rotate_left
     ·intro w'
      go_simp
      with_reducible rfl
     rotate_left
     ·simp only [Act.put, List.setIfInBounds_toArray, List.set_cons_zero, List.set_cons_succ, i64_w, i32_w]
      rfl
     refine one_ (i := 9) (N := none) #[true, true, true, true, true, true, true, true, true, true, false] rfl rfl (one_of HT_.out (by kernel_rfl)) (by decide) (fun K hK => ?_)
     have hs40 : w39.cell? ⟨gb313, 0, none⟩ = some (.bool false) := (blk_cell BK313.out 0).trans rfl
     have hfs40 := blk_frozen BK313.out 0
     have hns40_0 := NB311_313.out
     have hns40_1 := NB312_313.out
     have hms40_0 := NB313_311.out
     have hms40_1 := NB313_312.out
     have hs41 : w39.cell? ⟨gb313, 1, none⟩ = some (.string (⟨#[]⟩ : ByteArray)) := (blk_cell BK313.out 1).trans rfl
     have hfs41 := blk_frozen BK313.out 1
     have hns41_0 := NB311_313.out
     have hns41_1 := NB312_313.out
     have hms41_0 := NB313_311.out
     have hms41_1 := NB313_312.out
     have hs42 : w39.cell? ⟨gb313, 2, none⟩ = some (.int .i64 0) := (blk_cell BK313.out 2).trans rfl
     have hfs42 := blk_frozen BK313.out 2
     have hns42_0 := NB311_313.out
     have hns42_1 := NB312_313.out
     have hms42_0 := NB313_311.out
     have hms42_1 := NB313_312.out
     refine skip_ (w1 := ?_) (by rfl) rfl ?_ ?_
     rotate_left
     ·go_simp
      rfl
     refine hK.out _ _ ⟨((cell_far (p := ⟨gb313, _, none⟩) NB311_313.out _).trans (((cell_far (p := ⟨gb313, _, none⟩) NB311_313.out _).trans (((cell_far (p := ⟨gb313, _, none⟩) NB311_313.out _).trans (hHeld.1)))))), ((cell_far (p := ⟨gb313, _, none⟩) NB311_313.out _).trans (((cell_far (p := ⟨gb313, _, none⟩) NB311_313.out _).trans (((cell_far (p := ⟨gb313, _, none⟩) NB311_313.out _).trans (hHeld.2.1)))))), ((cell_far (p := ⟨gb313, _, none⟩) NB311_313.out _).trans (((cell_far (p := ⟨gb313, _, none⟩) NB311_313.out _).trans (((cell_far (p := ⟨gb313, _, none⟩) NB311_313.out _).trans (hHeld.2.2))))))⟩ (fun hHeld => ?_)
     clear hK K
     refine pure_ (i := 10) (N := some 5) (v := ?_) (a' := ?_) #[true, true, true, true, true, true, true, true, true, true, true] rfl rfl (any_of HT_.out (by kernel_rfl)) (fun _ _ _ h => h) (Or.inl ⟨by rfl, ?_⟩) ?_ ?_
     rotate_left
     ·intro w'
      go_simp
      with_reducible rfl
     rotate_left
     ·simp only [Act.put, List.setIfInBounds_toArray, List.set_cons_zero, List.set_cons_succ, i64_w, i32_w]
      rfl
     refine done_ (done_of HT_.out (by kernel_rfl)) ?_
     try go_wp2
     refine bodyPost_ret (results_ct rfl _ _ gb313 26 #[.bool t320, .string t321, .int .i64 t322] (0, 0) _ rfl (by refine blk_up ?_; refine blk_put (cs := #[.bool t320, .string t321, .int .i64 0]) ?_ 2 _ rfl; refine blk_up ?_; refine blk_put (cs := #[.bool t320, .string (⟨#[]⟩ : ByteArray), .int .i64 0]) ?_ 1 _ rfl; refine blk_up ?_; refine blk_put (cs := #[.bool false, .string (⟨#[]⟩ : ByteArray), .int .i64 0]) ?_ 0 _ rfl; refine blk_up ?_; exact BK313.out) Tryd.underlying26 rfl (by kernel_rfl)) rfl ?_
     exact ⟨by first | rfl | (simp [errW_none, errW_some] <;> rfl) | (simp [*, errW_none, errW_some] <;> rfl), by repeat (first | (with_reducible first | exact HB.out | apply below_alloc | apply pw_below_drewN | apply below_drew1 | refine below_set ?_ GE311.out | refine below_set ?_ GE312.out | refine below_set ?_ GE313.out) | exact HB.out)⟩
    ·rw [if_neg c26] at H
     have c26b0 : (a0_0 == a1_0) = false := by simpa using c26
     (try (have c26b1 : decide (a0_0 = a1_0) = false := by simpa using c26))
     (try (have c26b2 : (a0_0 == a1_0) = false := by simpa using c26))
     (try (have c26b3 : ¬ (a0_0 = a1_0) := by simpa using c26))
     clear c26
     by_cases c43 : ((Op.bytesLess t316.toList t317.toList) = true)
     ·rw [if_pos c43] at H
      have c43b0 : (Op.bytesLess t316.toList t317.toList) = true := c43
      clear c43
      replace H := Option.bind_eq_some_iff.mp H
      obtain ⟨t324, A440, H⟩ := H
      replace H : ((impl_made.f kj2 a1_0 t324 t318).bind fun bt325 => (some (bt325.1, bt325.2.1, bt325.2.2.1, bt325.2.2.2))) = some (r1, r2, r3, r4) := H
      have A44 := Aside0.mk A440
      clear A440
      replace H := Option.bind_eq_some_iff.mp H
      obtain ⟨⟨t325, t326, t327, t328⟩, A450, H⟩ := H
      replace H : (some (t325, t326, t327, t328)) = some (r1, r2, r3, r4) := H
      have A45 := Aside0.mk A450
      clear A450
      simp only [Option.some.injEq, Prod.mk.injEq] at H
      obtain ⟨rfl, rfl, rfl, rfl⟩ := H
      have hnb46 := NB311_312.out
      have hnc46 := NB312_311.out
      have hnb47 := NB311_313.out
      have hnc47 := NB313_311.out
      have hcz48_0 : wc.cell? ⟨gb311, 0, none⟩ = some (.bool a0_0) := (blk_cell BK311.out 0).trans rfl
      have hcz48_1 : wc.cell? ⟨gb311, 1, none⟩ = some (.string a0_1) := (blk_cell BK311.out 1).trans rfl
      have hcz48_2 : wc.cell? ⟨gb311, 2, none⟩ = some (.int .i64 a0_2) := (blk_cell BK311.out 2).trans rfl
      have hfz48_0 := blk_frozen BK311.out 0
      have hfz48_1 := blk_frozen BK311.out 1
      have hfz48_2 := blk_frozen BK311.out 2
      have hnb49 := NB312_313.out
      have hnc49 := NB313_312.out
      have hcz50_0 : wc.cell? ⟨gb312, 0, none⟩ = some (.bool a1_0) := (blk_cell BK312.out 0).trans rfl
      have hcz50_1 : wc.cell? ⟨gb312, 1, none⟩ = some (.string a1_1) := (blk_cell BK312.out 1).trans rfl
      have hcz50_2 : wc.cell? ⟨gb312, 2, none⟩ = some (.int .i64 a1_2) := (blk_cell BK312.out 2).trans rfl
      have hfz50_0 := blk_frozen BK312.out 0
      have hfz50_1 := blk_frozen BK312.out 1
      have hfz50_2 := blk_frozen BK312.out 2
      try go_wp2_with (first | ((with_reducible refine gate_callee (f := 51) rfl ?_); refine goesL_ (some 21) rfl rfl Tryd.func51 (by kernel_rfl) rfl #[.agg #[.bool a0_0, .string a0_1, .int .i64 a0_2], .agg #[.bool a1_0, .string a1_1, .int .i64 a1_2]] rfl (by (try simp only [List.map_toArray, List.map_cons, List.map_nil]); first | done | rfl | (simp only [List.length_drop, List.length_take]; rfl)) ?_; (with_reducible refine (impl_level.calls a0_0 a0_1 a0_2 a1_0 a1_1 a1_2 t316 t317 t318 _ A25.out).mono ?_); rintro e w51 ⟨rfl, hb⟩; refine ⟨_, rfl, ?_⟩; have n0_ := Aside0.mk (blk_below (g := gb311) (o := .cells #[.bool a0_0, .string a0_1, .int .i64 a0_2] 26 (0, 0)) (by refine blk_up ?_; exact BK311.out) hb); have n1_ := Aside0.mk (blk_below (g := gb312) (o := .cells #[.bool a1_0, .string a1_1, .int .i64 a1_2] 26 (0, 0)) (by refine blk_up ?_; exact BK312.out) hb); have n2_ := Aside0.mk (blk_below (g := gb313) (o := .cells #[.bool false, .string (⟨#[]⟩ : ByteArray), .int .i64 0] 26 (0, 0)) (by refine blk_up ?_; exact BK313.out) hb); have n3_ := Aside0.mk (below_step (by repeat (first | (with_reducible first | exact HB.out | apply below_alloc | apply pw_below_drewN | apply below_drew1 | refine below_set ?_ GE311.out | refine below_set ?_ GE312.out | refine below_set ?_ GE313.out) | exact HB.out)) hb); clear BK311; clear BK312; clear BK313; clear HB; have BK311 := n0_; have BK312 := n1_; have BK313 := n2_; have HB := n3_; clear n0_ n1_ n2_ n3_; (try clear hb); (try clear hb2); (try clear hk); (try clear hi); have hcz52_0 : w51.cell? ⟨gb311, 0, none⟩ = some (.bool a0_0) := (blk_cell BK311.out 0).trans rfl; have hcz52_1 : w51.cell? ⟨gb311, 1, none⟩ = some (.string a0_1) := (blk_cell BK311.out 1).trans rfl; have hcz52_2 : w51.cell? ⟨gb311, 2, none⟩ = some (.int .i64 a0_2) := (blk_cell BK311.out 2).trans rfl; have hfz52_0 := blk_frozen BK311.out 0; have hfz52_1 := blk_frozen BK311.out 1; have hfz52_2 := blk_frozen BK311.out 2; have hcz53_0 : w51.cell? ⟨gb312, 0, none⟩ = some (.bool a1_0) := (blk_cell BK312.out 0).trans rfl; have hcz53_1 : w51.cell? ⟨gb312, 1, none⟩ = some (.string a1_1) := (blk_cell BK312.out 1).trans rfl; have hcz53_2 : w51.cell? ⟨gb312, 2, none⟩ = some (.int .i64 a1_2) := (blk_cell BK312.out 2).trans rfl; have hfz53_0 := blk_frozen BK312.out 0; have hfz53_1 := blk_frozen BK312.out 1; have hfz53_2 := blk_frozen BK312.out 2))
      have n0_ := Aside0.mk (blk_drew BK311.out)
      have n1_ := Aside0.mk (blk_drew BK312.out)
      have n2_ := Aside0.mk (blk_drew BK313.out)
      have n3_ := Aside0.mk (below_drew1 HB.out)
      clear BK311
      clear BK312
      clear BK313
      clear HB
      have BK311 := n0_
      have BK312 := n1_
      have BK313 := n2_
      have HB := n3_
      clear n0_ n1_ n2_ n3_
      refine start_ (n := 11) (S := fun w' => w'.cell? ⟨gb312, 0, none⟩ = some (.bool a1_0) ∧ w'.cell? ⟨gb312, 1, none⟩ = some (.string a1_1) ∧ w'.cell? ⟨gb312, 2, none⟩ = some (.int .i64 a1_2)) (ds := []) #[false, false, false, false, false, false, false, false, false, false, false] (by kernel_rfl) rfl rfl ⟨(blk_cell BK312.out 0).trans rfl, (blk_cell BK312.out 1).trans rfl, (blk_cell BK312.out 2).trans rfl⟩ (fun hHeld => ?_); refine with_tabW impl_AddDec.tab8 impl_AddDec.bits8 (fun HT_ HW_ => ?_)
      generalize w51.drew = w54 at BK311 BK312 BK313 HB hHeld ⊢
      refine pure_ (i := 0) (N := some 53) (v := ?_) (a' := ?_) #[true, false, false, false, false, false, false, false, false, false, false] rfl rfl (any_of HT_.out (by kernel_rfl)) (fun _ _ _ h => h) (Or.inl ⟨by rfl, ?_⟩) ?_ ?_
      rotate_left
      ·intro w'
       go_simp
       with_reducible rfl
      rotate_left
      ·simp only [Act.put, List.setIfInBounds_toArray, List.set_cons_zero, List.set_cons_succ, i64_w, i32_w]
       rfl
      refine pure_ (i := 2) (N := some 55) (v := ?_) (a' := ?_) #[true, false, true, false, false, false, false, false, false, false, false] rfl rfl (any_of HT_.out (by kernel_rfl)) (fun _ _ _ h => h) (Or.inl ⟨by rfl, ?_⟩) ?_ ?_
      rotate_left
      ·intro w'
       go_simp
       with_reducible rfl
      rotate_left
      ·simp only [Act.put, List.setIfInBounds_toArray, List.set_cons_zero, List.set_cons_succ, i64_w, i32_w]
       rfl
      refine pure_ (i := 3) (N := some 56) (v := ?_) (a' := ?_) #[true, false, true, true, false, false, false, false, false, false, false] rfl rfl (any_of HT_.out (by kernel_rfl)) (fun _ _ _ h => h) (Or.inl ⟨by rfl, ?_⟩) ?_ ?_
      rotate_left
      ·intro w'
       go_simp
       with_reducible rfl
      rotate_left
      ·simp only [Act.put, List.setIfInBounds_toArray, List.set_cons_zero, List.set_cons_succ, i64_w, i32_w]
       rfl
      refine pure_ (i := 5) (N := some 58) (v := ?_) (a' := ?_) #[true, false, true, true, false, true, false, false, false, false, false] rfl rfl (any_of HT_.out (by kernel_rfl)) (fun _ _ _ h => h) (Or.inl ⟨by rfl, ?_⟩) ?_ ?_
      rotate_left
      ·intro w'
       go_simp
       with_reducible rfl
      rotate_left
      ·simp only [Act.put, List.setIfInBounds_toArray, List.set_cons_zero, List.set_cons_succ, i64_w, i32_w]
       rfl
      refine take_ (i := 1) (N := some 54) (v := ?_) (a' := ?_) #[true, true, true, true, false, true, false, false, false, false, false] rfl rfl (take_ofW HT_.out HW_.out (by kernel_rfl)) (fun _ _ _ h => h) (Or.inl ⟨by rfl, ?_⟩) hHeld ?_ ?_
      rotate_left
      ·rintro w' ⟨s0, s1, s2⟩
       go_simp
       with_reducible rfl
      rotate_left
      ·simp only [Act.put, List.setIfInBounds_toArray, List.set_cons_zero, List.set_cons_succ, i64_w, i32_w]
       rfl
      refine one_ (i := 4) (N := some 57) #[true, true, true, true, true, true, false, false, false, false, false] rfl rfl (one_of HT_.out (by kernel_rfl)) (by decide) (fun K hK => ?_)
      refine goes_ Tryd.func60 (by kernel_rfl) rfl #[.string t317, .string t316] (by rfl) rfl rfl (by (try simp only [List.map_toArray, List.map_cons, List.map_nil]); first | done | rfl | (simp only [List.length_drop, List.length_take]; rfl)) ?_
      with_reducible refine (impl_minusDigits.calls kj2 t317 t316 t324 _ A44.out).mono ?_
      rintro e w55 ⟨rfl, hb⟩
      refine ⟨_, rfl, ?_⟩
      have n0_ := Aside0.mk (blk_below (g := gb311) (o := .cells #[.bool a0_0, .string a0_1, .int .i64 a0_2] 26 (0, 0)) (by refine blk_up ?_; exact BK311.out) hb)
      have n1_ := Aside0.mk (blk_below (g := gb312) (o := .cells #[.bool a1_0, .string a1_1, .int .i64 a1_2] 26 (0, 0)) (by refine blk_up ?_; exact BK312.out) hb)
      have n2_ := Aside0.mk (blk_below (g := gb313) (o := .cells #[.bool false, .string (⟨#[]⟩ : ByteArray), .int .i64 0] 26 (0, 0)) (by refine blk_up ?_; exact BK313.out) hb)
      have n3_ := Aside0.mk (below_step (by repeat (first | (with_reducible first | exact HB.out | apply below_alloc | apply pw_below_drewN | apply below_drew1 | refine below_set ?_ GE311.out | refine below_set ?_ GE312.out | refine below_set ?_ GE313.out) | exact HB.out)) hb)
      clear BK311
      clear BK312
      clear BK313
      clear HB
      have BK311 := n0_
      have BK312 := n1_
      have BK313 := n2_
      have HB := n3_
      clear n0_ n1_ n2_ n3_
      (try clear hb)
      (try clear hb2)
      (try clear hk)
      (try clear hi)
      refine hK.out _ _ ⟨(blk_cell BK312.out 0).trans rfl, (blk_cell BK312.out 1).trans rfl, (blk_cell BK312.out 2).trans rfl⟩ (fun hHeld => ?_)
      clear hK K
      refine norm_ (a' := ?_) ?_ ?_
      rotate_left
      ·show Act.put _ (some 57) _ = _
       simp only [Act.put, List.setIfInBounds_toArray, List.set_cons_zero, List.set_cons_succ, i64_w, i32_w]
       rfl
      refine one_ (i := 6) (N := some 59) #[true, true, true, true, true, true, true, false, false, false, false] rfl rfl (one_of HT_.out (by kernel_rfl)) (by decide) (fun K hK => ?_)
      refine goes_ Tryd.func54 (by kernel_rfl) rfl #[.bool a1_0, .string t324, .int .i64 t318] (by rfl) rfl rfl (by (try simp only [List.map_toArray, List.map_cons, List.map_nil]); first | done | rfl | (simp only [List.length_drop, List.length_take]; rfl)) ?_
      with_reducible refine (impl_made.calls kj2 a1_0 t324 t318 t325 t326 t327 t328 _ A45.out).mono ?_
      rintro e w56 ⟨rfl, hb⟩
      refine ⟨_, rfl, ?_⟩
      have n0_ := Aside0.mk (blk_below (g := gb311) (o := .cells #[.bool a0_0, .string a0_1, .int .i64 a0_2] 26 (0, 0)) (by refine blk_up ?_; exact BK311.out) hb)
      have n1_ := Aside0.mk (blk_below (g := gb312) (o := .cells #[.bool a1_0, .string a1_1, .int .i64 a1_2] 26 (0, 0)) (by refine blk_up ?_; exact BK312.out) hb)
      have n2_ := Aside0.mk (blk_below (g := gb313) (o := .cells #[.bool false, .string (⟨#[]⟩ : ByteArray), .int .i64 0] 26 (0, 0)) (by refine blk_up ?_; exact BK313.out) hb)
      have n3_ := Aside0.mk (below_step (by repeat (first | (with_reducible first | exact HB.out | apply below_alloc | apply pw_below_drewN | apply below_drew1 | refine below_set ?_ GE311.out | refine below_set ?_ GE312.out | refine below_set ?_ GE313.out) | exact HB.out)) hb)
      clear BK311
      clear BK312
      clear BK313
      clear HB
      have BK311 := n0_
      have BK312 := n1_
      have BK313 := n2_
      have HB := n3_
      clear n0_ n1_ n2_ n3_
      (try clear hb)
      (try clear hb2)
      (try clear hk)
      (try clear hi)
      refine hK.out _ _ ⟨(blk_cell BK312.out 0).trans rfl, (blk_cell BK312.out 1).trans rfl, (blk_cell BK312.out 2).trans rfl⟩ (fun hHeld => ?_)
      clear hK K
      refine norm_ (a' := ?_) ?_ ?_
      rotate_left
      ·show Act.put _ (some 59) _ = _
       simp only [Act.put, List.setIfInBounds_toArray, List.set_cons_zero, List.set_cons_succ, i64_w, i32_w]
       rfl
      refine pure_ (i := 7) (N := some 60) (v := ?_) (a' := ?_) #[true, true, true, true, true, true, true, true, false, false, false] rfl rfl (any_of HT_.out (by kernel_rfl)) (fun _ _ _ h => h) (Or.inl ⟨by rfl, ?_⟩) ?_ ?_
      rotate_left
      ·intro w'
       go_simp
       with_reducible rfl
      rotate_left
      ·simp only [Act.put, List.setIfInBounds_toArray, List.set_cons_zero, List.set_cons_succ, i64_w, i32_w]
       rfl
      refine pure_ (i := 8) (N := some 61) (v := ?_) (a' := ?_) #[true, true, true, true, true, true, true, true, true, false, false] rfl rfl (any_of HT_.out (by kernel_rfl)) (fun _ _ _ h => h) (Or.inl ⟨by rfl, ?_⟩) ?_ ?_
      rotate_left
      ·intro w'
       go_simp
       with_reducible rfl
      rotate_left
      ·simp only [Act.put, List.setIfInBounds_toArray, List.set_cons_zero, List.set_cons_succ, i64_w, i32_w]
       rfl
      refine one_ (i := 9) (N := none) #[true, true, true, true, true, true, true, true, true, true, false] rfl rfl (one_of HT_.out (by kernel_rfl)) (by decide) (fun K hK => ?_)
      have hs57 : w56.cell? ⟨gb313, 0, none⟩ = some (.bool false) := (blk_cell BK313.out 0).trans rfl
      have hfs57 := blk_frozen BK313.out 0
      have hns57_0 := NB311_313.out
      have hns57_1 := NB312_313.out
      have hms57_0 := NB313_311.out
      have hms57_1 := NB313_312.out
      have hs58 : w56.cell? ⟨gb313, 1, none⟩ = some (.string (⟨#[]⟩ : ByteArray)) := (blk_cell BK313.out 1).trans rfl
      have hfs58 := blk_frozen BK313.out 1
      have hns58_0 := NB311_313.out
      have hns58_1 := NB312_313.out
      have hms58_0 := NB313_311.out
      have hms58_1 := NB313_312.out
      have hs59 : w56.cell? ⟨gb313, 2, none⟩ = some (.int .i64 0) := (blk_cell BK313.out 2).trans rfl
      have hfs59 := blk_frozen BK313.out 2
      have hns59_0 := NB311_313.out
      have hns59_1 := NB312_313.out
      have hms59_0 := NB313_311.out
      have hms59_1 := NB313_312.out
      refine skip_ (w1 := ?_) (by rfl) rfl ?_ ?_
      rotate_left
      ·go_simp
       rfl
      refine hK.out _ _ ⟨((cell_far (p := ⟨gb313, _, none⟩) NB312_313.out _).trans (((cell_far (p := ⟨gb313, _, none⟩) NB312_313.out _).trans (((cell_far (p := ⟨gb313, _, none⟩) NB312_313.out _).trans (hHeld.1)))))), ((cell_far (p := ⟨gb313, _, none⟩) NB312_313.out _).trans (((cell_far (p := ⟨gb313, _, none⟩) NB312_313.out _).trans (((cell_far (p := ⟨gb313, _, none⟩) NB312_313.out _).trans (hHeld.2.1)))))), ((cell_far (p := ⟨gb313, _, none⟩) NB312_313.out _).trans (((cell_far (p := ⟨gb313, _, none⟩) NB312_313.out _).trans (((cell_far (p := ⟨gb313, _, none⟩) NB312_313.out _).trans (hHeld.2.2))))))⟩ (fun hHeld => ?_)
      clear hK K
      refine pure_ (i := 10) (N := some 5) (v := ?_) (a' := ?_) #[true, true, true, true, true, true, true, true, true, true, true] rfl rfl (any_of HT_.out (by kernel_rfl)) (fun _ _ _ h => h) (Or.inl ⟨by rfl, ?_⟩) ?_ ?_
      rotate_left
      ·intro w'
       go_simp
       with_reducible rfl
      rotate_left
      ·simp only [Act.put, List.setIfInBounds_toArray, List.set_cons_zero, List.set_cons_succ, i64_w, i32_w]
       rfl
      refine done_ (done_of HT_.out (by kernel_rfl)) ?_
      try go_wp2
      refine bodyPost_ret (results_ct rfl _ _ gb313 26 #[.bool t325, .string t326, .int .i64 t327] (0, 0) _ rfl (by refine blk_up ?_; refine blk_put (cs := #[.bool t325, .string t326, .int .i64 0]) ?_ 2 _ rfl; refine blk_up ?_; refine blk_put (cs := #[.bool t325, .string (⟨#[]⟩ : ByteArray), .int .i64 0]) ?_ 1 _ rfl; refine blk_up ?_; refine blk_put (cs := #[.bool false, .string (⟨#[]⟩ : ByteArray), .int .i64 0]) ?_ 0 _ rfl; refine blk_up ?_; exact BK313.out) Tryd.underlying26 rfl (by kernel_rfl)) rfl ?_
      exact ⟨by first | rfl | (simp [errW_none, errW_some] <;> rfl) | (simp [*, errW_none, errW_some] <;> rfl), by repeat (first | (with_reducible first | exact HB.out | apply below_alloc | apply pw_below_drewN | apply below_drew1 | refine below_set ?_ GE311.out | refine below_set ?_ GE312.out | refine below_set ?_ GE313.out) | exact HB.out)⟩
     ·rw [if_neg c43] at H
      have c43b0 : (Op.bytesLess t316.toList t317.toList) = false := by simpa using c43
      clear c43
      replace H := Option.bind_eq_some_iff.mp H
      obtain ⟨t329, A600, H⟩ := H
      replace H : ((impl_made.f kj2 a0_0 t329 t318).bind fun bt330 => (some (bt330.1, bt330.2.1, bt330.2.2.1, bt330.2.2.2))) = some (r1, r2, r3, r4) := H
      have A60 := Aside0.mk A600
      clear A600
      replace H := Option.bind_eq_some_iff.mp H
      obtain ⟨⟨t330, t331, t332, t333⟩, A610, H⟩ := H
      replace H : (some (t330, t331, t332, t333)) = some (r1, r2, r3, r4) := H
      have A61 := Aside0.mk A610
      clear A610
      simp only [Option.some.injEq, Prod.mk.injEq] at H
      obtain ⟨rfl, rfl, rfl, rfl⟩ := H
      have hnb62 := NB311_312.out
      have hnc62 := NB312_311.out
      have hnb63 := NB311_313.out
      have hnc63 := NB313_311.out
      have hcz64_0 : wc.cell? ⟨gb311, 0, none⟩ = some (.bool a0_0) := (blk_cell BK311.out 0).trans rfl
      have hcz64_1 : wc.cell? ⟨gb311, 1, none⟩ = some (.string a0_1) := (blk_cell BK311.out 1).trans rfl
      have hcz64_2 : wc.cell? ⟨gb311, 2, none⟩ = some (.int .i64 a0_2) := (blk_cell BK311.out 2).trans rfl
      have hfz64_0 := blk_frozen BK311.out 0
      have hfz64_1 := blk_frozen BK311.out 1
      have hfz64_2 := blk_frozen BK311.out 2
      have hnb65 := NB312_313.out
      have hnc65 := NB313_312.out
      have hcz66_0 : wc.cell? ⟨gb312, 0, none⟩ = some (.bool a1_0) := (blk_cell BK312.out 0).trans rfl
      have hcz66_1 : wc.cell? ⟨gb312, 1, none⟩ = some (.string a1_1) := (blk_cell BK312.out 1).trans rfl
      have hcz66_2 : wc.cell? ⟨gb312, 2, none⟩ = some (.int .i64 a1_2) := (blk_cell BK312.out 2).trans rfl
      have hfz66_0 := blk_frozen BK312.out 0
      have hfz66_1 := blk_frozen BK312.out 1
      have hfz66_2 := blk_frozen BK312.out 2
      try go_wp2_with (first | ((with_reducible refine gate_callee (f := 51) rfl ?_); refine goesL_ (some 21) rfl rfl Tryd.func51 (by kernel_rfl) rfl #[.agg #[.bool a0_0, .string a0_1, .int .i64 a0_2], .agg #[.bool a1_0, .string a1_1, .int .i64 a1_2]] rfl (by (try simp only [List.map_toArray, List.map_cons, List.map_nil]); first | done | rfl | (simp only [List.length_drop, List.length_take]; rfl)) ?_; (with_reducible refine (impl_level.calls a0_0 a0_1 a0_2 a1_0 a1_1 a1_2 t316 t317 t318 _ A25.out).mono ?_); rintro e w67 ⟨rfl, hb⟩; refine ⟨_, rfl, ?_⟩; have n0_ := Aside0.mk (blk_below (g := gb311) (o := .cells #[.bool a0_0, .string a0_1, .int .i64 a0_2] 26 (0, 0)) (by refine blk_up ?_; exact BK311.out) hb); have n1_ := Aside0.mk (blk_below (g := gb312) (o := .cells #[.bool a1_0, .string a1_1, .int .i64 a1_2] 26 (0, 0)) (by refine blk_up ?_; exact BK312.out) hb); have n2_ := Aside0.mk (blk_below (g := gb313) (o := .cells #[.bool false, .string (⟨#[]⟩ : ByteArray), .int .i64 0] 26 (0, 0)) (by refine blk_up ?_; exact BK313.out) hb); have n3_ := Aside0.mk (below_step (by repeat (first | (with_reducible first | exact HB.out | apply below_alloc | apply pw_below_drewN | apply below_drew1 | refine below_set ?_ GE311.out | refine below_set ?_ GE312.out | refine below_set ?_ GE313.out) | exact HB.out)) hb); clear BK311; clear BK312; clear BK313; clear HB; have BK311 := n0_; have BK312 := n1_; have BK313 := n2_; have HB := n3_; clear n0_ n1_ n2_ n3_; (try clear hb); (try clear hb2); (try clear hk); (try clear hi); have hcz68_0 : w67.cell? ⟨gb311, 0, none⟩ = some (.bool a0_0) := (blk_cell BK311.out 0).trans rfl; have hcz68_1 : w67.cell? ⟨gb311, 1, none⟩ = some (.string a0_1) := (blk_cell BK311.out 1).trans rfl; have hcz68_2 : w67.cell? ⟨gb311, 2, none⟩ = some (.int .i64 a0_2) := (blk_cell BK311.out 2).trans rfl; have hfz68_0 := blk_frozen BK311.out 0; have hfz68_1 := blk_frozen BK311.out 1; have hfz68_2 := blk_frozen BK311.out 2; have hcz69_0 : w67.cell? ⟨gb312, 0, none⟩ = some (.bool a1_0) := (blk_cell BK312.out 0).trans rfl; have hcz69_1 : w67.cell? ⟨gb312, 1, none⟩ = some (.string a1_1) := (blk_cell BK312.out 1).trans rfl; have hcz69_2 : w67.cell? ⟨gb312, 2, none⟩ = some (.int .i64 a1_2) := (blk_cell BK312.out 2).trans rfl; have hfz69_0 := blk_frozen BK312.out 0; have hfz69_1 := blk_frozen BK312.out 1; have hfz69_2 := blk_frozen BK312.out 2))
      have n0_ := Aside0.mk (blk_drew BK311.out)
      have n1_ := Aside0.mk (blk_drew BK312.out)
      have n2_ := Aside0.mk (blk_drew BK313.out)
      have n3_ := Aside0.mk (below_drew1 HB.out)
      clear BK311
      clear BK312
      clear BK313
      clear HB
      have BK311 := n0_
      have BK312 := n1_
      have BK313 := n2_
      have HB := n3_
      clear n0_ n1_ n2_ n3_
      refine start_ (n := 11) (S := fun w' => w'.cell? ⟨gb311, 0, none⟩ = some (.bool a0_0) ∧ w'.cell? ⟨gb311, 1, none⟩ = some (.string a0_1) ∧ w'.cell? ⟨gb311, 2, none⟩ = some (.int .i64 a0_2)) (ds := []) #[false, false, false, false, false, false, false, false, false, false, false] (by kernel_rfl) rfl rfl ⟨(blk_cell BK311.out 0).trans rfl, (blk_cell BK311.out 1).trans rfl, (blk_cell BK311.out 2).trans rfl⟩ (fun hHeld => ?_); refine with_tabW impl_AddDec.tab7 impl_AddDec.bits7 (fun HT_ HW_ => ?_)
      generalize w67.drew = w70 at BK311 BK312 BK313 HB hHeld ⊢
      refine pure_ (i := 0) (N := some 44) (v := ?_) (a' := ?_) #[true, false, false, false, false, false, false, false, false, false, false] rfl rfl (any_of HT_.out (by kernel_rfl)) (fun _ _ _ h => h) (Or.inl ⟨by rfl, ?_⟩) ?_ ?_
      rotate_left
      ·intro w'
       go_simp
       with_reducible rfl
      rotate_left
      ·simp only [Act.put, List.setIfInBounds_toArray, List.set_cons_zero, List.set_cons_succ, i64_w, i32_w]
       rfl
      refine pure_ (i := 2) (N := some 46) (v := ?_) (a' := ?_) #[true, false, true, false, false, false, false, false, false, false, false] rfl rfl (any_of HT_.out (by kernel_rfl)) (fun _ _ _ h => h) (Or.inl ⟨by rfl, ?_⟩) ?_ ?_
      rotate_left
      ·intro w'
       go_simp
       with_reducible rfl
      rotate_left
      ·simp only [Act.put, List.setIfInBounds_toArray, List.set_cons_zero, List.set_cons_succ, i64_w, i32_w]
       rfl
      refine pure_ (i := 3) (N := some 47) (v := ?_) (a' := ?_) #[true, false, true, true, false, false, false, false, false, false, false] rfl rfl (any_of HT_.out (by kernel_rfl)) (fun _ _ _ h => h) (Or.inl ⟨by rfl, ?_⟩) ?_ ?_
      rotate_left
      ·intro w'
       go_simp
       with_reducible rfl
      rotate_left
      ·simp only [Act.put, List.setIfInBounds_toArray, List.set_cons_zero, List.set_cons_succ, i64_w, i32_w]
       rfl
      refine pure_ (i := 5) (N := some 49) (v := ?_) (a' := ?_) #[true, false, true, true, false, true, false, false, false, false, false] rfl rfl (any_of HT_.out (by kernel_rfl)) (fun _ _ _ h => h) (Or.inl ⟨by rfl, ?_⟩) ?_ ?_
      rotate_left
      ·intro w'
       go_simp
       with_reducible rfl
      rotate_left
      ·simp only [Act.put, List.setIfInBounds_toArray, List.set_cons_zero, List.set_cons_succ, i64_w, i32_w]
       rfl
      refine take_ (i := 1) (N := some 45) (v := ?_) (a' := ?_) #[true, true, true, true, false, true, false, false, false, false, false] rfl rfl (take_ofW HT_.out HW_.out (by kernel_rfl)) (fun _ _ _ h => h) (Or.inl ⟨by rfl, ?_⟩) hHeld ?_ ?_
      rotate_left
      ·rintro w' ⟨s0, s1, s2⟩
       go_simp
       with_reducible rfl
      rotate_left
      ·simp only [Act.put, List.setIfInBounds_toArray, List.set_cons_zero, List.set_cons_succ, i64_w, i32_w]
       rfl
      refine one_ (i := 4) (N := some 48) #[true, true, true, true, true, true, false, false, false, false, false] rfl rfl (one_of HT_.out (by kernel_rfl)) (by decide) (fun K hK => ?_)
      refine goes_ Tryd.func60 (by kernel_rfl) rfl #[.string t316, .string t317] (by rfl) rfl rfl (by (try simp only [List.map_toArray, List.map_cons, List.map_nil]); first | done | rfl | (simp only [List.length_drop, List.length_take]; rfl)) ?_
      with_reducible refine (impl_minusDigits.calls kj2 t316 t317 t329 _ A60.out).mono ?_
      rintro e w71 ⟨rfl, hb⟩
      refine ⟨_, rfl, ?_⟩
      have n0_ := Aside0.mk (blk_below (g := gb311) (o := .cells #[.bool a0_0, .string a0_1, .int .i64 a0_2] 26 (0, 0)) (by refine blk_up ?_; exact BK311.out) hb)
      have n1_ := Aside0.mk (blk_below (g := gb312) (o := .cells #[.bool a1_0, .string a1_1, .int .i64 a1_2] 26 (0, 0)) (by refine blk_up ?_; exact BK312.out) hb)
      have n2_ := Aside0.mk (blk_below (g := gb313) (o := .cells #[.bool false, .string (⟨#[]⟩ : ByteArray), .int .i64 0] 26 (0, 0)) (by refine blk_up ?_; exact BK313.out) hb)
      have n3_ := Aside0.mk (below_step (by repeat (first | (with_reducible first | exact HB.out | apply below_alloc | apply pw_below_drewN | apply below_drew1 | refine below_set ?_ GE311.out | refine below_set ?_ GE312.out | refine below_set ?_ GE313.out) | exact HB.out)) hb)
      clear BK311
      clear BK312
      clear BK313
      clear HB
      have BK311 := n0_
      have BK312 := n1_
      have BK313 := n2_
      have HB := n3_
      clear n0_ n1_ n2_ n3_
      (try clear hb)
      (try clear hb2)
      (try clear hk)
      (try clear hi)
      refine hK.out _ _ ⟨(blk_cell BK311.out 0).trans rfl, (blk_cell BK311.out 1).trans rfl, (blk_cell BK311.out 2).trans rfl⟩ (fun hHeld => ?_)
      clear hK K
      refine norm_ (a' := ?_) ?_ ?_
      rotate_left
      ·show Act.put _ (some 48) _ = _
       simp only [Act.put, List.setIfInBounds_toArray, List.set_cons_zero, List.set_cons_succ, i64_w, i32_w]
       rfl
      refine one_ (i := 6) (N := some 50) #[true, true, true, true, true, true, true, false, false, false, false] rfl rfl (one_of HT_.out (by kernel_rfl)) (by decide) (fun K hK => ?_)
      refine goes_ Tryd.func54 (by kernel_rfl) rfl #[.bool a0_0, .string t329, .int .i64 t318] (by rfl) rfl rfl (by (try simp only [List.map_toArray, List.map_cons, List.map_nil]); first | done | rfl | (simp only [List.length_drop, List.length_take]; rfl)) ?_
      with_reducible refine (impl_made.calls kj2 a0_0 t329 t318 t330 t331 t332 t333 _ A61.out).mono ?_
      rintro e w72 ⟨rfl, hb⟩
      refine ⟨_, rfl, ?_⟩
      have n0_ := Aside0.mk (blk_below (g := gb311) (o := .cells #[.bool a0_0, .string a0_1, .int .i64 a0_2] 26 (0, 0)) (by refine blk_up ?_; exact BK311.out) hb)
      have n1_ := Aside0.mk (blk_below (g := gb312) (o := .cells #[.bool a1_0, .string a1_1, .int .i64 a1_2] 26 (0, 0)) (by refine blk_up ?_; exact BK312.out) hb)
      have n2_ := Aside0.mk (blk_below (g := gb313) (o := .cells #[.bool false, .string (⟨#[]⟩ : ByteArray), .int .i64 0] 26 (0, 0)) (by refine blk_up ?_; exact BK313.out) hb)
      have n3_ := Aside0.mk (below_step (by repeat (first | (with_reducible first | exact HB.out | apply below_alloc | apply pw_below_drewN | apply below_drew1 | refine below_set ?_ GE311.out | refine below_set ?_ GE312.out | refine below_set ?_ GE313.out) | exact HB.out)) hb)
      clear BK311
      clear BK312
      clear BK313
      clear HB
      have BK311 := n0_
      have BK312 := n1_
      have BK313 := n2_
      have HB := n3_
      clear n0_ n1_ n2_ n3_
      (try clear hb)
      (try clear hb2)
      (try clear hk)
      (try clear hi)
      refine hK.out _ _ ⟨(blk_cell BK311.out 0).trans rfl, (blk_cell BK311.out 1).trans rfl, (blk_cell BK311.out 2).trans rfl⟩ (fun hHeld => ?_)
      clear hK K
      refine norm_ (a' := ?_) ?_ ?_
      rotate_left
      ·show Act.put _ (some 50) _ = _
       simp only [Act.put, List.setIfInBounds_toArray, List.set_cons_zero, List.set_cons_succ, i64_w, i32_w]
       rfl
      refine pure_ (i := 7) (N := some 51) (v := ?_) (a' := ?_) #[true, true, true, true, true, true, true, true, false, false, false] rfl rfl (any_of HT_.out (by kernel_rfl)) (fun _ _ _ h => h) (Or.inl ⟨by rfl, ?_⟩) ?_ ?_
      rotate_left
      ·intro w'
       go_simp
       with_reducible rfl
      rotate_left
      ·simp only [Act.put, List.setIfInBounds_toArray, List.set_cons_zero, List.set_cons_succ, i64_w, i32_w]
       rfl
      refine pure_ (i := 8) (N := some 52) (v := ?_) (a' := ?_) #[true, true, true, true, true, true, true, true, true, false, false] rfl rfl (any_of HT_.out (by kernel_rfl)) (fun _ _ _ h => h) (Or.inl ⟨by rfl, ?_⟩) ?_ ?_
      rotate_left
      ·intro w'
       go_simp
       with_reducible rfl
      rotate_left
      ·simp only [Act.put, List.setIfInBounds_toArray, List.set_cons_zero, List.set_cons_succ, i64_w, i32_w]
       rfl
      refine one_ (i := 9) (N := none) #[true, true, true, true, true, true, true, true, true, true, false] rfl rfl (one_of HT_.out (by kernel_rfl)) (by decide) (fun K hK => ?_)
      have hs73 : w72.cell? ⟨gb313, 0, none⟩ = some (.bool false) := (blk_cell BK313.out 0).trans rfl
      have hfs73 := blk_frozen BK313.out 0
      have hns73_0 := NB311_313.out
      have hns73_1 := NB312_313.out
      have hms73_0 := NB313_311.out
      have hms73_1 := NB313_312.out
      have hs74 : w72.cell? ⟨gb313, 1, none⟩ = some (.string (⟨#[]⟩ : ByteArray)) := (blk_cell BK313.out 1).trans rfl
      have hfs74 := blk_frozen BK313.out 1
      have hns74_0 := NB311_313.out
      have hns74_1 := NB312_313.out
      have hms74_0 := NB313_311.out
      have hms74_1 := NB313_312.out
      have hs75 : w72.cell? ⟨gb313, 2, none⟩ = some (.int .i64 0) := (blk_cell BK313.out 2).trans rfl
      have hfs75 := blk_frozen BK313.out 2
      have hns75_0 := NB311_313.out
      have hns75_1 := NB312_313.out
      have hms75_0 := NB313_311.out
      have hms75_1 := NB313_312.out
      refine skip_ (w1 := ?_) (by rfl) rfl ?_ ?_
      rotate_left
      ·go_simp
       rfl
      refine hK.out _ _ ⟨((cell_far (p := ⟨gb313, _, none⟩) NB311_313.out _).trans (((cell_far (p := ⟨gb313, _, none⟩) NB311_313.out _).trans (((cell_far (p := ⟨gb313, _, none⟩) NB311_313.out _).trans (hHeld.1)))))), ((cell_far (p := ⟨gb313, _, none⟩) NB311_313.out _).trans (((cell_far (p := ⟨gb313, _, none⟩) NB311_313.out _).trans (((cell_far (p := ⟨gb313, _, none⟩) NB311_313.out _).trans (hHeld.2.1)))))), ((cell_far (p := ⟨gb313, _, none⟩) NB311_313.out _).trans (((cell_far (p := ⟨gb313, _, none⟩) NB311_313.out _).trans (((cell_far (p := ⟨gb313, _, none⟩) NB311_313.out _).trans (hHeld.2.2))))))⟩ (fun hHeld => ?_)
      clear hK K
      refine pure_ (i := 10) (N := some 5) (v := ?_) (a' := ?_) #[true, true, true, true, true, true, true, true, true, true, true] rfl rfl (any_of HT_.out (by kernel_rfl)) (fun _ _ _ h => h) (Or.inl ⟨by rfl, ?_⟩) ?_ ?_
      rotate_left
      ·intro w'
       go_simp
       with_reducible rfl
      rotate_left
      ·simp only [Act.put, List.setIfInBounds_toArray, List.set_cons_zero, List.set_cons_succ, i64_w, i32_w]
       rfl
      refine done_ (done_of HT_.out (by kernel_rfl)) ?_
      try go_wp2
      refine bodyPost_ret (results_ct rfl _ _ gb313 26 #[.bool t330, .string t331, .int .i64 t332] (0, 0) _ rfl (by refine blk_up ?_; refine blk_put (cs := #[.bool t330, .string t331, .int .i64 0]) ?_ 2 _ rfl; refine blk_up ?_; refine blk_put (cs := #[.bool t330, .string (⟨#[]⟩ : ByteArray), .int .i64 0]) ?_ 1 _ rfl; refine blk_up ?_; refine blk_put (cs := #[.bool false, .string (⟨#[]⟩ : ByteArray), .int .i64 0]) ?_ 0 _ rfl; refine blk_up ?_; exact BK313.out) Tryd.underlying26 rfl (by kernel_rfl)) rfl ?_
      exact ⟨by first | rfl | (simp [errW_none, errW_some] <;> rfl) | (simp [*, errW_none, errW_some] <;> rfl), by repeat (first | (with_reducible first | exact HB.out | apply below_alloc | apply pw_below_drewN | apply below_drew1 | refine below_set ?_ GE311.out | refine below_set ?_ GE312.out | refine below_set ?_ GE313.out) | exact HB.out)⟩

/-! ### spec_l4Same: function 62 -/
mutual
def spec_l4Same.l0 : Nat → ByteArray → ByteArray → Int → Int → Bool → ByteArray → Int → Option (ByteArray × ByteArray × Int)
 | 0, _, _, _, _, _, _, _ => none
 | k + 1, x7, x8, x9, x10, x108000, x108001, x108002 => if x10 < x9 then (if x7.size + 1 ≤ 9223372036854775807 then (spec_l4Same.l0 k (x7 ++ (⟨#[48]⟩ : ByteArray)) x8 x9 (wrap64 (x10 + 1)) x108000 x108001 x108002) else (none)) else (spec_l4Same.l1 k x7 x8 x9 x108002)
def spec_l4Same.l1 : Nat → ByteArray → ByteArray → Int → Int → Option (ByteArray × ByteArray × Int)
 | 0, _, _, _, _ => none
 | k + 1, x7, x8, x9, x11 => if x11 < x9 then (if x8.size + 1 ≤ 9223372036854775807 then (spec_l4Same.l1 k x7 (x8 ++ (⟨#[48]⟩ : ByteArray)) x9 (wrap64 (x11 + 1))) else (none)) else (spec_l4Same.l2 k x7 x8 x9)
def spec_l4Same.l2 : Nat → ByteArray → ByteArray → Int → Option (ByteArray × ByteArray × Int)
 | 0, _, _, _ => none
 | k + 1, x7, x8, x9 => if (x7.size : Int) < (x8.size : Int) then (if 1 + x7.size ≤ 9223372036854775807 then (spec_l4Same.l2 k ((⟨#[48]⟩ : ByteArray) ++ x7) x8 x9) else (none)) else (spec_l4Same.l3 k x7 x8 x9)
def spec_l4Same.l3 : Nat → ByteArray → ByteArray → Int → Option (ByteArray × ByteArray × Int)
 | 0, _, _, _ => none
 | k + 1, x7, x8, x9 => if (x8.size : Int) < (x7.size : Int) then (if 1 + x8.size ≤ 9223372036854775807 then (spec_l4Same.l3 k x7 ((⟨#[48]⟩ : ByteArray) ++ x8) x9) else (none)) else (some (x7, x8, x9))
end
def spec_l4Same.f (k : Nat) (a0_0 : Bool) (a0_1 : ByteArray) (a0_2 : Int) (a1_0 : Bool) (a1_1 : ByteArray) (a1_2 : Int) : Option (ByteArray × ByteArray × Int) := spec_l4Same.l0 k a0_1 a1_1 (mx a0_2 a1_2) a0_2 a1_0 a1_1 a1_2
end Go.Proofs.YtilmhfkbpnejeaaDoor.L

namespace Go.Proofs.YtilmhfkbpnejeaaDoor.Pure
open Go.RowKit Go.Proofs.YtilmhfkbpnejeaaDoor.L Go.Proofs.YtilmhfkbpnejeaaDoorW.PrintWords Go.Proofs.YtilmhfkbpnejeaaDoorW.PrintLast Go.Proofs.YtilmhfkbpnejeaaDoorW.PrintMore
set_option linter.unusedVariables false
set_option linter.unusedSimpArgs false

theorem ba_ext {a b : ByteArray} (h : a.data.toList = b.data.toList) : a = b := by
  cases a; cases b; simp only [ByteArray.mk.injEq]; exact Array.toList_inj.mp h
theorem ba_app (a b : ByteArray) : (a ++ b).data.toList = a.data.toList ++ b.data.toList := by
  rw [ByteArray.data_append, Array.toList_append]
theorem sz (a : ByteArray) : a.size = a.data.toList.length := (data_length a).symm
theorem w64 {n : Int} (h : -9223372036854775808 ≤ n) (h' : n ≤ 9223372036854775807) : wrap64 n = n := by unfold wrap64; omega
theorem bt_nat (s : ByteArray) (i : Nat) (h : i < s.data.toList.length) : bt s (i : Int) = ((s.data.toList[i]).toNat : Int) := by
  have h' : i < s.size := by rw [sz]; exact h
  unfold bt
  rw [dif_pos (by simpa using h')]
  simp only [Int.toNat_natCast]
  rfl
def digB (b : UInt8) : Bool := decide (48 ≤ b.toNat) && decide (b.toNat ≤ 57)
theorem digit_f (b : UInt8) : spec_l1Digit.f (b.toNat : Int) = some (digB b) := by
  unfold spec_l1Digit.f digB
  by_cases h : (b.toNat : Int) ≥ 48
  · have h' : 48 ≤ b.toNat := by omega
    simp only [if_pos h, h', decide_true, Bool.true_and]
    congr 1
    simp only [decide_eq_decide]; omega
  · have h' : ¬ 48 ≤ b.toNat := by omega
    simp only [if_neg h, h', decide_false, Bool.false_and]

theorem l4Digits_l0 (s : ByteArray) (hs : s.data.toList.length ≤ 9223372036854775806) : ∀ (n i : Nat), i + n = s.data.toList.length →
    Ev (fun k => spec_l4Digits.l0 k s (i : Int)) ((s.data.toList.drop i).all digB) := by
  intro n
  induction n with
  | zero =>
    intro i hi
    refine Ev.step (f := fun _ => some true) (fun k => ?_) ?_
    · unfold spec_l4Digits.l0
      rw [if_neg (by rw [sz]; omega)]
    · rw [List.drop_of_length_le (by omega)]; exact Ev.now _
  | succ n ih =>
    intro i hi
    have hlt : i < s.data.toList.length := by omega
    have e : spec_l1Digit.f (bt s (i : Int)) = some (digB (s.data.toList[i])) := by rw [bt_nat s i hlt]; exact digit_f _
    have hd : s.data.toList.drop i = s.data.toList[i] :: s.data.toList.drop (i + 1) := List.drop_eq_getElem_cons hlt
    have w : wrap64 ((i : Int) + 1) = ((i + 1 : Nat) : Int) := by rw [w64] <;> omega
    by_cases c : digB (s.data.toList[i]) = true
    · refine Ev.step (f := fun k => spec_l4Digits.l0 k s ((i + 1 : Nat) : Int)) (fun k => ?_) ?_
      · conv => lhs; unfold spec_l4Digits.l0
        rw [if_pos (by rw [sz]; omega), if_pos (by omega), e]
        simp only [Option.bind_some, if_pos c, w]
      · rw [hd, List.all_cons, c, Bool.true_and]; exact ih (i + 1) (by omega)
    · refine Ev.step (f := fun _ => some false) (fun k => ?_) ?_
      · conv => lhs; unfold spec_l4Digits.l0
        rw [if_pos (by rw [sz]; omega), if_pos (by omega), e]
        simp only [Option.bind_some, if_neg c]
      · rw [hd, List.all_cons]
        rw [Bool.not_eq_true] at c
        rw [c, Bool.false_and]; exact Ev.now _
theorem l4Digits (s : ByteArray) (hs : s.data.toList.length ≤ 9223372036854775806) : Ev (fun k => spec_l4Digits.f k s) (s.data.toList.all digB) := by
  have := l4Digits_l0 s hs s.data.toList.length 0 (by omega)
  simpa [spec_l4Digits.f] using this

def inB (x : Int) : Bool := decide (0 ≤ x) && decide (x ≤ 60)
theorem l1In_f (x : Int) : spec_l1In.f x 0 60 = some (inB x) := by
  unfold spec_l1In.f inB
  by_cases h : x ≥ 0
  · have h' : 0 ≤ x := h
    simp [if_pos h, h']
  · have h' : ¬ 0 ≤ x := h
    simp [if_neg h, h']
theorem impl_in_f (x : Int) : impl_in.f x 0 60 = some (inB x) := by
  unfold impl_in.f inB
  by_cases h : 0 ≤ x
  · simp [if_pos h, h]
  · simp [if_neg h, h]

/-- A right number. -/
def okL (n : Bool) (x : Int) : List UInt8 → Bool
  | [] => !n && (x == 0)
  | b :: l => decide ((b :: l).length ≤ 60) && ((b :: l).all digB && (b.toNat != 48 && (inB x && (x == 0 || ((b :: l).getLast (by simp)).toNat != 48))))

def okB (n : Bool) (s : ByteArray) (x : Int) : Bool := okL n x s.data.toList

theorem dropWhile_nil {α : Type} (p : α → Bool) : ∀ l : List α, l.dropWhile p = [] ↔ ∀ x ∈ l, p x = true
  | [] => by simp
  | a :: l => by
    by_cases c : p a = true
    · rw [List.dropWhile_cons_of_pos c, dropWhile_nil p l]; simp [c]
    · rw [List.dropWhile_cons_of_neg c]; simp [c]
theorem trim_nil (l cs : List UInt8) : (Lib.trimS l cs = []) ↔ (l.all (cs.contains ·) = true) := by
  unfold Lib.trimS Lib.trimLeftS Lib.trimRightS
  constructor
  · intro h
    rw [dropWhile_nil] at h
    rw [List.all_eq_true]
    intro x hx
    have hx' : x ∈ l.reverse := by simpa using hx
    rw [← List.takeWhile_append_dropWhile (p := (cs.contains ·)) (l := l.reverse)] at hx'
    rcases List.mem_append.1 hx' with h1 | h1
    · exact (List.all_eq_true.1 (List.all_takeWhile (p := (cs.contains ·)) (l := l.reverse))) x h1
    · exact h x (by simpa using h1)
  · intro h
    rw [List.all_eq_true] at h
    rw [dropWhile_nil]
    intro x hx
    have : x ∈ l.reverse := (List.dropWhile_sublist _).subset (by simpa using hx)
    exact h x (by simpa using this)
set_option maxRecDepth 100000 in
theorem digs_contains (b : UInt8) : ([48, 49, 50, 51, 52, 53, 54, 55, 56, 57] : List UInt8).contains b = digB b := by
  revert b
  have : ∀ n : Fin 256, ([48, 49, 50, 51, 52, 53, 54, 55, 56, 57] : List UInt8).contains (UInt8.ofNat n.val) = digB (UInt8.ofNat n.val) := by decide +kernel
  intro b
  have h := this ⟨b.toNat, b.toNat_lt⟩
  simpa using h
theorem isDigits_f (s : ByteArray) (hs : s.size ≤ 9223372036854775807) : impl_isDigits.f s = some (s.data.toList.all digB) := by
  unfold impl_isDigits.f strings_Trim.f
  rw [if_pos ⟨hs, by decide, by decide⟩]
  simp only [Option.bind_some, Lib.toList_data]
  congr 1
  have h := trim_nil s.data.toList ([48, 49, 50, 51, 52, 53, 54, 55, 56, 57] : List UInt8)
  simp only [digs_contains] at h
  rw [Bool.eq_iff_iff, beq_iff_eq]
  exact h

theorem last_bt (s : ByteArray) (b : UInt8) (l : List UInt8) (h : s.data.toList = b :: l) : bt s ((s.size : Int) - 1) = (((b :: l).getLast (by simp)).toNat : Int) := by
  have e : ((s.size : Int) - 1) = ((l.length : Nat) : Int) := by rw [sz, h]; simp
  rw [e, bt_nat s l.length (by rw [h]; simp)]
  congr 2
  rw [List.getLast_eq_getElem]
  simp [h]
theorem first_bt (s : ByteArray) (b : UInt8) (l : List UInt8) (h : s.data.toList = b :: l) : bt s 0 = (b.toNat : Int) := by
  have := bt_nat s 0 (by rw [h]; simp)
  simp only [h, Int.ofNat_zero, List.getElem_cons_zero] at this
  simpa using this

theorem impl_DecOk_f (n : Bool) (s : ByteArray) (x : Int) (hs : s.size ≤ 9223372036854775807) : impl_DecOk.f n s x = some (okB n s x) := by
  unfold impl_DecOk.f
  rw [Lib.toList_data]
  unfold okB
  rcases h : s.data.toList with _ | ⟨b, l⟩
  · simp [okL]
  · unfold okL
    have hl : (s.size : Int) = ((b :: l).length : Int) := by rw [sz, h]
    have hl0 : s.size ≤ 60 ↔ (b :: l).length ≤ 60 := by rw [sz, h]
    rw [if_neg (by simp)]
    by_cases c : (b :: l).length ≤ 60
    · have c' := hl0.2 c
      have hw : wrap64 ((s.size : Int) - 1) = (s.size : Int) - 1 := by rw [w64] <;> omega
      have hpos : 0 < (s.size : Int) := by rw [hl]; simp
      rw [if_pos (by omega), isDigits_f s hs, h]
      simp only [Option.bind_some, impl_in_f, hw, last_bt s b l h, first_bt s b l h, if_pos hpos]
      simp only [c, decide_true, Bool.true_and]
      rw [if_pos (by omega : (0 : Int) ≤ (s.size : Int) - 1), if_pos (by omega : (s.size : Int) - 1 < s.size)]
      cases h1 : (b :: l).all digB with
      | false => simp
      | true =>
        simp only [if_true, Bool.true_and]
        by_cases h2 : b.toNat = 48
        · simp [h2]
        · have h2' : ¬ ((b.toNat : Int) = 48) := by omega
          simp only [if_neg h2', h2, bne_iff_ne, ne_eq, not_false_eq_true]
          have h3 : (b.toNat != 48) = true := by simpa using h2
          rw [h3, Bool.true_and]
          cases h4 : inB x with
          | false => simp
          | true =>
            simp only [if_true, Bool.true_and]
            by_cases h5 : x = 0
            · simp [h5]
            · simp only [if_neg h5]
              congr 1
              have h6 : (x == 0) = false := by simpa using h5
              rw [h6, Bool.false_or]
              rw [Bool.eq_iff_iff]
              simp only [bne_iff_ne, ne_eq]
              omega
    · have c' : ¬ s.size ≤ 60 := fun z => c (hl0.1 z)
      rw [if_neg (by omega)]
      simp only [c, decide_false, Bool.false_and]

theorem spec_DecOk_f (n : Bool) (s : ByteArray) (x : Int) (hs : s.size ≤ 9223372036854775806) : Ev (fun k => spec_DecOk.f k n s x) (okB n s x) := by
  have hs' : s.data.toList.length ≤ 9223372036854775806 := by rw [← sz]; exact hs
  have jt : ∀ (z : Int), Ev (fun k => spec_DecOk.j0 k z true n s x) false := fun z =>
    Ev.step (f := fun _ => some false) (fun k => by unfold spec_DecOk.j0; rfl) (Ev.now _)
  unfold okB
  rcases h : s.data.toList with _ | ⟨b, l⟩
  · have hz : (s.size : Int) = 0 := by rw [sz, h]; rfl
    unfold okL
    refine Ev.congr (f := fun k => (spec_l4Digits.f k s).bind fun t104 => (if t104 = true then ((spec_l1In.f x 0 60).bind fun t105 => (spec_DecOk.j0 k (s.size : Int) (!t105) n s x)) else (spec_DecOk.j0 k (s.size : Int) true n s x))) (fun k => ?_) ?_
    · unfold spec_DecOk.f; rw [if_neg (by omega)]
    · have hd := l4Digits s hs'
      rw [h] at hd
      refine Ev.bind hd ?_
      simp only [List.all_nil, if_true, l1In_f, Option.bind_some, hz]
      refine Ev.step (f := fun _ => some (!n && (x == 0))) (fun k => ?_) (Ev.now _)
      simp only [spec_DecOk.j0, if_true]
      by_cases c : inB x = true
      · rw [c]; cases n <;> simp
      · have hx : x ≠ 0 := fun e => c (by rw [e]; decide)
        rw [Bool.not_eq_true] at c
        rw [c]
        simp [hx]
  · have hl : (s.size : Int) = ((b :: l).length : Int) := by rw [sz, h]
    unfold okL
    by_cases c : (b :: l).length ≤ 60
    · refine Ev.congr (f := fun k => (spec_l4Digits.f k s).bind fun t104 => (if t104 = true then ((spec_l1In.f x 0 60).bind fun t105 => (spec_DecOk.j0 k (s.size : Int) (!t105) n s x)) else (spec_DecOk.j0 k (s.size : Int) true n s x))) (fun k => ?_) ?_
      · unfold spec_DecOk.f; rw [if_neg (by omega)]
      · have hd := l4Digits s hs'
        rw [h] at hd
        refine Ev.bind hd ?_
        simp only [c, decide_true, Bool.true_and, l1In_f, Option.bind_some]
        cases h1 : (b :: l).all digB with
        | false => simp only [Bool.false_eq_true, if_false, Bool.false_and]; exact jt _
        | true =>
          simp only [if_true, Bool.true_and]
          cases h4 : inB x with
          | false => simp only [Bool.not_false, Bool.false_and, Bool.and_false]; exact jt _
          | true =>
            simp only [Bool.not_true, Bool.true_and]
            have hw : wrap64 ((s.size : Int) - 1) = (s.size : Int) - 1 := by rw [w64] <;> omega
            have hpos : 0 < (s.size : Int) := by rw [hl]; simp
            refine Ev.step (f := fun _ => some (b.toNat != 48 && (x == 0 || ((b :: l).getLast (by simp)).toNat != 48))) (fun k => ?_) (Ev.now _)
            simp only [spec_DecOk.j0, Bool.false_eq_true, if_false]
            rw [if_neg (by omega), if_pos hpos, first_bt s b l h, hw, last_bt s b l h]
            rw [if_pos (by omega : (0 : Int) ≤ (s.size : Int) - 1), if_pos (by omega : (s.size : Int) - 1 < s.size)]
            by_cases h2 : b.toNat = 48
            · simp [h2]
            · have h2' : ¬ ((b.toNat : Int) = 48) := by omega
              have h3 : (b.toNat != 48) = true := by simpa using h2
              rw [if_neg h2', h3, Bool.true_and]
              by_cases h5 : x = 0
              · simp [h5]
              · rw [if_neg h5]
                congr 1
                have h6 : (x == 0) = false := by simpa using h5
                rw [h6, Bool.false_or, Bool.eq_iff_iff]
                simp only [bne_iff_ne, ne_eq]
                omega
    · refine Ev.congr (f := fun k => spec_DecOk.j0 k (s.size : Int) true n s x) (fun k => ?_) ?_
      · unfold spec_DecOk.f; rw [if_pos (by omega)]
      · simp only [c, decide_false, Bool.false_and]; exact jt _

/-- What a right number gives. -/
theorem ok_len {n : Bool} {s : ByteArray} {x : Int} (h : okB n s x = true) : s.size ≤ 60 ∧ 0 ≤ x ∧ x ≤ 60 := by
  unfold okB at h
  rcases e : s.data.toList with _ | ⟨b, l⟩
  · rw [e] at h
    simp only [okL, Bool.and_eq_true, beq_iff_eq] at h
    rw [sz, e]
    simp [h.2]
  · rw [e] at h
    simp only [okL, Bool.and_eq_true, decide_eq_true_eq, inB] at h
    rw [sz, e]
    exact ⟨h.1, h.2.2.2.1.1, h.2.2.2.1.2⟩

/-! ### two numbers on one scale -/
def Z (n : Nat) : ByteArray := ⟨(List.replicate n 48).toArray⟩
theorem Z_list (n : Nat) : (Z n).data.toList = List.replicate n 48 := by simp [Z]
theorem Z_size (n : Nat) : (Z n).size = n := by rw [sz, Z_list]; simp
theorem zero_list : ((⟨#[48]⟩ : ByteArray).data.toList) = [48] := rfl
theorem Z_none_r (s : ByteArray) : s ++ Z 0 = s := by apply ba_ext; simp [ba_app, Z_list]
theorem Z_none_l (s : ByteArray) : Z 0 ++ s = s := by apply ba_ext; simp [ba_app, Z_list]
theorem app_size (a b : ByteArray) : (a ++ b).size = a.size + b.size := by simp only [sz, ba_app, List.length_append]
theorem repeat_f (n : Int) (h : 0 ≤ n) (h' : n ≤ 140737488355328) : strings_Repeat.f (⟨#[48]⟩ : ByteArray) n = some (Z n.toNat) := by
  unfold strings_Repeat.f
  have e1 : (⟨#[48]⟩ : ByteArray).size = 1 := rfl
  rw [if_pos ⟨h, by omega, by rw [e1]; omega⟩]
  congr 1
  apply ba_ext
  rw [Z_list]
  have : ∀ m, Lib.repeatL [48] m = List.replicate m (48 : UInt8) := fun m => by
    induction m with
    | zero => rfl
    | succ m ih => rw [Lib.repeatL, ih, List.replicate_succ]; rfl
  simpa using this n.toNat

def lv (m : Int) (s : ByteArray) (x : Int) : ByteArray := s ++ Z (m - x).toNat
def pad (n : Nat) (s : ByteArray) : ByteArray := Z (n - s.size) ++ s
def top (s0 : ByteArray) (x0 : Int) (s1 : ByteArray) (x1 : Int) : Nat := max (lv (mx x0 x1) s0 x0).size (lv (mx x0 x1) s1 x1).size
def lx (s0 : ByteArray) (x0 : Int) (s1 : ByteArray) (x1 : Int) : ByteArray := pad (top s0 x0 s1 x1) (lv (mx x0 x1) s0 x0)
def ly (s0 : ByteArray) (x0 : Int) (s1 : ByteArray) (x1 : Int) : ByteArray := pad (top s0 x0 s1 x1) (lv (mx x0 x1) s1 x1)

theorem same_l3 (X Y : ByteArray) (m : Int) (hX : X.size ≤ 1000) : ∀ n : Nat, n + Y.size = X.size ∨ (n = 0 ∧ X.size ≤ Y.size) → Ev (fun k => spec_l4Same.l3 k X Y m) (X, Z n ++ Y, m) := by
  intro n
  induction n generalizing Y with
  | zero =>
    intro h
    rw [Z_none_l]
    refine Ev.step (f := fun _ => some (X, Y, m)) (fun k => ?_) (Ev.now _)
    unfold spec_l4Same.l3
    rw [if_neg (by omega)]
  | succ n ih =>
    intro h
    have h' : n + 1 + Y.size = X.size := by omega
    refine Ev.step (f := fun k => spec_l4Same.l3 k X ((⟨#[48]⟩ : ByteArray) ++ Y) m) (fun k => ?_) ?_
    · conv => lhs; unfold spec_l4Same.l3
      rw [if_pos (by omega), if_pos (by omega)]
    · have := ih ((⟨#[48]⟩ : ByteArray) ++ Y) (.inl (by rw [app_size]; have : (⟨#[48]⟩ : ByteArray).size = 1 := rfl; omega))
      have e : Z n ++ ((⟨#[48]⟩ : ByteArray) ++ Y) = Z (n + 1) ++ Y := by
        apply ba_ext
        simp only [ba_app, Z_list, zero_list]
        rw [← List.append_assoc, List.replicate_succ']
      rw [e] at this
      exact this
theorem same_l2 (Y : ByteArray) (m : Int) (hY : Y.size ≤ 1000) : ∀ (n : Nat) (X : ByteArray), X.size ≤ 1000 → n + X.size = Y.size ∨ (n = 0 ∧ Y.size ≤ X.size) →
    Ev (fun k => spec_l4Same.l2 k X Y m) (Z n ++ X, Z (X.size - Y.size) ++ Y, m) := by
  intro n
  induction n with
  | zero =>
    intro X hX h
    rw [Z_none_l]
    refine Ev.step (f := fun k => spec_l4Same.l3 k X Y m) (fun k => ?_) (same_l3 X Y m hX _ ?_)
    · conv => lhs; unfold spec_l4Same.l2
      rw [if_neg (by omega)]
    · omega
  | succ n ih =>
    intro X hX h
    have h' : n + 1 + X.size = Y.size := by omega
    have e1 : (⟨#[48]⟩ : ByteArray).size = 1 := rfl
    refine Ev.step (f := fun k => spec_l4Same.l2 k ((⟨#[48]⟩ : ByteArray) ++ X) Y m) (fun k => ?_) ?_
    · conv => lhs; unfold spec_l4Same.l2
      rw [if_pos (by omega), if_pos (by omega)]
    · have := ih ((⟨#[48]⟩ : ByteArray) ++ X) (by rw [app_size]; omega) (.inl (by rw [app_size]; omega))
      have e : Z n ++ ((⟨#[48]⟩ : ByteArray) ++ X) = Z (n + 1) ++ X := by
        apply ba_ext
        simp only [ba_app, Z_list, zero_list]
        rw [← List.append_assoc, List.replicate_succ']
      rw [e, app_size, e1] at this
      have e2 : 1 + X.size - Y.size = X.size - Y.size := by omega
      rw [e2] at this
      exact this
theorem same_l1 (X : ByteArray) (m : Int) (hX : X.size ≤ 500) (h0 : 0 ≤ m) (h1 : m ≤ 60) : ∀ (n : Nat) (Y : ByteArray) (x : Int), 0 ≤ x → x ≤ m → (n : Int) = m - x → Y.size + n ≤ 500 →
    Ev (fun k => spec_l4Same.l1 k X Y m x) (Z (Y.size + n - X.size) ++ X, Z (X.size - (Y.size + n)) ++ (Y ++ Z n), m) := by
  intro n
  induction n with
  | zero =>
    intro Y x hx0 hx1 hn hY
    rw [Z_none_r, Nat.add_zero]
    refine Ev.step (f := fun k => spec_l4Same.l2 k X Y m) (fun k => ?_) ?_
    · conv => lhs; unfold spec_l4Same.l1
      rw [if_neg (by omega)]
    · exact same_l2 Y m (by omega) (Y.size - X.size) X (by omega) (by omega)
  | succ n ih =>
    intro Y x hx0 hx1 hn hY
    have e1 : (⟨#[48]⟩ : ByteArray).size = 1 := rfl
    refine Ev.step (f := fun k => spec_l4Same.l1 k X (Y ++ (⟨#[48]⟩ : ByteArray)) m (x + 1)) (fun k => ?_) ?_
    · conv => lhs; unfold spec_l4Same.l1
      rw [if_pos (by omega), if_pos (by omega), w64 (by omega) (by omega)]
    · have := ih (Y ++ (⟨#[48]⟩ : ByteArray)) (x + 1) (by omega) (by omega) (by omega) (by rw [app_size]; omega)
      rw [app_size, e1] at this
      have e : (Y ++ (⟨#[48]⟩ : ByteArray)) ++ Z n = Y ++ Z (n + 1) := by
        apply ba_ext
        simp only [ba_app, Z_list, zero_list, List.append_assoc]
        rw [List.replicate_succ]; rfl
      have e2 : Y.size + 1 + n = Y.size + (n + 1) := by omega
      rw [e, e2] at this
      exact this
theorem same_l0 (Y : ByteArray) (y : Int) (b : Bool) (t : ByteArray) (m : Int) (hY : Y.size ≤ 200) (h0 : 0 ≤ m) (h1 : m ≤ 60) (hy0 : 0 ≤ y) (hy1 : y ≤ m) : ∀ (n : Nat) (X : ByteArray) (x : Int), 0 ≤ x → x ≤ m → (n : Int) = m - x → X.size + n ≤ 500 →
    Ev (fun k => spec_l4Same.l0 k X Y m x b t y) (Z (Y.size + (m - y).toNat - (X.size + n)) ++ (X ++ Z n), Z (X.size + n - (Y.size + (m - y).toNat)) ++ (Y ++ Z (m - y).toNat), m) := by
  intro n
  induction n with
  | zero =>
    intro X x hx0 hx1 hn hX
    rw [Z_none_r, Nat.add_zero]
    refine Ev.step (f := fun k => spec_l4Same.l1 k X Y m y) (fun k => ?_) ?_
    · conv => lhs; unfold spec_l4Same.l0
      rw [if_neg (by omega)]
    · exact same_l1 X m (by omega) h0 h1 (m - y).toNat Y y hy0 hy1 (by omega) (by omega)
  | succ n ih =>
    intro X x hx0 hx1 hn hX
    have e1 : (⟨#[48]⟩ : ByteArray).size = 1 := rfl
    refine Ev.step (f := fun k => spec_l4Same.l0 k (X ++ (⟨#[48]⟩ : ByteArray)) Y m (x + 1) b t y) (fun k => ?_) ?_
    · conv => lhs; unfold spec_l4Same.l0
      rw [if_pos (by omega), if_pos (by omega), w64 (by omega) (by omega)]
    · have := ih (X ++ (⟨#[48]⟩ : ByteArray)) (x + 1) (by omega) (by omega) (by omega) (by rw [app_size]; omega)
      rw [app_size, e1] at this
      have e : (X ++ (⟨#[48]⟩ : ByteArray)) ++ Z n = X ++ Z (n + 1) := by
        apply ba_ext
        simp only [ba_app, Z_list, zero_list, List.append_assoc]
        rw [List.replicate_succ]; rfl
      have e2 : X.size + 1 + n = X.size + (n + 1) := by omega
      rw [e, e2] at this
      exact this
theorem mx_le (a b : Int) : a ≤ mx a b ∧ b ≤ mx a b ∧ (mx a b = a ∨ mx a b = b) := by unfold mx; split <;> omega
theorem l4Same_f (n0 : Bool) (s0 : ByteArray) (x0 : Int) (n1 : Bool) (s1 : ByteArray) (x1 : Int) (h0 : s0.size ≤ 60) (h1 : s1.size ≤ 60) (a0 : 0 ≤ x0) (a1 : x0 ≤ 60) (b0 : 0 ≤ x1) (b1 : x1 ≤ 60) :
    Ev (fun k => spec_l4Same.f k n0 s0 x0 n1 s1 x1) (lx s0 x0 s1 x1, ly s0 x0 s1 x1, mx x0 x1) := by
  obtain ⟨g0, g1, g2⟩ := mx_le x0 x1
  have := same_l0 s1 x1 n1 s1 (mx x0 x1) (by omega) (by omega) (by omega) b0 g1 (mx x0 x1 - x0).toNat s0 x0 a0 g0 (by omega) (by omega)
  unfold spec_l4Same.f lx ly pad top
  have e0 : (lv (mx x0 x1) s0 x0).size = s0.size + (mx x0 x1 - x0).toNat := by rw [lv, app_size, Z_size]
  have e1 : (lv (mx x0 x1) s1 x1).size = s1.size + (mx x0 x1 - x1).toNat := by rw [lv, app_size, Z_size]
  rw [e0, e1]
  have e2 : max (s0.size + (mx x0 x1 - x0).toNat) (s1.size + (mx x0 x1 - x1).toNat) - (s0.size + (mx x0 x1 - x0).toNat) = s1.size + (mx x0 x1 - x1).toNat - (s0.size + (mx x0 x1 - x0).toNat) := by omega
  have e3 : max (s0.size + (mx x0 x1 - x0).toNat) (s1.size + (mx x0 x1 - x1).toNat) - (s1.size + (mx x0 x1 - x1).toNat) = s0.size + (mx x0 x1 - x0).toNat - (s1.size + (mx x0 x1 - x1).toNat) := by omega
  rw [e2, e3]
  exact this
theorem level_f (n0 : Bool) (s0 : ByteArray) (x0 : Int) (n1 : Bool) (s1 : ByteArray) (x1 : Int) (h0 : s0.size ≤ 60) (h1 : s1.size ≤ 60) (a0 : 0 ≤ x0) (a1 : x0 ≤ 60) (b0 : 0 ≤ x1) (b1 : x1 ≤ 60) :
    impl_level.f n0 s0 x0 n1 s1 x1 = some (lx s0 x0 s1 x1, ly s0 x0 s1 x1, mx x0 x1) := by
  obtain ⟨g0, g1, g2⟩ := mx_le x0 x1
  have e0 : (lv (mx x0 x1) s0 x0).size = s0.size + (mx x0 x1 - x0).toNat := by rw [lv, app_size, Z_size]
  have e1 : (lv (mx x0 x1) s1 x1).size = s1.size + (mx x0 x1 - x1).toNat := by rw [lv, app_size, Z_size]
  unfold impl_level.f
  rw [w64 (n := mx x0 x1 - x0) (by omega) (by omega), w64 (n := mx x0 x1 - x1) (by omega) (by omega), repeat_f (mx x0 x1 - x0) (by omega) (by omega), repeat_f (mx x0 x1 - x1) (by omega) (by omega)]
  simp only [Option.bind_some, Z_size]
  rw [if_pos (by omega), if_pos (by omega)]
  have f0 : s0 ++ Z (mx x0 x1 - x0).toNat = lv (mx x0 x1) s0 x0 := rfl
  have f1 : s1 ++ Z (mx x0 x1 - x1).toNat = lv (mx x0 x1) s1 x1 := rfl
  rw [f0, f1]
  have e4 : mx ((lv (mx x0 x1) s0 x0).size : Int) ((lv (mx x0 x1) s1 x1).size : Int) = ((top s0 x0 s1 x1 : Nat) : Int) := by rw [mx]; unfold top; split <;> omega
  have t0 : (lv (mx x0 x1) s0 x0).size ≤ top s0 x0 s1 x1 := by unfold top; omega
  have t1 : (lv (mx x0 x1) s1 x1).size ≤ top s0 x0 s1 x1 := by unfold top; omega
  have t2 : top s0 x0 s1 x1 ≤ 200 := by unfold top; omega
  rw [e4, w64 (by omega) (by omega), w64 (by omega) (by omega), repeat_f _ (by omega) (by omega), repeat_f _ (by omega) (by omega)]
  simp only [Option.bind_some, Z_size]
  rw [if_pos (by omega), if_pos (by omega)]
  have k0 : ((top s0 x0 s1 x1 : Int) - ((lv (mx x0 x1) s0 x0).size : Int)).toNat = top s0 x0 s1 x1 - (lv (mx x0 x1) s0 x0).size := by omega
  have k1 : ((top s0 x0 s1 x1 : Int) - ((lv (mx x0 x1) s1 x1).size : Int)).toNat = top s0 x0 s1 x1 - (lv (mx x0 x1) s1 x1).size := by omega
  rw [k0, k1]
  rfl
--MORE
theorem b48 (b : UInt8) : ((b.toNat : Int) = 48) ↔ b = 48 := by
  constructor
  · intro h
    apply UInt8.toNat.inj
    have e2 : (48 : UInt8).toNat = 48 := rfl
    omega
  · intro h; subst h; rfl
theorem b48n (b : UInt8) : (b.toNat = 48) ↔ b = 48 := by rw [← b48]; omega

def stripR : List UInt8 → Nat → List UInt8 × Nat
  | [], x => ([], x)
  | b :: t, 0 => (b :: t, 0)
  | b :: t, x + 1 => if b = 48 then stripR t x else (b :: t, x + 1)
theorem stripR_zero (l : List UInt8) : stripR l 0 = (l, 0) := by cases l <;> rfl
def mkB (l : List UInt8) : ByteArray := ⟨l.toArray⟩
theorem mkB_list (l : List UInt8) : (mkB l).data.toList = l := by simp [mkB]
theorem mkB_of (s : ByteArray) : mkB s.data.toList = s := ba_ext (mkB_list _)
def zeroQ (b : Bool) : Bool × ByteArray × Int × Bool := (false, ⟨#[]⟩, 0, b)
def normL (n : Bool) (l : List UInt8) (x : Nat) : Bool × ByteArray × Int × Bool :=
  match l.dropWhile (· == 48) with
  | [] => zeroQ true
  | b :: t => if okL n x (b :: t) then (n, mkB (b :: t), x, true) else zeroQ false
/-- The right number that digits are on a scale, if there is one. -/
def norm (n : Bool) (l : List UInt8) (x : Nat) : Bool × ByteArray × Int × Bool := normL n (stripR l.reverse x).1.reverse (stripR l.reverse x).2

theorem nil_ok : okB false (⟨#[]⟩ : ByteArray) 0 = true := rfl
theorem l4Norm_l1 (n : Bool) (x : Nat) : ∀ (l : List UInt8) (s : ByteArray), s.data.toList = l → l.length ≤ 1000000 → Ev (fun k => spec_l4Norm.l1 k n s (x : Int)) (normL n l x) := by
  intro l
  induction l with
  | nil =>
    intro s hs hl
    refine Ev.step (f := fun k => (spec_DecOk.f k false (⟨#[]⟩ : ByteArray) 0).bind fun t171 => (if t171 = true then (some (false, (⟨#[]⟩ : ByteArray), 0, true)) else (some (false, (⟨#[]⟩ : ByteArray), 0, false)))) (fun k => ?_) ?_
    · conv => lhs; unfold spec_l4Norm.l1
      rw [Lib.toList_data, hs, if_pos rfl]
    · refine Ev.bind (spec_DecOk_f false ⟨#[]⟩ 0 (by decide)) ?_
      rw [nil_ok]
      exact Ev.now _
  | cons b t ih =>
    intro s hs hl
    have hz : (s.size : Int) = ((b :: t).length : Int) := by rw [sz, hs]
    have hz' : (s.size : Int) = (t.length : Int) + 1 := by rw [hz]; simp
    have hl' : t.length + 1 ≤ 1000000 := hl
    by_cases c : b = 48
    · refine Ev.step (f := fun k => spec_l4Norm.l1 k n (s.extract 1 s.size) (x : Int)) (fun k => ?_) ?_
      · conv => lhs; unfold spec_l4Norm.l1
        rw [Lib.toList_data, hs, if_neg (by simp), if_pos (by omega), first_bt s b t hs, if_pos ((b48 b).2 c), if_pos (by omega)]
      · have := ih (s.extract 1 s.size) (by rw [Lib.extract_to_end, hs]; rfl) (by omega)
        have e : normL n (b :: t) x = normL n t x := by subst c; rfl
        rw [e]; exact this
    · have e : normL n (b :: t) x = if okL n x (b :: t) then (n, mkB (b :: t), (x : Int), true) else zeroQ false := by
        have c' : (b == 48) = false := by simpa using c
        simp only [normL, List.dropWhile, c']
      refine Ev.step (f := fun k => ((spec_DecOk.f k n s (x : Int)).bind fun t173 => (if t173 = true then (some (n, s, (x : Int), true)) else (some (false, (⟨#[]⟩ : ByteArray), 0, false))))) (fun k => ?_) ?_
      · conv => lhs; unfold spec_l4Norm.l1
        rw [Lib.toList_data, hs, if_neg (by simp), if_pos (by omega), first_bt s b t hs, if_neg (fun h => c ((b48 b).1 h))]
      · refine Ev.bind (spec_DecOk_f n s (x : Int) (by omega)) ?_
        rw [e, okB, hs, ← hs, mkB_of]
        split
        · exact Ev.now _
        · exact Ev.now _

theorem split_last (s : ByteArray) (c : UInt8) (t : List UInt8) (h : s.data.toList.reverse = c :: t) :
    s.data.toList = t.reverse ++ [c] ∧ (s.size : Int) = (t.length : Int) + 1 ∧ bt s ((s.size : Int) - 1) = (c.toNat : Int) ∧ (s.extract 0 ((s.size : Int) - 1).toNat).data.toList.reverse = t := by
  have e : s.data.toList = t.reverse ++ [c] := by
    have := congrArg List.reverse h
    rw [List.reverse_reverse] at this
    rw [this]; simp
  have hz : (s.size : Int) = (t.length : Int) + 1 := by rw [sz, e]; simp
  refine ⟨e, hz, ?_, ?_⟩
  · have e1 : ((s.size : Int) - 1) = ((t.length : Nat) : Int) := by omega
    rw [e1, bt_nat s t.length (by rw [e]; simp)]
    congr 2
    simp [e]
  · rw [Lib.extract_data, List.drop_zero, Nat.sub_zero, e]
    have : ((s.size : Int) - 1).toNat = t.reverse.length := by rw [List.length_reverse]; omega
    rw [this, List.take_left]
    exact List.reverse_reverse t

theorem l4Norm_l0 (n : Bool) : ∀ (x : Nat) (s : ByteArray), x ≤ 1000000 → s.size ≤ 1000000 → Ev (fun k => spec_l4Norm.l0 k n s (x : Int)) (norm n s.data.toList x) := by
  intro x
  induction x with
  | zero =>
    intro s hx hs
    refine Ev.step (f := fun k => spec_l4Norm.l1 k n s ((0 : Nat) : Int)) (fun k => ?_) ?_
    · conv => lhs; unfold spec_l4Norm.l0
      rw [if_neg (by omega)]
    · have := l4Norm_l1 n 0 s.data.toList s rfl (by rw [← sz]; exact hs)
      unfold norm
      rw [stripR_zero, List.reverse_reverse]
      exact this
  | succ x ih =>
    intro s hx hs
    rcases h : s.data.toList.reverse with _ | ⟨c, t⟩
    · have e : s.data.toList = [] := by simpa using h
      refine Ev.step (f := fun k => spec_l4Norm.l1 k n s ((x + 1 : Nat) : Int)) (fun k => ?_) ?_
      · conv => lhs; unfold spec_l4Norm.l0
        rw [if_pos (by omega), Lib.toList_data, e, if_pos rfl]
      · have := l4Norm_l1 n (x + 1) s.data.toList s rfl (by rw [← sz]; exact hs)
        unfold norm
        rw [h]
        rw [e] at this
        exact this
    · obtain ⟨e, hz, hb, hd⟩ := split_last s c t h
      have hw : wrap64 ((s.size : Int) - 1) = (s.size : Int) - 1 := by rw [w64] <;> omega
      have hw2 : wrap64 (((x + 1 : Nat) : Int) - 1) = ((x : Nat) : Int) := by rw [w64] <;> omega
      have hne : ¬ (s.data.toList = []) := by rw [e]; simp
      by_cases cc : c = 48
      · refine Ev.step (f := fun k => spec_l4Norm.l0 k n (s.extract 0 ((s.size : Int) - 1).toNat) (x : Int)) (fun k => ?_) ?_
        · conv => lhs; unfold spec_l4Norm.l0
          rw [if_pos (by omega), Lib.toList_data, if_neg hne, hw, if_pos (by omega), if_pos (by omega), hb, if_pos ((b48 c).2 cc), if_pos (by omega), hw2]
        · have := ih (s.extract 0 ((s.size : Int) - 1).toNat) (by omega) (by
            have := congrArg List.length hd
            rw [List.length_reverse, ← sz] at this
            omega)
          unfold norm at this ⊢
          rw [hd] at this
          rw [h]
          simp only [stripR, if_pos cc]
          exact this
      · refine Ev.step (f := fun k => spec_l4Norm.l1 k n s ((x + 1 : Nat) : Int)) (fun k => ?_) ?_
        · conv => lhs; unfold spec_l4Norm.l0
          rw [if_pos (by omega), Lib.toList_data, if_neg hne, hw, if_pos (by omega), if_pos (by omega), hb, if_neg (fun h => cc ((b48 c).1 h))]
        · have := l4Norm_l1 n (x + 1) s.data.toList s rfl (by rw [← sz]; exact hs)
          unfold norm
          rw [h]
          simp only [stripR, if_neg cc]
          rw [← h, List.reverse_reverse]
          exact this
theorem l4Norm_f (n : Bool) (s : ByteArray) (x : Nat) (hx : x ≤ 1000000) (hs : s.size ≤ 1000000) : Ev (fun k => spec_l4Norm.f k n s (x : Int)) (norm n s.data.toList x) := l4Norm_l0 n x s hx hs

theorem made_end (n : Bool) (s : ByteArray) (x : Nat) (hs : s.size ≤ 1000000) :
    ((strings_TrimLeft.f s (⟨#[48]⟩ : ByteArray)).bind fun t290 => (if t290.toList = ([] : List UInt8) then ((impl_DecOk.f false (⟨#[]⟩ : ByteArray) 0).bind fun t292 => (if t292 = true then (some (false, (⟨#[]⟩ : ByteArray), 0, true)) else (some (false, (⟨#[]⟩ : ByteArray), 0, false)))) else ((impl_DecOk.f n t290 (x : Int)).bind fun t293 => (if t293 = true then (some (n, t290, (x : Int), true)) else (some (false, (⟨#[]⟩ : ByteArray), (0 : Int), false)))))) = some (normL n s.data.toList x) := by
  have e0 : strings_TrimLeft.f s (⟨#[48]⟩ : ByteArray) = some (mkB (s.data.toList.dropWhile (· == 48))) := by
    unfold strings_TrimLeft.f
    rw [if_pos ⟨by decide, by decide⟩]
    congr 1
    apply ba_ext
    rw [mkB_list]
    simp only [Lib.trimLeftS]
    congr 1
    funext b
    show ([48] : List UInt8).contains b = (b == 48)
    by_cases hb : b = 48 <;> simp [List.contains_cons, List.elem_nil, hb]
  rw [e0]
  simp only [Option.bind_some, Lib.toList_data, mkB_list]
  have hlen : (s.data.toList.dropWhile (· == 48)).length ≤ 1000000 := Nat.le_trans (List.Sublist.length_le (List.dropWhile_sublist _)) (by rw [← sz]; exact hs)
  unfold normL
  rcases h : s.data.toList.dropWhile (· == 48) with _ | ⟨b, t⟩
  · rw [if_pos rfl, impl_DecOk_f false ⟨#[]⟩ 0 (by decide), nil_ok]
    rfl
  · rw [h] at hlen
    rw [if_neg (by simp), impl_DecOk_f n (mkB (b :: t)) (x : Int) (by rw [sz, mkB_list]; omega)]
    simp only [Option.bind_some, okB, mkB_list]
    split <;> rfl

theorem made_f (n : Bool) : ∀ (x : Nat) (s : ByteArray), x ≤ 1000000 → s.size ≤ 1000000 → Ev (fun k => impl_made.f k n s (x : Int)) (norm n s.data.toList x) := by
  intro x
  unfold impl_made.f
  induction x with
  | zero =>
    intro s hx hs
    refine Ev.step (f := fun k => some (normL n s.data.toList 0)) (fun k => ?_) ?_
    · conv => lhs; unfold impl_made.l0
      rw [if_neg (by omega)]
      exact made_end n s 0 hs
    · unfold norm
      rw [stripR_zero, List.reverse_reverse]
      exact Ev.now _
  | succ x ih =>
    intro s hx hs
    rcases h : s.data.toList.reverse with _ | ⟨c, t⟩
    · have e : s.data.toList = [] := by simpa using h
      refine Ev.step (f := fun k => some (normL n s.data.toList (x + 1))) (fun k => ?_) ?_
      · conv => lhs; unfold impl_made.l0
        rw [if_pos (by omega), if_pos (by rw [Lib.toList_data]; exact e)]
        exact made_end n s (x + 1) hs
      · unfold norm
        rw [h, e]
        exact Ev.now _
    · obtain ⟨e, hz, hb, hd⟩ := split_last s c t h
      have hw : wrap64 ((s.size : Int) - 1) = (s.size : Int) - 1 := by rw [w64] <;> omega
      have hw2 : wrap64 (((x + 1 : Nat) : Int) - 1) = ((x : Nat) : Int) := by rw [w64] <;> omega
      have hne : ¬ (s.toList = []) := by rw [Lib.toList_data, e]; simp
      by_cases cc : c = 48
      · refine Ev.step (f := fun k => impl_made.l0 k n (s.extract 0 ((s.size : Int) - 1).toNat) (x : Int)) (fun k => ?_) ?_
        · conv => lhs; unfold impl_made.l0
          rw [if_pos (by omega), if_neg hne, hw, if_pos (by omega), if_pos (by omega), hb, if_pos ((b48 c).2 cc), if_pos (by omega), hw2]
        · have := ih (s.extract 0 ((s.size : Int) - 1).toNat) (by omega) (by
            have := congrArg List.length hd
            rw [List.length_reverse, ← sz] at this
            omega)
          unfold norm at this ⊢
          rw [hd] at this
          rw [h]
          simp only [stripR, if_pos cc]
          exact this
      · refine Ev.step (f := fun k => some (normL n s.data.toList (x + 1))) (fun k => ?_) ?_
        · conv => lhs; unfold impl_made.l0
          rw [if_pos (by omega), if_neg hne, hw, if_pos (by omega), if_pos (by omega), hb, if_neg (fun h => cc ((b48 c).1 h))]
          exact made_end n s (x + 1) hs
        · unfold norm
          rw [h]
          simp only [stripR, if_neg cc]
          rw [← h, List.reverse_reverse]
          exact Ev.now _

/-! ### what digits count -/
def dv (b : UInt8) : Nat := b.toNat - 48
def nv (l : List UInt8) : Nat := l.foldl (fun a b => 10 * a + dv b) 0
theorem nv_from (l : List UInt8) : ∀ a : Nat, l.foldl (fun a b => 10 * a + dv b) a = a * 10 ^ l.length + nv l := by
  induction l with
  | nil => intro a; simp [nv]
  | cons b t ih =>
    intro a
    unfold nv
    simp only [List.foldl_cons, List.length_cons]
    rw [ih (10 * a + dv b), ih (10 * 0 + dv b)]
    rw [Nat.pow_succ, Nat.mul_zero, Nat.zero_add, Nat.add_mul, ← Nat.add_assoc]
    congr 2
    rw [Nat.mul_comm 10 a, Nat.mul_assoc, Nat.mul_comm 10 (10 ^ t.length)]
theorem nv_nil : nv [] = 0 := rfl
theorem nv_cons (b : UInt8) (t : List UInt8) : nv (b :: t) = dv b * 10 ^ t.length + nv t := by
  have := nv_from t (10 * 0 + dv b)
  have e : nv (b :: t) = t.foldl (fun a b => 10 * a + dv b) (10 * 0 + dv b) := rfl
  rw [e, this, Nat.mul_zero, Nat.zero_add]
theorem nv_app (l m : List UInt8) : nv (l ++ m) = nv l * 10 ^ m.length + nv m := by
  unfold nv
  rw [List.foldl_append]
  exact nv_from m _
theorem nv_snoc (l : List UInt8) (b : UInt8) : nv (l ++ [b]) = 10 * nv l + dv b := by
  unfold nv
  rw [List.foldl_append]
  rfl
theorem dv_lt {b : UInt8} (h : digB b = true) : dv b < 10 := by
  simp only [digB, Bool.and_eq_true, decide_eq_true_eq] at h
  unfold dv; omega
theorem nv_lt : ∀ (l : List UInt8), l.all digB = true → nv l < 10 ^ l.length
  | [], _ => by simp [nv]
  | b :: t, h => by
    rw [List.all_cons, Bool.and_eq_true] at h
    have h1 := dv_lt h.1
    have h2 := nv_lt t h.2
    rw [nv_cons, List.length_cons, Nat.pow_succ]
    have : dv b * 10 ^ t.length ≤ 9 * 10 ^ t.length := Nat.mul_le_mul_right _ (by omega)
    omega
theorem nv_zeros (n : Nat) : nv (List.replicate n 48) = 0 := by
  induction n with
  | zero => rfl
  | succ n ih => rw [List.replicate_succ, nv_cons, ih]; simp [dv]
theorem nv_zeros_app (n : Nat) (l : List UInt8) : nv (List.replicate n 48 ++ l) = nv l := by rw [nv_app, nv_zeros]; simp
theorem nv_app_zeros (n : Nat) (l : List UInt8) : nv (l ++ List.replicate n 48) = nv l * 10 ^ n := by rw [nv_app, nv_zeros, List.length_replicate]; simp
theorem nv_drop (l : List UInt8) : nv (l.dropWhile (· == 48)) = nv l := by
  induction l with
  | nil => rfl
  | cons b t ih =>
    by_cases c : b = 48
    · subst c
      have : (List.dropWhile (· == (48 : UInt8)) (48 :: t)) = t.dropWhile (· == 48) := rfl
      rw [this, ih, nv_cons]; simp [dv]
    · have c' : (b == 48) = false := by simpa using c
      simp only [List.dropWhile, c']
theorem nv_inj : ∀ (l m : List UInt8), l.all digB = true → m.all digB = true → l.length = m.length → nv l = nv m → l = m
  | [], [], _, _, _, _ => rfl
  | [], _ :: _, _, _, h, _ => by simp at h
  | _ :: _, [], _, _, h, _ => by simp at h
  | b :: t, c :: u, hl, hm, hn, hv => by
    rw [List.all_cons, Bool.and_eq_true] at hl hm
    have hlen : t.length = u.length := by simpa using hn
    have h1 := nv_lt t hl.2
    have h2 := nv_lt u hm.2
    rw [nv_cons, nv_cons, ← hlen] at hv
    rw [← hlen] at h2
    have hp : 0 < 10 ^ t.length := Nat.pow_pos (by omega)
    have hd : dv b = dv c := by
      have a1 : (dv b * 10 ^ t.length + nv t) / 10 ^ t.length = dv b := by rw [Nat.mul_comm, Nat.mul_add_div hp, Nat.div_eq_of_lt h1, Nat.add_zero]
      have a2 : (dv c * 10 ^ t.length + nv u) / 10 ^ t.length = dv c := by rw [Nat.mul_comm, Nat.mul_add_div hp, Nat.div_eq_of_lt h2, Nat.add_zero]
      rw [← a1, hv, a2]
    have hv' : nv t = nv u := by rw [hd] at hv; omega
    have hbc : b = c := by
      apply UInt8.toNat.inj
      simp only [digB, Bool.and_eq_true, decide_eq_true_eq] at hl hm
      unfold dv at hd
      omega
    rw [hbc, nv_inj t u hl.2 hm.2 hlen hv']
theorem nv_head {b : UInt8} {t : List UInt8} (h : digB b = true) (hb : b ≠ 48) : 10 ^ t.length ≤ nv (b :: t) := by
  rw [nv_cons]
  have : 1 ≤ dv b := by
    simp only [digB, Bool.and_eq_true, decide_eq_true_eq] at h
    have : b.toNat ≠ 48 := fun e => hb ((b48n b).1 e)
    unfold dv; omega
  have := Nat.mul_le_mul_right (10 ^ t.length) this
  omega
theorem nv_inj_lead {b c : UInt8} {t u : List UInt8} (hl : (b :: t).all digB = true) (hm : (c :: u).all digB = true) (hb : b ≠ 48) (hc : c ≠ 48) (hv : nv (b :: t) = nv (c :: u)) : b :: t = c :: u := by
  have l1 := nv_lt _ hl
  have l2 := nv_lt _ hm
  rw [List.all_cons, Bool.and_eq_true] at hl hm
  have g1 := nv_head (t := t) hl.1 hb
  have g2 := nv_head (t := u) hm.1 hc
  have hlen : t.length = u.length := by
    rcases Nat.lt_trichotomy t.length u.length with h | h | h
    · have : 10 ^ (t.length + 1) ≤ 10 ^ u.length := Nat.pow_le_pow_right (by omega) h
      rw [List.length_cons] at l1; omega
    · exact h
    · have : 10 ^ (u.length + 1) ≤ 10 ^ t.length := Nat.pow_le_pow_right (by omega) h
      rw [List.length_cons] at l2; omega
  exact nv_inj _ _ (by rw [List.all_cons, Bool.and_eq_true]; exact hl) (by rw [List.all_cons, Bool.and_eq_true]; exact hm) (by simp [hlen]) hv

/-- Digits on a scale without needless noughts. -/
def Canon (l : List UInt8) (x : Nat) : Prop := ∃ b t, l = b :: t ∧ (b :: t).all digB = true ∧ b ≠ 48 ∧ (x = 0 ∨ ∃ u c, l = u ++ [c] ∧ c ≠ 48)
theorem canon_scale {l m : List UInt8} {x y M : Nat} (hl : Canon l x) (hm : Canon m y) (hx : x ≤ M) (hy : y ≤ M) (hv : nv l * 10 ^ (M - x) = nv m * 10 ^ (M - y)) : y ≤ x := by
  rcases Nat.lt_or_ge x y with h | h
  · exfalso
    obtain ⟨b, t, e, hd, hb, hlast⟩ := hm
    have e1 : M - x = (M - y) + (y - x) := by omega
    rw [e1, Nat.pow_add, Nat.mul_comm (10 ^ (M - y)), ← Nat.mul_assoc] at hv
    have hp : 0 < 10 ^ (M - y) := Nat.pow_pos (by omega)
    have hv2 : nv l * 10 ^ (y - x) = nv m := Nat.eq_of_mul_eq_mul_right hp hv
    have e2 : y - x = (y - x - 1) + 1 := by omega
    rw [e2, Nat.pow_succ, ← Nat.mul_assoc] at hv2
    rcases hlast with h0 | ⟨u, c, e3, hc⟩
    · omega
    · rw [e3, nv_snoc] at hv2
      have hcd : digB c = true := by
        have := List.all_eq_true.1 hd c (by rw [← e, e3]; simp)
        exact this
      have h1 := dv_lt hcd
      have h2 : dv c ≠ 0 := by
        simp only [digB, Bool.and_eq_true, decide_eq_true_eq] at hcd
        have : c.toNat ≠ 48 := fun e => hc ((b48n c).1 e)
        unfold dv; omega
      omega
  · exact h
theorem canon_uniq {l m : List UInt8} {x y M : Nat} (hl : Canon l x) (hm : Canon m y) (hx : x ≤ M) (hy : y ≤ M) (hv : nv l * 10 ^ (M - x) = nv m * 10 ^ (M - y)) : l = m ∧ x = y := by
  have h1 := canon_scale hl hm hx hy hv
  have h2 := canon_scale hm hl hy hx hv.symm
  have e : x = y := by omega
  subst e
  have hp : 0 < 10 ^ (M - x) := Nat.pow_pos (by omega)
  have hv2 : nv l = nv m := Nat.eq_of_mul_eq_mul_right hp hv
  obtain ⟨b, t, e1, hd1, hb1, _⟩ := hl
  obtain ⟨c, u, e2, hd2, hb2, _⟩ := hm
  subst e1; subst e2
  exact ⟨nv_inj_lead hd1 hd2 hb1 hb2 hv2, rfl⟩
theorem canon_pos {l : List UInt8} {x : Nat} (h : Canon l x) : 0 < nv l := by
  obtain ⟨b, t, e, hd, hb, _⟩ := h
  subst e
  rw [List.all_cons, Bool.and_eq_true] at hd
  exact Nat.lt_of_lt_of_le (Nat.pow_pos (by omega)) (nv_head hd.1 hb)
end Go.Proofs.YtilmhfkbpnejeaaDoor.Pure
