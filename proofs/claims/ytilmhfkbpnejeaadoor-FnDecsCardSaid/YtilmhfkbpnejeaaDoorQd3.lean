/- Words and contracts for the row RowFnDecs: what the Go functions answer that it calls; printed by programs of the kit and of this session, and merged. -/
import Derived.Test.YtilmhfkbpnejeaaDoorQd2
import Derived.Deep.Cut
namespace Go.Proofs.YtilmhfkbpnejeaaDoor.L
open Go.RowKit Go.Proofs.YtilmhfkbpnejeaaDoorW.PrintWords Go.Proofs.YtilmhfkbpnejeaaDoorW.PrintLast Go.Proofs.YtilmhfkbpnejeaaDoorW.PrintMore
attribute [local go_sem] max2_int min2_int max_two min_two max_three min_three max_four min_four   -- for this text's walks alone
attribute [local go_sem] Go.Proofs.YtilmhfkbpnejeaaDoor.H.str_leq Go.Proofs.YtilmhfkbpnejeaaDoor.H.str_gtr Go.Proofs.YtilmhfkbpnejeaaDoor.H.str_geq
set_option linter.unusedVariables false
set_option linter.unusedSimpArgs false

theorem wp_world_impl_made {P : Program} {c : Code} {Q : Exit → Act → World → Prop} {f : Act} {W : World} (F : World → Prop) (h : F W) (k : ∀ W, F W → Code.wp P c Q f W) : Code.wp P c Q f W := k W h

/-! ### impl_made: function 54 -/
def impl_made.l0 : Nat → Bool → ByteArray → Int → Option (Bool × ByteArray × Int × Bool)
  | 0, _, _, _ => none
  | k + 1, x0, x1, x2 => if x2 > 0 then (if x1.toList = ([] : List UInt8) then ((strings_TrimLeft.f x1 (⟨#[48]⟩ : ByteArray)).bind fun t290 => (if t290.toList = ([] : List UInt8) then ((impl_DecOk.f false (⟨#[]⟩ : ByteArray) 0).bind fun t292 => (if t292 = true then (some (false, (⟨#[]⟩ : ByteArray), 0, true)) else (some (false, (⟨#[]⟩ : ByteArray), 0, false)))) else ((impl_DecOk.f x0 t290 x2).bind fun t293 => (if t293 = true then (some (x0, t290, x2, true)) else (some (false, (⟨#[]⟩ : ByteArray), 0, false)))))) else (if 0 ≤ (wrap64 ((x1.size : Int) - 1)) then (if (wrap64 ((x1.size : Int) - 1)) < (x1.size : Int) then (if (bt x1 (wrap64 ((x1.size : Int) - 1))) = 48 then (if (wrap64 ((x1.size : Int) - 1)) ≤ (x1.size : Int) then (impl_made.l0 k x0 (x1.extract 0 ((wrap64 ((x1.size : Int) - 1)) : Int).toNat) (wrap64 (x2 - 1))) else (none)) else ((strings_TrimLeft.f x1 (⟨#[48]⟩ : ByteArray)).bind fun t294 => (if t294.toList = ([] : List UInt8) then ((impl_DecOk.f false (⟨#[]⟩ : ByteArray) 0).bind fun t296 => (if t296 = true then (some (false, (⟨#[]⟩ : ByteArray), 0, true)) else (some (false, (⟨#[]⟩ : ByteArray), 0, false)))) else ((impl_DecOk.f x0 t294 x2).bind fun t297 => (if t297 = true then (some (x0, t294, x2, true)) else (some (false, (⟨#[]⟩ : ByteArray), 0, false))))))) else (none)) else (none))) else ((strings_TrimLeft.f x1 (⟨#[48]⟩ : ByteArray)).bind fun t298 => (if t298.toList = ([] : List UInt8) then ((impl_DecOk.f false (⟨#[]⟩ : ByteArray) 0).bind fun t300 => (if t300 = true then (some (false, (⟨#[]⟩ : ByteArray), 0, true)) else (some (false, (⟨#[]⟩ : ByteArray), 0, false)))) else ((impl_DecOk.f x0 t298 x2).bind fun t301 => (if t301 = true then (some (x0, t298, x2, true)) else (some (false, (⟨#[]⟩ : ByteArray), 0, false))))))
def impl_made.f (k : Nat) (a0 : Bool) (a1 : ByteArray) (a2 : Int) : Option (Bool × ByteArray × Int × Bool) := impl_made.l0 k a0 a1 a2
theorem impl_made.mono_l : ∀ k, (∀ y0 y1 y2, LeO (impl_made.l0 k y0 y1 y2) (impl_made.l0 (k + 1) y0 y1 y2))
  | 0 => fun _ _ _ r h => by simp [impl_made.l0] at h
  | k + 1 => by
    have ih0 := impl_made.mono_l k
    · intro y0 y1 y2
      unfold impl_made.l0
      repeat' first
      | (with_reducible exact ih0 _ _ _)
      | (with_reducible exact LeO.refl _)
      | (with_reducible exact LeO.none _)
      | (with_reducible refine LeO.ite ?_ ?_)
      | (with_reducible refine LeO.bind ?_ (fun _ => ?_))
      | exact ih0 _ _ _
      | exact LeO.none _
      | refine LeO.ite ?_ ?_
      | refine LeO.bind ?_ (fun _ => ?_)
theorem impl_made.mono : ∀ a0 a1 a2 k, LeO (impl_made.f k a0 a1 a2) (impl_made.f (k + 1) a0 a1 a2) := by
  intro a0 a1 a2 k
  have ih0 := impl_made.mono_l k
  unfold impl_made.f
  repeat' first
      | (with_reducible exact ih0 _ _ _)
      | (with_reducible exact LeO.refl _)
      | (with_reducible exact LeO.none _)
      | (with_reducible refine LeO.ite ?_ ?_)
      | (with_reducible refine LeO.bind ?_ (fun _ => ?_))
      | exact ih0 _ _ _
      | exact LeO.none _
      | refine LeO.ite ?_ ?_
      | refine LeO.bind ?_ (fun _ => ?_)
set_option maxHeartbeats 8000000 in
set_option maxRecDepth 100000 in
theorem impl_made.calls (k : Nat) (a0 : Bool) (a1 : ByteArray) (a2 : Int) (r1 : Bool) (r2 : ByteArray) (r3 : Int) (r4 : Bool) (w : World) (h : impl_made.f k a0 a1 a2 = some (r1, r2, r3, r4)) :
    Calls Tryd.prog 54 #[.bool a0, .string a1, .int .i64 a2] w fun e w' => e = .returned (.tuple #[.agg #[.bool r1, .string r2, .int .i64 r3], .bool r4]) ∧ Below w.heap.size w w' := by
  have hu26 := Tryd.underlying26
  have HB := Aside0.mk (Below.refl w.heap.size w)
  have H : (impl_made.l0 k a0 a1 a2) = some (r1, r2, r3, r4) := h
  clear h
  have H' := Aside0.mk H
  clear H
  go_enter Tryd.func54, Tryd.ntmps54
  go_wp2_with (first | ((with_reducible refine gate_dst (N := 6) rfl ?_); (try (refine gate_guard (by rfl) ?_; dsimp only)); refine box_event ?hg (N := 6) ?hd (cs := #[.bool false, .string (⟨#[]⟩ : ByteArray), .int .i64 0]) (t := 26) ?hr ?_; (case hd => rfl); (case hg => rfl); (case hr => first | (go_simp; done) | (go_simp; rfl)); intro gb289 hg w4 hbox hb; have n0_ := Aside0.mk (below_step (by repeat (first | (with_reducible first | exact HB.out | apply below_alloc | apply pw_below_drewN | apply below_drew1) | exact HB.out)) hb); have n1_ := Aside0.mk (hbox); have n2_ := Aside0.mk ((by rw [hg]; exact (below_size (by repeat (first | (with_reducible first | exact HB.out | apply below_alloc | apply pw_below_drewN | apply below_drew1) | exact HB.out))) : w.heap.size ≤ gb289)); have n3_ := Aside0.mk ((by rw [hg]; exact (below_size (by repeat (first | (with_reducible first | exact HB.out | apply below_alloc | apply pw_below_drewN | apply below_drew1) | exact HB.out))) : w.heap.size ≤ gb289)); clear HB; have HB := n0_; have BK289 := n1_; have GW289 := n2_; have GE289 := n3_; clear n0_ n1_ n2_ n3_; clear hb hbox hg))
  go_loopg [1, 2] k (fun kq v1 v2 w' => ∃ (x1_1 : ByteArray) (x2_1 : Int), v1 = .string x1_1 ∧ v2 = .int .i64 x2_1 ∧ Aside0 (impl_made.l0 kq a0 x1_1 x2_1 = some (r1, r2, r3, r4)) ∧ Aside0 (kq ≤ k) ∧ Aside0 (w'.heap[gb289]? = some (.cells #[.bool false, .string (⟨#[]⟩ : ByteArray), .int .i64 0] 26 (0, 0))) ∧ Aside0 (Below w.heap.size w w'))
  case atStart => exact ⟨(a1), (a2), (by first | rfl | (simp; done) | (simp [*]; done)), (by first | rfl | (simp; done) | (simp [*]; done)), H', ⟨Nat.le_refl _⟩, ⟨by refine blk_up ?_; exact BK289.out⟩, ⟨by repeat (first | (with_reducible first | exact HB.out | apply below_alloc | apply pw_below_drewN | apply below_drew1 | refine below_set ?_ GE289.out) | exact HB.out)⟩⟩
  case round =>
    clear H'
    try clear p2
    obtain ⟨x1_1, x2_1, rfl, rfl, HA, HK1, BK289, HB⟩ := hrel
    cases gk with
    | zero => exact absurd HA.out (by simp [impl_made.l0])
    | succ k1 =>
      have H := HA.out
      clear HA
      simp only [impl_made.l0] at H
      by_cases c5 : x2_1 > 0
      · rw [if_pos c5] at H
        have c5b0 : decide (0 < x2_1) = true := decide_eq_true c5
        clear c5
        by_cases c6 : x1_1.toList = ([] : List UInt8)
        · rw [if_pos c6] at H
          have c6b0 : (x1_1.toList == ([] : List UInt8)) = true := beq_iff_eq.mpr c6
          have c6b1 : (x1_1.toList != ([] : List UInt8)) = false := bne_eq_false_iff_eq.mpr c6
          clear c6
          replace H := Option.bind_eq_some_iff.mp H
          obtain ⟨t290, A70, H⟩ := H
          replace H : (if t290.toList = ([] : List UInt8) then ((impl_DecOk.f false (⟨#[]⟩ : ByteArray) 0).bind fun t292 => (if t292 = true then (some (false, (⟨#[]⟩ : ByteArray), 0, true)) else (some (false, (⟨#[]⟩ : ByteArray), 0, false)))) else ((impl_DecOk.f a0 t290 x2_1).bind fun t293 => (if t293 = true then (some (a0, t290, x2_1, true)) else (some (false, (⟨#[]⟩ : ByteArray), 0, false))))) = some (r1, r2, r3, r4) := H
          have A7 := Aside0.mk A70
          clear A70
          by_cases c8 : t290.toList = ([] : List UInt8)
          · rw [if_pos c8] at H
            have c8b0 : (t290.toList == ([] : List UInt8)) = true := beq_iff_eq.mpr c8
            have c8b1 : (t290.toList != ([] : List UInt8)) = false := bne_eq_false_iff_eq.mpr c8
            clear c8
            replace H := Option.bind_eq_some_iff.mp H
            obtain ⟨t292, A90, H⟩ := H
            replace H : (if t292 = true then (some (false, (⟨#[]⟩ : ByteArray), 0, true)) else (some (false, (⟨#[]⟩ : ByteArray), 0, false))) = some (r1, r2, r3, r4) := H
            have A9 := Aside0.mk A90
            clear A90
            by_cases c10 : t292 = true
            · subst c10
              have H1 : (some (false, (⟨#[]⟩ : ByteArray), 0, true)) = some (r1, r2, r3, r4) := by rw [if_pos rfl] at H; exact H
              clear H
              have H := H1
              clear H1
              simp only [Option.some.injEq, Prod.mk.injEq] at H
              obtain ⟨rfl, rfl, rfl, rfl⟩ := H
              go_upto_region 4 with (first | ((with_reducible refine gate_callee (f := 94) rfl ?_); refine goesL_ (some 32) rfl rfl Tryd.func94 (by kernel_rfl) rfl #[.string x1_1, .string (⟨#[48]⟩ : ByteArray)] rfl (by (try simp only [List.map_toArray, List.map_cons, List.map_nil]); first | done | rfl | (simp only [List.length_drop, List.length_take]; rfl)) ?_; (with_reducible refine (strings_TrimLeft.calls x1_1 (⟨#[48]⟩ : ByteArray) t290 _ A7.out).mono ?_); rintro e w11 ⟨rfl, hb⟩; refine ⟨_, rfl, ?_⟩; have n0_ := Aside0.mk (blk_below (g := gb289) (o := .cells #[.bool false, .string (⟨#[]⟩ : ByteArray), .int .i64 0] 26 (0, 0)) (by refine blk_up ?_; exact BK289.out) hb); have n1_ := Aside0.mk (below_step (by repeat (first | (with_reducible first | exact HB.out | apply below_alloc | apply pw_below_drewN | apply below_drew1 | refine below_set ?_ GE289.out) | exact HB.out)) hb); clear BK289; clear HB; have BK289 := n0_; have HB := n1_; clear n0_ n1_; (try clear hb); (try clear hb2); (try clear hk); (try clear hi)) | ((with_reducible refine gate_dst (N := 8) rfl ?_); (try (refine gate_guard (by rfl) ?_; dsimp only)); refine box_event ?hg (N := 8) ?hd (cs := #[.bool false, .string (⟨#[]⟩ : ByteArray), .int .i64 0]) (t := 26) ?hr ?_; (case hd => rfl); (case hg => rfl); (case hr => first | (go_simp; done) | (go_simp; rfl)); intro gb291 hg w12 hbox hb; have n0_ := Aside0.mk (blk_below (g := gb289) (o := .cells #[.bool false, .string (⟨#[]⟩ : ByteArray), .int .i64 0] 26 (0, 0)) (by refine blk_up ?_; exact BK289.out) hb); have n1_ := Aside0.mk (below_step (by repeat (first | (with_reducible first | exact HB.out | apply below_alloc | apply pw_below_drewN | apply below_drew1 | refine below_set ?_ GE289.out) | exact HB.out)) hb); have n2_ := Aside0.mk (hbox); have n3_ := Aside0.mk ((by rw [hg]; exact (below_size (by repeat (first | (with_reducible first | exact HB.out | apply below_alloc | apply pw_below_drewN | apply below_drew1 | refine below_set ?_ GE289.out) | exact HB.out))) : w.heap.size ≤ gb291)); have n4_ := Aside0.mk ((by rw [hg]; exact (below_size (by repeat (first | (with_reducible first | exact HB.out | apply below_alloc | apply pw_below_drewN | apply below_drew1 | refine below_set ?_ GE289.out) | exact HB.out))) : w.heap.size ≤ gb291)); have n5_ := Aside0.mk ((by rw [hg]; exact Nat.ne_of_lt (blk_lt (g := gb289) (o := .cells #[.bool false, .string (⟨#[]⟩ : ByteArray), .int .i64 0] 26 (0, 0)) (by refine blk_up ?_; exact BK289.out)) : gb289 ≠ gb291)); have n6_ := Aside0.mk ((by rw [hg]; exact Nat.ne_of_gt (blk_lt (g := gb289) (o := .cells #[.bool false, .string (⟨#[]⟩ : ByteArray), .int .i64 0] 26 (0, 0)) (by refine blk_up ?_; exact BK289.out)) : gb291 ≠ gb289)); clear BK289; clear HB; have BK289 := n0_; have HB := n1_; have BK291 := n2_; have GW291 := n3_; have GE291 := n4_; have NB289_291 := n5_; have NB291_289 := n6_; clear n0_ n1_ n2_ n3_ n4_ n5_ n6_; clear hb hbox hg; have hnb13 := NB291_289.out; have hnc13 := NB289_291.out; have hcz14_0 : w12.cell? ⟨gb291, 0, none⟩ = some (.bool false) := (blk_cell BK291.out 0).trans rfl; have hcz14_1 : w12.cell? ⟨gb291, 1, none⟩ = some (.string (⟨#[]⟩ : ByteArray)) := (blk_cell BK291.out 1).trans rfl; have hcz14_2 : w12.cell? ⟨gb291, 2, none⟩ = some (.int .i64 0) := (blk_cell BK291.out 2).trans rfl; have hfz14_0 := blk_frozen BK291.out 0; have hfz14_1 := blk_frozen BK291.out 1; have hfz14_2 := blk_frozen BK291.out 2))
              refine wp_world_impl_made (fun W => Aside0 (W.heap[gb289]? = some (.cells #[.bool false, .string (⟨#[]⟩ : ByteArray), .int .i64 0] 26 (0, 0))) ∧ Aside0 (W.heap[gb291]? = some (.cells #[.bool a0, .string t290, .int .i64 x2_1] 26 (0, 0))) ∧ Aside0 (Below w.heap.size w W))
                ⟨⟨by refine blk_up ?_; refine blk_far ?_ NB289_291.out _; refine blk_up ?_; refine blk_far ?_ NB289_291.out _; refine blk_up ?_; refine blk_far ?_ NB289_291.out _; refine blk_up ?_; exact BK289.out⟩,
                 ⟨by refine blk_up ?_; refine blk_put (cs := #[.bool a0, .string t290, .int .i64 0]) ?_ 2 _ rfl; refine blk_up ?_; refine blk_put (cs := #[.bool a0, .string (⟨#[]⟩ : ByteArray), .int .i64 0]) ?_ 1 _ rfl; refine blk_up ?_; refine blk_put (cs := #[.bool false, .string (⟨#[]⟩ : ByteArray), .int .i64 0]) ?_ 0 _ rfl; refine blk_up ?_; exact BK291.out⟩,
                 ⟨by repeat (first | (with_reducible first | exact HB.out | apply below_alloc | apply pw_below_drewN | apply below_drew1 | refine below_set ?_ GE289.out | refine below_set ?_ GE291.out) | exact HB.out)⟩⟩ ?_
              clear BK289 BK291 HB
              rintro ww ⟨BK289, BK291, HB⟩
              have hwz_0 : ww.cell? ⟨gb291, 0, none⟩ = some (.bool a0) := (blk_cell BK291.out 0).trans rfl
              have hwf_0 := blk_frozen BK291.out 0
              have hwz_1 : ww.cell? ⟨gb291, 1, none⟩ = some (.string t290) := (blk_cell BK291.out 1).trans rfl
              have hwf_1 := blk_frozen BK291.out 1
              have hwz_2 : ww.cell? ⟨gb291, 2, none⟩ = some (.int .i64 x2_1) := (blk_cell BK291.out 2).trans rfl
              have hwf_2 := blk_frozen BK291.out 2
              go_wp2_with (first | ((with_reducible refine gate_callee (f := 27) rfl ?_); refine goesL_ (some 40) rfl rfl Tryd.func27 (by kernel_rfl) rfl #[.agg #[.bool false, .string (⟨#[]⟩ : ByteArray), .int .i64 0]] rfl (by (try simp only [List.map_toArray, List.map_cons, List.map_nil]); first | done | rfl | (simp only [List.length_drop, List.length_take]; rfl)) ?_; (with_reducible refine (impl_DecOk.calls false (⟨#[]⟩ : ByteArray) 0 true _ A9.out).mono ?_); rintro e w15 ⟨rfl, hb⟩; refine ⟨_, rfl, ?_⟩; have n0_ := Aside0.mk (blk_below (g := gb289) (o := .cells #[.bool false, .string (⟨#[]⟩ : ByteArray), .int .i64 0] 26 (0, 0)) (by refine blk_up ?_; refine blk_far ?_ NB289_291.out _; refine blk_up ?_; refine blk_far ?_ NB289_291.out _; refine blk_up ?_; refine blk_far ?_ NB289_291.out _; refine blk_up ?_; exact BK289.out) hb); have n1_ := Aside0.mk (blk_below (g := gb291) (o := .cells #[.bool false, .string (⟨#[]⟩ : ByteArray), .int .i64 0] 26 (0, 0)) (by refine blk_up ?_; refine blk_put (cs := #[.bool false, .string (⟨#[]⟩ : ByteArray), .int .i64 x2_1]) ?_ 2 _ rfl; refine blk_up ?_; refine blk_put (cs := #[.bool false, .string t290, .int .i64 x2_1]) ?_ 1 _ rfl; refine blk_up ?_; refine blk_put (cs := #[.bool a0, .string t290, .int .i64 x2_1]) ?_ 0 _ rfl; refine blk_up ?_; exact BK291.out) hb); have n2_ := Aside0.mk (below_step (by repeat (first | (with_reducible first | exact HB.out | apply below_alloc | apply pw_below_drewN | apply below_drew1 | refine below_set ?_ GE289.out | refine below_set ?_ GE291.out) | exact HB.out)) hb); clear BK289; clear BK291; clear HB; have BK289 := n0_; have BK291 := n1_; have HB := n2_; clear n0_ n1_ n2_; (try clear hb); (try clear hb2); (try clear hk); (try clear hi); have hcz16_0 : w15.cell? ⟨gb291, 0, none⟩ = some (.bool false) := (blk_cell BK291.out 0).trans rfl; have hcz16_1 : w15.cell? ⟨gb291, 1, none⟩ = some (.string (⟨#[]⟩ : ByteArray)) := (blk_cell BK291.out 1).trans rfl; have hcz16_2 : w15.cell? ⟨gb291, 2, none⟩ = some (.int .i64 0) := (blk_cell BK291.out 2).trans rfl; have hfz16_0 := blk_frozen BK291.out 0; have hfz16_1 := blk_frozen BK291.out 1; have hfz16_2 := blk_frozen BK291.out 2; have hcz17_0 : w15.cell? ⟨gb289, 0, none⟩ = some (.bool false) := (blk_cell BK289.out 0).trans rfl; have hcz17_1 : w15.cell? ⟨gb289, 1, none⟩ = some (.string (⟨#[]⟩ : ByteArray)) := (blk_cell BK289.out 1).trans rfl; have hcz17_2 : w15.cell? ⟨gb289, 2, none⟩ = some (.int .i64 0) := (blk_cell BK289.out 2).trans rfl; have hfz17_0 := blk_frozen BK289.out 0; have hfz17_1 := blk_frozen BK289.out 1; have hfz17_2 := blk_frozen BK289.out 2))
              refine bodyPost_ret (results_ct rfl _ _ gb289 26 #[.bool false, .string (⟨#[]⟩ : ByteArray), .int .i64 0] (0, 0) _ rfl (by refine blk_up ?_; refine blk_put (cs := #[.bool false, .string (⟨#[]⟩ : ByteArray), .int .i64 0]) ?_ 2 _ rfl; refine blk_up ?_; refine blk_put (cs := #[.bool false, .string (⟨#[]⟩ : ByteArray), .int .i64 0]) ?_ 1 _ rfl; refine blk_up ?_; refine blk_put (cs := #[.bool false, .string (⟨#[]⟩ : ByteArray), .int .i64 0]) ?_ 0 _ rfl; refine blk_up ?_; exact BK289.out) Tryd.underlying26 rfl (by kernel_rfl)) rfl ?_
              exact ⟨by first | rfl | (simp [errW_none, errW_some] <;> rfl) | (simp [*, errW_none, errW_some] <;> rfl), by repeat (first | (with_reducible first | exact HB.out | apply below_alloc | apply pw_below_drewN | apply below_drew1 | refine below_set ?_ GE289.out | refine below_set ?_ GE291.out) | exact HB.out)⟩
            · replace c10 := Bool.eq_false_iff.mpr c10
              subst c10
              have H1 : (some (false, (⟨#[]⟩ : ByteArray), 0, false)) = some (r1, r2, r3, r4) := by rw [if_neg (show ¬ (false = true) by decide)] at H; exact H
              clear H
              have H := H1
              clear H1
              simp only [Option.some.injEq, Prod.mk.injEq] at H
              obtain ⟨rfl, rfl, rfl, rfl⟩ := H
              go_upto_region 4 with (first | ((with_reducible refine gate_callee (f := 94) rfl ?_); refine goesL_ (some 32) rfl rfl Tryd.func94 (by kernel_rfl) rfl #[.string x1_1, .string (⟨#[48]⟩ : ByteArray)] rfl (by (try simp only [List.map_toArray, List.map_cons, List.map_nil]); first | done | rfl | (simp only [List.length_drop, List.length_take]; rfl)) ?_; (with_reducible refine (strings_TrimLeft.calls x1_1 (⟨#[48]⟩ : ByteArray) t290 _ A7.out).mono ?_); rintro e w18 ⟨rfl, hb⟩; refine ⟨_, rfl, ?_⟩; have n0_ := Aside0.mk (blk_below (g := gb289) (o := .cells #[.bool false, .string (⟨#[]⟩ : ByteArray), .int .i64 0] 26 (0, 0)) (by refine blk_up ?_; exact BK289.out) hb); have n1_ := Aside0.mk (below_step (by repeat (first | (with_reducible first | exact HB.out | apply below_alloc | apply pw_below_drewN | apply below_drew1 | refine below_set ?_ GE289.out) | exact HB.out)) hb); clear BK289; clear HB; have BK289 := n0_; have HB := n1_; clear n0_ n1_; (try clear hb); (try clear hb2); (try clear hk); (try clear hi)) | ((with_reducible refine gate_dst (N := 8) rfl ?_); (try (refine gate_guard (by rfl) ?_; dsimp only)); refine box_event ?hg (N := 8) ?hd (cs := #[.bool false, .string (⟨#[]⟩ : ByteArray), .int .i64 0]) (t := 26) ?hr ?_; (case hd => rfl); (case hg => rfl); (case hr => first | (go_simp; done) | (go_simp; rfl)); intro gb291 hg w19 hbox hb; have n0_ := Aside0.mk (blk_below (g := gb289) (o := .cells #[.bool false, .string (⟨#[]⟩ : ByteArray), .int .i64 0] 26 (0, 0)) (by refine blk_up ?_; exact BK289.out) hb); have n1_ := Aside0.mk (below_step (by repeat (first | (with_reducible first | exact HB.out | apply below_alloc | apply pw_below_drewN | apply below_drew1 | refine below_set ?_ GE289.out) | exact HB.out)) hb); have n2_ := Aside0.mk (hbox); have n3_ := Aside0.mk ((by rw [hg]; exact (below_size (by repeat (first | (with_reducible first | exact HB.out | apply below_alloc | apply pw_below_drewN | apply below_drew1 | refine below_set ?_ GE289.out) | exact HB.out))) : w.heap.size ≤ gb291)); have n4_ := Aside0.mk ((by rw [hg]; exact (below_size (by repeat (first | (with_reducible first | exact HB.out | apply below_alloc | apply pw_below_drewN | apply below_drew1 | refine below_set ?_ GE289.out) | exact HB.out))) : w.heap.size ≤ gb291)); have n5_ := Aside0.mk ((by rw [hg]; exact Nat.ne_of_lt (blk_lt (g := gb289) (o := .cells #[.bool false, .string (⟨#[]⟩ : ByteArray), .int .i64 0] 26 (0, 0)) (by refine blk_up ?_; exact BK289.out)) : gb289 ≠ gb291)); have n6_ := Aside0.mk ((by rw [hg]; exact Nat.ne_of_gt (blk_lt (g := gb289) (o := .cells #[.bool false, .string (⟨#[]⟩ : ByteArray), .int .i64 0] 26 (0, 0)) (by refine blk_up ?_; exact BK289.out)) : gb291 ≠ gb289)); clear BK289; clear HB; have BK289 := n0_; have HB := n1_; have BK291 := n2_; have GW291 := n3_; have GE291 := n4_; have NB289_291 := n5_; have NB291_289 := n6_; clear n0_ n1_ n2_ n3_ n4_ n5_ n6_; clear hb hbox hg; have hnb20 := NB291_289.out; have hnc20 := NB289_291.out; have hcz21_0 : w19.cell? ⟨gb291, 0, none⟩ = some (.bool false) := (blk_cell BK291.out 0).trans rfl; have hcz21_1 : w19.cell? ⟨gb291, 1, none⟩ = some (.string (⟨#[]⟩ : ByteArray)) := (blk_cell BK291.out 1).trans rfl; have hcz21_2 : w19.cell? ⟨gb291, 2, none⟩ = some (.int .i64 0) := (blk_cell BK291.out 2).trans rfl; have hfz21_0 := blk_frozen BK291.out 0; have hfz21_1 := blk_frozen BK291.out 1; have hfz21_2 := blk_frozen BK291.out 2))
              refine wp_world_impl_made (fun W => Aside0 (W.heap[gb289]? = some (.cells #[.bool false, .string (⟨#[]⟩ : ByteArray), .int .i64 0] 26 (0, 0))) ∧ Aside0 (W.heap[gb291]? = some (.cells #[.bool a0, .string t290, .int .i64 x2_1] 26 (0, 0))) ∧ Aside0 (Below w.heap.size w W))
                ⟨⟨by refine blk_up ?_; refine blk_far ?_ NB289_291.out _; refine blk_up ?_; refine blk_far ?_ NB289_291.out _; refine blk_up ?_; refine blk_far ?_ NB289_291.out _; refine blk_up ?_; exact BK289.out⟩,
                 ⟨by refine blk_up ?_; refine blk_put (cs := #[.bool a0, .string t290, .int .i64 0]) ?_ 2 _ rfl; refine blk_up ?_; refine blk_put (cs := #[.bool a0, .string (⟨#[]⟩ : ByteArray), .int .i64 0]) ?_ 1 _ rfl; refine blk_up ?_; refine blk_put (cs := #[.bool false, .string (⟨#[]⟩ : ByteArray), .int .i64 0]) ?_ 0 _ rfl; refine blk_up ?_; exact BK291.out⟩,
                 ⟨by repeat (first | (with_reducible first | exact HB.out | apply below_alloc | apply pw_below_drewN | apply below_drew1 | refine below_set ?_ GE289.out | refine below_set ?_ GE291.out) | exact HB.out)⟩⟩ ?_
              clear BK289 BK291 HB
              rintro ww ⟨BK289, BK291, HB⟩
              have hwz_0 : ww.cell? ⟨gb291, 0, none⟩ = some (.bool a0) := (blk_cell BK291.out 0).trans rfl
              have hwf_0 := blk_frozen BK291.out 0
              have hwz_1 : ww.cell? ⟨gb291, 1, none⟩ = some (.string t290) := (blk_cell BK291.out 1).trans rfl
              have hwf_1 := blk_frozen BK291.out 1
              have hwz_2 : ww.cell? ⟨gb291, 2, none⟩ = some (.int .i64 x2_1) := (blk_cell BK291.out 2).trans rfl
              have hwf_2 := blk_frozen BK291.out 2
              go_wp2_with (first | ((with_reducible refine gate_callee (f := 27) rfl ?_); refine goesL_ (some 40) rfl rfl Tryd.func27 (by kernel_rfl) rfl #[.agg #[.bool false, .string (⟨#[]⟩ : ByteArray), .int .i64 0]] rfl (by (try simp only [List.map_toArray, List.map_cons, List.map_nil]); first | done | rfl | (simp only [List.length_drop, List.length_take]; rfl)) ?_; (with_reducible refine (impl_DecOk.calls false (⟨#[]⟩ : ByteArray) 0 false _ A9.out).mono ?_); rintro e w22 ⟨rfl, hb⟩; refine ⟨_, rfl, ?_⟩; have n0_ := Aside0.mk (blk_below (g := gb289) (o := .cells #[.bool false, .string (⟨#[]⟩ : ByteArray), .int .i64 0] 26 (0, 0)) (by refine blk_up ?_; refine blk_far ?_ NB289_291.out _; refine blk_up ?_; refine blk_far ?_ NB289_291.out _; refine blk_up ?_; refine blk_far ?_ NB289_291.out _; refine blk_up ?_; exact BK289.out) hb); have n1_ := Aside0.mk (blk_below (g := gb291) (o := .cells #[.bool false, .string (⟨#[]⟩ : ByteArray), .int .i64 0] 26 (0, 0)) (by refine blk_up ?_; refine blk_put (cs := #[.bool false, .string (⟨#[]⟩ : ByteArray), .int .i64 x2_1]) ?_ 2 _ rfl; refine blk_up ?_; refine blk_put (cs := #[.bool false, .string t290, .int .i64 x2_1]) ?_ 1 _ rfl; refine blk_up ?_; refine blk_put (cs := #[.bool a0, .string t290, .int .i64 x2_1]) ?_ 0 _ rfl; refine blk_up ?_; exact BK291.out) hb); have n2_ := Aside0.mk (below_step (by repeat (first | (with_reducible first | exact HB.out | apply below_alloc | apply pw_below_drewN | apply below_drew1 | refine below_set ?_ GE289.out | refine below_set ?_ GE291.out) | exact HB.out)) hb); clear BK289; clear BK291; clear HB; have BK289 := n0_; have BK291 := n1_; have HB := n2_; clear n0_ n1_ n2_; (try clear hb); (try clear hb2); (try clear hk); (try clear hi); have hcz23_0 : w22.cell? ⟨gb289, 0, none⟩ = some (.bool false) := (blk_cell BK289.out 0).trans rfl; have hcz23_1 : w22.cell? ⟨gb289, 1, none⟩ = some (.string (⟨#[]⟩ : ByteArray)) := (blk_cell BK289.out 1).trans rfl; have hcz23_2 : w22.cell? ⟨gb289, 2, none⟩ = some (.int .i64 0) := (blk_cell BK289.out 2).trans rfl; have hfz23_0 := blk_frozen BK289.out 0; have hfz23_1 := blk_frozen BK289.out 1; have hfz23_2 := blk_frozen BK289.out 2))
              refine bodyPost_ret (results_ct rfl _ _ gb289 26 #[.bool false, .string (⟨#[]⟩ : ByteArray), .int .i64 0] (0, 0) _ rfl (by refine blk_up ?_; refine blk_put (cs := #[.bool false, .string (⟨#[]⟩ : ByteArray), .int .i64 0]) ?_ 2 _ rfl; refine blk_up ?_; refine blk_put (cs := #[.bool false, .string (⟨#[]⟩ : ByteArray), .int .i64 0]) ?_ 1 _ rfl; refine blk_up ?_; refine blk_put (cs := #[.bool false, .string (⟨#[]⟩ : ByteArray), .int .i64 0]) ?_ 0 _ rfl; refine blk_up ?_; exact BK289.out) Tryd.underlying26 rfl (by kernel_rfl)) rfl ?_
              exact ⟨by first | rfl | (simp [errW_none, errW_some] <;> rfl) | (simp [*, errW_none, errW_some] <;> rfl), by repeat (first | (with_reducible first | exact HB.out | apply below_alloc | apply pw_below_drewN | apply below_drew1 | refine below_set ?_ GE289.out | refine below_set ?_ GE291.out) | exact HB.out)⟩
          · rw [if_neg c8] at H
            have c8b0 : (t290.toList == ([] : List UInt8)) = false := beq_eq_false_iff_ne.mpr c8
            have c8b1 : (t290.toList != ([] : List UInt8)) = true := bne_iff_ne.mpr c8
            replace H := Option.bind_eq_some_iff.mp H
            obtain ⟨t293, A240, H⟩ := H
            replace H : (if t293 = true then (some (a0, t290, x2_1, true)) else (some (false, (⟨#[]⟩ : ByteArray), 0, false))) = some (r1, r2, r3, r4) := H
            have A24 := Aside0.mk A240
            clear A240
            by_cases c25 : t293 = true
            · subst c25
              have H1 : (some (a0, t290, x2_1, true)) = some (r1, r2, r3, r4) := by rw [if_pos rfl] at H; exact H
              clear H
              have H := H1
              clear H1
              simp only [Option.some.injEq, Prod.mk.injEq] at H
              obtain ⟨rfl, rfl, rfl, rfl⟩ := H
              go_upto_region 4 with (first | ((with_reducible refine gate_callee (f := 94) rfl ?_); refine goesL_ (some 32) rfl rfl Tryd.func94 (by kernel_rfl) rfl #[.string x1_1, .string (⟨#[48]⟩ : ByteArray)] rfl (by (try simp only [List.map_toArray, List.map_cons, List.map_nil]); first | done | rfl | (simp only [List.length_drop, List.length_take]; rfl)) ?_; (with_reducible refine (strings_TrimLeft.calls x1_1 (⟨#[48]⟩ : ByteArray) t290 _ A7.out).mono ?_); rintro e w26 ⟨rfl, hb⟩; refine ⟨_, rfl, ?_⟩; have n0_ := Aside0.mk (blk_below (g := gb289) (o := .cells #[.bool false, .string (⟨#[]⟩ : ByteArray), .int .i64 0] 26 (0, 0)) (by refine blk_up ?_; exact BK289.out) hb); have n1_ := Aside0.mk (below_step (by repeat (first | (with_reducible first | exact HB.out | apply below_alloc | apply pw_below_drewN | apply below_drew1 | refine below_set ?_ GE289.out) | exact HB.out)) hb); clear BK289; clear HB; have BK289 := n0_; have HB := n1_; clear n0_ n1_; (try clear hb); (try clear hb2); (try clear hk); (try clear hi)) | ((with_reducible refine gate_dst (N := 8) rfl ?_); (try (refine gate_guard (by rfl) ?_; dsimp only)); refine box_event ?hg (N := 8) ?hd (cs := #[.bool false, .string (⟨#[]⟩ : ByteArray), .int .i64 0]) (t := 26) ?hr ?_; (case hd => rfl); (case hg => rfl); (case hr => first | (go_simp; done) | (go_simp; rfl)); intro gb291 hg w27 hbox hb; have n0_ := Aside0.mk (blk_below (g := gb289) (o := .cells #[.bool false, .string (⟨#[]⟩ : ByteArray), .int .i64 0] 26 (0, 0)) (by refine blk_up ?_; exact BK289.out) hb); have n1_ := Aside0.mk (below_step (by repeat (first | (with_reducible first | exact HB.out | apply below_alloc | apply pw_below_drewN | apply below_drew1 | refine below_set ?_ GE289.out) | exact HB.out)) hb); have n2_ := Aside0.mk (hbox); have n3_ := Aside0.mk ((by rw [hg]; exact (below_size (by repeat (first | (with_reducible first | exact HB.out | apply below_alloc | apply pw_below_drewN | apply below_drew1 | refine below_set ?_ GE289.out) | exact HB.out))) : w.heap.size ≤ gb291)); have n4_ := Aside0.mk ((by rw [hg]; exact (below_size (by repeat (first | (with_reducible first | exact HB.out | apply below_alloc | apply pw_below_drewN | apply below_drew1 | refine below_set ?_ GE289.out) | exact HB.out))) : w.heap.size ≤ gb291)); have n5_ := Aside0.mk ((by rw [hg]; exact Nat.ne_of_lt (blk_lt (g := gb289) (o := .cells #[.bool false, .string (⟨#[]⟩ : ByteArray), .int .i64 0] 26 (0, 0)) (by refine blk_up ?_; exact BK289.out)) : gb289 ≠ gb291)); have n6_ := Aside0.mk ((by rw [hg]; exact Nat.ne_of_gt (blk_lt (g := gb289) (o := .cells #[.bool false, .string (⟨#[]⟩ : ByteArray), .int .i64 0] 26 (0, 0)) (by refine blk_up ?_; exact BK289.out)) : gb291 ≠ gb289)); clear BK289; clear HB; have BK289 := n0_; have HB := n1_; have BK291 := n2_; have GW291 := n3_; have GE291 := n4_; have NB289_291 := n5_; have NB291_289 := n6_; clear n0_ n1_ n2_ n3_ n4_ n5_ n6_; clear hb hbox hg; have hnb28 := NB291_289.out; have hnc28 := NB289_291.out; have hcz29_0 : w27.cell? ⟨gb291, 0, none⟩ = some (.bool false) := (blk_cell BK291.out 0).trans rfl; have hcz29_1 : w27.cell? ⟨gb291, 1, none⟩ = some (.string (⟨#[]⟩ : ByteArray)) := (blk_cell BK291.out 1).trans rfl; have hcz29_2 : w27.cell? ⟨gb291, 2, none⟩ = some (.int .i64 0) := (blk_cell BK291.out 2).trans rfl; have hfz29_0 := blk_frozen BK291.out 0; have hfz29_1 := blk_frozen BK291.out 1; have hfz29_2 := blk_frozen BK291.out 2))
              refine wp_world_impl_made (fun W => Aside0 (W.heap[gb289]? = some (.cells #[.bool false, .string (⟨#[]⟩ : ByteArray), .int .i64 0] 26 (0, 0))) ∧ Aside0 (W.heap[gb291]? = some (.cells #[.bool a0, .string t290, .int .i64 x2_1] 26 (0, 0))) ∧ Aside0 (Below w.heap.size w W))
                ⟨⟨by refine blk_up ?_; refine blk_far ?_ NB289_291.out _; refine blk_up ?_; refine blk_far ?_ NB289_291.out _; refine blk_up ?_; refine blk_far ?_ NB289_291.out _; refine blk_up ?_; exact BK289.out⟩,
                 ⟨by refine blk_up ?_; refine blk_put (cs := #[.bool a0, .string t290, .int .i64 0]) ?_ 2 _ rfl; refine blk_up ?_; refine blk_put (cs := #[.bool a0, .string (⟨#[]⟩ : ByteArray), .int .i64 0]) ?_ 1 _ rfl; refine blk_up ?_; refine blk_put (cs := #[.bool false, .string (⟨#[]⟩ : ByteArray), .int .i64 0]) ?_ 0 _ rfl; refine blk_up ?_; exact BK291.out⟩,
                 ⟨by repeat (first | (with_reducible first | exact HB.out | apply below_alloc | apply pw_below_drewN | apply below_drew1 | refine below_set ?_ GE289.out | refine below_set ?_ GE291.out) | exact HB.out)⟩⟩ ?_
              clear BK289 BK291 HB
              rintro ww ⟨BK289, BK291, HB⟩
              have hwz_0 : ww.cell? ⟨gb291, 0, none⟩ = some (.bool a0) := (blk_cell BK291.out 0).trans rfl
              have hwf_0 := blk_frozen BK291.out 0
              have hwz_1 : ww.cell? ⟨gb291, 1, none⟩ = some (.string t290) := (blk_cell BK291.out 1).trans rfl
              have hwf_1 := blk_frozen BK291.out 1
              have hwz_2 : ww.cell? ⟨gb291, 2, none⟩ = some (.int .i64 x2_1) := (blk_cell BK291.out 2).trans rfl
              have hwf_2 := blk_frozen BK291.out 2
              go_wp2_with (first | ((with_reducible refine gate_callee (f := 27) rfl ?_); refine goesL_ (some 40) rfl rfl Tryd.func27 (by kernel_rfl) rfl #[.agg #[.bool a0, .string t290, .int .i64 x2_1]] rfl (by (try simp only [List.map_toArray, List.map_cons, List.map_nil]); first | done | rfl | (simp only [List.length_drop, List.length_take]; rfl)) ?_; (with_reducible refine (impl_DecOk.calls a0 t290 x2_1 true _ A24.out).mono ?_); rintro e w30 ⟨rfl, hb⟩; refine ⟨_, rfl, ?_⟩; have n0_ := Aside0.mk (blk_below (g := gb289) (o := .cells #[.bool false, .string (⟨#[]⟩ : ByteArray), .int .i64 0] 26 (0, 0)) (by refine blk_up ?_; exact BK289.out) hb); have n1_ := Aside0.mk (blk_below (g := gb291) (o := .cells #[.bool a0, .string t290, .int .i64 x2_1] 26 (0, 0)) (by refine blk_up ?_; exact BK291.out) hb); have n2_ := Aside0.mk (below_step (by repeat (first | (with_reducible first | exact HB.out | apply below_alloc | apply pw_below_drewN | apply below_drew1 | refine below_set ?_ GE289.out | refine below_set ?_ GE291.out) | exact HB.out)) hb); clear BK289; clear BK291; clear HB; have BK289 := n0_; have BK291 := n1_; have HB := n2_; clear n0_ n1_ n2_; (try clear hb); (try clear hb2); (try clear hk); (try clear hi); have hcz31_0 : w30.cell? ⟨gb291, 0, none⟩ = some (.bool a0) := (blk_cell BK291.out 0).trans rfl; have hcz31_1 : w30.cell? ⟨gb291, 1, none⟩ = some (.string t290) := (blk_cell BK291.out 1).trans rfl; have hcz31_2 : w30.cell? ⟨gb291, 2, none⟩ = some (.int .i64 x2_1) := (blk_cell BK291.out 2).trans rfl; have hfz31_0 := blk_frozen BK291.out 0; have hfz31_1 := blk_frozen BK291.out 1; have hfz31_2 := blk_frozen BK291.out 2; have hcz32_0 : w30.cell? ⟨gb289, 0, none⟩ = some (.bool false) := (blk_cell BK289.out 0).trans rfl; have hcz32_1 : w30.cell? ⟨gb289, 1, none⟩ = some (.string (⟨#[]⟩ : ByteArray)) := (blk_cell BK289.out 1).trans rfl; have hcz32_2 : w30.cell? ⟨gb289, 2, none⟩ = some (.int .i64 0) := (blk_cell BK289.out 2).trans rfl; have hfz32_0 := blk_frozen BK289.out 0; have hfz32_1 := blk_frozen BK289.out 1; have hfz32_2 := blk_frozen BK289.out 2))
              refine bodyPost_ret (results_ct rfl _ _ gb289 26 #[.bool a0, .string t290, .int .i64 x2_1] (0, 0) _ rfl (by refine blk_up ?_; refine blk_put (cs := #[.bool a0, .string t290, .int .i64 0]) ?_ 2 _ rfl; refine blk_up ?_; refine blk_put (cs := #[.bool a0, .string (⟨#[]⟩ : ByteArray), .int .i64 0]) ?_ 1 _ rfl; refine blk_up ?_; refine blk_put (cs := #[.bool false, .string (⟨#[]⟩ : ByteArray), .int .i64 0]) ?_ 0 _ rfl; refine blk_up ?_; exact BK289.out) Tryd.underlying26 rfl (by kernel_rfl)) rfl ?_
              exact ⟨by first | rfl | (simp [errW_none, errW_some] <;> rfl) | (simp [*, errW_none, errW_some] <;> rfl), by repeat (first | (with_reducible first | exact HB.out | apply below_alloc | apply pw_below_drewN | apply below_drew1 | refine below_set ?_ GE289.out | refine below_set ?_ GE291.out) | exact HB.out)⟩
            · replace c25 := Bool.eq_false_iff.mpr c25
              subst c25
              have H1 : (some (false, (⟨#[]⟩ : ByteArray), 0, false)) = some (r1, r2, r3, r4) := by rw [if_neg (show ¬ (false = true) by decide)] at H; exact H
              clear H
              have H := H1
              clear H1
              simp only [Option.some.injEq, Prod.mk.injEq] at H
              obtain ⟨rfl, rfl, rfl, rfl⟩ := H
              go_upto_region 4 with (first | ((with_reducible refine gate_callee (f := 94) rfl ?_); refine goesL_ (some 32) rfl rfl Tryd.func94 (by kernel_rfl) rfl #[.string x1_1, .string (⟨#[48]⟩ : ByteArray)] rfl (by (try simp only [List.map_toArray, List.map_cons, List.map_nil]); first | done | rfl | (simp only [List.length_drop, List.length_take]; rfl)) ?_; (with_reducible refine (strings_TrimLeft.calls x1_1 (⟨#[48]⟩ : ByteArray) t290 _ A7.out).mono ?_); rintro e w33 ⟨rfl, hb⟩; refine ⟨_, rfl, ?_⟩; have n0_ := Aside0.mk (blk_below (g := gb289) (o := .cells #[.bool false, .string (⟨#[]⟩ : ByteArray), .int .i64 0] 26 (0, 0)) (by refine blk_up ?_; exact BK289.out) hb); have n1_ := Aside0.mk (below_step (by repeat (first | (with_reducible first | exact HB.out | apply below_alloc | apply pw_below_drewN | apply below_drew1 | refine below_set ?_ GE289.out) | exact HB.out)) hb); clear BK289; clear HB; have BK289 := n0_; have HB := n1_; clear n0_ n1_; (try clear hb); (try clear hb2); (try clear hk); (try clear hi)) | ((with_reducible refine gate_dst (N := 8) rfl ?_); (try (refine gate_guard (by rfl) ?_; dsimp only)); refine box_event ?hg (N := 8) ?hd (cs := #[.bool false, .string (⟨#[]⟩ : ByteArray), .int .i64 0]) (t := 26) ?hr ?_; (case hd => rfl); (case hg => rfl); (case hr => first | (go_simp; done) | (go_simp; rfl)); intro gb291 hg w34 hbox hb; have n0_ := Aside0.mk (blk_below (g := gb289) (o := .cells #[.bool false, .string (⟨#[]⟩ : ByteArray), .int .i64 0] 26 (0, 0)) (by refine blk_up ?_; exact BK289.out) hb); have n1_ := Aside0.mk (below_step (by repeat (first | (with_reducible first | exact HB.out | apply below_alloc | apply pw_below_drewN | apply below_drew1 | refine below_set ?_ GE289.out) | exact HB.out)) hb); have n2_ := Aside0.mk (hbox); have n3_ := Aside0.mk ((by rw [hg]; exact (below_size (by repeat (first | (with_reducible first | exact HB.out | apply below_alloc | apply pw_below_drewN | apply below_drew1 | refine below_set ?_ GE289.out) | exact HB.out))) : w.heap.size ≤ gb291)); have n4_ := Aside0.mk ((by rw [hg]; exact (below_size (by repeat (first | (with_reducible first | exact HB.out | apply below_alloc | apply pw_below_drewN | apply below_drew1 | refine below_set ?_ GE289.out) | exact HB.out))) : w.heap.size ≤ gb291)); have n5_ := Aside0.mk ((by rw [hg]; exact Nat.ne_of_lt (blk_lt (g := gb289) (o := .cells #[.bool false, .string (⟨#[]⟩ : ByteArray), .int .i64 0] 26 (0, 0)) (by refine blk_up ?_; exact BK289.out)) : gb289 ≠ gb291)); have n6_ := Aside0.mk ((by rw [hg]; exact Nat.ne_of_gt (blk_lt (g := gb289) (o := .cells #[.bool false, .string (⟨#[]⟩ : ByteArray), .int .i64 0] 26 (0, 0)) (by refine blk_up ?_; exact BK289.out)) : gb291 ≠ gb289)); clear BK289; clear HB; have BK289 := n0_; have HB := n1_; have BK291 := n2_; have GW291 := n3_; have GE291 := n4_; have NB289_291 := n5_; have NB291_289 := n6_; clear n0_ n1_ n2_ n3_ n4_ n5_ n6_; clear hb hbox hg; have hnb35 := NB291_289.out; have hnc35 := NB289_291.out; have hcz36_0 : w34.cell? ⟨gb291, 0, none⟩ = some (.bool false) := (blk_cell BK291.out 0).trans rfl; have hcz36_1 : w34.cell? ⟨gb291, 1, none⟩ = some (.string (⟨#[]⟩ : ByteArray)) := (blk_cell BK291.out 1).trans rfl; have hcz36_2 : w34.cell? ⟨gb291, 2, none⟩ = some (.int .i64 0) := (blk_cell BK291.out 2).trans rfl; have hfz36_0 := blk_frozen BK291.out 0; have hfz36_1 := blk_frozen BK291.out 1; have hfz36_2 := blk_frozen BK291.out 2))
              refine wp_world_impl_made (fun W => Aside0 (W.heap[gb289]? = some (.cells #[.bool false, .string (⟨#[]⟩ : ByteArray), .int .i64 0] 26 (0, 0))) ∧ Aside0 (W.heap[gb291]? = some (.cells #[.bool a0, .string t290, .int .i64 x2_1] 26 (0, 0))) ∧ Aside0 (Below w.heap.size w W))
                ⟨⟨by refine blk_up ?_; refine blk_far ?_ NB289_291.out _; refine blk_up ?_; refine blk_far ?_ NB289_291.out _; refine blk_up ?_; refine blk_far ?_ NB289_291.out _; refine blk_up ?_; exact BK289.out⟩,
                 ⟨by refine blk_up ?_; refine blk_put (cs := #[.bool a0, .string t290, .int .i64 0]) ?_ 2 _ rfl; refine blk_up ?_; refine blk_put (cs := #[.bool a0, .string (⟨#[]⟩ : ByteArray), .int .i64 0]) ?_ 1 _ rfl; refine blk_up ?_; refine blk_put (cs := #[.bool false, .string (⟨#[]⟩ : ByteArray), .int .i64 0]) ?_ 0 _ rfl; refine blk_up ?_; exact BK291.out⟩,
                 ⟨by repeat (first | (with_reducible first | exact HB.out | apply below_alloc | apply pw_below_drewN | apply below_drew1 | refine below_set ?_ GE289.out | refine below_set ?_ GE291.out) | exact HB.out)⟩⟩ ?_
              clear BK289 BK291 HB
              rintro ww ⟨BK289, BK291, HB⟩
              have hwz_0 : ww.cell? ⟨gb291, 0, none⟩ = some (.bool a0) := (blk_cell BK291.out 0).trans rfl
              have hwf_0 := blk_frozen BK291.out 0
              have hwz_1 : ww.cell? ⟨gb291, 1, none⟩ = some (.string t290) := (blk_cell BK291.out 1).trans rfl
              have hwf_1 := blk_frozen BK291.out 1
              have hwz_2 : ww.cell? ⟨gb291, 2, none⟩ = some (.int .i64 x2_1) := (blk_cell BK291.out 2).trans rfl
              have hwf_2 := blk_frozen BK291.out 2
              go_wp2_with (first | ((with_reducible refine gate_callee (f := 27) rfl ?_); refine goesL_ (some 40) rfl rfl Tryd.func27 (by kernel_rfl) rfl #[.agg #[.bool a0, .string t290, .int .i64 x2_1]] rfl (by (try simp only [List.map_toArray, List.map_cons, List.map_nil]); first | done | rfl | (simp only [List.length_drop, List.length_take]; rfl)) ?_; (with_reducible refine (impl_DecOk.calls a0 t290 x2_1 false _ A24.out).mono ?_); rintro e w37 ⟨rfl, hb⟩; refine ⟨_, rfl, ?_⟩; have n0_ := Aside0.mk (blk_below (g := gb289) (o := .cells #[.bool false, .string (⟨#[]⟩ : ByteArray), .int .i64 0] 26 (0, 0)) (by refine blk_up ?_; exact BK289.out) hb); have n1_ := Aside0.mk (blk_below (g := gb291) (o := .cells #[.bool a0, .string t290, .int .i64 x2_1] 26 (0, 0)) (by refine blk_up ?_; exact BK291.out) hb); have n2_ := Aside0.mk (below_step (by repeat (first | (with_reducible first | exact HB.out | apply below_alloc | apply pw_below_drewN | apply below_drew1 | refine below_set ?_ GE289.out | refine below_set ?_ GE291.out) | exact HB.out)) hb); clear BK289; clear BK291; clear HB; have BK289 := n0_; have BK291 := n1_; have HB := n2_; clear n0_ n1_ n2_; (try clear hb); (try clear hb2); (try clear hk); (try clear hi); have hcz38_0 : w37.cell? ⟨gb289, 0, none⟩ = some (.bool false) := (blk_cell BK289.out 0).trans rfl; have hcz38_1 : w37.cell? ⟨gb289, 1, none⟩ = some (.string (⟨#[]⟩ : ByteArray)) := (blk_cell BK289.out 1).trans rfl; have hcz38_2 : w37.cell? ⟨gb289, 2, none⟩ = some (.int .i64 0) := (blk_cell BK289.out 2).trans rfl; have hfz38_0 := blk_frozen BK289.out 0; have hfz38_1 := blk_frozen BK289.out 1; have hfz38_2 := blk_frozen BK289.out 2))
              refine bodyPost_ret (results_ct rfl _ _ gb289 26 #[.bool false, .string (⟨#[]⟩ : ByteArray), .int .i64 0] (0, 0) _ rfl (by refine blk_up ?_; refine blk_put (cs := #[.bool false, .string (⟨#[]⟩ : ByteArray), .int .i64 0]) ?_ 2 _ rfl; refine blk_up ?_; refine blk_put (cs := #[.bool false, .string (⟨#[]⟩ : ByteArray), .int .i64 0]) ?_ 1 _ rfl; refine blk_up ?_; refine blk_put (cs := #[.bool false, .string (⟨#[]⟩ : ByteArray), .int .i64 0]) ?_ 0 _ rfl; refine blk_up ?_; exact BK289.out) Tryd.underlying26 rfl (by kernel_rfl)) rfl ?_
              exact ⟨by first | rfl | (simp [errW_none, errW_some] <;> rfl) | (simp [*, errW_none, errW_some] <;> rfl), by repeat (first | (with_reducible first | exact HB.out | apply below_alloc | apply pw_below_drewN | apply below_drew1 | refine below_set ?_ GE289.out | refine below_set ?_ GE291.out) | exact HB.out)⟩
        · rw [if_neg c6] at H
          have c6b0 : (x1_1.toList == ([] : List UInt8)) = false := beq_eq_false_iff_ne.mpr c6
          have c6b1 : (x1_1.toList != ([] : List UInt8)) = true := bne_iff_ne.mpr c6
          obtain ⟨ji39, hji39⟩ : ∃ j_ : Int, (wrap64 ((x1_1.size : Int) - 1)) = j_ := ⟨_, rfl⟩
          replace H : (if 0 ≤ (ji39) then (if (ji39) < (x1_1.size : Int) then (if (bt x1_1 (ji39)) = 48 then (if (ji39) ≤ (x1_1.size : Int) then (impl_made.l0 k1 a0 (x1_1.extract 0 ((ji39) : Int).toNat) (wrap64 (x2_1 - 1))) else (none)) else ((strings_TrimLeft.f x1_1 (⟨#[48]⟩ : ByteArray)).bind fun t294 => (if t294.toList = ([] : List UInt8) then ((impl_DecOk.f false (⟨#[]⟩ : ByteArray) 0).bind fun t296 => (if t296 = true then (some (false, (⟨#[]⟩ : ByteArray), 0, true)) else (some (false, (⟨#[]⟩ : ByteArray), 0, false)))) else ((impl_DecOk.f a0 t294 x2_1).bind fun t297 => (if t297 = true then (some (a0, t294, x2_1, true)) else (some (false, (⟨#[]⟩ : ByteArray), 0, false))))))) else (none)) else (none)) = some (r1, r2, r3, r4) := by first | (rw [hji39] at H; exact H) | (simp only [hji39] at H ⊢; exact H)
          have hji39w : (IntKind.i64.wrap ((x1_1.size : Int) - 1)) = ji39 := (i64_w _).trans hji39
          by_cases c40 : 0 ≤ (ji39)
          · rw [if_pos c40] at H
            have c40b0 : decide (0 ≤ (ji39)) = true := decide_eq_true c40
            clear c40
            by_cases c41 : (ji39) < (x1_1.size : Int)
            · rw [if_pos c41] at H
              have c41b0 : decide ((ji39) < (x1_1.size : Int)) = true := decide_eq_true c41
              clear c41
              by_cases c43 : (bt x1_1 (ji39)) = 48
              · rw [if_pos c43] at H
                have c43b0 : ((bt x1_1 (ji39)) == 48) = true := beq_iff_eq.mpr c43
                have c43b1 : ((bt x1_1 (ji39)) != 48) = false := bne_eq_false_iff_eq.mpr c43
                clear c43
                have c44b0 := eq_true (of_decide_eq_true (by first | (with_reducible assumption) | assumption) : 0 ≤ (ji39))
                by_cases c45 : (ji39) ≤ (x1_1.size : Int)
                · rw [if_pos c45] at H
                  have c45b0 := eq_true c45
                  have c45b1 : decide ((ji39) ≤ (x1_1.size : Int)) = true := decide_eq_true c45
                  clear c45
                  obtain ⟨js46, hjs46⟩ : ∃ s_ : ByteArray, (x1_1.extract 0 ((ji39) : Int).toNat) = s_ := ⟨_, rfl⟩
                  replace H : (impl_made.l0 k1 a0 js46 (wrap64 (x2_1 - 1))) = some (r1, r2, r3, r4) := by first | (rw [hjs46] at H; exact H) | (simp only [hjs46] at H ⊢; exact H) | exact H
                  have H' := Aside0.mk H
                  clear H
                  have p42 : 0 ≤ ((ji39) : Int) := of_decide_eq_true (by first | (with_reducible assumption) | assumption)
                  have q42 : (ji39) < (x1_1.size : Int) := of_decide_eq_true (by first | (with_reducible assumption) | assumption)
                  have hx42 := bt_at x1_1 (ji39)
                  replace p42 := eq_true p42
                  replace q42 := eq_true q42
                  go_wp2
                  go_roundg k1
                  case measure => have := HK1.out; omega
                  case rel => exact ⟨(js46), (wrap64 (x2_1 - 1)), (by first | rfl | (simp; done) | (simp only [← hjs46] <;> (first | rfl | simp)) | (simp [*]; done)), (by first | rfl | (simp; done) | (simp [*]; done)), H', ⟨by have := HK1.out; omega⟩, ⟨by refine blk_up ?_; exact BK289.out⟩, ⟨by repeat (first | (with_reducible first | exact HB.out | apply below_alloc | apply pw_below_drewN | apply below_drew1 | refine below_set ?_ GE289.out) | exact HB.out)⟩⟩
                · rw [if_neg c45] at H
                  exact absurd H (by simp)
              · rw [if_neg c43] at H
                have c43b0 : ((bt x1_1 (ji39)) == 48) = false := beq_eq_false_iff_ne.mpr c43
                have c43b1 : ((bt x1_1 (ji39)) != 48) = true := bne_iff_ne.mpr c43
                replace H := Option.bind_eq_some_iff.mp H
                obtain ⟨t294, A470, H⟩ := H
                replace H : (if t294.toList = ([] : List UInt8) then ((impl_DecOk.f false (⟨#[]⟩ : ByteArray) 0).bind fun t296 => (if t296 = true then (some (false, (⟨#[]⟩ : ByteArray), 0, true)) else (some (false, (⟨#[]⟩ : ByteArray), 0, false)))) else ((impl_DecOk.f a0 t294 x2_1).bind fun t297 => (if t297 = true then (some (a0, t294, x2_1, true)) else (some (false, (⟨#[]⟩ : ByteArray), 0, false))))) = some (r1, r2, r3, r4) := H
                have A47 := Aside0.mk A470
                clear A470
                by_cases c48 : t294.toList = ([] : List UInt8)
                · rw [if_pos c48] at H
                  have c48b0 : (t294.toList == ([] : List UInt8)) = true := beq_iff_eq.mpr c48
                  have c48b1 : (t294.toList != ([] : List UInt8)) = false := bne_eq_false_iff_eq.mpr c48
                  clear c48
                  replace H := Option.bind_eq_some_iff.mp H
                  obtain ⟨t296, A490, H⟩ := H
                  replace H : (if t296 = true then (some (false, (⟨#[]⟩ : ByteArray), 0, true)) else (some (false, (⟨#[]⟩ : ByteArray), 0, false))) = some (r1, r2, r3, r4) := H
                  have A49 := Aside0.mk A490
                  clear A490
                  by_cases c50 : t296 = true
                  · subst c50
                    have H1 : (some (false, (⟨#[]⟩ : ByteArray), 0, true)) = some (r1, r2, r3, r4) := by rw [if_pos rfl] at H; exact H
                    clear H
                    have H := H1
                    clear H1
                    simp only [Option.some.injEq, Prod.mk.injEq] at H
                    obtain ⟨rfl, rfl, rfl, rfl⟩ := H
                    have p42 : 0 ≤ ((ji39) : Int) := of_decide_eq_true (by first | (with_reducible assumption) | assumption)
                    have q42 : (ji39) < (x1_1.size : Int) := of_decide_eq_true (by first | (with_reducible assumption) | assumption)
                    have hx42 := bt_at x1_1 (ji39)
                    replace p42 := eq_true p42
                    replace q42 := eq_true q42
                    go_upto_region 4 with (first | ((with_reducible refine gate_callee (f := 94) rfl ?_); refine goesL_ (some 32) rfl rfl Tryd.func94 (by kernel_rfl) rfl #[.string x1_1, .string (⟨#[48]⟩ : ByteArray)] rfl (by (try simp only [List.map_toArray, List.map_cons, List.map_nil]); first | done | rfl | (simp only [List.length_drop, List.length_take]; rfl)) ?_; (with_reducible refine (strings_TrimLeft.calls x1_1 (⟨#[48]⟩ : ByteArray) t294 _ A47.out).mono ?_); rintro e w51 ⟨rfl, hb⟩; refine ⟨_, rfl, ?_⟩; have n0_ := Aside0.mk (blk_below (g := gb289) (o := .cells #[.bool false, .string (⟨#[]⟩ : ByteArray), .int .i64 0] 26 (0, 0)) (by refine blk_up ?_; exact BK289.out) hb); have n1_ := Aside0.mk (below_step (by repeat (first | (with_reducible first | exact HB.out | apply below_alloc | apply pw_below_drewN | apply below_drew1 | refine below_set ?_ GE289.out) | exact HB.out)) hb); clear BK289; clear HB; have BK289 := n0_; have HB := n1_; clear n0_ n1_; (try clear hb); (try clear hb2); (try clear hk); (try clear hi)) | ((with_reducible refine gate_dst (N := 8) rfl ?_); (try (refine gate_guard (by rfl) ?_; dsimp only)); refine box_event ?hg (N := 8) ?hd (cs := #[.bool false, .string (⟨#[]⟩ : ByteArray), .int .i64 0]) (t := 26) ?hr ?_; (case hd => rfl); (case hg => rfl); (case hr => first | (go_simp; done) | (go_simp; rfl)); intro gb295 hg w52 hbox hb; have n0_ := Aside0.mk (blk_below (g := gb289) (o := .cells #[.bool false, .string (⟨#[]⟩ : ByteArray), .int .i64 0] 26 (0, 0)) (by refine blk_up ?_; exact BK289.out) hb); have n1_ := Aside0.mk (below_step (by repeat (first | (with_reducible first | exact HB.out | apply below_alloc | apply pw_below_drewN | apply below_drew1 | refine below_set ?_ GE289.out) | exact HB.out)) hb); have n2_ := Aside0.mk (hbox); have n3_ := Aside0.mk ((by rw [hg]; exact (below_size (by repeat (first | (with_reducible first | exact HB.out | apply below_alloc | apply pw_below_drewN | apply below_drew1 | refine below_set ?_ GE289.out) | exact HB.out))) : w.heap.size ≤ gb295)); have n4_ := Aside0.mk ((by rw [hg]; exact (below_size (by repeat (first | (with_reducible first | exact HB.out | apply below_alloc | apply pw_below_drewN | apply below_drew1 | refine below_set ?_ GE289.out) | exact HB.out))) : w.heap.size ≤ gb295)); have n5_ := Aside0.mk ((by rw [hg]; exact Nat.ne_of_lt (blk_lt (g := gb289) (o := .cells #[.bool false, .string (⟨#[]⟩ : ByteArray), .int .i64 0] 26 (0, 0)) (by refine blk_up ?_; exact BK289.out)) : gb289 ≠ gb295)); have n6_ := Aside0.mk ((by rw [hg]; exact Nat.ne_of_gt (blk_lt (g := gb289) (o := .cells #[.bool false, .string (⟨#[]⟩ : ByteArray), .int .i64 0] 26 (0, 0)) (by refine blk_up ?_; exact BK289.out)) : gb295 ≠ gb289)); clear BK289; clear HB; have BK289 := n0_; have HB := n1_; have BK295 := n2_; have GW295 := n3_; have GE295 := n4_; have NB289_295 := n5_; have NB295_289 := n6_; clear n0_ n1_ n2_ n3_ n4_ n5_ n6_; clear hb hbox hg; have hnb53 := NB295_289.out; have hnc53 := NB289_295.out; have hcz54_0 : w52.cell? ⟨gb295, 0, none⟩ = some (.bool false) := (blk_cell BK295.out 0).trans rfl; have hcz54_1 : w52.cell? ⟨gb295, 1, none⟩ = some (.string (⟨#[]⟩ : ByteArray)) := (blk_cell BK295.out 1).trans rfl; have hcz54_2 : w52.cell? ⟨gb295, 2, none⟩ = some (.int .i64 0) := (blk_cell BK295.out 2).trans rfl; have hfz54_0 := blk_frozen BK295.out 0; have hfz54_1 := blk_frozen BK295.out 1; have hfz54_2 := blk_frozen BK295.out 2))
                    refine wp_world_impl_made (fun W => Aside0 (W.heap[gb289]? = some (.cells #[.bool false, .string (⟨#[]⟩ : ByteArray), .int .i64 0] 26 (0, 0))) ∧ Aside0 (W.heap[gb295]? = some (.cells #[.bool a0, .string t294, .int .i64 x2_1] 26 (0, 0))) ∧ Aside0 (Below w.heap.size w W))
                      ⟨⟨by refine blk_up ?_; refine blk_far ?_ NB289_295.out _; refine blk_up ?_; refine blk_far ?_ NB289_295.out _; refine blk_up ?_; refine blk_far ?_ NB289_295.out _; refine blk_up ?_; exact BK289.out⟩,
                       ⟨by refine blk_up ?_; refine blk_put (cs := #[.bool a0, .string t294, .int .i64 0]) ?_ 2 _ rfl; refine blk_up ?_; refine blk_put (cs := #[.bool a0, .string (⟨#[]⟩ : ByteArray), .int .i64 0]) ?_ 1 _ rfl; refine blk_up ?_; refine blk_put (cs := #[.bool false, .string (⟨#[]⟩ : ByteArray), .int .i64 0]) ?_ 0 _ rfl; refine blk_up ?_; exact BK295.out⟩,
                       ⟨by repeat (first | (with_reducible first | exact HB.out | apply below_alloc | apply pw_below_drewN | apply below_drew1 | refine below_set ?_ GE289.out | refine below_set ?_ GE295.out) | exact HB.out)⟩⟩ ?_
                    clear BK289 BK295 HB
                    rintro ww ⟨BK289, BK295, HB⟩
                    have hwz_0 : ww.cell? ⟨gb295, 0, none⟩ = some (.bool a0) := (blk_cell BK295.out 0).trans rfl
                    have hwf_0 := blk_frozen BK295.out 0
                    have hwz_1 : ww.cell? ⟨gb295, 1, none⟩ = some (.string t294) := (blk_cell BK295.out 1).trans rfl
                    have hwf_1 := blk_frozen BK295.out 1
                    have hwz_2 : ww.cell? ⟨gb295, 2, none⟩ = some (.int .i64 x2_1) := (blk_cell BK295.out 2).trans rfl
                    have hwf_2 := blk_frozen BK295.out 2
                    go_wp2_with (first | ((with_reducible refine gate_callee (f := 27) rfl ?_); refine goesL_ (some 40) rfl rfl Tryd.func27 (by kernel_rfl) rfl #[.agg #[.bool false, .string (⟨#[]⟩ : ByteArray), .int .i64 0]] rfl (by (try simp only [List.map_toArray, List.map_cons, List.map_nil]); first | done | rfl | (simp only [List.length_drop, List.length_take]; rfl)) ?_; (with_reducible refine (impl_DecOk.calls false (⟨#[]⟩ : ByteArray) 0 true _ A49.out).mono ?_); rintro e w55 ⟨rfl, hb⟩; refine ⟨_, rfl, ?_⟩; have n0_ := Aside0.mk (blk_below (g := gb289) (o := .cells #[.bool false, .string (⟨#[]⟩ : ByteArray), .int .i64 0] 26 (0, 0)) (by refine blk_up ?_; refine blk_far ?_ NB289_295.out _; refine blk_up ?_; refine blk_far ?_ NB289_295.out _; refine blk_up ?_; refine blk_far ?_ NB289_295.out _; refine blk_up ?_; exact BK289.out) hb); have n1_ := Aside0.mk (blk_below (g := gb295) (o := .cells #[.bool false, .string (⟨#[]⟩ : ByteArray), .int .i64 0] 26 (0, 0)) (by refine blk_up ?_; refine blk_put (cs := #[.bool false, .string (⟨#[]⟩ : ByteArray), .int .i64 x2_1]) ?_ 2 _ rfl; refine blk_up ?_; refine blk_put (cs := #[.bool false, .string t294, .int .i64 x2_1]) ?_ 1 _ rfl; refine blk_up ?_; refine blk_put (cs := #[.bool a0, .string t294, .int .i64 x2_1]) ?_ 0 _ rfl; refine blk_up ?_; exact BK295.out) hb); have n2_ := Aside0.mk (below_step (by repeat (first | (with_reducible first | exact HB.out | apply below_alloc | apply pw_below_drewN | apply below_drew1 | refine below_set ?_ GE289.out | refine below_set ?_ GE295.out) | exact HB.out)) hb); clear BK289; clear BK295; clear HB; have BK289 := n0_; have BK295 := n1_; have HB := n2_; clear n0_ n1_ n2_; (try clear hb); (try clear hb2); (try clear hk); (try clear hi); have hcz56_0 : w55.cell? ⟨gb295, 0, none⟩ = some (.bool false) := (blk_cell BK295.out 0).trans rfl; have hcz56_1 : w55.cell? ⟨gb295, 1, none⟩ = some (.string (⟨#[]⟩ : ByteArray)) := (blk_cell BK295.out 1).trans rfl; have hcz56_2 : w55.cell? ⟨gb295, 2, none⟩ = some (.int .i64 0) := (blk_cell BK295.out 2).trans rfl; have hfz56_0 := blk_frozen BK295.out 0; have hfz56_1 := blk_frozen BK295.out 1; have hfz56_2 := blk_frozen BK295.out 2; have hcz57_0 : w55.cell? ⟨gb289, 0, none⟩ = some (.bool false) := (blk_cell BK289.out 0).trans rfl; have hcz57_1 : w55.cell? ⟨gb289, 1, none⟩ = some (.string (⟨#[]⟩ : ByteArray)) := (blk_cell BK289.out 1).trans rfl; have hcz57_2 : w55.cell? ⟨gb289, 2, none⟩ = some (.int .i64 0) := (blk_cell BK289.out 2).trans rfl; have hfz57_0 := blk_frozen BK289.out 0; have hfz57_1 := blk_frozen BK289.out 1; have hfz57_2 := blk_frozen BK289.out 2))
                    refine bodyPost_ret (results_ct rfl _ _ gb289 26 #[.bool false, .string (⟨#[]⟩ : ByteArray), .int .i64 0] (0, 0) _ rfl (by refine blk_up ?_; refine blk_put (cs := #[.bool false, .string (⟨#[]⟩ : ByteArray), .int .i64 0]) ?_ 2 _ rfl; refine blk_up ?_; refine blk_put (cs := #[.bool false, .string (⟨#[]⟩ : ByteArray), .int .i64 0]) ?_ 1 _ rfl; refine blk_up ?_; refine blk_put (cs := #[.bool false, .string (⟨#[]⟩ : ByteArray), .int .i64 0]) ?_ 0 _ rfl; refine blk_up ?_; exact BK289.out) Tryd.underlying26 rfl (by kernel_rfl)) rfl ?_
                    exact ⟨by first | rfl | (simp [errW_none, errW_some] <;> rfl) | (simp only [← hji39]; first | rfl | (simp [errW_none, errW_some] <;> rfl)) | (simp [*, errW_none, errW_some] <;> rfl), by repeat (first | (with_reducible first | exact HB.out | apply below_alloc | apply pw_below_drewN | apply below_drew1 | refine below_set ?_ GE289.out | refine below_set ?_ GE295.out) | exact HB.out)⟩
                  · replace c50 := Bool.eq_false_iff.mpr c50
                    subst c50
                    have H1 : (some (false, (⟨#[]⟩ : ByteArray), 0, false)) = some (r1, r2, r3, r4) := by rw [if_neg (show ¬ (false = true) by decide)] at H; exact H
                    clear H
                    have H := H1
                    clear H1
                    simp only [Option.some.injEq, Prod.mk.injEq] at H
                    obtain ⟨rfl, rfl, rfl, rfl⟩ := H
                    have p42 : 0 ≤ ((ji39) : Int) := of_decide_eq_true (by first | (with_reducible assumption) | assumption)
                    have q42 : (ji39) < (x1_1.size : Int) := of_decide_eq_true (by first | (with_reducible assumption) | assumption)
                    have hx42 := bt_at x1_1 (ji39)
                    replace p42 := eq_true p42
                    replace q42 := eq_true q42
                    go_upto_region 4 with (first | ((with_reducible refine gate_callee (f := 94) rfl ?_); refine goesL_ (some 32) rfl rfl Tryd.func94 (by kernel_rfl) rfl #[.string x1_1, .string (⟨#[48]⟩ : ByteArray)] rfl (by (try simp only [List.map_toArray, List.map_cons, List.map_nil]); first | done | rfl | (simp only [List.length_drop, List.length_take]; rfl)) ?_; (with_reducible refine (strings_TrimLeft.calls x1_1 (⟨#[48]⟩ : ByteArray) t294 _ A47.out).mono ?_); rintro e w58 ⟨rfl, hb⟩; refine ⟨_, rfl, ?_⟩; have n0_ := Aside0.mk (blk_below (g := gb289) (o := .cells #[.bool false, .string (⟨#[]⟩ : ByteArray), .int .i64 0] 26 (0, 0)) (by refine blk_up ?_; exact BK289.out) hb); have n1_ := Aside0.mk (below_step (by repeat (first | (with_reducible first | exact HB.out | apply below_alloc | apply pw_below_drewN | apply below_drew1 | refine below_set ?_ GE289.out) | exact HB.out)) hb); clear BK289; clear HB; have BK289 := n0_; have HB := n1_; clear n0_ n1_; (try clear hb); (try clear hb2); (try clear hk); (try clear hi)) | ((with_reducible refine gate_dst (N := 8) rfl ?_); (try (refine gate_guard (by rfl) ?_; dsimp only)); refine box_event ?hg (N := 8) ?hd (cs := #[.bool false, .string (⟨#[]⟩ : ByteArray), .int .i64 0]) (t := 26) ?hr ?_; (case hd => rfl); (case hg => rfl); (case hr => first | (go_simp; done) | (go_simp; rfl)); intro gb295 hg w59 hbox hb; have n0_ := Aside0.mk (blk_below (g := gb289) (o := .cells #[.bool false, .string (⟨#[]⟩ : ByteArray), .int .i64 0] 26 (0, 0)) (by refine blk_up ?_; exact BK289.out) hb); have n1_ := Aside0.mk (below_step (by repeat (first | (with_reducible first | exact HB.out | apply below_alloc | apply pw_below_drewN | apply below_drew1 | refine below_set ?_ GE289.out) | exact HB.out)) hb); have n2_ := Aside0.mk (hbox); have n3_ := Aside0.mk ((by rw [hg]; exact (below_size (by repeat (first | (with_reducible first | exact HB.out | apply below_alloc | apply pw_below_drewN | apply below_drew1 | refine below_set ?_ GE289.out) | exact HB.out))) : w.heap.size ≤ gb295)); have n4_ := Aside0.mk ((by rw [hg]; exact (below_size (by repeat (first | (with_reducible first | exact HB.out | apply below_alloc | apply pw_below_drewN | apply below_drew1 | refine below_set ?_ GE289.out) | exact HB.out))) : w.heap.size ≤ gb295)); have n5_ := Aside0.mk ((by rw [hg]; exact Nat.ne_of_lt (blk_lt (g := gb289) (o := .cells #[.bool false, .string (⟨#[]⟩ : ByteArray), .int .i64 0] 26 (0, 0)) (by refine blk_up ?_; exact BK289.out)) : gb289 ≠ gb295)); have n6_ := Aside0.mk ((by rw [hg]; exact Nat.ne_of_gt (blk_lt (g := gb289) (o := .cells #[.bool false, .string (⟨#[]⟩ : ByteArray), .int .i64 0] 26 (0, 0)) (by refine blk_up ?_; exact BK289.out)) : gb295 ≠ gb289)); clear BK289; clear HB; have BK289 := n0_; have HB := n1_; have BK295 := n2_; have GW295 := n3_; have GE295 := n4_; have NB289_295 := n5_; have NB295_289 := n6_; clear n0_ n1_ n2_ n3_ n4_ n5_ n6_; clear hb hbox hg; have hnb60 := NB295_289.out; have hnc60 := NB289_295.out; have hcz61_0 : w59.cell? ⟨gb295, 0, none⟩ = some (.bool false) := (blk_cell BK295.out 0).trans rfl; have hcz61_1 : w59.cell? ⟨gb295, 1, none⟩ = some (.string (⟨#[]⟩ : ByteArray)) := (blk_cell BK295.out 1).trans rfl; have hcz61_2 : w59.cell? ⟨gb295, 2, none⟩ = some (.int .i64 0) := (blk_cell BK295.out 2).trans rfl; have hfz61_0 := blk_frozen BK295.out 0; have hfz61_1 := blk_frozen BK295.out 1; have hfz61_2 := blk_frozen BK295.out 2))
                    refine wp_world_impl_made (fun W => Aside0 (W.heap[gb289]? = some (.cells #[.bool false, .string (⟨#[]⟩ : ByteArray), .int .i64 0] 26 (0, 0))) ∧ Aside0 (W.heap[gb295]? = some (.cells #[.bool a0, .string t294, .int .i64 x2_1] 26 (0, 0))) ∧ Aside0 (Below w.heap.size w W))
                      ⟨⟨by refine blk_up ?_; refine blk_far ?_ NB289_295.out _; refine blk_up ?_; refine blk_far ?_ NB289_295.out _; refine blk_up ?_; refine blk_far ?_ NB289_295.out _; refine blk_up ?_; exact BK289.out⟩,
                       ⟨by refine blk_up ?_; refine blk_put (cs := #[.bool a0, .string t294, .int .i64 0]) ?_ 2 _ rfl; refine blk_up ?_; refine blk_put (cs := #[.bool a0, .string (⟨#[]⟩ : ByteArray), .int .i64 0]) ?_ 1 _ rfl; refine blk_up ?_; refine blk_put (cs := #[.bool false, .string (⟨#[]⟩ : ByteArray), .int .i64 0]) ?_ 0 _ rfl; refine blk_up ?_; exact BK295.out⟩,
                       ⟨by repeat (first | (with_reducible first | exact HB.out | apply below_alloc | apply pw_below_drewN | apply below_drew1 | refine below_set ?_ GE289.out | refine below_set ?_ GE295.out) | exact HB.out)⟩⟩ ?_
                    clear BK289 BK295 HB
                    rintro ww ⟨BK289, BK295, HB⟩
                    have hwz_0 : ww.cell? ⟨gb295, 0, none⟩ = some (.bool a0) := (blk_cell BK295.out 0).trans rfl
                    have hwf_0 := blk_frozen BK295.out 0
                    have hwz_1 : ww.cell? ⟨gb295, 1, none⟩ = some (.string t294) := (blk_cell BK295.out 1).trans rfl
                    have hwf_1 := blk_frozen BK295.out 1
                    have hwz_2 : ww.cell? ⟨gb295, 2, none⟩ = some (.int .i64 x2_1) := (blk_cell BK295.out 2).trans rfl
                    have hwf_2 := blk_frozen BK295.out 2
                    go_wp2_with (first | ((with_reducible refine gate_callee (f := 27) rfl ?_); refine goesL_ (some 40) rfl rfl Tryd.func27 (by kernel_rfl) rfl #[.agg #[.bool false, .string (⟨#[]⟩ : ByteArray), .int .i64 0]] rfl (by (try simp only [List.map_toArray, List.map_cons, List.map_nil]); first | done | rfl | (simp only [List.length_drop, List.length_take]; rfl)) ?_; (with_reducible refine (impl_DecOk.calls false (⟨#[]⟩ : ByteArray) 0 false _ A49.out).mono ?_); rintro e w62 ⟨rfl, hb⟩; refine ⟨_, rfl, ?_⟩; have n0_ := Aside0.mk (blk_below (g := gb289) (o := .cells #[.bool false, .string (⟨#[]⟩ : ByteArray), .int .i64 0] 26 (0, 0)) (by refine blk_up ?_; refine blk_far ?_ NB289_295.out _; refine blk_up ?_; refine blk_far ?_ NB289_295.out _; refine blk_up ?_; refine blk_far ?_ NB289_295.out _; refine blk_up ?_; exact BK289.out) hb); have n1_ := Aside0.mk (blk_below (g := gb295) (o := .cells #[.bool false, .string (⟨#[]⟩ : ByteArray), .int .i64 0] 26 (0, 0)) (by refine blk_up ?_; refine blk_put (cs := #[.bool false, .string (⟨#[]⟩ : ByteArray), .int .i64 x2_1]) ?_ 2 _ rfl; refine blk_up ?_; refine blk_put (cs := #[.bool false, .string t294, .int .i64 x2_1]) ?_ 1 _ rfl; refine blk_up ?_; refine blk_put (cs := #[.bool a0, .string t294, .int .i64 x2_1]) ?_ 0 _ rfl; refine blk_up ?_; exact BK295.out) hb); have n2_ := Aside0.mk (below_step (by repeat (first | (with_reducible first | exact HB.out | apply below_alloc | apply pw_below_drewN | apply below_drew1 | refine below_set ?_ GE289.out | refine below_set ?_ GE295.out) | exact HB.out)) hb); clear BK289; clear BK295; clear HB; have BK289 := n0_; have BK295 := n1_; have HB := n2_; clear n0_ n1_ n2_; (try clear hb); (try clear hb2); (try clear hk); (try clear hi); have hcz63_0 : w62.cell? ⟨gb289, 0, none⟩ = some (.bool false) := (blk_cell BK289.out 0).trans rfl; have hcz63_1 : w62.cell? ⟨gb289, 1, none⟩ = some (.string (⟨#[]⟩ : ByteArray)) := (blk_cell BK289.out 1).trans rfl; have hcz63_2 : w62.cell? ⟨gb289, 2, none⟩ = some (.int .i64 0) := (blk_cell BK289.out 2).trans rfl; have hfz63_0 := blk_frozen BK289.out 0; have hfz63_1 := blk_frozen BK289.out 1; have hfz63_2 := blk_frozen BK289.out 2))
                    refine bodyPost_ret (results_ct rfl _ _ gb289 26 #[.bool false, .string (⟨#[]⟩ : ByteArray), .int .i64 0] (0, 0) _ rfl (by refine blk_up ?_; refine blk_put (cs := #[.bool false, .string (⟨#[]⟩ : ByteArray), .int .i64 0]) ?_ 2 _ rfl; refine blk_up ?_; refine blk_put (cs := #[.bool false, .string (⟨#[]⟩ : ByteArray), .int .i64 0]) ?_ 1 _ rfl; refine blk_up ?_; refine blk_put (cs := #[.bool false, .string (⟨#[]⟩ : ByteArray), .int .i64 0]) ?_ 0 _ rfl; refine blk_up ?_; exact BK289.out) Tryd.underlying26 rfl (by kernel_rfl)) rfl ?_
                    exact ⟨by first | rfl | (simp [errW_none, errW_some] <;> rfl) | (simp only [← hji39]; first | rfl | (simp [errW_none, errW_some] <;> rfl)) | (simp [*, errW_none, errW_some] <;> rfl), by repeat (first | (with_reducible first | exact HB.out | apply below_alloc | apply pw_below_drewN | apply below_drew1 | refine below_set ?_ GE289.out | refine below_set ?_ GE295.out) | exact HB.out)⟩
                · rw [if_neg c48] at H
                  have c48b0 : (t294.toList == ([] : List UInt8)) = false := beq_eq_false_iff_ne.mpr c48
                  have c48b1 : (t294.toList != ([] : List UInt8)) = true := bne_iff_ne.mpr c48
                  replace H := Option.bind_eq_some_iff.mp H
                  obtain ⟨t297, A640, H⟩ := H
                  replace H : (if t297 = true then (some (a0, t294, x2_1, true)) else (some (false, (⟨#[]⟩ : ByteArray), 0, false))) = some (r1, r2, r3, r4) := H
                  have A64 := Aside0.mk A640
                  clear A640
                  by_cases c65 : t297 = true
                  · subst c65
                    have H1 : (some (a0, t294, x2_1, true)) = some (r1, r2, r3, r4) := by rw [if_pos rfl] at H; exact H
                    clear H
                    have H := H1
                    clear H1
                    simp only [Option.some.injEq, Prod.mk.injEq] at H
                    obtain ⟨rfl, rfl, rfl, rfl⟩ := H
                    have p42 : 0 ≤ ((ji39) : Int) := of_decide_eq_true (by first | (with_reducible assumption) | assumption)
                    have q42 : (ji39) < (x1_1.size : Int) := of_decide_eq_true (by first | (with_reducible assumption) | assumption)
                    have hx42 := bt_at x1_1 (ji39)
                    replace p42 := eq_true p42
                    replace q42 := eq_true q42
                    go_upto_region 4 with (first | ((with_reducible refine gate_callee (f := 94) rfl ?_); refine goesL_ (some 32) rfl rfl Tryd.func94 (by kernel_rfl) rfl #[.string x1_1, .string (⟨#[48]⟩ : ByteArray)] rfl (by (try simp only [List.map_toArray, List.map_cons, List.map_nil]); first | done | rfl | (simp only [List.length_drop, List.length_take]; rfl)) ?_; (with_reducible refine (strings_TrimLeft.calls x1_1 (⟨#[48]⟩ : ByteArray) t294 _ A47.out).mono ?_); rintro e w66 ⟨rfl, hb⟩; refine ⟨_, rfl, ?_⟩; have n0_ := Aside0.mk (blk_below (g := gb289) (o := .cells #[.bool false, .string (⟨#[]⟩ : ByteArray), .int .i64 0] 26 (0, 0)) (by refine blk_up ?_; exact BK289.out) hb); have n1_ := Aside0.mk (below_step (by repeat (first | (with_reducible first | exact HB.out | apply below_alloc | apply pw_below_drewN | apply below_drew1 | refine below_set ?_ GE289.out) | exact HB.out)) hb); clear BK289; clear HB; have BK289 := n0_; have HB := n1_; clear n0_ n1_; (try clear hb); (try clear hb2); (try clear hk); (try clear hi)) | ((with_reducible refine gate_dst (N := 8) rfl ?_); (try (refine gate_guard (by rfl) ?_; dsimp only)); refine box_event ?hg (N := 8) ?hd (cs := #[.bool false, .string (⟨#[]⟩ : ByteArray), .int .i64 0]) (t := 26) ?hr ?_; (case hd => rfl); (case hg => rfl); (case hr => first | (go_simp; done) | (go_simp; rfl)); intro gb295 hg w67 hbox hb; have n0_ := Aside0.mk (blk_below (g := gb289) (o := .cells #[.bool false, .string (⟨#[]⟩ : ByteArray), .int .i64 0] 26 (0, 0)) (by refine blk_up ?_; exact BK289.out) hb); have n1_ := Aside0.mk (below_step (by repeat (first | (with_reducible first | exact HB.out | apply below_alloc | apply pw_below_drewN | apply below_drew1 | refine below_set ?_ GE289.out) | exact HB.out)) hb); have n2_ := Aside0.mk (hbox); have n3_ := Aside0.mk ((by rw [hg]; exact (below_size (by repeat (first | (with_reducible first | exact HB.out | apply below_alloc | apply pw_below_drewN | apply below_drew1 | refine below_set ?_ GE289.out) | exact HB.out))) : w.heap.size ≤ gb295)); have n4_ := Aside0.mk ((by rw [hg]; exact (below_size (by repeat (first | (with_reducible first | exact HB.out | apply below_alloc | apply pw_below_drewN | apply below_drew1 | refine below_set ?_ GE289.out) | exact HB.out))) : w.heap.size ≤ gb295)); have n5_ := Aside0.mk ((by rw [hg]; exact Nat.ne_of_lt (blk_lt (g := gb289) (o := .cells #[.bool false, .string (⟨#[]⟩ : ByteArray), .int .i64 0] 26 (0, 0)) (by refine blk_up ?_; exact BK289.out)) : gb289 ≠ gb295)); have n6_ := Aside0.mk ((by rw [hg]; exact Nat.ne_of_gt (blk_lt (g := gb289) (o := .cells #[.bool false, .string (⟨#[]⟩ : ByteArray), .int .i64 0] 26 (0, 0)) (by refine blk_up ?_; exact BK289.out)) : gb295 ≠ gb289)); clear BK289; clear HB; have BK289 := n0_; have HB := n1_; have BK295 := n2_; have GW295 := n3_; have GE295 := n4_; have NB289_295 := n5_; have NB295_289 := n6_; clear n0_ n1_ n2_ n3_ n4_ n5_ n6_; clear hb hbox hg; have hnb68 := NB295_289.out; have hnc68 := NB289_295.out; have hcz69_0 : w67.cell? ⟨gb295, 0, none⟩ = some (.bool false) := (blk_cell BK295.out 0).trans rfl; have hcz69_1 : w67.cell? ⟨gb295, 1, none⟩ = some (.string (⟨#[]⟩ : ByteArray)) := (blk_cell BK295.out 1).trans rfl; have hcz69_2 : w67.cell? ⟨gb295, 2, none⟩ = some (.int .i64 0) := (blk_cell BK295.out 2).trans rfl; have hfz69_0 := blk_frozen BK295.out 0; have hfz69_1 := blk_frozen BK295.out 1; have hfz69_2 := blk_frozen BK295.out 2))
                    refine wp_world_impl_made (fun W => Aside0 (W.heap[gb289]? = some (.cells #[.bool false, .string (⟨#[]⟩ : ByteArray), .int .i64 0] 26 (0, 0))) ∧ Aside0 (W.heap[gb295]? = some (.cells #[.bool a0, .string t294, .int .i64 x2_1] 26 (0, 0))) ∧ Aside0 (Below w.heap.size w W))
                      ⟨⟨by refine blk_up ?_; refine blk_far ?_ NB289_295.out _; refine blk_up ?_; refine blk_far ?_ NB289_295.out _; refine blk_up ?_; refine blk_far ?_ NB289_295.out _; refine blk_up ?_; exact BK289.out⟩,
                       ⟨by refine blk_up ?_; refine blk_put (cs := #[.bool a0, .string t294, .int .i64 0]) ?_ 2 _ rfl; refine blk_up ?_; refine blk_put (cs := #[.bool a0, .string (⟨#[]⟩ : ByteArray), .int .i64 0]) ?_ 1 _ rfl; refine blk_up ?_; refine blk_put (cs := #[.bool false, .string (⟨#[]⟩ : ByteArray), .int .i64 0]) ?_ 0 _ rfl; refine blk_up ?_; exact BK295.out⟩,
                       ⟨by repeat (first | (with_reducible first | exact HB.out | apply below_alloc | apply pw_below_drewN | apply below_drew1 | refine below_set ?_ GE289.out | refine below_set ?_ GE295.out) | exact HB.out)⟩⟩ ?_
                    clear BK289 BK295 HB
                    rintro ww ⟨BK289, BK295, HB⟩
                    have hwz_0 : ww.cell? ⟨gb295, 0, none⟩ = some (.bool a0) := (blk_cell BK295.out 0).trans rfl
                    have hwf_0 := blk_frozen BK295.out 0
                    have hwz_1 : ww.cell? ⟨gb295, 1, none⟩ = some (.string t294) := (blk_cell BK295.out 1).trans rfl
                    have hwf_1 := blk_frozen BK295.out 1
                    have hwz_2 : ww.cell? ⟨gb295, 2, none⟩ = some (.int .i64 x2_1) := (blk_cell BK295.out 2).trans rfl
                    have hwf_2 := blk_frozen BK295.out 2
                    go_wp2_with (first | ((with_reducible refine gate_callee (f := 27) rfl ?_); refine goesL_ (some 40) rfl rfl Tryd.func27 (by kernel_rfl) rfl #[.agg #[.bool a0, .string t294, .int .i64 x2_1]] rfl (by (try simp only [List.map_toArray, List.map_cons, List.map_nil]); first | done | rfl | (simp only [List.length_drop, List.length_take]; rfl)) ?_; (with_reducible refine (impl_DecOk.calls a0 t294 x2_1 true _ A64.out).mono ?_); rintro e w70 ⟨rfl, hb⟩; refine ⟨_, rfl, ?_⟩; have n0_ := Aside0.mk (blk_below (g := gb289) (o := .cells #[.bool false, .string (⟨#[]⟩ : ByteArray), .int .i64 0] 26 (0, 0)) (by refine blk_up ?_; exact BK289.out) hb); have n1_ := Aside0.mk (blk_below (g := gb295) (o := .cells #[.bool a0, .string t294, .int .i64 x2_1] 26 (0, 0)) (by refine blk_up ?_; exact BK295.out) hb); have n2_ := Aside0.mk (below_step (by repeat (first | (with_reducible first | exact HB.out | apply below_alloc | apply pw_below_drewN | apply below_drew1 | refine below_set ?_ GE289.out | refine below_set ?_ GE295.out) | exact HB.out)) hb); clear BK289; clear BK295; clear HB; have BK289 := n0_; have BK295 := n1_; have HB := n2_; clear n0_ n1_ n2_; (try clear hb); (try clear hb2); (try clear hk); (try clear hi); have hcz71_0 : w70.cell? ⟨gb295, 0, none⟩ = some (.bool a0) := (blk_cell BK295.out 0).trans rfl; have hcz71_1 : w70.cell? ⟨gb295, 1, none⟩ = some (.string t294) := (blk_cell BK295.out 1).trans rfl; have hcz71_2 : w70.cell? ⟨gb295, 2, none⟩ = some (.int .i64 x2_1) := (blk_cell BK295.out 2).trans rfl; have hfz71_0 := blk_frozen BK295.out 0; have hfz71_1 := blk_frozen BK295.out 1; have hfz71_2 := blk_frozen BK295.out 2; have hcz72_0 : w70.cell? ⟨gb289, 0, none⟩ = some (.bool false) := (blk_cell BK289.out 0).trans rfl; have hcz72_1 : w70.cell? ⟨gb289, 1, none⟩ = some (.string (⟨#[]⟩ : ByteArray)) := (blk_cell BK289.out 1).trans rfl; have hcz72_2 : w70.cell? ⟨gb289, 2, none⟩ = some (.int .i64 0) := (blk_cell BK289.out 2).trans rfl; have hfz72_0 := blk_frozen BK289.out 0; have hfz72_1 := blk_frozen BK289.out 1; have hfz72_2 := blk_frozen BK289.out 2))
                    refine bodyPost_ret (results_ct rfl _ _ gb289 26 #[.bool a0, .string t294, .int .i64 x2_1] (0, 0) _ rfl (by refine blk_up ?_; refine blk_put (cs := #[.bool a0, .string t294, .int .i64 0]) ?_ 2 _ rfl; refine blk_up ?_; refine blk_put (cs := #[.bool a0, .string (⟨#[]⟩ : ByteArray), .int .i64 0]) ?_ 1 _ rfl; refine blk_up ?_; refine blk_put (cs := #[.bool false, .string (⟨#[]⟩ : ByteArray), .int .i64 0]) ?_ 0 _ rfl; refine blk_up ?_; exact BK289.out) Tryd.underlying26 rfl (by kernel_rfl)) rfl ?_
                    exact ⟨by first | rfl | (simp [errW_none, errW_some] <;> rfl) | (simp only [← hji39]; first | rfl | (simp [errW_none, errW_some] <;> rfl)) | (simp [*, errW_none, errW_some] <;> rfl), by repeat (first | (with_reducible first | exact HB.out | apply below_alloc | apply pw_below_drewN | apply below_drew1 | refine below_set ?_ GE289.out | refine below_set ?_ GE295.out) | exact HB.out)⟩
                  · replace c65 := Bool.eq_false_iff.mpr c65
                    subst c65
                    have H1 : (some (false, (⟨#[]⟩ : ByteArray), 0, false)) = some (r1, r2, r3, r4) := by rw [if_neg (show ¬ (false = true) by decide)] at H; exact H
                    clear H
                    have H := H1
                    clear H1
                    simp only [Option.some.injEq, Prod.mk.injEq] at H
                    obtain ⟨rfl, rfl, rfl, rfl⟩ := H
                    have p42 : 0 ≤ ((ji39) : Int) := of_decide_eq_true (by first | (with_reducible assumption) | assumption)
                    have q42 : (ji39) < (x1_1.size : Int) := of_decide_eq_true (by first | (with_reducible assumption) | assumption)
                    have hx42 := bt_at x1_1 (ji39)
                    replace p42 := eq_true p42
                    replace q42 := eq_true q42
                    go_upto_region 4 with (first | ((with_reducible refine gate_callee (f := 94) rfl ?_); refine goesL_ (some 32) rfl rfl Tryd.func94 (by kernel_rfl) rfl #[.string x1_1, .string (⟨#[48]⟩ : ByteArray)] rfl (by (try simp only [List.map_toArray, List.map_cons, List.map_nil]); first | done | rfl | (simp only [List.length_drop, List.length_take]; rfl)) ?_; (with_reducible refine (strings_TrimLeft.calls x1_1 (⟨#[48]⟩ : ByteArray) t294 _ A47.out).mono ?_); rintro e w73 ⟨rfl, hb⟩; refine ⟨_, rfl, ?_⟩; have n0_ := Aside0.mk (blk_below (g := gb289) (o := .cells #[.bool false, .string (⟨#[]⟩ : ByteArray), .int .i64 0] 26 (0, 0)) (by refine blk_up ?_; exact BK289.out) hb); have n1_ := Aside0.mk (below_step (by repeat (first | (with_reducible first | exact HB.out | apply below_alloc | apply pw_below_drewN | apply below_drew1 | refine below_set ?_ GE289.out) | exact HB.out)) hb); clear BK289; clear HB; have BK289 := n0_; have HB := n1_; clear n0_ n1_; (try clear hb); (try clear hb2); (try clear hk); (try clear hi)) | ((with_reducible refine gate_dst (N := 8) rfl ?_); (try (refine gate_guard (by rfl) ?_; dsimp only)); refine box_event ?hg (N := 8) ?hd (cs := #[.bool false, .string (⟨#[]⟩ : ByteArray), .int .i64 0]) (t := 26) ?hr ?_; (case hd => rfl); (case hg => rfl); (case hr => first | (go_simp; done) | (go_simp; rfl)); intro gb295 hg w74 hbox hb; have n0_ := Aside0.mk (blk_below (g := gb289) (o := .cells #[.bool false, .string (⟨#[]⟩ : ByteArray), .int .i64 0] 26 (0, 0)) (by refine blk_up ?_; exact BK289.out) hb); have n1_ := Aside0.mk (below_step (by repeat (first | (with_reducible first | exact HB.out | apply below_alloc | apply pw_below_drewN | apply below_drew1 | refine below_set ?_ GE289.out) | exact HB.out)) hb); have n2_ := Aside0.mk (hbox); have n3_ := Aside0.mk ((by rw [hg]; exact (below_size (by repeat (first | (with_reducible first | exact HB.out | apply below_alloc | apply pw_below_drewN | apply below_drew1 | refine below_set ?_ GE289.out) | exact HB.out))) : w.heap.size ≤ gb295)); have n4_ := Aside0.mk ((by rw [hg]; exact (below_size (by repeat (first | (with_reducible first | exact HB.out | apply below_alloc | apply pw_below_drewN | apply below_drew1 | refine below_set ?_ GE289.out) | exact HB.out))) : w.heap.size ≤ gb295)); have n5_ := Aside0.mk ((by rw [hg]; exact Nat.ne_of_lt (blk_lt (g := gb289) (o := .cells #[.bool false, .string (⟨#[]⟩ : ByteArray), .int .i64 0] 26 (0, 0)) (by refine blk_up ?_; exact BK289.out)) : gb289 ≠ gb295)); have n6_ := Aside0.mk ((by rw [hg]; exact Nat.ne_of_gt (blk_lt (g := gb289) (o := .cells #[.bool false, .string (⟨#[]⟩ : ByteArray), .int .i64 0] 26 (0, 0)) (by refine blk_up ?_; exact BK289.out)) : gb295 ≠ gb289)); clear BK289; clear HB; have BK289 := n0_; have HB := n1_; have BK295 := n2_; have GW295 := n3_; have GE295 := n4_; have NB289_295 := n5_; have NB295_289 := n6_; clear n0_ n1_ n2_ n3_ n4_ n5_ n6_; clear hb hbox hg; have hnb75 := NB295_289.out; have hnc75 := NB289_295.out; have hcz76_0 : w74.cell? ⟨gb295, 0, none⟩ = some (.bool false) := (blk_cell BK295.out 0).trans rfl; have hcz76_1 : w74.cell? ⟨gb295, 1, none⟩ = some (.string (⟨#[]⟩ : ByteArray)) := (blk_cell BK295.out 1).trans rfl; have hcz76_2 : w74.cell? ⟨gb295, 2, none⟩ = some (.int .i64 0) := (blk_cell BK295.out 2).trans rfl; have hfz76_0 := blk_frozen BK295.out 0; have hfz76_1 := blk_frozen BK295.out 1; have hfz76_2 := blk_frozen BK295.out 2))
                    refine wp_world_impl_made (fun W => Aside0 (W.heap[gb289]? = some (.cells #[.bool false, .string (⟨#[]⟩ : ByteArray), .int .i64 0] 26 (0, 0))) ∧ Aside0 (W.heap[gb295]? = some (.cells #[.bool a0, .string t294, .int .i64 x2_1] 26 (0, 0))) ∧ Aside0 (Below w.heap.size w W))
                      ⟨⟨by refine blk_up ?_; refine blk_far ?_ NB289_295.out _; refine blk_up ?_; refine blk_far ?_ NB289_295.out _; refine blk_up ?_; refine blk_far ?_ NB289_295.out _; refine blk_up ?_; exact BK289.out⟩,
                       ⟨by refine blk_up ?_; refine blk_put (cs := #[.bool a0, .string t294, .int .i64 0]) ?_ 2 _ rfl; refine blk_up ?_; refine blk_put (cs := #[.bool a0, .string (⟨#[]⟩ : ByteArray), .int .i64 0]) ?_ 1 _ rfl; refine blk_up ?_; refine blk_put (cs := #[.bool false, .string (⟨#[]⟩ : ByteArray), .int .i64 0]) ?_ 0 _ rfl; refine blk_up ?_; exact BK295.out⟩,
                       ⟨by repeat (first | (with_reducible first | exact HB.out | apply below_alloc | apply pw_below_drewN | apply below_drew1 | refine below_set ?_ GE289.out | refine below_set ?_ GE295.out) | exact HB.out)⟩⟩ ?_
                    clear BK289 BK295 HB
                    rintro ww ⟨BK289, BK295, HB⟩
                    have hwz_0 : ww.cell? ⟨gb295, 0, none⟩ = some (.bool a0) := (blk_cell BK295.out 0).trans rfl
                    have hwf_0 := blk_frozen BK295.out 0
                    have hwz_1 : ww.cell? ⟨gb295, 1, none⟩ = some (.string t294) := (blk_cell BK295.out 1).trans rfl
                    have hwf_1 := blk_frozen BK295.out 1
                    have hwz_2 : ww.cell? ⟨gb295, 2, none⟩ = some (.int .i64 x2_1) := (blk_cell BK295.out 2).trans rfl
                    have hwf_2 := blk_frozen BK295.out 2
                    go_wp2_with (first | ((with_reducible refine gate_callee (f := 27) rfl ?_); refine goesL_ (some 40) rfl rfl Tryd.func27 (by kernel_rfl) rfl #[.agg #[.bool a0, .string t294, .int .i64 x2_1]] rfl (by (try simp only [List.map_toArray, List.map_cons, List.map_nil]); first | done | rfl | (simp only [List.length_drop, List.length_take]; rfl)) ?_; (with_reducible refine (impl_DecOk.calls a0 t294 x2_1 false _ A64.out).mono ?_); rintro e w77 ⟨rfl, hb⟩; refine ⟨_, rfl, ?_⟩; have n0_ := Aside0.mk (blk_below (g := gb289) (o := .cells #[.bool false, .string (⟨#[]⟩ : ByteArray), .int .i64 0] 26 (0, 0)) (by refine blk_up ?_; exact BK289.out) hb); have n1_ := Aside0.mk (blk_below (g := gb295) (o := .cells #[.bool a0, .string t294, .int .i64 x2_1] 26 (0, 0)) (by refine blk_up ?_; exact BK295.out) hb); have n2_ := Aside0.mk (below_step (by repeat (first | (with_reducible first | exact HB.out | apply below_alloc | apply pw_below_drewN | apply below_drew1 | refine below_set ?_ GE289.out | refine below_set ?_ GE295.out) | exact HB.out)) hb); clear BK289; clear BK295; clear HB; have BK289 := n0_; have BK295 := n1_; have HB := n2_; clear n0_ n1_ n2_; (try clear hb); (try clear hb2); (try clear hk); (try clear hi); have hcz78_0 : w77.cell? ⟨gb289, 0, none⟩ = some (.bool false) := (blk_cell BK289.out 0).trans rfl; have hcz78_1 : w77.cell? ⟨gb289, 1, none⟩ = some (.string (⟨#[]⟩ : ByteArray)) := (blk_cell BK289.out 1).trans rfl; have hcz78_2 : w77.cell? ⟨gb289, 2, none⟩ = some (.int .i64 0) := (blk_cell BK289.out 2).trans rfl; have hfz78_0 := blk_frozen BK289.out 0; have hfz78_1 := blk_frozen BK289.out 1; have hfz78_2 := blk_frozen BK289.out 2))
                    refine bodyPost_ret (results_ct rfl _ _ gb289 26 #[.bool false, .string (⟨#[]⟩ : ByteArray), .int .i64 0] (0, 0) _ rfl (by refine blk_up ?_; refine blk_put (cs := #[.bool false, .string (⟨#[]⟩ : ByteArray), .int .i64 0]) ?_ 2 _ rfl; refine blk_up ?_; refine blk_put (cs := #[.bool false, .string (⟨#[]⟩ : ByteArray), .int .i64 0]) ?_ 1 _ rfl; refine blk_up ?_; refine blk_put (cs := #[.bool false, .string (⟨#[]⟩ : ByteArray), .int .i64 0]) ?_ 0 _ rfl; refine blk_up ?_; exact BK289.out) Tryd.underlying26 rfl (by kernel_rfl)) rfl ?_
                    exact ⟨by first | rfl | (simp [errW_none, errW_some] <;> rfl) | (simp only [← hji39]; first | rfl | (simp [errW_none, errW_some] <;> rfl)) | (simp [*, errW_none, errW_some] <;> rfl), by repeat (first | (with_reducible first | exact HB.out | apply below_alloc | apply pw_below_drewN | apply below_drew1 | refine below_set ?_ GE289.out | refine below_set ?_ GE295.out) | exact HB.out)⟩
            · rw [if_neg c41] at H
              exact absurd H (by simp)
          · rw [if_neg c40] at H
            exact absurd H (by simp)
      · rw [if_neg c5] at H
        have c5b0 : decide (0 < x2_1) = false := decide_eq_false c5
        clear c5
        replace H := Option.bind_eq_some_iff.mp H
        obtain ⟨t298, A790, H⟩ := H
        replace H : (if t298.toList = ([] : List UInt8) then ((impl_DecOk.f false (⟨#[]⟩ : ByteArray) 0).bind fun t300 => (if t300 = true then (some (false, (⟨#[]⟩ : ByteArray), 0, true)) else (some (false, (⟨#[]⟩ : ByteArray), 0, false)))) else ((impl_DecOk.f a0 t298 x2_1).bind fun t301 => (if t301 = true then (some (a0, t298, x2_1, true)) else (some (false, (⟨#[]⟩ : ByteArray), 0, false))))) = some (r1, r2, r3, r4) := H
        have A79 := Aside0.mk A790
        clear A790
        by_cases c80 : t298.toList = ([] : List UInt8)
        · rw [if_pos c80] at H
          have c80b0 : (t298.toList == ([] : List UInt8)) = true := beq_iff_eq.mpr c80
          have c80b1 : (t298.toList != ([] : List UInt8)) = false := bne_eq_false_iff_eq.mpr c80
          clear c80
          replace H := Option.bind_eq_some_iff.mp H
          obtain ⟨t300, A810, H⟩ := H
          replace H : (if t300 = true then (some (false, (⟨#[]⟩ : ByteArray), 0, true)) else (some (false, (⟨#[]⟩ : ByteArray), 0, false))) = some (r1, r2, r3, r4) := H
          have A81 := Aside0.mk A810
          clear A810
          by_cases c82 : t300 = true
          · subst c82
            have H1 : (some (false, (⟨#[]⟩ : ByteArray), 0, true)) = some (r1, r2, r3, r4) := by rw [if_pos rfl] at H; exact H
            clear H
            have H := H1
            clear H1
            simp only [Option.some.injEq, Prod.mk.injEq] at H
            obtain ⟨rfl, rfl, rfl, rfl⟩ := H
            go_upto_region 4 with (first | ((with_reducible refine gate_callee (f := 94) rfl ?_); refine goesL_ (some 32) rfl rfl Tryd.func94 (by kernel_rfl) rfl #[.string x1_1, .string (⟨#[48]⟩ : ByteArray)] rfl (by (try simp only [List.map_toArray, List.map_cons, List.map_nil]); first | done | rfl | (simp only [List.length_drop, List.length_take]; rfl)) ?_; (with_reducible refine (strings_TrimLeft.calls x1_1 (⟨#[48]⟩ : ByteArray) t298 _ A79.out).mono ?_); rintro e w83 ⟨rfl, hb⟩; refine ⟨_, rfl, ?_⟩; have n0_ := Aside0.mk (blk_below (g := gb289) (o := .cells #[.bool false, .string (⟨#[]⟩ : ByteArray), .int .i64 0] 26 (0, 0)) (by refine blk_up ?_; exact BK289.out) hb); have n1_ := Aside0.mk (below_step (by repeat (first | (with_reducible first | exact HB.out | apply below_alloc | apply pw_below_drewN | apply below_drew1 | refine below_set ?_ GE289.out) | exact HB.out)) hb); clear BK289; clear HB; have BK289 := n0_; have HB := n1_; clear n0_ n1_; (try clear hb); (try clear hb2); (try clear hk); (try clear hi)) | ((with_reducible refine gate_dst (N := 8) rfl ?_); (try (refine gate_guard (by rfl) ?_; dsimp only)); refine box_event ?hg (N := 8) ?hd (cs := #[.bool false, .string (⟨#[]⟩ : ByteArray), .int .i64 0]) (t := 26) ?hr ?_; (case hd => rfl); (case hg => rfl); (case hr => first | (go_simp; done) | (go_simp; rfl)); intro gb299 hg w84 hbox hb; have n0_ := Aside0.mk (blk_below (g := gb289) (o := .cells #[.bool false, .string (⟨#[]⟩ : ByteArray), .int .i64 0] 26 (0, 0)) (by refine blk_up ?_; exact BK289.out) hb); have n1_ := Aside0.mk (below_step (by repeat (first | (with_reducible first | exact HB.out | apply below_alloc | apply pw_below_drewN | apply below_drew1 | refine below_set ?_ GE289.out) | exact HB.out)) hb); have n2_ := Aside0.mk (hbox); have n3_ := Aside0.mk ((by rw [hg]; exact (below_size (by repeat (first | (with_reducible first | exact HB.out | apply below_alloc | apply pw_below_drewN | apply below_drew1 | refine below_set ?_ GE289.out) | exact HB.out))) : w.heap.size ≤ gb299)); have n4_ := Aside0.mk ((by rw [hg]; exact (below_size (by repeat (first | (with_reducible first | exact HB.out | apply below_alloc | apply pw_below_drewN | apply below_drew1 | refine below_set ?_ GE289.out) | exact HB.out))) : w.heap.size ≤ gb299)); have n5_ := Aside0.mk ((by rw [hg]; exact Nat.ne_of_lt (blk_lt (g := gb289) (o := .cells #[.bool false, .string (⟨#[]⟩ : ByteArray), .int .i64 0] 26 (0, 0)) (by refine blk_up ?_; exact BK289.out)) : gb289 ≠ gb299)); have n6_ := Aside0.mk ((by rw [hg]; exact Nat.ne_of_gt (blk_lt (g := gb289) (o := .cells #[.bool false, .string (⟨#[]⟩ : ByteArray), .int .i64 0] 26 (0, 0)) (by refine blk_up ?_; exact BK289.out)) : gb299 ≠ gb289)); clear BK289; clear HB; have BK289 := n0_; have HB := n1_; have BK299 := n2_; have GW299 := n3_; have GE299 := n4_; have NB289_299 := n5_; have NB299_289 := n6_; clear n0_ n1_ n2_ n3_ n4_ n5_ n6_; clear hb hbox hg; have hnb85 := NB299_289.out; have hnc85 := NB289_299.out; have hcz86_0 : w84.cell? ⟨gb299, 0, none⟩ = some (.bool false) := (blk_cell BK299.out 0).trans rfl; have hcz86_1 : w84.cell? ⟨gb299, 1, none⟩ = some (.string (⟨#[]⟩ : ByteArray)) := (blk_cell BK299.out 1).trans rfl; have hcz86_2 : w84.cell? ⟨gb299, 2, none⟩ = some (.int .i64 0) := (blk_cell BK299.out 2).trans rfl; have hfz86_0 := blk_frozen BK299.out 0; have hfz86_1 := blk_frozen BK299.out 1; have hfz86_2 := blk_frozen BK299.out 2))
            refine wp_world_impl_made (fun W => Aside0 (W.heap[gb289]? = some (.cells #[.bool false, .string (⟨#[]⟩ : ByteArray), .int .i64 0] 26 (0, 0))) ∧ Aside0 (W.heap[gb299]? = some (.cells #[.bool a0, .string t298, .int .i64 x2_1] 26 (0, 0))) ∧ Aside0 (Below w.heap.size w W))
              ⟨⟨by refine blk_up ?_; refine blk_far ?_ NB289_299.out _; refine blk_up ?_; refine blk_far ?_ NB289_299.out _; refine blk_up ?_; refine blk_far ?_ NB289_299.out _; refine blk_up ?_; exact BK289.out⟩,
               ⟨by refine blk_up ?_; refine blk_put (cs := #[.bool a0, .string t298, .int .i64 0]) ?_ 2 _ rfl; refine blk_up ?_; refine blk_put (cs := #[.bool a0, .string (⟨#[]⟩ : ByteArray), .int .i64 0]) ?_ 1 _ rfl; refine blk_up ?_; refine blk_put (cs := #[.bool false, .string (⟨#[]⟩ : ByteArray), .int .i64 0]) ?_ 0 _ rfl; refine blk_up ?_; exact BK299.out⟩,
               ⟨by repeat (first | (with_reducible first | exact HB.out | apply below_alloc | apply pw_below_drewN | apply below_drew1 | refine below_set ?_ GE289.out | refine below_set ?_ GE299.out) | exact HB.out)⟩⟩ ?_
            clear BK289 BK299 HB
            rintro ww ⟨BK289, BK299, HB⟩
            have hwz_0 : ww.cell? ⟨gb299, 0, none⟩ = some (.bool a0) := (blk_cell BK299.out 0).trans rfl
            have hwf_0 := blk_frozen BK299.out 0
            have hwz_1 : ww.cell? ⟨gb299, 1, none⟩ = some (.string t298) := (blk_cell BK299.out 1).trans rfl
            have hwf_1 := blk_frozen BK299.out 1
            have hwz_2 : ww.cell? ⟨gb299, 2, none⟩ = some (.int .i64 x2_1) := (blk_cell BK299.out 2).trans rfl
            have hwf_2 := blk_frozen BK299.out 2
            go_wp2_with (first | ((with_reducible refine gate_callee (f := 27) rfl ?_); refine goesL_ (some 40) rfl rfl Tryd.func27 (by kernel_rfl) rfl #[.agg #[.bool false, .string (⟨#[]⟩ : ByteArray), .int .i64 0]] rfl (by (try simp only [List.map_toArray, List.map_cons, List.map_nil]); first | done | rfl | (simp only [List.length_drop, List.length_take]; rfl)) ?_; (with_reducible refine (impl_DecOk.calls false (⟨#[]⟩ : ByteArray) 0 true _ A81.out).mono ?_); rintro e w87 ⟨rfl, hb⟩; refine ⟨_, rfl, ?_⟩; have n0_ := Aside0.mk (blk_below (g := gb289) (o := .cells #[.bool false, .string (⟨#[]⟩ : ByteArray), .int .i64 0] 26 (0, 0)) (by refine blk_up ?_; refine blk_far ?_ NB289_299.out _; refine blk_up ?_; refine blk_far ?_ NB289_299.out _; refine blk_up ?_; refine blk_far ?_ NB289_299.out _; refine blk_up ?_; exact BK289.out) hb); have n1_ := Aside0.mk (blk_below (g := gb299) (o := .cells #[.bool false, .string (⟨#[]⟩ : ByteArray), .int .i64 0] 26 (0, 0)) (by refine blk_up ?_; refine blk_put (cs := #[.bool false, .string (⟨#[]⟩ : ByteArray), .int .i64 x2_1]) ?_ 2 _ rfl; refine blk_up ?_; refine blk_put (cs := #[.bool false, .string t298, .int .i64 x2_1]) ?_ 1 _ rfl; refine blk_up ?_; refine blk_put (cs := #[.bool a0, .string t298, .int .i64 x2_1]) ?_ 0 _ rfl; refine blk_up ?_; exact BK299.out) hb); have n2_ := Aside0.mk (below_step (by repeat (first | (with_reducible first | exact HB.out | apply below_alloc | apply pw_below_drewN | apply below_drew1 | refine below_set ?_ GE289.out | refine below_set ?_ GE299.out) | exact HB.out)) hb); clear BK289; clear BK299; clear HB; have BK289 := n0_; have BK299 := n1_; have HB := n2_; clear n0_ n1_ n2_; (try clear hb); (try clear hb2); (try clear hk); (try clear hi); have hcz88_0 : w87.cell? ⟨gb299, 0, none⟩ = some (.bool false) := (blk_cell BK299.out 0).trans rfl; have hcz88_1 : w87.cell? ⟨gb299, 1, none⟩ = some (.string (⟨#[]⟩ : ByteArray)) := (blk_cell BK299.out 1).trans rfl; have hcz88_2 : w87.cell? ⟨gb299, 2, none⟩ = some (.int .i64 0) := (blk_cell BK299.out 2).trans rfl; have hfz88_0 := blk_frozen BK299.out 0; have hfz88_1 := blk_frozen BK299.out 1; have hfz88_2 := blk_frozen BK299.out 2; have hcz89_0 : w87.cell? ⟨gb289, 0, none⟩ = some (.bool false) := (blk_cell BK289.out 0).trans rfl; have hcz89_1 : w87.cell? ⟨gb289, 1, none⟩ = some (.string (⟨#[]⟩ : ByteArray)) := (blk_cell BK289.out 1).trans rfl; have hcz89_2 : w87.cell? ⟨gb289, 2, none⟩ = some (.int .i64 0) := (blk_cell BK289.out 2).trans rfl; have hfz89_0 := blk_frozen BK289.out 0; have hfz89_1 := blk_frozen BK289.out 1; have hfz89_2 := blk_frozen BK289.out 2))
            refine bodyPost_ret (results_ct rfl _ _ gb289 26 #[.bool false, .string (⟨#[]⟩ : ByteArray), .int .i64 0] (0, 0) _ rfl (by refine blk_up ?_; refine blk_put (cs := #[.bool false, .string (⟨#[]⟩ : ByteArray), .int .i64 0]) ?_ 2 _ rfl; refine blk_up ?_; refine blk_put (cs := #[.bool false, .string (⟨#[]⟩ : ByteArray), .int .i64 0]) ?_ 1 _ rfl; refine blk_up ?_; refine blk_put (cs := #[.bool false, .string (⟨#[]⟩ : ByteArray), .int .i64 0]) ?_ 0 _ rfl; refine blk_up ?_; exact BK289.out) Tryd.underlying26 rfl (by kernel_rfl)) rfl ?_
            exact ⟨by first | rfl | (simp [errW_none, errW_some] <;> rfl) | (simp [*, errW_none, errW_some] <;> rfl), by repeat (first | (with_reducible first | exact HB.out | apply below_alloc | apply pw_below_drewN | apply below_drew1 | refine below_set ?_ GE289.out | refine below_set ?_ GE299.out) | exact HB.out)⟩
          · replace c82 := Bool.eq_false_iff.mpr c82
            subst c82
            have H1 : (some (false, (⟨#[]⟩ : ByteArray), 0, false)) = some (r1, r2, r3, r4) := by rw [if_neg (show ¬ (false = true) by decide)] at H; exact H
            clear H
            have H := H1
            clear H1
            simp only [Option.some.injEq, Prod.mk.injEq] at H
            obtain ⟨rfl, rfl, rfl, rfl⟩ := H
            go_upto_region 4 with (first | ((with_reducible refine gate_callee (f := 94) rfl ?_); refine goesL_ (some 32) rfl rfl Tryd.func94 (by kernel_rfl) rfl #[.string x1_1, .string (⟨#[48]⟩ : ByteArray)] rfl (by (try simp only [List.map_toArray, List.map_cons, List.map_nil]); first | done | rfl | (simp only [List.length_drop, List.length_take]; rfl)) ?_; (with_reducible refine (strings_TrimLeft.calls x1_1 (⟨#[48]⟩ : ByteArray) t298 _ A79.out).mono ?_); rintro e w90 ⟨rfl, hb⟩; refine ⟨_, rfl, ?_⟩; have n0_ := Aside0.mk (blk_below (g := gb289) (o := .cells #[.bool false, .string (⟨#[]⟩ : ByteArray), .int .i64 0] 26 (0, 0)) (by refine blk_up ?_; exact BK289.out) hb); have n1_ := Aside0.mk (below_step (by repeat (first | (with_reducible first | exact HB.out | apply below_alloc | apply pw_below_drewN | apply below_drew1 | refine below_set ?_ GE289.out) | exact HB.out)) hb); clear BK289; clear HB; have BK289 := n0_; have HB := n1_; clear n0_ n1_; (try clear hb); (try clear hb2); (try clear hk); (try clear hi)) | ((with_reducible refine gate_dst (N := 8) rfl ?_); (try (refine gate_guard (by rfl) ?_; dsimp only)); refine box_event ?hg (N := 8) ?hd (cs := #[.bool false, .string (⟨#[]⟩ : ByteArray), .int .i64 0]) (t := 26) ?hr ?_; (case hd => rfl); (case hg => rfl); (case hr => first | (go_simp; done) | (go_simp; rfl)); intro gb299 hg w91 hbox hb; have n0_ := Aside0.mk (blk_below (g := gb289) (o := .cells #[.bool false, .string (⟨#[]⟩ : ByteArray), .int .i64 0] 26 (0, 0)) (by refine blk_up ?_; exact BK289.out) hb); have n1_ := Aside0.mk (below_step (by repeat (first | (with_reducible first | exact HB.out | apply below_alloc | apply pw_below_drewN | apply below_drew1 | refine below_set ?_ GE289.out) | exact HB.out)) hb); have n2_ := Aside0.mk (hbox); have n3_ := Aside0.mk ((by rw [hg]; exact (below_size (by repeat (first | (with_reducible first | exact HB.out | apply below_alloc | apply pw_below_drewN | apply below_drew1 | refine below_set ?_ GE289.out) | exact HB.out))) : w.heap.size ≤ gb299)); have n4_ := Aside0.mk ((by rw [hg]; exact (below_size (by repeat (first | (with_reducible first | exact HB.out | apply below_alloc | apply pw_below_drewN | apply below_drew1 | refine below_set ?_ GE289.out) | exact HB.out))) : w.heap.size ≤ gb299)); have n5_ := Aside0.mk ((by rw [hg]; exact Nat.ne_of_lt (blk_lt (g := gb289) (o := .cells #[.bool false, .string (⟨#[]⟩ : ByteArray), .int .i64 0] 26 (0, 0)) (by refine blk_up ?_; exact BK289.out)) : gb289 ≠ gb299)); have n6_ := Aside0.mk ((by rw [hg]; exact Nat.ne_of_gt (blk_lt (g := gb289) (o := .cells #[.bool false, .string (⟨#[]⟩ : ByteArray), .int .i64 0] 26 (0, 0)) (by refine blk_up ?_; exact BK289.out)) : gb299 ≠ gb289)); clear BK289; clear HB; have BK289 := n0_; have HB := n1_; have BK299 := n2_; have GW299 := n3_; have GE299 := n4_; have NB289_299 := n5_; have NB299_289 := n6_; clear n0_ n1_ n2_ n3_ n4_ n5_ n6_; clear hb hbox hg; have hnb92 := NB299_289.out; have hnc92 := NB289_299.out; have hcz93_0 : w91.cell? ⟨gb299, 0, none⟩ = some (.bool false) := (blk_cell BK299.out 0).trans rfl; have hcz93_1 : w91.cell? ⟨gb299, 1, none⟩ = some (.string (⟨#[]⟩ : ByteArray)) := (blk_cell BK299.out 1).trans rfl; have hcz93_2 : w91.cell? ⟨gb299, 2, none⟩ = some (.int .i64 0) := (blk_cell BK299.out 2).trans rfl; have hfz93_0 := blk_frozen BK299.out 0; have hfz93_1 := blk_frozen BK299.out 1; have hfz93_2 := blk_frozen BK299.out 2))
            refine wp_world_impl_made (fun W => Aside0 (W.heap[gb289]? = some (.cells #[.bool false, .string (⟨#[]⟩ : ByteArray), .int .i64 0] 26 (0, 0))) ∧ Aside0 (W.heap[gb299]? = some (.cells #[.bool a0, .string t298, .int .i64 x2_1] 26 (0, 0))) ∧ Aside0 (Below w.heap.size w W))
              ⟨⟨by refine blk_up ?_; refine blk_far ?_ NB289_299.out _; refine blk_up ?_; refine blk_far ?_ NB289_299.out _; refine blk_up ?_; refine blk_far ?_ NB289_299.out _; refine blk_up ?_; exact BK289.out⟩,
               ⟨by refine blk_up ?_; refine blk_put (cs := #[.bool a0, .string t298, .int .i64 0]) ?_ 2 _ rfl; refine blk_up ?_; refine blk_put (cs := #[.bool a0, .string (⟨#[]⟩ : ByteArray), .int .i64 0]) ?_ 1 _ rfl; refine blk_up ?_; refine blk_put (cs := #[.bool false, .string (⟨#[]⟩ : ByteArray), .int .i64 0]) ?_ 0 _ rfl; refine blk_up ?_; exact BK299.out⟩,
               ⟨by repeat (first | (with_reducible first | exact HB.out | apply below_alloc | apply pw_below_drewN | apply below_drew1 | refine below_set ?_ GE289.out | refine below_set ?_ GE299.out) | exact HB.out)⟩⟩ ?_
            clear BK289 BK299 HB
            rintro ww ⟨BK289, BK299, HB⟩
            have hwz_0 : ww.cell? ⟨gb299, 0, none⟩ = some (.bool a0) := (blk_cell BK299.out 0).trans rfl
            have hwf_0 := blk_frozen BK299.out 0
            have hwz_1 : ww.cell? ⟨gb299, 1, none⟩ = some (.string t298) := (blk_cell BK299.out 1).trans rfl
            have hwf_1 := blk_frozen BK299.out 1
            have hwz_2 : ww.cell? ⟨gb299, 2, none⟩ = some (.int .i64 x2_1) := (blk_cell BK299.out 2).trans rfl
            have hwf_2 := blk_frozen BK299.out 2
            go_wp2_with (first | ((with_reducible refine gate_callee (f := 27) rfl ?_); refine goesL_ (some 40) rfl rfl Tryd.func27 (by kernel_rfl) rfl #[.agg #[.bool false, .string (⟨#[]⟩ : ByteArray), .int .i64 0]] rfl (by (try simp only [List.map_toArray, List.map_cons, List.map_nil]); first | done | rfl | (simp only [List.length_drop, List.length_take]; rfl)) ?_; (with_reducible refine (impl_DecOk.calls false (⟨#[]⟩ : ByteArray) 0 false _ A81.out).mono ?_); rintro e w94 ⟨rfl, hb⟩; refine ⟨_, rfl, ?_⟩; have n0_ := Aside0.mk (blk_below (g := gb289) (o := .cells #[.bool false, .string (⟨#[]⟩ : ByteArray), .int .i64 0] 26 (0, 0)) (by refine blk_up ?_; refine blk_far ?_ NB289_299.out _; refine blk_up ?_; refine blk_far ?_ NB289_299.out _; refine blk_up ?_; refine blk_far ?_ NB289_299.out _; refine blk_up ?_; exact BK289.out) hb); have n1_ := Aside0.mk (blk_below (g := gb299) (o := .cells #[.bool false, .string (⟨#[]⟩ : ByteArray), .int .i64 0] 26 (0, 0)) (by refine blk_up ?_; refine blk_put (cs := #[.bool false, .string (⟨#[]⟩ : ByteArray), .int .i64 x2_1]) ?_ 2 _ rfl; refine blk_up ?_; refine blk_put (cs := #[.bool false, .string t298, .int .i64 x2_1]) ?_ 1 _ rfl; refine blk_up ?_; refine blk_put (cs := #[.bool a0, .string t298, .int .i64 x2_1]) ?_ 0 _ rfl; refine blk_up ?_; exact BK299.out) hb); have n2_ := Aside0.mk (below_step (by repeat (first | (with_reducible first | exact HB.out | apply below_alloc | apply pw_below_drewN | apply below_drew1 | refine below_set ?_ GE289.out | refine below_set ?_ GE299.out) | exact HB.out)) hb); clear BK289; clear BK299; clear HB; have BK289 := n0_; have BK299 := n1_; have HB := n2_; clear n0_ n1_ n2_; (try clear hb); (try clear hb2); (try clear hk); (try clear hi); have hcz95_0 : w94.cell? ⟨gb289, 0, none⟩ = some (.bool false) := (blk_cell BK289.out 0).trans rfl; have hcz95_1 : w94.cell? ⟨gb289, 1, none⟩ = some (.string (⟨#[]⟩ : ByteArray)) := (blk_cell BK289.out 1).trans rfl; have hcz95_2 : w94.cell? ⟨gb289, 2, none⟩ = some (.int .i64 0) := (blk_cell BK289.out 2).trans rfl; have hfz95_0 := blk_frozen BK289.out 0; have hfz95_1 := blk_frozen BK289.out 1; have hfz95_2 := blk_frozen BK289.out 2))
            refine bodyPost_ret (results_ct rfl _ _ gb289 26 #[.bool false, .string (⟨#[]⟩ : ByteArray), .int .i64 0] (0, 0) _ rfl (by refine blk_up ?_; refine blk_put (cs := #[.bool false, .string (⟨#[]⟩ : ByteArray), .int .i64 0]) ?_ 2 _ rfl; refine blk_up ?_; refine blk_put (cs := #[.bool false, .string (⟨#[]⟩ : ByteArray), .int .i64 0]) ?_ 1 _ rfl; refine blk_up ?_; refine blk_put (cs := #[.bool false, .string (⟨#[]⟩ : ByteArray), .int .i64 0]) ?_ 0 _ rfl; refine blk_up ?_; exact BK289.out) Tryd.underlying26 rfl (by kernel_rfl)) rfl ?_
            exact ⟨by first | rfl | (simp [errW_none, errW_some] <;> rfl) | (simp [*, errW_none, errW_some] <;> rfl), by repeat (first | (with_reducible first | exact HB.out | apply below_alloc | apply pw_below_drewN | apply below_drew1 | refine below_set ?_ GE289.out | refine below_set ?_ GE299.out) | exact HB.out)⟩
        · rw [if_neg c80] at H
          have c80b0 : (t298.toList == ([] : List UInt8)) = false := beq_eq_false_iff_ne.mpr c80
          have c80b1 : (t298.toList != ([] : List UInt8)) = true := bne_iff_ne.mpr c80
          replace H := Option.bind_eq_some_iff.mp H
          obtain ⟨t301, A960, H⟩ := H
          replace H : (if t301 = true then (some (a0, t298, x2_1, true)) else (some (false, (⟨#[]⟩ : ByteArray), 0, false))) = some (r1, r2, r3, r4) := H
          have A96 := Aside0.mk A960
          clear A960
          by_cases c97 : t301 = true
          · subst c97
            have H1 : (some (a0, t298, x2_1, true)) = some (r1, r2, r3, r4) := by rw [if_pos rfl] at H; exact H
            clear H
            have H := H1
            clear H1
            simp only [Option.some.injEq, Prod.mk.injEq] at H
            obtain ⟨rfl, rfl, rfl, rfl⟩ := H
            go_upto_region 4 with (first | ((with_reducible refine gate_callee (f := 94) rfl ?_); refine goesL_ (some 32) rfl rfl Tryd.func94 (by kernel_rfl) rfl #[.string x1_1, .string (⟨#[48]⟩ : ByteArray)] rfl (by (try simp only [List.map_toArray, List.map_cons, List.map_nil]); first | done | rfl | (simp only [List.length_drop, List.length_take]; rfl)) ?_; (with_reducible refine (strings_TrimLeft.calls x1_1 (⟨#[48]⟩ : ByteArray) t298 _ A79.out).mono ?_); rintro e w98 ⟨rfl, hb⟩; refine ⟨_, rfl, ?_⟩; have n0_ := Aside0.mk (blk_below (g := gb289) (o := .cells #[.bool false, .string (⟨#[]⟩ : ByteArray), .int .i64 0] 26 (0, 0)) (by refine blk_up ?_; exact BK289.out) hb); have n1_ := Aside0.mk (below_step (by repeat (first | (with_reducible first | exact HB.out | apply below_alloc | apply pw_below_drewN | apply below_drew1 | refine below_set ?_ GE289.out) | exact HB.out)) hb); clear BK289; clear HB; have BK289 := n0_; have HB := n1_; clear n0_ n1_; (try clear hb); (try clear hb2); (try clear hk); (try clear hi)) | ((with_reducible refine gate_dst (N := 8) rfl ?_); (try (refine gate_guard (by rfl) ?_; dsimp only)); refine box_event ?hg (N := 8) ?hd (cs := #[.bool false, .string (⟨#[]⟩ : ByteArray), .int .i64 0]) (t := 26) ?hr ?_; (case hd => rfl); (case hg => rfl); (case hr => first | (go_simp; done) | (go_simp; rfl)); intro gb299 hg w99 hbox hb; have n0_ := Aside0.mk (blk_below (g := gb289) (o := .cells #[.bool false, .string (⟨#[]⟩ : ByteArray), .int .i64 0] 26 (0, 0)) (by refine blk_up ?_; exact BK289.out) hb); have n1_ := Aside0.mk (below_step (by repeat (first | (with_reducible first | exact HB.out | apply below_alloc | apply pw_below_drewN | apply below_drew1 | refine below_set ?_ GE289.out) | exact HB.out)) hb); have n2_ := Aside0.mk (hbox); have n3_ := Aside0.mk ((by rw [hg]; exact (below_size (by repeat (first | (with_reducible first | exact HB.out | apply below_alloc | apply pw_below_drewN | apply below_drew1 | refine below_set ?_ GE289.out) | exact HB.out))) : w.heap.size ≤ gb299)); have n4_ := Aside0.mk ((by rw [hg]; exact (below_size (by repeat (first | (with_reducible first | exact HB.out | apply below_alloc | apply pw_below_drewN | apply below_drew1 | refine below_set ?_ GE289.out) | exact HB.out))) : w.heap.size ≤ gb299)); have n5_ := Aside0.mk ((by rw [hg]; exact Nat.ne_of_lt (blk_lt (g := gb289) (o := .cells #[.bool false, .string (⟨#[]⟩ : ByteArray), .int .i64 0] 26 (0, 0)) (by refine blk_up ?_; exact BK289.out)) : gb289 ≠ gb299)); have n6_ := Aside0.mk ((by rw [hg]; exact Nat.ne_of_gt (blk_lt (g := gb289) (o := .cells #[.bool false, .string (⟨#[]⟩ : ByteArray), .int .i64 0] 26 (0, 0)) (by refine blk_up ?_; exact BK289.out)) : gb299 ≠ gb289)); clear BK289; clear HB; have BK289 := n0_; have HB := n1_; have BK299 := n2_; have GW299 := n3_; have GE299 := n4_; have NB289_299 := n5_; have NB299_289 := n6_; clear n0_ n1_ n2_ n3_ n4_ n5_ n6_; clear hb hbox hg; have hnb100 := NB299_289.out; have hnc100 := NB289_299.out; have hcz101_0 : w99.cell? ⟨gb299, 0, none⟩ = some (.bool false) := (blk_cell BK299.out 0).trans rfl; have hcz101_1 : w99.cell? ⟨gb299, 1, none⟩ = some (.string (⟨#[]⟩ : ByteArray)) := (blk_cell BK299.out 1).trans rfl; have hcz101_2 : w99.cell? ⟨gb299, 2, none⟩ = some (.int .i64 0) := (blk_cell BK299.out 2).trans rfl; have hfz101_0 := blk_frozen BK299.out 0; have hfz101_1 := blk_frozen BK299.out 1; have hfz101_2 := blk_frozen BK299.out 2))
            refine wp_world_impl_made (fun W => Aside0 (W.heap[gb289]? = some (.cells #[.bool false, .string (⟨#[]⟩ : ByteArray), .int .i64 0] 26 (0, 0))) ∧ Aside0 (W.heap[gb299]? = some (.cells #[.bool a0, .string t298, .int .i64 x2_1] 26 (0, 0))) ∧ Aside0 (Below w.heap.size w W))
              ⟨⟨by refine blk_up ?_; refine blk_far ?_ NB289_299.out _; refine blk_up ?_; refine blk_far ?_ NB289_299.out _; refine blk_up ?_; refine blk_far ?_ NB289_299.out _; refine blk_up ?_; exact BK289.out⟩,
               ⟨by refine blk_up ?_; refine blk_put (cs := #[.bool a0, .string t298, .int .i64 0]) ?_ 2 _ rfl; refine blk_up ?_; refine blk_put (cs := #[.bool a0, .string (⟨#[]⟩ : ByteArray), .int .i64 0]) ?_ 1 _ rfl; refine blk_up ?_; refine blk_put (cs := #[.bool false, .string (⟨#[]⟩ : ByteArray), .int .i64 0]) ?_ 0 _ rfl; refine blk_up ?_; exact BK299.out⟩,
               ⟨by repeat (first | (with_reducible first | exact HB.out | apply below_alloc | apply pw_below_drewN | apply below_drew1 | refine below_set ?_ GE289.out | refine below_set ?_ GE299.out) | exact HB.out)⟩⟩ ?_
            clear BK289 BK299 HB
            rintro ww ⟨BK289, BK299, HB⟩
            have hwz_0 : ww.cell? ⟨gb299, 0, none⟩ = some (.bool a0) := (blk_cell BK299.out 0).trans rfl
            have hwf_0 := blk_frozen BK299.out 0
            have hwz_1 : ww.cell? ⟨gb299, 1, none⟩ = some (.string t298) := (blk_cell BK299.out 1).trans rfl
            have hwf_1 := blk_frozen BK299.out 1
            have hwz_2 : ww.cell? ⟨gb299, 2, none⟩ = some (.int .i64 x2_1) := (blk_cell BK299.out 2).trans rfl
            have hwf_2 := blk_frozen BK299.out 2
            go_wp2_with (first | ((with_reducible refine gate_callee (f := 27) rfl ?_); refine goesL_ (some 40) rfl rfl Tryd.func27 (by kernel_rfl) rfl #[.agg #[.bool a0, .string t298, .int .i64 x2_1]] rfl (by (try simp only [List.map_toArray, List.map_cons, List.map_nil]); first | done | rfl | (simp only [List.length_drop, List.length_take]; rfl)) ?_; (with_reducible refine (impl_DecOk.calls a0 t298 x2_1 true _ A96.out).mono ?_); rintro e w102 ⟨rfl, hb⟩; refine ⟨_, rfl, ?_⟩; have n0_ := Aside0.mk (blk_below (g := gb289) (o := .cells #[.bool false, .string (⟨#[]⟩ : ByteArray), .int .i64 0] 26 (0, 0)) (by refine blk_up ?_; exact BK289.out) hb); have n1_ := Aside0.mk (blk_below (g := gb299) (o := .cells #[.bool a0, .string t298, .int .i64 x2_1] 26 (0, 0)) (by refine blk_up ?_; exact BK299.out) hb); have n2_ := Aside0.mk (below_step (by repeat (first | (with_reducible first | exact HB.out | apply below_alloc | apply pw_below_drewN | apply below_drew1 | refine below_set ?_ GE289.out | refine below_set ?_ GE299.out) | exact HB.out)) hb); clear BK289; clear BK299; clear HB; have BK289 := n0_; have BK299 := n1_; have HB := n2_; clear n0_ n1_ n2_; (try clear hb); (try clear hb2); (try clear hk); (try clear hi); have hcz103_0 : w102.cell? ⟨gb299, 0, none⟩ = some (.bool a0) := (blk_cell BK299.out 0).trans rfl; have hcz103_1 : w102.cell? ⟨gb299, 1, none⟩ = some (.string t298) := (blk_cell BK299.out 1).trans rfl; have hcz103_2 : w102.cell? ⟨gb299, 2, none⟩ = some (.int .i64 x2_1) := (blk_cell BK299.out 2).trans rfl; have hfz103_0 := blk_frozen BK299.out 0; have hfz103_1 := blk_frozen BK299.out 1; have hfz103_2 := blk_frozen BK299.out 2; have hcz104_0 : w102.cell? ⟨gb289, 0, none⟩ = some (.bool false) := (blk_cell BK289.out 0).trans rfl; have hcz104_1 : w102.cell? ⟨gb289, 1, none⟩ = some (.string (⟨#[]⟩ : ByteArray)) := (blk_cell BK289.out 1).trans rfl; have hcz104_2 : w102.cell? ⟨gb289, 2, none⟩ = some (.int .i64 0) := (blk_cell BK289.out 2).trans rfl; have hfz104_0 := blk_frozen BK289.out 0; have hfz104_1 := blk_frozen BK289.out 1; have hfz104_2 := blk_frozen BK289.out 2))
            refine bodyPost_ret (results_ct rfl _ _ gb289 26 #[.bool a0, .string t298, .int .i64 x2_1] (0, 0) _ rfl (by refine blk_up ?_; refine blk_put (cs := #[.bool a0, .string t298, .int .i64 0]) ?_ 2 _ rfl; refine blk_up ?_; refine blk_put (cs := #[.bool a0, .string (⟨#[]⟩ : ByteArray), .int .i64 0]) ?_ 1 _ rfl; refine blk_up ?_; refine blk_put (cs := #[.bool false, .string (⟨#[]⟩ : ByteArray), .int .i64 0]) ?_ 0 _ rfl; refine blk_up ?_; exact BK289.out) Tryd.underlying26 rfl (by kernel_rfl)) rfl ?_
            exact ⟨by first | rfl | (simp [errW_none, errW_some] <;> rfl) | (simp [*, errW_none, errW_some] <;> rfl), by repeat (first | (with_reducible first | exact HB.out | apply below_alloc | apply pw_below_drewN | apply below_drew1 | refine below_set ?_ GE289.out | refine below_set ?_ GE299.out) | exact HB.out)⟩
          · replace c97 := Bool.eq_false_iff.mpr c97
            subst c97
            have H1 : (some (false, (⟨#[]⟩ : ByteArray), 0, false)) = some (r1, r2, r3, r4) := by rw [if_neg (show ¬ (false = true) by decide)] at H; exact H
            clear H
            have H := H1
            clear H1
            simp only [Option.some.injEq, Prod.mk.injEq] at H
            obtain ⟨rfl, rfl, rfl, rfl⟩ := H
            go_upto_region 4 with (first | ((with_reducible refine gate_callee (f := 94) rfl ?_); refine goesL_ (some 32) rfl rfl Tryd.func94 (by kernel_rfl) rfl #[.string x1_1, .string (⟨#[48]⟩ : ByteArray)] rfl (by (try simp only [List.map_toArray, List.map_cons, List.map_nil]); first | done | rfl | (simp only [List.length_drop, List.length_take]; rfl)) ?_; (with_reducible refine (strings_TrimLeft.calls x1_1 (⟨#[48]⟩ : ByteArray) t298 _ A79.out).mono ?_); rintro e w105 ⟨rfl, hb⟩; refine ⟨_, rfl, ?_⟩; have n0_ := Aside0.mk (blk_below (g := gb289) (o := .cells #[.bool false, .string (⟨#[]⟩ : ByteArray), .int .i64 0] 26 (0, 0)) (by refine blk_up ?_; exact BK289.out) hb); have n1_ := Aside0.mk (below_step (by repeat (first | (with_reducible first | exact HB.out | apply below_alloc | apply pw_below_drewN | apply below_drew1 | refine below_set ?_ GE289.out) | exact HB.out)) hb); clear BK289; clear HB; have BK289 := n0_; have HB := n1_; clear n0_ n1_; (try clear hb); (try clear hb2); (try clear hk); (try clear hi)) | ((with_reducible refine gate_dst (N := 8) rfl ?_); (try (refine gate_guard (by rfl) ?_; dsimp only)); refine box_event ?hg (N := 8) ?hd (cs := #[.bool false, .string (⟨#[]⟩ : ByteArray), .int .i64 0]) (t := 26) ?hr ?_; (case hd => rfl); (case hg => rfl); (case hr => first | (go_simp; done) | (go_simp; rfl)); intro gb299 hg w106 hbox hb; have n0_ := Aside0.mk (blk_below (g := gb289) (o := .cells #[.bool false, .string (⟨#[]⟩ : ByteArray), .int .i64 0] 26 (0, 0)) (by refine blk_up ?_; exact BK289.out) hb); have n1_ := Aside0.mk (below_step (by repeat (first | (with_reducible first | exact HB.out | apply below_alloc | apply pw_below_drewN | apply below_drew1 | refine below_set ?_ GE289.out) | exact HB.out)) hb); have n2_ := Aside0.mk (hbox); have n3_ := Aside0.mk ((by rw [hg]; exact (below_size (by repeat (first | (with_reducible first | exact HB.out | apply below_alloc | apply pw_below_drewN | apply below_drew1 | refine below_set ?_ GE289.out) | exact HB.out))) : w.heap.size ≤ gb299)); have n4_ := Aside0.mk ((by rw [hg]; exact (below_size (by repeat (first | (with_reducible first | exact HB.out | apply below_alloc | apply pw_below_drewN | apply below_drew1 | refine below_set ?_ GE289.out) | exact HB.out))) : w.heap.size ≤ gb299)); have n5_ := Aside0.mk ((by rw [hg]; exact Nat.ne_of_lt (blk_lt (g := gb289) (o := .cells #[.bool false, .string (⟨#[]⟩ : ByteArray), .int .i64 0] 26 (0, 0)) (by refine blk_up ?_; exact BK289.out)) : gb289 ≠ gb299)); have n6_ := Aside0.mk ((by rw [hg]; exact Nat.ne_of_gt (blk_lt (g := gb289) (o := .cells #[.bool false, .string (⟨#[]⟩ : ByteArray), .int .i64 0] 26 (0, 0)) (by refine blk_up ?_; exact BK289.out)) : gb299 ≠ gb289)); clear BK289; clear HB; have BK289 := n0_; have HB := n1_; have BK299 := n2_; have GW299 := n3_; have GE299 := n4_; have NB289_299 := n5_; have NB299_289 := n6_; clear n0_ n1_ n2_ n3_ n4_ n5_ n6_; clear hb hbox hg; have hnb107 := NB299_289.out; have hnc107 := NB289_299.out; have hcz108_0 : w106.cell? ⟨gb299, 0, none⟩ = some (.bool false) := (blk_cell BK299.out 0).trans rfl; have hcz108_1 : w106.cell? ⟨gb299, 1, none⟩ = some (.string (⟨#[]⟩ : ByteArray)) := (blk_cell BK299.out 1).trans rfl; have hcz108_2 : w106.cell? ⟨gb299, 2, none⟩ = some (.int .i64 0) := (blk_cell BK299.out 2).trans rfl; have hfz108_0 := blk_frozen BK299.out 0; have hfz108_1 := blk_frozen BK299.out 1; have hfz108_2 := blk_frozen BK299.out 2))
            refine wp_world_impl_made (fun W => Aside0 (W.heap[gb289]? = some (.cells #[.bool false, .string (⟨#[]⟩ : ByteArray), .int .i64 0] 26 (0, 0))) ∧ Aside0 (W.heap[gb299]? = some (.cells #[.bool a0, .string t298, .int .i64 x2_1] 26 (0, 0))) ∧ Aside0 (Below w.heap.size w W))
              ⟨⟨by refine blk_up ?_; refine blk_far ?_ NB289_299.out _; refine blk_up ?_; refine blk_far ?_ NB289_299.out _; refine blk_up ?_; refine blk_far ?_ NB289_299.out _; refine blk_up ?_; exact BK289.out⟩,
               ⟨by refine blk_up ?_; refine blk_put (cs := #[.bool a0, .string t298, .int .i64 0]) ?_ 2 _ rfl; refine blk_up ?_; refine blk_put (cs := #[.bool a0, .string (⟨#[]⟩ : ByteArray), .int .i64 0]) ?_ 1 _ rfl; refine blk_up ?_; refine blk_put (cs := #[.bool false, .string (⟨#[]⟩ : ByteArray), .int .i64 0]) ?_ 0 _ rfl; refine blk_up ?_; exact BK299.out⟩,
               ⟨by repeat (first | (with_reducible first | exact HB.out | apply below_alloc | apply pw_below_drewN | apply below_drew1 | refine below_set ?_ GE289.out | refine below_set ?_ GE299.out) | exact HB.out)⟩⟩ ?_
            clear BK289 BK299 HB
            rintro ww ⟨BK289, BK299, HB⟩
            have hwz_0 : ww.cell? ⟨gb299, 0, none⟩ = some (.bool a0) := (blk_cell BK299.out 0).trans rfl
            have hwf_0 := blk_frozen BK299.out 0
            have hwz_1 : ww.cell? ⟨gb299, 1, none⟩ = some (.string t298) := (blk_cell BK299.out 1).trans rfl
            have hwf_1 := blk_frozen BK299.out 1
            have hwz_2 : ww.cell? ⟨gb299, 2, none⟩ = some (.int .i64 x2_1) := (blk_cell BK299.out 2).trans rfl
            have hwf_2 := blk_frozen BK299.out 2
            go_wp2_with (first | ((with_reducible refine gate_callee (f := 27) rfl ?_); refine goesL_ (some 40) rfl rfl Tryd.func27 (by kernel_rfl) rfl #[.agg #[.bool a0, .string t298, .int .i64 x2_1]] rfl (by (try simp only [List.map_toArray, List.map_cons, List.map_nil]); first | done | rfl | (simp only [List.length_drop, List.length_take]; rfl)) ?_; (with_reducible refine (impl_DecOk.calls a0 t298 x2_1 false _ A96.out).mono ?_); rintro e w109 ⟨rfl, hb⟩; refine ⟨_, rfl, ?_⟩; have n0_ := Aside0.mk (blk_below (g := gb289) (o := .cells #[.bool false, .string (⟨#[]⟩ : ByteArray), .int .i64 0] 26 (0, 0)) (by refine blk_up ?_; exact BK289.out) hb); have n1_ := Aside0.mk (blk_below (g := gb299) (o := .cells #[.bool a0, .string t298, .int .i64 x2_1] 26 (0, 0)) (by refine blk_up ?_; exact BK299.out) hb); have n2_ := Aside0.mk (below_step (by repeat (first | (with_reducible first | exact HB.out | apply below_alloc | apply pw_below_drewN | apply below_drew1 | refine below_set ?_ GE289.out | refine below_set ?_ GE299.out) | exact HB.out)) hb); clear BK289; clear BK299; clear HB; have BK289 := n0_; have BK299 := n1_; have HB := n2_; clear n0_ n1_ n2_; (try clear hb); (try clear hb2); (try clear hk); (try clear hi); have hcz110_0 : w109.cell? ⟨gb289, 0, none⟩ = some (.bool false) := (blk_cell BK289.out 0).trans rfl; have hcz110_1 : w109.cell? ⟨gb289, 1, none⟩ = some (.string (⟨#[]⟩ : ByteArray)) := (blk_cell BK289.out 1).trans rfl; have hcz110_2 : w109.cell? ⟨gb289, 2, none⟩ = some (.int .i64 0) := (blk_cell BK289.out 2).trans rfl; have hfz110_0 := blk_frozen BK289.out 0; have hfz110_1 := blk_frozen BK289.out 1; have hfz110_2 := blk_frozen BK289.out 2))
            refine bodyPost_ret (results_ct rfl _ _ gb289 26 #[.bool false, .string (⟨#[]⟩ : ByteArray), .int .i64 0] (0, 0) _ rfl (by refine blk_up ?_; refine blk_put (cs := #[.bool false, .string (⟨#[]⟩ : ByteArray), .int .i64 0]) ?_ 2 _ rfl; refine blk_up ?_; refine blk_put (cs := #[.bool false, .string (⟨#[]⟩ : ByteArray), .int .i64 0]) ?_ 1 _ rfl; refine blk_up ?_; refine blk_put (cs := #[.bool false, .string (⟨#[]⟩ : ByteArray), .int .i64 0]) ?_ 0 _ rfl; refine blk_up ?_; exact BK289.out) Tryd.underlying26 rfl (by kernel_rfl)) rfl ?_
            exact ⟨by first | rfl | (simp [errW_none, errW_some] <;> rfl) | (simp [*, errW_none, errW_some] <;> rfl), by repeat (first | (with_reducible first | exact HB.out | apply below_alloc | apply pw_below_drewN | apply below_drew1 | refine below_set ?_ GE289.out | refine below_set ?_ GE299.out) | exact HB.out)⟩

end Go.Proofs.YtilmhfkbpnejeaaDoor.L

namespace Go.Proofs.YtilmhfkbpnejeaaDoor.L
open Go.RowKit Go.Proofs.YtilmhfkbpnejeaaDoorW.PrintWords Go.Proofs.YtilmhfkbpnejeaaDoorW.PrintLast Go.Proofs.YtilmhfkbpnejeaaDoorW.PrintMore
attribute [local go_sem] max2_int min2_int max_two min_two max_three min_three max_four min_four   -- for this text's walks alone
attribute [local go_sem] Go.Proofs.YtilmhfkbpnejeaaDoor.H.str_leq Go.Proofs.YtilmhfkbpnejeaaDoor.H.str_gtr Go.Proofs.YtilmhfkbpnejeaaDoor.H.str_geq
set_option linter.unusedVariables false
set_option linter.unusedSimpArgs false

/-! ### impl_ReadDec: function 25 -/
mutual
def impl_ReadDec.j0 : Nat → ByteArray → ByteArray → Bool → Option (Bool × ByteArray × Int × Bool)
  | 0, _, _, _ => none
  | k + 1, x0, x4, x20 => if x20 = true then (if 1 ≤ (x0.size : Int) then (impl_ReadDec.j1 k x0 (x0.extract 1 x0.size)) else (none)) else (impl_ReadDec.j1 k x0 x4)
def impl_ReadDec.j1 : Nat → ByteArray → ByteArray → Option (Bool × ByteArray × Int × Bool)
  | 0, _, _ => none
  | k + 1, x0, x4 => (strings_Cut.f x4 (⟨#[46]⟩ : ByteArray)).bind fun bt511 => (if (x4.size : Int) > 180 then (some (false, (⟨#[]⟩ : ByteArray), 0, false)) else (if bt511.1.size + bt511.2.1.size ≤ 9223372036854775807 then (if (bt511.1 ++ bt511.2.1).toList = ([] : List UInt8) then (some (false, (⟨#[]⟩ : ByteArray), 0, false)) else ((impl_isDigits.f (bt511.1 ++ bt511.2.1)).bind fun t514 => (if t514 = true then (if 0 < (x0.size : Int) then ((impl_made.f k ((bt x0 0) == 45) (bt511.1 ++ bt511.2.1) (bt511.2.1.size : Int)).bind fun bt515 => (some (bt515.1, bt515.2.1, bt515.2.2.1, bt515.2.2.2))) else (none)) else (some (false, (⟨#[]⟩ : ByteArray), 0, false))))) else (none)))
end
def impl_ReadDec.f (k : Nat) (a0 : ByteArray) : Option (Bool × ByteArray × Int × Bool) := if a0.toList = ([] : List UInt8) then (impl_ReadDec.j0 k a0 a0 false) else (if 0 < (a0.size : Int) then (if (bt a0 0) = 43 then (impl_ReadDec.j0 k a0 a0 true) else (impl_ReadDec.j0 k a0 a0 ((bt a0 0) == 45))) else (none))
theorem impl_ReadDec.mono_l : ∀ k, (∀ y0 y1 y2, LeO (impl_ReadDec.j0 k y0 y1 y2) (impl_ReadDec.j0 (k + 1) y0 y1 y2)) ∧ (∀ y0 y1, LeO (impl_ReadDec.j1 k y0 y1) (impl_ReadDec.j1 (k + 1) y0 y1))
  | 0 => ⟨fun _ _ _ r h => by simp [impl_ReadDec.j0] at h, fun _ _ r h => by simp [impl_ReadDec.j1] at h⟩
  | k + 1 => by
    obtain ⟨ih0, ih1⟩ := impl_ReadDec.mono_l k
    refine ⟨?_, ?_⟩
    · intro y0 y1 y2
      unfold impl_ReadDec.j0
      repeat' first
      | (with_reducible exact ih0 _ _ _)
      | (with_reducible exact ih1 _ _)
      | (with_reducible exact impl_made.mono _ _ _ _)
      | (with_reducible exact LeO.refl _)
      | (with_reducible exact LeO.none _)
      | (with_reducible refine LeO.ite ?_ ?_)
      | (with_reducible refine LeO.bind ?_ (fun _ => ?_))
      | exact ih0 _ _ _
      | exact ih1 _ _
      | exact impl_made.mono _ _ _ _
      | exact LeO.none _
      | refine LeO.ite ?_ ?_
      | refine LeO.bind ?_ (fun _ => ?_)
    · intro y0 y1
      unfold impl_ReadDec.j1
      repeat' first
      | (with_reducible exact ih0 _ _ _)
      | (with_reducible exact ih1 _ _)
      | (with_reducible exact impl_made.mono _ _ _ _)
      | (with_reducible exact LeO.refl _)
      | (with_reducible exact LeO.none _)
      | (with_reducible refine LeO.ite ?_ ?_)
      | (with_reducible refine LeO.bind ?_ (fun _ => ?_))
      | exact ih0 _ _ _
      | exact ih1 _ _
      | exact impl_made.mono _ _ _ _
      | exact LeO.none _
      | refine LeO.ite ?_ ?_
      | refine LeO.bind ?_ (fun _ => ?_)
theorem impl_ReadDec.mono : ∀ a0 k, LeO (impl_ReadDec.f k a0) (impl_ReadDec.f (k + 1) a0) := by
  intro a0 k
  obtain ⟨ih0, ih1⟩ := impl_ReadDec.mono_l k
  unfold impl_ReadDec.f
  repeat' first
      | (with_reducible exact ih0 _ _ _)
      | (with_reducible exact ih1 _ _)
      | (with_reducible exact impl_made.mono _ _ _ _)
      | (with_reducible exact LeO.refl _)
      | (with_reducible exact LeO.none _)
      | (with_reducible refine LeO.ite ?_ ?_)
      | (with_reducible refine LeO.bind ?_ (fun _ => ?_))
      | exact ih0 _ _ _
      | exact ih1 _ _
      | exact impl_made.mono _ _ _ _
      | exact LeO.none _
      | refine LeO.ite ?_ ?_
      | refine LeO.bind ?_ (fun _ => ?_)
set_option maxHeartbeats 8000000 in
set_option maxRecDepth 100000 in
theorem impl_ReadDec.calls (k : Nat) (a0 : ByteArray) (r1 : Bool) (r2 : ByteArray) (r3 : Int) (r4 : Bool) (w : World) (h : impl_ReadDec.f k a0 = some (r1, r2, r3, r4)) :
    Calls Tryd.prog 25 #[.string a0] w fun e w' => e = .returned (.tuple #[.agg #[.bool r1, .string r2, .int .i64 r3], .bool r4]) ∧ Below w.heap.size w w' := by
  have hu26 := Tryd.underlying26
  have HB := Aside0.mk (Below.refl w.heap.size w)
  have H : (if a0.toList = ([] : List UInt8) then (impl_ReadDec.j0 k a0 a0 false) else (if 0 < (a0.size : Int) then (if (bt a0 0) = 43 then (impl_ReadDec.j0 k a0 a0 true) else (impl_ReadDec.j0 k a0 a0 ((bt a0 0) == 45))) else (none))) = some (r1, r2, r3, r4) := h
  clear h
  have HC2 := Aside0.mk H
  clear H
  go_enter Tryd.func25, Tryd.ntmps25
  go_upto_region 2 with (first | ((with_reducible refine gate_dst (N := 2) rfl ?_); refine box_event ?hg (N := 2) ?hd (cs := #[.bool false, .string (⟨#[]⟩ : ByteArray), .int .i64 0]) (t := 26) ?hr ?_; (case hd => rfl); (case hg => rfl); (case hr => first | (go_simp; done) | (go_simp; rfl)); intro gb510 hg w3 hbox hb; have n0_ := Aside0.mk (below_step (by repeat (first | (with_reducible first | exact HB.out | apply below_alloc | apply pw_below_drewN | apply below_drew1) | exact HB.out)) hb); have n1_ := Aside0.mk (hbox); have n2_ := Aside0.mk ((by rw [hg]; exact (below_size (by repeat (first | (with_reducible first | exact HB.out | apply below_alloc | apply pw_below_drewN | apply below_drew1) | exact HB.out))) : w.heap.size ≤ gb510)); have n3_ := Aside0.mk ((by rw [hg]; exact (below_size (by repeat (first | (with_reducible first | exact HB.out | apply below_alloc | apply pw_below_drewN | apply below_drew1) | exact HB.out))) : w.heap.size ≤ gb510)); clear HB; have HB := n0_; have BK510 := n1_; have GW510 := n2_; have GE510 := n3_; clear n0_ n1_ n2_ n3_; clear hb hbox hg))
  (try simp only [Act.put, List.setIfInBounds_toArray, List.set_cons_zero, List.set_cons_succ])
  go_cut [20] (fun v20 wc => ∃ (kq : Nat) (x20_1 : Bool), v20 = .bool x20_1 ∧ Aside0 (impl_ReadDec.j0 kq a0 a0 x20_1 = some (r1, r2, r3, r4)) ∧ Aside0 (kq ≤ k) ∧ Aside0 (wc.heap[gb510]? = some (.cells #[.bool false, .string (⟨#[]⟩ : ByteArray), .int .i64 0] 26 (0, 0))) ∧ Aside0 (Below w.heap.size w wc))
  case first =>
    have H := HC2.out
    clear HC2
    by_cases c4 : a0.toList = ([] : List UInt8)
    · rw [if_pos c4] at H
      have c4b0 : (a0.toList == ([] : List UInt8)) = true := beq_iff_eq.mpr c4
      have c4b1 : (a0.toList != ([] : List UInt8)) = false := bne_eq_false_iff_eq.mpr c4
      clear c4
      (first | rw [c4b0] | (simp only [i64_w, i32_w]; rw [c4b0]) | skip)
      have H' := Aside0.mk H
      clear H
      go_wp2
      go_meet
      case rel => exact ⟨_, (false), (by first | rfl | (simp; done) | (simp [*]; done)), H', ⟨by first | omega | exact Nat.le_refl _⟩, ⟨by refine blk_up ?_; exact BK510.out⟩, ⟨by repeat (first | (with_reducible first | exact HB.out | apply below_alloc | apply pw_below_drewN | apply below_drew1 | refine below_set ?_ GE510.out) | exact HB.out)⟩⟩
    · rw [if_neg c4] at H
      have c4b0 : (a0.toList == ([] : List UInt8)) = false := beq_eq_false_iff_ne.mpr c4
      have c4b1 : (a0.toList != ([] : List UInt8)) = true := bne_iff_ne.mpr c4
      (first | rw [c4b0] | (simp only [i64_w, i32_w]; rw [c4b0]) | skip)
      by_cases c5 : 0 < (a0.size : Int)
      · rw [if_pos c5] at H
        have c5b0 : decide (0 < (a0.size : Int)) = true := decide_eq_true c5
        have c5b1 : decide (0 < a0.size) = true := decide_eq_true (by omega)
        clear c5
        by_cases c7 : (bt a0 0) = 43
        · rw [if_pos c7] at H
          have c7b0 : ((bt a0 0) == 43) = true := beq_iff_eq.mpr c7
          have c7b1 : ((bt a0 0) != 43) = false := bne_eq_false_iff_eq.mpr c7
          clear c7
          have H' := Aside0.mk H
          clear H
          have p6 : 0 ≤ (0 : Int) := (by omega)
          have q6 : 0 < a0.size := (by have : (0 : Int) < (a0.size : Int) := of_decide_eq_true (by first | (with_reducible assumption) | assumption); omega)
          have hx6 : ∀ h : 0 < a0.size, ((a0[0]'h).toNat : Int) = bt a0 0 := bt_at a0 0
          clear p6
          have qi6 : (0 < (a0.size : Int)) = True := eq_true (of_decide_eq_true (by first | (with_reducible assumption) | assumption))
          replace q6 := eq_true q6
          go_wp2
          go_meet
          case rel => exact ⟨_, (true), (by first | rfl | (simp; done) | (simp [*]; done)), H', ⟨by first | omega | exact Nat.le_refl _⟩, ⟨by refine blk_up ?_; exact BK510.out⟩, ⟨by repeat (first | (with_reducible first | exact HB.out | apply below_alloc | apply pw_below_drewN | apply below_drew1 | refine below_set ?_ GE510.out) | exact HB.out)⟩⟩
        · rw [if_neg c7] at H
          have c7b0 : ((bt a0 0) == 43) = false := beq_eq_false_iff_ne.mpr c7
          have c7b1 : ((bt a0 0) != 43) = true := bne_iff_ne.mpr c7
          have H' := Aside0.mk H
          clear H
          have p6 : 0 ≤ (0 : Int) := (by omega)
          have q6 : 0 < a0.size := (by have : (0 : Int) < (a0.size : Int) := of_decide_eq_true (by first | (with_reducible assumption) | assumption); omega)
          have hx6 : ∀ h : 0 < a0.size, ((a0[0]'h).toNat : Int) = bt a0 0 := bt_at a0 0
          clear p6
          have qi6 : (0 < (a0.size : Int)) = True := eq_true (of_decide_eq_true (by first | (with_reducible assumption) | assumption))
          replace q6 := eq_true q6
          have p8 : 0 ≤ (0 : Int) := (by omega)
          have q8 : 0 < a0.size := (by have : (0 : Int) < (a0.size : Int) := of_decide_eq_true (by first | (with_reducible assumption) | assumption); omega)
          have hx8 : ∀ h : 0 < a0.size, ((a0[0]'h).toNat : Int) = bt a0 0 := bt_at a0 0
          clear p8
          have qi8 : (0 < (a0.size : Int)) = True := eq_true (of_decide_eq_true (by first | (with_reducible assumption) | assumption))
          replace q8 := eq_true q8
          go_wp2
          go_meet
          case rel => exact ⟨_, (((bt a0 0) == 45)), (by first | rfl | (simp; done) | (simp [*]; done)), H', ⟨by first | omega | exact Nat.le_refl _⟩, ⟨by refine blk_up ?_; exact BK510.out⟩, ⟨by repeat (first | (with_reducible first | exact HB.out | apply below_alloc | apply pw_below_drewN | apply below_drew1 | refine below_set ?_ GE510.out) | exact HB.out)⟩⟩
      · rw [if_neg c5] at H
        exact absurd H (by simp)
  case rest =>
    clear HC2
    try clear c2
    try clear p2
    try clear c4
    try clear c4b0
    try clear c4b1
    try clear c5
    try clear c5b0
    try clear c5b1
    try clear p6
    try clear q6
    try clear hx6
    try clear qi6
    try clear c7
    try clear c7b0
    try clear c7b1
    try clear p8
    try clear q8
    try clear hx8
    try clear qi8
    try clear p6
    try clear p8
    try clear q6
    try clear q8
    obtain ⟨kq, x20_1, rfl, HA, HJ1, BK510, HB⟩ := hcut
    cases kq with
    | zero => exact absurd HA.out (by simp [impl_ReadDec.j0])
    | succ kj1 =>
      have H := HA.out
      clear HA
      simp only [impl_ReadDec.j0] at H
      have HC9 := Aside0.mk H
      clear H
      go_upto_if 20 with (fail)
      go_cut [4] (fun v4 wc => ∃ (kq : Nat) (x4_8 : ByteArray), v4 = .string x4_8 ∧ Aside0 (impl_ReadDec.j1 kq a0 x4_8 = some (r1, r2, r3, r4)) ∧ Aside0 (kq ≤ kj1) ∧ Aside0 (wc.heap[gb510]? = some (.cells #[.bool false, .string (⟨#[]⟩ : ByteArray), .int .i64 0] 26 (0, 0))) ∧ Aside0 (Below w.heap.size w wc))
      case first =>
        have H := HC9.out
        clear HC9
        by_cases c10 : x20_1 = true
        · subst c10
          have H1 : (if 1 ≤ (a0.size : Int) then (impl_ReadDec.j1 kj1 a0 (a0.extract 1 a0.size)) else (none)) = some (r1, r2, r3, r4) := by rw [if_pos rfl] at H; exact H
          clear H
          have H := H1
          clear H1
          by_cases c11 : 1 ≤ (a0.size : Int)
          · rw [if_pos c11] at H
            have c11b0 := eq_true c11
            have c11b1 : decide (1 ≤ (a0.size : Int)) = true := decide_eq_true c11
            clear c11
            have H' := Aside0.mk H
            clear H
            go_wp2
            go_meet
            case rel => exact ⟨_, (a0.extract 1 a0.size), (by first | rfl | (simp; done) | (simp [*]; done)), H', ⟨by have := HJ1.out; first | omega | exact Nat.le_refl _⟩, ⟨by refine blk_up ?_; exact BK510.out⟩, ⟨by repeat (first | (with_reducible first | exact HB.out | apply below_alloc | apply pw_below_drewN | apply below_drew1 | refine below_set ?_ GE510.out) | exact HB.out)⟩⟩
          · rw [if_neg c11] at H
            exact absurd H (by simp)
        · replace c10 := Bool.eq_false_iff.mpr c10
          subst c10
          have H1 : (impl_ReadDec.j1 kj1 a0 a0) = some (r1, r2, r3, r4) := by rw [if_neg (show ¬ (false = true) by decide)] at H; exact H
          clear H
          have H := H1
          clear H1
          have H' := Aside0.mk H
          clear H
          go_wp2
          go_meet
          case rel => exact ⟨_, (a0), (by first | rfl | (simp; done) | (simp [*]; done)), H', ⟨by have := HJ1.out; first | omega | exact Nat.le_refl _⟩, ⟨by refine blk_up ?_; exact BK510.out⟩, ⟨by repeat (first | (with_reducible first | exact HB.out | apply below_alloc | apply pw_below_drewN | apply below_drew1 | refine below_set ?_ GE510.out) | exact HB.out)⟩⟩
      case rest =>
        clear HC9
        try clear c1
        try clear c2
        try clear p2
        try clear c4
        try clear c4b0
        try clear c4b1
        try clear c5
        try clear c5b0
        try clear c5b1
        try clear p6
        try clear q6
        try clear hx6
        try clear qi6
        try clear c7
        try clear c7b0
        try clear c7b1
        try clear p8
        try clear q8
        try clear hx8
        try clear qi8
        try clear c10
        try clear c11
        try clear c11b0
        try clear c11b1
        try clear p2
        try clear p6
        try clear p8
        try clear q6
        try clear q8
        obtain ⟨kq, x4_8, rfl, HA, HJ8, BK510, HB⟩ := hcut
        cases kq with
        | zero => exact absurd HA.out (by simp [impl_ReadDec.j1])
        | succ kj8 =>
          have H := HA.out
          clear HA
          simp only [impl_ReadDec.j1] at H
          replace H := Option.bind_eq_some_iff.mp H
          obtain ⟨⟨t511, t512, t513⟩, A120, H⟩ := H
          replace H : (if (x4_8.size : Int) > 180 then (some (false, (⟨#[]⟩ : ByteArray), 0, false)) else (if t511.size + t512.size ≤ 9223372036854775807 then (if (t511 ++ t512).toList = ([] : List UInt8) then (some (false, (⟨#[]⟩ : ByteArray), 0, false)) else ((impl_isDigits.f (t511 ++ t512)).bind fun t514 => (if t514 = true then (if 0 < (a0.size : Int) then ((impl_made.f kj8 ((bt a0 0) == 45) (t511 ++ t512) (t512.size : Int)).bind fun bt515 => (some (bt515.1, bt515.2.1, bt515.2.2.1, bt515.2.2.2))) else (none)) else (some (false, (⟨#[]⟩ : ByteArray), 0, false))))) else (none))) = some (r1, r2, r3, r4) := H
          have A12 := Aside0.mk A120
          clear A120
          by_cases c13 : (x4_8.size : Int) > 180
          · rw [if_pos c13] at H
            have c13b0 : decide (180 < (x4_8.size : Int)) = true := decide_eq_true c13
            have c13b1 : decide (180 < x4_8.size) = true := decide_eq_true (by omega)
            clear c13
            simp only [Option.some.injEq, Prod.mk.injEq] at H
            obtain ⟨rfl, rfl, rfl, rfl⟩ := H
            go_wp2_with (first | ((with_reducible refine gate_callee (f := 66) rfl ?_); refine goesL_ (some 25) rfl rfl Tryd.func66 (by kernel_rfl) rfl #[.string x4_8, .string (⟨#[46]⟩ : ByteArray)] rfl (by (try simp only [List.map_toArray, List.map_cons, List.map_nil]); first | done | rfl | (simp only [List.length_drop, List.length_take]; rfl)) ?_; (with_reducible refine (strings_Cut.calls x4_8 (⟨#[46]⟩ : ByteArray) t511 t512 t513 _ A12.out).mono ?_); rintro e w14 ⟨rfl, hb⟩; refine ⟨_, rfl, ?_⟩; have n0_ := Aside0.mk (blk_below (g := gb510) (o := .cells #[.bool false, .string (⟨#[]⟩ : ByteArray), .int .i64 0] 26 (0, 0)) (by refine blk_up ?_; exact BK510.out) hb); have n1_ := Aside0.mk (below_step (by repeat (first | (with_reducible first | exact HB.out | apply below_alloc | apply pw_below_drewN | apply below_drew1 | refine below_set ?_ GE510.out) | exact HB.out)) hb); clear BK510; clear HB; have BK510 := n0_; have HB := n1_; clear n0_ n1_; (try clear hb); (try clear hb2); (try clear hk); (try clear hi); have hcz15_0 : w14.cell? ⟨gb510, 0, none⟩ = some (.bool false) := (blk_cell BK510.out 0).trans rfl; have hcz15_1 : w14.cell? ⟨gb510, 1, none⟩ = some (.string (⟨#[]⟩ : ByteArray)) := (blk_cell BK510.out 1).trans rfl; have hcz15_2 : w14.cell? ⟨gb510, 2, none⟩ = some (.int .i64 0) := (blk_cell BK510.out 2).trans rfl; have hfz15_0 := blk_frozen BK510.out 0; have hfz15_1 := blk_frozen BK510.out 1; have hfz15_2 := blk_frozen BK510.out 2))
            refine bodyPost_ret (results_ct rfl _ _ gb510 26 #[.bool false, .string (⟨#[]⟩ : ByteArray), .int .i64 0] (0, 0) _ rfl (by refine blk_up ?_; refine blk_put (cs := #[.bool false, .string (⟨#[]⟩ : ByteArray), .int .i64 0]) ?_ 2 _ rfl; refine blk_up ?_; refine blk_put (cs := #[.bool false, .string (⟨#[]⟩ : ByteArray), .int .i64 0]) ?_ 1 _ rfl; refine blk_up ?_; refine blk_put (cs := #[.bool false, .string (⟨#[]⟩ : ByteArray), .int .i64 0]) ?_ 0 _ rfl; refine blk_up ?_; exact BK510.out) Tryd.underlying26 rfl (by kernel_rfl)) rfl ?_
            exact ⟨by first | rfl | (simp [errW_none, errW_some] <;> rfl) | (simp [*, errW_none, errW_some] <;> rfl), by repeat (first | (with_reducible first | exact HB.out | apply below_alloc | apply pw_below_drewN | apply below_drew1 | refine below_set ?_ GE510.out) | exact HB.out)⟩
          · rw [if_neg c13] at H
            have c13b0 : decide (180 < (x4_8.size : Int)) = false := decide_eq_false c13
            have c13b1 : decide (180 < x4_8.size) = false := decide_eq_false (by omega)
            clear c13
            by_cases c16 : t511.size + t512.size ≤ 9223372036854775807
            · rw [if_pos c16] at H
              have c16b0 := eq_true c16
              have c16b1 : decide (t511.size + t512.size ≤ 9223372036854775807) = true := decide_eq_true c16
              try have c16b2 : (9223372036854775807 < t511.size + t512.size) = False := eq_false (Nat.not_lt.2 c16)
              by_cases c17 : (t511 ++ t512).toList = ([] : List UInt8)
              · rw [if_pos c17] at H
                have c17b0 : ((t511 ++ t512).toList == ([] : List UInt8)) = true := beq_iff_eq.mpr c17
                have c17b1 : ((t511 ++ t512).toList != ([] : List UInt8)) = false := bne_eq_false_iff_eq.mpr c17
                clear c17
                simp only [Option.some.injEq, Prod.mk.injEq] at H
                obtain ⟨rfl, rfl, rfl, rfl⟩ := H
                go_wp2_with (first | ((with_reducible refine gate_callee (f := 66) rfl ?_); refine goesL_ (some 25) rfl rfl Tryd.func66 (by kernel_rfl) rfl #[.string x4_8, .string (⟨#[46]⟩ : ByteArray)] rfl (by (try simp only [List.map_toArray, List.map_cons, List.map_nil]); first | done | rfl | (simp only [List.length_drop, List.length_take]; rfl)) ?_; (with_reducible refine (strings_Cut.calls x4_8 (⟨#[46]⟩ : ByteArray) t511 t512 t513 _ A12.out).mono ?_); rintro e w18 ⟨rfl, hb⟩; refine ⟨_, rfl, ?_⟩; have n0_ := Aside0.mk (blk_below (g := gb510) (o := .cells #[.bool false, .string (⟨#[]⟩ : ByteArray), .int .i64 0] 26 (0, 0)) (by refine blk_up ?_; exact BK510.out) hb); have n1_ := Aside0.mk (below_step (by repeat (first | (with_reducible first | exact HB.out | apply below_alloc | apply pw_below_drewN | apply below_drew1 | refine below_set ?_ GE510.out) | exact HB.out)) hb); clear BK510; clear HB; have BK510 := n0_; have HB := n1_; clear n0_ n1_; (try clear hb); (try clear hb2); (try clear hk); (try clear hi); have hcz19_0 : w18.cell? ⟨gb510, 0, none⟩ = some (.bool false) := (blk_cell BK510.out 0).trans rfl; have hcz19_1 : w18.cell? ⟨gb510, 1, none⟩ = some (.string (⟨#[]⟩ : ByteArray)) := (blk_cell BK510.out 1).trans rfl; have hcz19_2 : w18.cell? ⟨gb510, 2, none⟩ = some (.int .i64 0) := (blk_cell BK510.out 2).trans rfl; have hfz19_0 := blk_frozen BK510.out 0; have hfz19_1 := blk_frozen BK510.out 1; have hfz19_2 := blk_frozen BK510.out 2))
                refine bodyPost_ret (results_ct rfl _ _ gb510 26 #[.bool false, .string (⟨#[]⟩ : ByteArray), .int .i64 0] (0, 0) _ rfl (by refine blk_up ?_; refine blk_put (cs := #[.bool false, .string (⟨#[]⟩ : ByteArray), .int .i64 0]) ?_ 2 _ rfl; refine blk_up ?_; refine blk_put (cs := #[.bool false, .string (⟨#[]⟩ : ByteArray), .int .i64 0]) ?_ 1 _ rfl; refine blk_up ?_; refine blk_put (cs := #[.bool false, .string (⟨#[]⟩ : ByteArray), .int .i64 0]) ?_ 0 _ rfl; refine blk_up ?_; exact BK510.out) Tryd.underlying26 rfl (by kernel_rfl)) rfl ?_
                exact ⟨by first | rfl | (simp [errW_none, errW_some] <;> rfl) | (simp [*, errW_none, errW_some] <;> rfl), by repeat (first | (with_reducible first | exact HB.out | apply below_alloc | apply pw_below_drewN | apply below_drew1 | refine below_set ?_ GE510.out) | exact HB.out)⟩
              · rw [if_neg c17] at H
                have c17b0 : ((t511 ++ t512).toList == ([] : List UInt8)) = false := beq_eq_false_iff_ne.mpr c17
                have c17b1 : ((t511 ++ t512).toList != ([] : List UInt8)) = true := bne_iff_ne.mpr c17
                replace H := Option.bind_eq_some_iff.mp H
                obtain ⟨t514, A200, H⟩ := H
                replace H : (if t514 = true then (if 0 < (a0.size : Int) then ((impl_made.f kj8 ((bt a0 0) == 45) (t511 ++ t512) (t512.size : Int)).bind fun bt515 => (some (bt515.1, bt515.2.1, bt515.2.2.1, bt515.2.2.2))) else (none)) else (some (false, (⟨#[]⟩ : ByteArray), 0, false))) = some (r1, r2, r3, r4) := H
                have A20 := Aside0.mk A200
                clear A200
                by_cases c21 : t514 = true
                · subst c21
                  have H1 : (if 0 < (a0.size : Int) then ((impl_made.f kj8 ((bt a0 0) == 45) (t511 ++ t512) (t512.size : Int)).bind fun bt515 => (some (bt515.1, bt515.2.1, bt515.2.2.1, bt515.2.2.2))) else (none)) = some (r1, r2, r3, r4) := by rw [if_pos rfl] at H; exact H
                  clear H
                  have H := H1
                  clear H1
                  by_cases c22 : 0 < (a0.size : Int)
                  · rw [if_pos c22] at H
                    have c22b0 : decide (0 < (a0.size : Int)) = true := decide_eq_true c22
                    have c22b1 : decide (0 < a0.size) = true := decide_eq_true (by omega)
                    clear c22
                    replace H := Option.bind_eq_some_iff.mp H
                    obtain ⟨⟨t515, t516, t517, t518⟩, A240, H⟩ := H
                    replace H : (some (t515, t516, t517, t518)) = some (r1, r2, r3, r4) := H
                    have A24 := Aside0.mk A240
                    clear A240
                    simp only [Option.some.injEq, Prod.mk.injEq] at H
                    obtain ⟨rfl, rfl, rfl, rfl⟩ := H
                    go_wp2_with (first | ((with_reducible refine gate_callee (f := 66) rfl ?_); refine goesL_ (some 25) rfl rfl Tryd.func66 (by kernel_rfl) rfl #[.string x4_8, .string (⟨#[46]⟩ : ByteArray)] rfl (by (try simp only [List.map_toArray, List.map_cons, List.map_nil]); first | done | rfl | (simp only [List.length_drop, List.length_take]; rfl)) ?_; (with_reducible refine (strings_Cut.calls x4_8 (⟨#[46]⟩ : ByteArray) t511 t512 t513 _ A12.out).mono ?_); rintro e w25 ⟨rfl, hb⟩; refine ⟨_, rfl, ?_⟩; have n0_ := Aside0.mk (blk_below (g := gb510) (o := .cells #[.bool false, .string (⟨#[]⟩ : ByteArray), .int .i64 0] 26 (0, 0)) (by refine blk_up ?_; exact BK510.out) hb); have n1_ := Aside0.mk (below_step (by repeat (first | (with_reducible first | exact HB.out | apply below_alloc | apply pw_below_drewN | apply below_drew1 | refine below_set ?_ GE510.out) | exact HB.out)) hb); clear BK510; clear HB; have BK510 := n0_; have HB := n1_; clear n0_ n1_; (try clear hb); (try clear hb2); (try clear hk); (try clear hi)) | (go_at_call 67; (with_reducible refine (impl_isDigits.calls (t511 ++ t512) true _ A20.out).mono ?_); rintro e w26 ⟨rfl, hb⟩; have n0_ := Aside0.mk (blk_below (g := gb510) (o := .cells #[.bool false, .string (⟨#[]⟩ : ByteArray), .int .i64 0] 26 (0, 0)) (by refine blk_up ?_; exact BK510.out) hb); have n1_ := Aside0.mk (below_step (by repeat (first | (with_reducible first | exact HB.out | apply below_alloc | apply pw_below_drewN | apply below_drew1 | refine below_set ?_ GE510.out) | exact HB.out)) hb); clear BK510; clear HB; have BK510 := n0_; have HB := n1_; clear n0_ n1_; (try clear hb); (try clear hb2); (try clear hk); (try clear hi); have p23 : 0 ≤ (0 : Int) := (by omega); have q23 : 0 < a0.size := (by have : (0 : Int) < (a0.size : Int) := of_decide_eq_true (by first | (with_reducible assumption) | assumption); omega); have hx23 : ∀ h : 0 < a0.size, ((a0[0]'h).toNat : Int) = bt a0 0 := bt_at a0 0; clear p23; have qi23 : (0 < (a0.size : Int)) = True := eq_true (of_decide_eq_true (by first | (with_reducible assumption) | assumption)); replace q23 := eq_true q23) | ((with_reducible refine gate_callee (f := 54) rfl ?_); refine goesL_ (some 54) rfl rfl Tryd.func54 (by kernel_rfl) rfl #[.bool ((bt a0 0) == 45), .string (t511 ++ t512), .int .i64 (t512.size : Int)] rfl (by (try simp only [List.map_toArray, List.map_cons, List.map_nil]); first | done | rfl | (simp only [List.length_drop, List.length_take]; rfl)) ?_; (with_reducible refine (impl_made.calls kj8 ((bt a0 0) == 45) (t511 ++ t512) (t512.size : Int) t515 t516 t517 t518 _ A24.out).mono ?_); rintro e w27 ⟨rfl, hb⟩; refine ⟨_, rfl, ?_⟩; have n0_ := Aside0.mk (blk_below (g := gb510) (o := .cells #[.bool false, .string (⟨#[]⟩ : ByteArray), .int .i64 0] 26 (0, 0)) (by refine blk_up ?_; exact BK510.out) hb); have n1_ := Aside0.mk (below_step (by repeat (first | (with_reducible first | exact HB.out | apply below_alloc | apply pw_below_drewN | apply below_drew1 | refine below_set ?_ GE510.out) | exact HB.out)) hb); clear BK510; clear HB; have BK510 := n0_; have HB := n1_; clear n0_ n1_; (try clear hb); (try clear hb2); (try clear hk); (try clear hi); have hcz28_0 : w27.cell? ⟨gb510, 0, none⟩ = some (.bool false) := (blk_cell BK510.out 0).trans rfl; have hcz28_1 : w27.cell? ⟨gb510, 1, none⟩ = some (.string (⟨#[]⟩ : ByteArray)) := (blk_cell BK510.out 1).trans rfl; have hcz28_2 : w27.cell? ⟨gb510, 2, none⟩ = some (.int .i64 0) := (blk_cell BK510.out 2).trans rfl; have hfz28_0 := blk_frozen BK510.out 0; have hfz28_1 := blk_frozen BK510.out 1; have hfz28_2 := blk_frozen BK510.out 2))
                    refine bodyPost_ret (results_ct rfl _ _ gb510 26 #[.bool t515, .string t516, .int .i64 t517] (0, 0) _ rfl (by refine blk_up ?_; refine blk_put (cs := #[.bool t515, .string t516, .int .i64 0]) ?_ 2 _ rfl; refine blk_up ?_; refine blk_put (cs := #[.bool t515, .string (⟨#[]⟩ : ByteArray), .int .i64 0]) ?_ 1 _ rfl; refine blk_up ?_; refine blk_put (cs := #[.bool false, .string (⟨#[]⟩ : ByteArray), .int .i64 0]) ?_ 0 _ rfl; refine blk_up ?_; exact BK510.out) Tryd.underlying26 rfl (by kernel_rfl)) rfl ?_
                    exact ⟨by first | rfl | (simp [errW_none, errW_some] <;> rfl) | (simp [*, errW_none, errW_some] <;> rfl), by repeat (first | (with_reducible first | exact HB.out | apply below_alloc | apply pw_below_drewN | apply below_drew1 | refine below_set ?_ GE510.out) | exact HB.out)⟩
                  · rw [if_neg c22] at H
                    exact absurd H (by simp)
                · replace c21 := Bool.eq_false_iff.mpr c21
                  subst c21
                  have H1 : (some (false, (⟨#[]⟩ : ByteArray), 0, false)) = some (r1, r2, r3, r4) := by rw [if_neg (show ¬ (false = true) by decide)] at H; exact H
                  clear H
                  have H := H1
                  clear H1
                  simp only [Option.some.injEq, Prod.mk.injEq] at H
                  obtain ⟨rfl, rfl, rfl, rfl⟩ := H
                  go_wp2_with (first | ((with_reducible refine gate_callee (f := 66) rfl ?_); refine goesL_ (some 25) rfl rfl Tryd.func66 (by kernel_rfl) rfl #[.string x4_8, .string (⟨#[46]⟩ : ByteArray)] rfl (by (try simp only [List.map_toArray, List.map_cons, List.map_nil]); first | done | rfl | (simp only [List.length_drop, List.length_take]; rfl)) ?_; (with_reducible refine (strings_Cut.calls x4_8 (⟨#[46]⟩ : ByteArray) t511 t512 t513 _ A12.out).mono ?_); rintro e w29 ⟨rfl, hb⟩; refine ⟨_, rfl, ?_⟩; have n0_ := Aside0.mk (blk_below (g := gb510) (o := .cells #[.bool false, .string (⟨#[]⟩ : ByteArray), .int .i64 0] 26 (0, 0)) (by refine blk_up ?_; exact BK510.out) hb); have n1_ := Aside0.mk (below_step (by repeat (first | (with_reducible first | exact HB.out | apply below_alloc | apply pw_below_drewN | apply below_drew1 | refine below_set ?_ GE510.out) | exact HB.out)) hb); clear BK510; clear HB; have BK510 := n0_; have HB := n1_; clear n0_ n1_; (try clear hb); (try clear hb2); (try clear hk); (try clear hi)) | (go_at_call 67; (with_reducible refine (impl_isDigits.calls (t511 ++ t512) false _ A20.out).mono ?_); rintro e w30 ⟨rfl, hb⟩; have n0_ := Aside0.mk (blk_below (g := gb510) (o := .cells #[.bool false, .string (⟨#[]⟩ : ByteArray), .int .i64 0] 26 (0, 0)) (by refine blk_up ?_; exact BK510.out) hb); have n1_ := Aside0.mk (below_step (by repeat (first | (with_reducible first | exact HB.out | apply below_alloc | apply pw_below_drewN | apply below_drew1 | refine below_set ?_ GE510.out) | exact HB.out)) hb); clear BK510; clear HB; have BK510 := n0_; have HB := n1_; clear n0_ n1_; (try clear hb); (try clear hb2); (try clear hk); (try clear hi); have hcz31_0 : w30.cell? ⟨gb510, 0, none⟩ = some (.bool false) := (blk_cell BK510.out 0).trans rfl; have hcz31_1 : w30.cell? ⟨gb510, 1, none⟩ = some (.string (⟨#[]⟩ : ByteArray)) := (blk_cell BK510.out 1).trans rfl; have hcz31_2 : w30.cell? ⟨gb510, 2, none⟩ = some (.int .i64 0) := (blk_cell BK510.out 2).trans rfl; have hfz31_0 := blk_frozen BK510.out 0; have hfz31_1 := blk_frozen BK510.out 1; have hfz31_2 := blk_frozen BK510.out 2))
                  refine bodyPost_ret (results_ct rfl _ _ gb510 26 #[.bool false, .string (⟨#[]⟩ : ByteArray), .int .i64 0] (0, 0) _ rfl (by refine blk_up ?_; refine blk_put (cs := #[.bool false, .string (⟨#[]⟩ : ByteArray), .int .i64 0]) ?_ 2 _ rfl; refine blk_up ?_; refine blk_put (cs := #[.bool false, .string (⟨#[]⟩ : ByteArray), .int .i64 0]) ?_ 1 _ rfl; refine blk_up ?_; refine blk_put (cs := #[.bool false, .string (⟨#[]⟩ : ByteArray), .int .i64 0]) ?_ 0 _ rfl; refine blk_up ?_; exact BK510.out) Tryd.underlying26 rfl (by kernel_rfl)) rfl ?_
                  exact ⟨by first | rfl | (simp [errW_none, errW_some] <;> rfl) | (simp [*, errW_none, errW_some] <;> rfl), by repeat (first | (with_reducible first | exact HB.out | apply below_alloc | apply pw_below_drewN | apply below_drew1 | refine below_set ?_ GE510.out) | exact HB.out)⟩
            · rw [if_neg c16] at H
              exact absurd H (by simp)

end Go.Proofs.YtilmhfkbpnejeaaDoor.L

namespace Go.Proofs.YtilmhfkbpnejeaaDoor.L
open Go.RowKit Go.Proofs.YtilmhfkbpnejeaaDoorW.PrintWords Go.Proofs.YtilmhfkbpnejeaaDoorW.PrintLast Go.Proofs.YtilmhfkbpnejeaaDoorW.PrintMore
attribute [local go_sem] max2_int min2_int max_two min_two max_three min_three max_four min_four   -- for this text's walks alone
attribute [local go_sem] Go.Proofs.YtilmhfkbpnejeaaDoor.H.str_leq Go.Proofs.YtilmhfkbpnejeaaDoor.H.str_gtr Go.Proofs.YtilmhfkbpnejeaaDoor.H.str_geq
set_option linter.unusedVariables false
set_option linter.unusedSimpArgs false

/-! ### spec_DecText: function 26 -/
def spec_DecText.l0 : Nat → ByteArray → Bool → ByteArray → Int → Option (ByteArray)
  | 0, _, _, _, _ => none
  | k + 1, x3, x520000, x520001, x520002 => if (x3.size : Int) ≤ x520002 then (if 1 + x3.size ≤ 9223372036854775807 then (spec_DecText.l0 k ((⟨#[48]⟩ : ByteArray) ++ x3) x520000 x520001 x520002) else (none)) else (if x520002 > 0 then (if 0 ≤ (wrap64 ((x3.size : Int) - x520002)) then (if (wrap64 ((x3.size : Int) - x520002)) ≤ (x3.size : Int) then (if (x3.extract 0 ((wrap64 ((x3.size : Int) - x520002)) : Int).toNat).size + 1 ≤ 9223372036854775807 then (if ((x3.extract 0 ((wrap64 ((x3.size : Int) - x520002)) : Int).toNat) ++ (⟨#[46]⟩ : ByteArray)).size + (x3.extract ((wrap64 ((x3.size : Int) - x520002)) : Int).toNat x3.size).size ≤ 9223372036854775807 then (if x520000 = true then (if 1 + (((x3.extract 0 ((wrap64 ((x3.size : Int) - x520002)) : Int).toNat) ++ (⟨#[46]⟩ : ByteArray)) ++ (x3.extract ((wrap64 ((x3.size : Int) - x520002)) : Int).toNat x3.size)).size ≤ 9223372036854775807 then (some ((⟨#[45]⟩ : ByteArray) ++ (((x3.extract 0 ((wrap64 ((x3.size : Int) - x520002)) : Int).toNat) ++ (⟨#[46]⟩ : ByteArray)) ++ (x3.extract ((wrap64 ((x3.size : Int) - x520002)) : Int).toNat x3.size)))) else (none)) else (some (((x3.extract 0 ((wrap64 ((x3.size : Int) - x520002)) : Int).toNat) ++ (⟨#[46]⟩ : ByteArray)) ++ (x3.extract ((wrap64 ((x3.size : Int) - x520002)) : Int).toNat x3.size)))) else (none)) else (none)) else (none)) else (none)) else (if x520000 = true then (if 1 + x3.size ≤ 9223372036854775807 then (some ((⟨#[45]⟩ : ByteArray) ++ x3)) else (none)) else (some x3)))
def spec_DecText.f (k : Nat) (a0_0 : Bool) (a0_1 : ByteArray) (a0_2 : Int) : Option (ByteArray) := (spec_DecOk.f k a0_0 a0_1 a0_2).bind fun t520 => (if t520 = true then (spec_DecText.l0 k a0_1 a0_0 a0_1 a0_2) else (some (⟨#[]⟩ : ByteArray)))
theorem spec_DecText.mono_l : ∀ k, (∀ y0 y1 y2 y3, LeO (spec_DecText.l0 k y0 y1 y2 y3) (spec_DecText.l0 (k + 1) y0 y1 y2 y3))
  | 0 => fun _ _ _ _ r h => by simp [spec_DecText.l0] at h
  | k + 1 => by
    have ih0 := spec_DecText.mono_l k
    · intro y0 y1 y2 y3
      unfold spec_DecText.l0
      repeat' first
      | (with_reducible exact ih0 _ _ _ _)
      | (with_reducible exact spec_DecOk.mono _ _ _ _)
      | (with_reducible exact LeO.refl _)
      | (with_reducible exact LeO.none _)
      | (with_reducible refine LeO.ite ?_ ?_)
      | (with_reducible refine LeO.bind ?_ (fun _ => ?_))
      | exact ih0 _ _ _ _
      | exact spec_DecOk.mono _ _ _ _
      | exact LeO.none _
      | refine LeO.ite ?_ ?_
      | refine LeO.bind ?_ (fun _ => ?_)
theorem spec_DecText.mono : ∀ a0 a1 a2 k, LeO (spec_DecText.f k a0 a1 a2) (spec_DecText.f (k + 1) a0 a1 a2) := by
  intro a0 a1 a2 k
  have ih0 := spec_DecText.mono_l k
  unfold spec_DecText.f
  repeat' first
      | (with_reducible exact ih0 _ _ _ _)
      | (with_reducible exact spec_DecOk.mono _ _ _ _)
      | (with_reducible exact LeO.refl _)
      | (with_reducible exact LeO.none _)
      | (with_reducible refine LeO.ite ?_ ?_)
      | (with_reducible refine LeO.bind ?_ (fun _ => ?_))
      | exact ih0 _ _ _ _
      | exact spec_DecOk.mono _ _ _ _
      | exact LeO.none _
      | refine LeO.ite ?_ ?_
      | refine LeO.bind ?_ (fun _ => ?_)
set_option maxHeartbeats 8000000 in
set_option maxRecDepth 100000 in
theorem spec_DecText.calls (k : Nat) (a0_0 : Bool) (a0_1 : ByteArray) (a0_2 : Int) (r : ByteArray) (w : World) (h : spec_DecText.f k a0_0 a0_1 a0_2 = some r) :
    Calls Tryd.prog 26 #[.agg #[.bool a0_0, .string a0_1, .int .i64 a0_2]] w fun e w' => e = .returned (.string r) ∧ Below w.heap.size w w' := by
  have hu26 := Tryd.underlying26
  have HB := Aside0.mk (Below.refl w.heap.size w)
  have H : ((spec_DecOk.f k a0_0 a0_1 a0_2).bind fun t520 => (if t520 = true then (spec_DecText.l0 k a0_1 a0_0 a0_1 a0_2) else (some (⟨#[]⟩ : ByteArray)))) = some r := h
  clear h
  replace H := Option.bind_eq_some_iff.mp H
  obtain ⟨t520, A20, H⟩ := H
  replace H : (if t520 = true then (spec_DecText.l0 k a0_1 a0_0 a0_1 a0_2) else (some (⟨#[]⟩ : ByteArray))) = some r := H
  have A2 := Aside0.mk A20
  clear A20
  by_cases c3 : t520 = true
  · subst c3
    have H1 : (spec_DecText.l0 k a0_1 a0_0 a0_1 a0_2) = some r := by rw [if_pos rfl] at H; exact H
    clear H
    have H := H1
    clear H1
    have H' := Aside0.mk H
    clear H
    go_enter Tryd.func26, Tryd.ntmps26
    go_wp2_with (first | ((with_reducible refine gate_dst (N := 1) rfl ?_); refine box_event ?hg (N := 1) ?hd (cs := #[.bool a0_0, .string a0_1, .int .i64 a0_2]) (t := 26) ?hr ?_; (case hd => rfl); (case hg => rfl); (case hr => first | (go_simp; done) | (go_simp; rfl)); intro gb519 hg w4 hbox hb; have n0_ := Aside0.mk (below_step (by repeat (first | (with_reducible first | exact HB.out | apply below_alloc | apply pw_below_drewN | apply below_drew1) | exact HB.out)) hb); have n1_ := Aside0.mk (hbox); have n2_ := Aside0.mk ((by rw [hg]; exact (below_size (by repeat (first | (with_reducible first | exact HB.out | apply below_alloc | apply pw_below_drewN | apply below_drew1) | exact HB.out))) : w.heap.size ≤ gb519)); have n3_ := Aside0.mk ((by rw [hg]; exact (below_size (by repeat (first | (with_reducible first | exact HB.out | apply below_alloc | apply pw_below_drewN | apply below_drew1) | exact HB.out))) : w.heap.size ≤ gb519)); clear HB; have HB := n0_; have BK519 := n1_; have GW519 := n2_; have GE519 := n3_; clear n0_ n1_ n2_ n3_; clear hb hbox hg; have hcz5_0 : w4.cell? ⟨gb519, 0, none⟩ = some (.bool a0_0) := (blk_cell BK519.out 0).trans rfl; have hcz5_1 : w4.cell? ⟨gb519, 1, none⟩ = some (.string a0_1) := (blk_cell BK519.out 1).trans rfl; have hcz5_2 : w4.cell? ⟨gb519, 2, none⟩ = some (.int .i64 a0_2) := (blk_cell BK519.out 2).trans rfl; have hfz5_0 := blk_frozen BK519.out 0; have hfz5_1 := blk_frozen BK519.out 1; have hfz5_2 := blk_frozen BK519.out 2) | (go_at_call 47; (with_reducible refine (spec_DecOk.calls k a0_0 a0_1 a0_2 true _ A2.out).mono ?_); rintro e w6 ⟨rfl, hb⟩; have n0_ := Aside0.mk (blk_below (g := gb519) (o := .cells #[.bool a0_0, .string a0_1, .int .i64 a0_2] 26 (0, 0)) (by refine blk_up ?_; exact BK519.out) hb); have n1_ := Aside0.mk (below_step (by repeat (first | (with_reducible first | exact HB.out | apply below_alloc | apply pw_below_drewN | apply below_drew1 | refine below_set ?_ GE519.out) | exact HB.out)) hb); clear BK519; clear HB; have BK519 := n0_; have HB := n1_; clear n0_ n1_; (try clear hb); (try clear hb2); (try clear hk); (try clear hi); have hcz7_0 : w6.cell? ⟨gb519, 0, none⟩ = some (.bool a0_0) := (blk_cell BK519.out 0).trans rfl; have hcz7_1 : w6.cell? ⟨gb519, 1, none⟩ = some (.string a0_1) := (blk_cell BK519.out 1).trans rfl; have hcz7_2 : w6.cell? ⟨gb519, 2, none⟩ = some (.int .i64 a0_2) := (blk_cell BK519.out 2).trans rfl; have hfz7_0 := blk_frozen BK519.out 0; have hfz7_1 := blk_frozen BK519.out 1; have hfz7_2 := blk_frozen BK519.out 2))
    repeat (go_quiet (first | ((with_reducible refine gate_dst (N := 1) rfl ?_); refine box_event ?hg (N := 1) ?hd (cs := #[.bool a0_0, .string a0_1, .int .i64 a0_2]) (t := 26) ?hr ?_; (case hd => rfl); (case hg => rfl); (case hr => first | (go_simp; done) | (go_simp; rfl)); intro gb519 hg w4 hbox hb; have n0_ := Aside0.mk (below_step (by repeat (first | (with_reducible first | exact HB.out | apply below_alloc | apply pw_below_drewN | apply below_drew1) | exact HB.out)) hb); have n1_ := Aside0.mk (hbox); have n2_ := Aside0.mk ((by rw [hg]; exact (below_size (by repeat (first | (with_reducible first | exact HB.out | apply below_alloc | apply pw_below_drewN | apply below_drew1) | exact HB.out))) : w.heap.size ≤ gb519)); have n3_ := Aside0.mk ((by rw [hg]; exact (below_size (by repeat (first | (with_reducible first | exact HB.out | apply below_alloc | apply pw_below_drewN | apply below_drew1) | exact HB.out))) : w.heap.size ≤ gb519)); clear HB; have HB := n0_; have BK519 := n1_; have GW519 := n2_; have GE519 := n3_; clear n0_ n1_ n2_ n3_; clear hb hbox hg; have hcz5_0 : w4.cell? ⟨gb519, 0, none⟩ = some (.bool a0_0) := (blk_cell BK519.out 0).trans rfl; have hcz5_1 : w4.cell? ⟨gb519, 1, none⟩ = some (.string a0_1) := (blk_cell BK519.out 1).trans rfl; have hcz5_2 : w4.cell? ⟨gb519, 2, none⟩ = some (.int .i64 a0_2) := (blk_cell BK519.out 2).trans rfl; have hfz5_0 := blk_frozen BK519.out 0; have hfz5_1 := blk_frozen BK519.out 1; have hfz5_2 := blk_frozen BK519.out 2) | (go_at_call 47; (with_reducible refine (spec_DecOk.calls k a0_0 a0_1 a0_2 true _ A2.out).mono ?_); rintro e w6 ⟨rfl, hb⟩; have n0_ := Aside0.mk (blk_below (g := gb519) (o := .cells #[.bool a0_0, .string a0_1, .int .i64 a0_2] 26 (0, 0)) (by refine blk_up ?_; exact BK519.out) hb); have n1_ := Aside0.mk (below_step (by repeat (first | (with_reducible first | exact HB.out | apply below_alloc | apply pw_below_drewN | apply below_drew1 | refine below_set ?_ GE519.out) | exact HB.out)) hb); clear BK519; clear HB; have BK519 := n0_; have HB := n1_; clear n0_ n1_; (try clear hb); (try clear hb2); (try clear hk); (try clear hi); have hcz7_0 : w6.cell? ⟨gb519, 0, none⟩ = some (.bool a0_0) := (blk_cell BK519.out 0).trans rfl; have hcz7_1 : w6.cell? ⟨gb519, 1, none⟩ = some (.string a0_1) := (blk_cell BK519.out 1).trans rfl; have hcz7_2 : w6.cell? ⟨gb519, 2, none⟩ = some (.int .i64 a0_2) := (blk_cell BK519.out 2).trans rfl; have hfz7_0 := blk_frozen BK519.out 0; have hfz7_1 := blk_frozen BK519.out 1; have hfz7_2 := blk_frozen BK519.out 2)); try go_wp2_with (first | ((with_reducible refine gate_dst (N := 1) rfl ?_); refine box_event ?hg (N := 1) ?hd (cs := #[.bool a0_0, .string a0_1, .int .i64 a0_2]) (t := 26) ?hr ?_; (case hd => rfl); (case hg => rfl); (case hr => first | (go_simp; done) | (go_simp; rfl)); intro gb519 hg w4 hbox hb; have n0_ := Aside0.mk (below_step (by repeat (first | (with_reducible first | exact HB.out | apply below_alloc | apply pw_below_drewN | apply below_drew1) | exact HB.out)) hb); have n1_ := Aside0.mk (hbox); have n2_ := Aside0.mk ((by rw [hg]; exact (below_size (by repeat (first | (with_reducible first | exact HB.out | apply below_alloc | apply pw_below_drewN | apply below_drew1) | exact HB.out))) : w.heap.size ≤ gb519)); have n3_ := Aside0.mk ((by rw [hg]; exact (below_size (by repeat (first | (with_reducible first | exact HB.out | apply below_alloc | apply pw_below_drewN | apply below_drew1) | exact HB.out))) : w.heap.size ≤ gb519)); clear HB; have HB := n0_; have BK519 := n1_; have GW519 := n2_; have GE519 := n3_; clear n0_ n1_ n2_ n3_; clear hb hbox hg; have hcz5_0 : w4.cell? ⟨gb519, 0, none⟩ = some (.bool a0_0) := (blk_cell BK519.out 0).trans rfl; have hcz5_1 : w4.cell? ⟨gb519, 1, none⟩ = some (.string a0_1) := (blk_cell BK519.out 1).trans rfl; have hcz5_2 : w4.cell? ⟨gb519, 2, none⟩ = some (.int .i64 a0_2) := (blk_cell BK519.out 2).trans rfl; have hfz5_0 := blk_frozen BK519.out 0; have hfz5_1 := blk_frozen BK519.out 1; have hfz5_2 := blk_frozen BK519.out 2) | (go_at_call 47; (with_reducible refine (spec_DecOk.calls k a0_0 a0_1 a0_2 true _ A2.out).mono ?_); rintro e w6 ⟨rfl, hb⟩; have n0_ := Aside0.mk (blk_below (g := gb519) (o := .cells #[.bool a0_0, .string a0_1, .int .i64 a0_2] 26 (0, 0)) (by refine blk_up ?_; exact BK519.out) hb); have n1_ := Aside0.mk (below_step (by repeat (first | (with_reducible first | exact HB.out | apply below_alloc | apply pw_below_drewN | apply below_drew1 | refine below_set ?_ GE519.out) | exact HB.out)) hb); clear BK519; clear HB; have BK519 := n0_; have HB := n1_; clear n0_ n1_; (try clear hb); (try clear hb2); (try clear hk); (try clear hi); have hcz7_0 : w6.cell? ⟨gb519, 0, none⟩ = some (.bool a0_0) := (blk_cell BK519.out 0).trans rfl; have hcz7_1 : w6.cell? ⟨gb519, 1, none⟩ = some (.string a0_1) := (blk_cell BK519.out 1).trans rfl; have hcz7_2 : w6.cell? ⟨gb519, 2, none⟩ = some (.int .i64 a0_2) := (blk_cell BK519.out 2).trans rfl; have hfz7_0 := blk_frozen BK519.out 0; have hfz7_1 := blk_frozen BK519.out 1; have hfz7_2 := blk_frozen BK519.out 2)))
    go_loopg [3] k (fun kq v3 w' => ∃ (x3_1 : ByteArray), v3 = .string x3_1 ∧ Aside0 (spec_DecText.l0 kq x3_1 a0_0 a0_1 a0_2 = some r) ∧ Aside0 (kq ≤ k) ∧ Aside0 (w'.heap[gb519]? = some (.cells #[.bool a0_0, .string a0_1, .int .i64 a0_2] 26 (0, 0))) ∧ Aside0 (Below w.heap.size w w'))
    case atStart => exact ⟨(a0_1), (by first | rfl | (simp; done) | (simp [*]; done)), H', ⟨Nat.le_refl _⟩, ⟨by refine blk_up ?_; exact BK519.out⟩, ⟨by repeat (first | (with_reducible first | exact HB.out | apply below_alloc | apply pw_below_drewN | apply below_drew1 | refine below_set ?_ GE519.out) | exact HB.out)⟩⟩
    case round =>
      clear H'
      try clear c2
      try clear p2
      try clear c3
      try clear hcz5_0
      try clear hcz5_1
      try clear hcz5_2
      try clear hcz7_0
      try clear hcz7_1
      try clear hcz7_2
      try clear hfz5_0
      try clear hfz5_1
      try clear hfz5_2
      try clear hfz7_0
      try clear hfz7_1
      try clear hfz7_2
      obtain ⟨x3_1, rfl, HA, HK1, BK519, HB⟩ := hrel
      cases gk with
      | zero => exact absurd HA.out (by simp [spec_DecText.l0])
      | succ k1 =>
        have H := HA.out
        clear HA
        simp only [spec_DecText.l0] at H
        by_cases c8 : (x3_1.size : Int) ≤ a0_2
        · rw [if_pos c8] at H
          have c8b0 : decide ((x3_1.size : Int) ≤ a0_2) = true := decide_eq_true c8
          clear c8
          by_cases c9 : 1 + x3_1.size ≤ 9223372036854775807
          · rw [if_pos c9] at H
            have c9b0 := eq_true c9
            have c9b1 : decide (1 + x3_1.size ≤ 9223372036854775807) = true := decide_eq_true c9
            try have c9b2 : (9223372036854775807 < 1 + x3_1.size) = False := eq_false (Nat.not_lt.2 c9)
            obtain ⟨js10, hjs10⟩ : ∃ s_ : ByteArray, ((⟨#[48]⟩ : ByteArray) ++ x3_1) = s_ := ⟨_, rfl⟩
            replace H : (spec_DecText.l0 k1 js10 a0_0 a0_1 a0_2) = some r := by first | (rw [hjs10] at H; exact H) | (simp only [hjs10] at H ⊢; exact H) | exact H
            have H' := Aside0.mk H
            clear H
            have hcz11_0 : wr.cell? ⟨gb519, 0, none⟩ = some (.bool a0_0) := (blk_cell BK519.out 0).trans rfl
            have hcz11_1 : wr.cell? ⟨gb519, 1, none⟩ = some (.string a0_1) := (blk_cell BK519.out 1).trans rfl
            have hcz11_2 : wr.cell? ⟨gb519, 2, none⟩ = some (.int .i64 a0_2) := (blk_cell BK519.out 2).trans rfl
            have hfz11_0 := blk_frozen BK519.out 0
            have hfz11_1 := blk_frozen BK519.out 1
            have hfz11_2 := blk_frozen BK519.out 2
            go_wp2
            repeat (go_quiet (fail); try go_wp2)
            go_roundg k1
            case measure => have := HK1.out; omega
            case rel => exact ⟨(js10), (by first | rfl | (simp; done) | (simp only [← hjs10] <;> (first | rfl | simp)) | (simp [*]; done)), H', ⟨by have := HK1.out; omega⟩, ⟨by refine blk_up ?_; exact BK519.out⟩, ⟨by repeat (first | (with_reducible first | exact HB.out | apply below_alloc | apply pw_below_drewN | apply below_drew1 | refine below_set ?_ GE519.out) | exact HB.out)⟩⟩
          · rw [if_neg c9] at H
            exact absurd H (by simp)
        · rw [if_neg c8] at H
          have c8b0 : decide ((x3_1.size : Int) ≤ a0_2) = false := decide_eq_false c8
          clear c8
          by_cases c12 : a0_2 > 0
          · rw [if_pos c12] at H
            have c12b0 : decide (0 < a0_2) = true := decide_eq_true c12
            clear c12
            obtain ⟨ji13, hji13⟩ : ∃ j_ : Int, (wrap64 ((x3_1.size : Int) - a0_2)) = j_ := ⟨_, rfl⟩
            replace H : (if 0 ≤ (ji13) then (if (ji13) ≤ (x3_1.size : Int) then (if (x3_1.extract 0 ((ji13) : Int).toNat).size + 1 ≤ 9223372036854775807 then (if ((x3_1.extract 0 ((ji13) : Int).toNat) ++ (⟨#[46]⟩ : ByteArray)).size + (x3_1.extract ((ji13) : Int).toNat x3_1.size).size ≤ 9223372036854775807 then (if a0_0 = true then (if 1 + (((x3_1.extract 0 ((ji13) : Int).toNat) ++ (⟨#[46]⟩ : ByteArray)) ++ (x3_1.extract ((ji13) : Int).toNat x3_1.size)).size ≤ 9223372036854775807 then (some ((⟨#[45]⟩ : ByteArray) ++ (((x3_1.extract 0 ((ji13) : Int).toNat) ++ (⟨#[46]⟩ : ByteArray)) ++ (x3_1.extract ((ji13) : Int).toNat x3_1.size)))) else (none)) else (some (((x3_1.extract 0 ((ji13) : Int).toNat) ++ (⟨#[46]⟩ : ByteArray)) ++ (x3_1.extract ((ji13) : Int).toNat x3_1.size)))) else (none)) else (none)) else (none)) else (none)) = some r := by first | (rw [hji13] at H; exact H) | (simp only [hji13] at H ⊢; exact H)
            have hji13w : (IntKind.i64.wrap ((x3_1.size : Int) - a0_2)) = ji13 := (i64_w _).trans hji13
            by_cases c14 : 0 ≤ (ji13)
            · rw [if_pos c14] at H
              have c14b0 := eq_true c14
              have c14b1 : decide (0 ≤ (ji13)) = true := decide_eq_true c14
              clear c14
              by_cases c15 : (ji13) ≤ (x3_1.size : Int)
              · rw [if_pos c15] at H
                have c15b0 := eq_true c15
                have c15b1 : decide ((ji13) ≤ (x3_1.size : Int)) = true := decide_eq_true c15
                clear c15
                obtain ⟨js16, hjs16⟩ : ∃ s_ : ByteArray, (x3_1.extract 0 ((ji13) : Int).toNat) = s_ := ⟨_, rfl⟩
                replace H : (if js16.size + 1 ≤ 9223372036854775807 then (if (js16 ++ (⟨#[46]⟩ : ByteArray)).size + (x3_1.extract ((ji13) : Int).toNat x3_1.size).size ≤ 9223372036854775807 then (if a0_0 = true then (if 1 + ((js16 ++ (⟨#[46]⟩ : ByteArray)) ++ (x3_1.extract ((ji13) : Int).toNat x3_1.size)).size ≤ 9223372036854775807 then (some ((⟨#[45]⟩ : ByteArray) ++ ((js16 ++ (⟨#[46]⟩ : ByteArray)) ++ (x3_1.extract ((ji13) : Int).toNat x3_1.size)))) else (none)) else (some ((js16 ++ (⟨#[46]⟩ : ByteArray)) ++ (x3_1.extract ((ji13) : Int).toNat x3_1.size)))) else (none)) else (none)) = some r := by first | (rw [hjs16] at H; exact H) | (simp only [hjs16] at H ⊢; exact H) | exact H
                by_cases c17 : js16.size + 1 ≤ 9223372036854775807
                · rw [if_pos c17] at H
                  have c17b0 := eq_true c17
                  have c17b1 : decide (js16.size + 1 ≤ 9223372036854775807) = true := decide_eq_true c17
                  try have c17b2 : (9223372036854775807 < js16.size + 1) = False := eq_false (Nat.not_lt.2 c17)
                  obtain ⟨js18, hjs18⟩ : ∃ s_ : ByteArray, (js16 ++ (⟨#[46]⟩ : ByteArray)) = s_ := ⟨_, rfl⟩
                  replace H : (if js18.size + (x3_1.extract ((ji13) : Int).toNat x3_1.size).size ≤ 9223372036854775807 then (if a0_0 = true then (if 1 + (js18 ++ (x3_1.extract ((ji13) : Int).toNat x3_1.size)).size ≤ 9223372036854775807 then (some ((⟨#[45]⟩ : ByteArray) ++ (js18 ++ (x3_1.extract ((ji13) : Int).toNat x3_1.size)))) else (none)) else (some (js18 ++ (x3_1.extract ((ji13) : Int).toNat x3_1.size)))) else (none)) = some r := by first | (rw [hjs18] at H; exact H) | (simp only [hjs18] at H ⊢; exact H) | exact H
                  have c19b0 := eq_true (of_decide_eq_true (by first | (with_reducible assumption) | assumption) : 0 ≤ (ji13))
                  have c20b0 := eq_true (of_decide_eq_true (by first | (with_reducible assumption) | assumption) : (ji13) ≤ (x3_1.size : Int))
                  obtain ⟨js21, hjs21⟩ : ∃ s_ : ByteArray, (x3_1.extract ((ji13) : Int).toNat x3_1.size) = s_ := ⟨_, rfl⟩
                  replace H : (if js18.size + js21.size ≤ 9223372036854775807 then (if a0_0 = true then (if 1 + (js18 ++ js21).size ≤ 9223372036854775807 then (some ((⟨#[45]⟩ : ByteArray) ++ (js18 ++ js21))) else (none)) else (some (js18 ++ js21))) else (none)) = some r := by first | (rw [hjs21] at H; exact H) | (simp only [hjs21] at H ⊢; exact H) | exact H
                  by_cases c22 : js18.size + js21.size ≤ 9223372036854775807
                  · rw [if_pos c22] at H
                    have c22b0 := eq_true c22
                    have c22b1 : decide (js18.size + js21.size ≤ 9223372036854775807) = true := decide_eq_true c22
                    try have c22b2 : (9223372036854775807 < js18.size + js21.size) = False := eq_false (Nat.not_lt.2 c22)
                    obtain ⟨js23, hjs23⟩ : ∃ s_ : ByteArray, (js18 ++ js21) = s_ := ⟨_, rfl⟩
                    replace H : (if a0_0 = true then (if 1 + js23.size ≤ 9223372036854775807 then (some ((⟨#[45]⟩ : ByteArray) ++ js23)) else (none)) else (some js23)) = some r := by first | (rw [hjs23] at H; exact H) | (simp only [hjs23] at H ⊢; exact H) | exact H
                    by_cases c24 : a0_0 = true
                    · subst c24
                      have H1 : (if 1 + js23.size ≤ 9223372036854775807 then (some ((⟨#[45]⟩ : ByteArray) ++ js23)) else (none)) = some r := by rw [if_pos rfl] at H; exact H
                      clear H
                      have H := H1
                      clear H1
                      by_cases c25 : 1 + js23.size ≤ 9223372036854775807
                      · rw [if_pos c25] at H
                        have c25b0 := eq_true c25
                        have c25b1 : decide (1 + js23.size ≤ 9223372036854775807) = true := decide_eq_true c25
                        try have c25b2 : (9223372036854775807 < 1 + js23.size) = False := eq_false (Nat.not_lt.2 c25)
                        obtain ⟨js26, hjs26⟩ : ∃ s_ : ByteArray, ((⟨#[45]⟩ : ByteArray) ++ js23) = s_ := ⟨_, rfl⟩
                        replace H : (some js26) = some r := by first | (rw [hjs26] at H; exact H) | (simp only [hjs26] at H ⊢; exact H) | exact H
                        obtain rfl := Option.some.inj H
                        have hcz27_0 : wr.cell? ⟨gb519, 0, none⟩ = some (.bool true) := (blk_cell BK519.out 0).trans rfl
                        have hcz27_1 : wr.cell? ⟨gb519, 1, none⟩ = some (.string a0_1) := (blk_cell BK519.out 1).trans rfl
                        have hcz27_2 : wr.cell? ⟨gb519, 2, none⟩ = some (.int .i64 a0_2) := (blk_cell BK519.out 2).trans rfl
                        have hfz27_0 := blk_frozen BK519.out 0
                        have hfz27_1 := blk_frozen BK519.out 1
                        have hfz27_2 := blk_frozen BK519.out 2
                        go_wp2
                        repeat (go_quiet (fail); try go_wp2)
                        go_ret
                        exact ⟨by first | rfl | (simp [errW_none, errW_some] <;> rfl) | (simp only [← hji13, ← hjs16, ← hjs18, ← hjs21, ← hjs23, ← hjs26]; first | rfl | (simp [errW_none, errW_some] <;> rfl)) | (simp [*, errW_none, errW_some] <;> rfl), by repeat (first | (with_reducible first | exact HB.out | apply below_alloc | apply pw_below_drewN | apply below_drew1 | refine below_set ?_ GE519.out) | exact HB.out)⟩
                      · rw [if_neg c25] at H
                        exact absurd H (by simp)
                    · replace c24 := Bool.eq_false_iff.mpr c24
                      subst c24
                      have H1 : (some js23) = some r := by rw [if_neg (show ¬ (false = true) by decide)] at H; exact H
                      clear H
                      have H := H1
                      clear H1
                      obtain rfl := Option.some.inj H
                      have hcz28_0 : wr.cell? ⟨gb519, 0, none⟩ = some (.bool false) := (blk_cell BK519.out 0).trans rfl
                      have hcz28_1 : wr.cell? ⟨gb519, 1, none⟩ = some (.string a0_1) := (blk_cell BK519.out 1).trans rfl
                      have hcz28_2 : wr.cell? ⟨gb519, 2, none⟩ = some (.int .i64 a0_2) := (blk_cell BK519.out 2).trans rfl
                      have hfz28_0 := blk_frozen BK519.out 0
                      have hfz28_1 := blk_frozen BK519.out 1
                      have hfz28_2 := blk_frozen BK519.out 2
                      go_wp2
                      repeat (go_quiet (fail); try go_wp2)
                      go_ret
                      exact ⟨by first | rfl | (simp [errW_none, errW_some] <;> rfl) | (simp only [← hji13, ← hjs16, ← hjs18, ← hjs21, ← hjs23]; first | rfl | (simp [errW_none, errW_some] <;> rfl)) | (simp [*, errW_none, errW_some] <;> rfl), by repeat (first | (with_reducible first | exact HB.out | apply below_alloc | apply pw_below_drewN | apply below_drew1 | refine below_set ?_ GE519.out) | exact HB.out)⟩
                  · rw [if_neg c22] at H
                    exact absurd H (by simp)
                · rw [if_neg c17] at H
                  exact absurd H (by simp)
              · rw [if_neg c15] at H
                exact absurd H (by simp)
            · rw [if_neg c14] at H
              exact absurd H (by simp)
          · rw [if_neg c12] at H
            have c12b0 : decide (0 < a0_2) = false := decide_eq_false c12
            clear c12
            by_cases c29 : a0_0 = true
            · subst c29
              have H1 : (if 1 + x3_1.size ≤ 9223372036854775807 then (some ((⟨#[45]⟩ : ByteArray) ++ x3_1)) else (none)) = some r := by rw [if_pos rfl] at H; exact H
              clear H
              have H := H1
              clear H1
              by_cases c30 : 1 + x3_1.size ≤ 9223372036854775807
              · rw [if_pos c30] at H
                have c30b0 := eq_true c30
                have c30b1 : decide (1 + x3_1.size ≤ 9223372036854775807) = true := decide_eq_true c30
                try have c30b2 : (9223372036854775807 < 1 + x3_1.size) = False := eq_false (Nat.not_lt.2 c30)
                obtain ⟨js31, hjs31⟩ : ∃ s_ : ByteArray, ((⟨#[45]⟩ : ByteArray) ++ x3_1) = s_ := ⟨_, rfl⟩
                replace H : (some js31) = some r := by first | (rw [hjs31] at H; exact H) | (simp only [hjs31] at H ⊢; exact H) | exact H
                obtain rfl := Option.some.inj H
                have hcz32_0 : wr.cell? ⟨gb519, 0, none⟩ = some (.bool true) := (blk_cell BK519.out 0).trans rfl
                have hcz32_1 : wr.cell? ⟨gb519, 1, none⟩ = some (.string a0_1) := (blk_cell BK519.out 1).trans rfl
                have hcz32_2 : wr.cell? ⟨gb519, 2, none⟩ = some (.int .i64 a0_2) := (blk_cell BK519.out 2).trans rfl
                have hfz32_0 := blk_frozen BK519.out 0
                have hfz32_1 := blk_frozen BK519.out 1
                have hfz32_2 := blk_frozen BK519.out 2
                go_wp2
                repeat (go_quiet (fail); try go_wp2)
                go_ret
                exact ⟨by first | rfl | (simp [errW_none, errW_some] <;> rfl) | (simp only [← hjs31]; first | rfl | (simp [errW_none, errW_some] <;> rfl)) | (simp [*, errW_none, errW_some] <;> rfl), by repeat (first | (with_reducible first | exact HB.out | apply below_alloc | apply pw_below_drewN | apply below_drew1 | refine below_set ?_ GE519.out) | exact HB.out)⟩
              · rw [if_neg c30] at H
                exact absurd H (by simp)
            · replace c29 := Bool.eq_false_iff.mpr c29
              subst c29
              have H1 : (some x3_1) = some r := by rw [if_neg (show ¬ (false = true) by decide)] at H; exact H
              clear H
              have H := H1
              clear H1
              obtain rfl := Option.some.inj H
              have hcz33_0 : wr.cell? ⟨gb519, 0, none⟩ = some (.bool false) := (blk_cell BK519.out 0).trans rfl
              have hcz33_1 : wr.cell? ⟨gb519, 1, none⟩ = some (.string a0_1) := (blk_cell BK519.out 1).trans rfl
              have hcz33_2 : wr.cell? ⟨gb519, 2, none⟩ = some (.int .i64 a0_2) := (blk_cell BK519.out 2).trans rfl
              have hfz33_0 := blk_frozen BK519.out 0
              have hfz33_1 := blk_frozen BK519.out 1
              have hfz33_2 := blk_frozen BK519.out 2
              go_wp2
              repeat (go_quiet (fail); try go_wp2)
              go_ret
              exact ⟨by first | rfl | (simp [errW_none, errW_some] <;> rfl) | (simp [*, errW_none, errW_some] <;> rfl), by repeat (first | (with_reducible first | exact HB.out | apply below_alloc | apply pw_below_drewN | apply below_drew1 | refine below_set ?_ GE519.out) | exact HB.out)⟩
  · replace c3 := Bool.eq_false_iff.mpr c3
    subst c3
    have H1 : (some (⟨#[]⟩ : ByteArray)) = some r := by rw [if_neg (show ¬ (false = true) by decide)] at H; exact H
    clear H
    have H := H1
    clear H1
    obtain rfl := Option.some.inj H
    go_enter Tryd.func26, Tryd.ntmps26
    go_wp2_with (first | ((with_reducible refine gate_dst (N := 1) rfl ?_); refine box_event ?hg (N := 1) ?hd (cs := #[.bool a0_0, .string a0_1, .int .i64 a0_2]) (t := 26) ?hr ?_; (case hd => rfl); (case hg => rfl); (case hr => first | (go_simp; done) | (go_simp; rfl)); intro gb519 hg w34 hbox hb; have n0_ := Aside0.mk (below_step (by repeat (first | (with_reducible first | exact HB.out | apply below_alloc | apply pw_below_drewN | apply below_drew1) | exact HB.out)) hb); have n1_ := Aside0.mk (hbox); have n2_ := Aside0.mk ((by rw [hg]; exact (below_size (by repeat (first | (with_reducible first | exact HB.out | apply below_alloc | apply pw_below_drewN | apply below_drew1) | exact HB.out))) : w.heap.size ≤ gb519)); have n3_ := Aside0.mk ((by rw [hg]; exact (below_size (by repeat (first | (with_reducible first | exact HB.out | apply below_alloc | apply pw_below_drewN | apply below_drew1) | exact HB.out))) : w.heap.size ≤ gb519)); clear HB; have HB := n0_; have BK519 := n1_; have GW519 := n2_; have GE519 := n3_; clear n0_ n1_ n2_ n3_; clear hb hbox hg; have hcz35_0 : w34.cell? ⟨gb519, 0, none⟩ = some (.bool a0_0) := (blk_cell BK519.out 0).trans rfl; have hcz35_1 : w34.cell? ⟨gb519, 1, none⟩ = some (.string a0_1) := (blk_cell BK519.out 1).trans rfl; have hcz35_2 : w34.cell? ⟨gb519, 2, none⟩ = some (.int .i64 a0_2) := (blk_cell BK519.out 2).trans rfl; have hfz35_0 := blk_frozen BK519.out 0; have hfz35_1 := blk_frozen BK519.out 1; have hfz35_2 := blk_frozen BK519.out 2) | (go_at_call 47; (with_reducible refine (spec_DecOk.calls k a0_0 a0_1 a0_2 false _ A2.out).mono ?_); rintro e w36 ⟨rfl, hb⟩; have n0_ := Aside0.mk (blk_below (g := gb519) (o := .cells #[.bool a0_0, .string a0_1, .int .i64 a0_2] 26 (0, 0)) (by refine blk_up ?_; exact BK519.out) hb); have n1_ := Aside0.mk (below_step (by repeat (first | (with_reducible first | exact HB.out | apply below_alloc | apply pw_below_drewN | apply below_drew1 | refine below_set ?_ GE519.out) | exact HB.out)) hb); clear BK519; clear HB; have BK519 := n0_; have HB := n1_; clear n0_ n1_; (try clear hb); (try clear hb2); (try clear hk); (try clear hi)))
    repeat (go_quiet (first | ((with_reducible refine gate_dst (N := 1) rfl ?_); refine box_event ?hg (N := 1) ?hd (cs := #[.bool a0_0, .string a0_1, .int .i64 a0_2]) (t := 26) ?hr ?_; (case hd => rfl); (case hg => rfl); (case hr => first | (go_simp; done) | (go_simp; rfl)); intro gb519 hg w34 hbox hb; have n0_ := Aside0.mk (below_step (by repeat (first | (with_reducible first | exact HB.out | apply below_alloc | apply pw_below_drewN | apply below_drew1) | exact HB.out)) hb); have n1_ := Aside0.mk (hbox); have n2_ := Aside0.mk ((by rw [hg]; exact (below_size (by repeat (first | (with_reducible first | exact HB.out | apply below_alloc | apply pw_below_drewN | apply below_drew1) | exact HB.out))) : w.heap.size ≤ gb519)); have n3_ := Aside0.mk ((by rw [hg]; exact (below_size (by repeat (first | (with_reducible first | exact HB.out | apply below_alloc | apply pw_below_drewN | apply below_drew1) | exact HB.out))) : w.heap.size ≤ gb519)); clear HB; have HB := n0_; have BK519 := n1_; have GW519 := n2_; have GE519 := n3_; clear n0_ n1_ n2_ n3_; clear hb hbox hg; have hcz35_0 : w34.cell? ⟨gb519, 0, none⟩ = some (.bool a0_0) := (blk_cell BK519.out 0).trans rfl; have hcz35_1 : w34.cell? ⟨gb519, 1, none⟩ = some (.string a0_1) := (blk_cell BK519.out 1).trans rfl; have hcz35_2 : w34.cell? ⟨gb519, 2, none⟩ = some (.int .i64 a0_2) := (blk_cell BK519.out 2).trans rfl; have hfz35_0 := blk_frozen BK519.out 0; have hfz35_1 := blk_frozen BK519.out 1; have hfz35_2 := blk_frozen BK519.out 2) | (go_at_call 47; (with_reducible refine (spec_DecOk.calls k a0_0 a0_1 a0_2 false _ A2.out).mono ?_); rintro e w36 ⟨rfl, hb⟩; have n0_ := Aside0.mk (blk_below (g := gb519) (o := .cells #[.bool a0_0, .string a0_1, .int .i64 a0_2] 26 (0, 0)) (by refine blk_up ?_; exact BK519.out) hb); have n1_ := Aside0.mk (below_step (by repeat (first | (with_reducible first | exact HB.out | apply below_alloc | apply pw_below_drewN | apply below_drew1 | refine below_set ?_ GE519.out) | exact HB.out)) hb); clear BK519; clear HB; have BK519 := n0_; have HB := n1_; clear n0_ n1_; (try clear hb); (try clear hb2); (try clear hk); (try clear hi))); try go_wp2_with (first | ((with_reducible refine gate_dst (N := 1) rfl ?_); refine box_event ?hg (N := 1) ?hd (cs := #[.bool a0_0, .string a0_1, .int .i64 a0_2]) (t := 26) ?hr ?_; (case hd => rfl); (case hg => rfl); (case hr => first | (go_simp; done) | (go_simp; rfl)); intro gb519 hg w34 hbox hb; have n0_ := Aside0.mk (below_step (by repeat (first | (with_reducible first | exact HB.out | apply below_alloc | apply pw_below_drewN | apply below_drew1) | exact HB.out)) hb); have n1_ := Aside0.mk (hbox); have n2_ := Aside0.mk ((by rw [hg]; exact (below_size (by repeat (first | (with_reducible first | exact HB.out | apply below_alloc | apply pw_below_drewN | apply below_drew1) | exact HB.out))) : w.heap.size ≤ gb519)); have n3_ := Aside0.mk ((by rw [hg]; exact (below_size (by repeat (first | (with_reducible first | exact HB.out | apply below_alloc | apply pw_below_drewN | apply below_drew1) | exact HB.out))) : w.heap.size ≤ gb519)); clear HB; have HB := n0_; have BK519 := n1_; have GW519 := n2_; have GE519 := n3_; clear n0_ n1_ n2_ n3_; clear hb hbox hg; have hcz35_0 : w34.cell? ⟨gb519, 0, none⟩ = some (.bool a0_0) := (blk_cell BK519.out 0).trans rfl; have hcz35_1 : w34.cell? ⟨gb519, 1, none⟩ = some (.string a0_1) := (blk_cell BK519.out 1).trans rfl; have hcz35_2 : w34.cell? ⟨gb519, 2, none⟩ = some (.int .i64 a0_2) := (blk_cell BK519.out 2).trans rfl; have hfz35_0 := blk_frozen BK519.out 0; have hfz35_1 := blk_frozen BK519.out 1; have hfz35_2 := blk_frozen BK519.out 2) | (go_at_call 47; (with_reducible refine (spec_DecOk.calls k a0_0 a0_1 a0_2 false _ A2.out).mono ?_); rintro e w36 ⟨rfl, hb⟩; have n0_ := Aside0.mk (blk_below (g := gb519) (o := .cells #[.bool a0_0, .string a0_1, .int .i64 a0_2] 26 (0, 0)) (by refine blk_up ?_; exact BK519.out) hb); have n1_ := Aside0.mk (below_step (by repeat (first | (with_reducible first | exact HB.out | apply below_alloc | apply pw_below_drewN | apply below_drew1 | refine below_set ?_ GE519.out) | exact HB.out)) hb); clear BK519; clear HB; have BK519 := n0_; have HB := n1_; clear n0_ n1_; (try clear hb); (try clear hb2); (try clear hk); (try clear hi))))
    go_ret
    exact ⟨by first | rfl | (simp [errW_none, errW_some] <;> rfl) | (simp [*, errW_none, errW_some] <;> rfl), by repeat (first | (with_reducible first | exact HB.out | apply below_alloc | apply pw_below_drewN | apply below_drew1 | refine below_set ?_ GE519.out) | exact HB.out)⟩

end Go.Proofs.YtilmhfkbpnejeaaDoor.L

namespace Go.Proofs.YtilmhfkbpnejeaaDoor.L
open Go.RowKit Go.Proofs.YtilmhfkbpnejeaaDoorW.PrintWords Go.Proofs.YtilmhfkbpnejeaaDoorW.PrintLast Go.Proofs.YtilmhfkbpnejeaaDoorW.PrintMore
attribute [local go_sem] max2_int min2_int max_two min_two max_three min_three max_four min_four   -- for this text's walks alone
attribute [local go_sem] Go.Proofs.YtilmhfkbpnejeaaDoor.H.str_leq Go.Proofs.YtilmhfkbpnejeaaDoor.H.str_gtr Go.Proofs.YtilmhfkbpnejeaaDoor.H.str_geq
set_option linter.unusedVariables false
set_option linter.unusedSimpArgs false

/-! ### impl_TotalDigits: function 28 -/
def impl_TotalDigits.f (a0_0 : Bool) (a0_1 : ByteArray) (a0_2 : Int) : Option (Int) := (impl_DecOk.f a0_0 a0_1 a0_2).bind fun t522 => (if t522 = true then (some (mx (a0_1.size : Int) 1)) else (some (-1)))
set_option maxHeartbeats 8000000 in
set_option maxRecDepth 100000 in
theorem impl_TotalDigits.calls (a0_0 : Bool) (a0_1 : ByteArray) (a0_2 : Int) (r : Int) (w : World) (h : impl_TotalDigits.f a0_0 a0_1 a0_2 = some r) :
    Calls Tryd.prog 28 #[.agg #[.bool a0_0, .string a0_1, .int .i64 a0_2]] w fun e w' => e = .returned (.int .i64 r) ∧ Below w.heap.size w w' := by
  have hu26 := Tryd.underlying26
  have HB := Aside0.mk (Below.refl w.heap.size w)
  have H : ((impl_DecOk.f a0_0 a0_1 a0_2).bind fun t522 => (if t522 = true then (some (mx (a0_1.size : Int) 1)) else (some (-1)))) = some r := h
  clear h
  replace H := Option.bind_eq_some_iff.mp H
  obtain ⟨t522, A20, H⟩ := H
  replace H : (if t522 = true then (some (mx (a0_1.size : Int) 1)) else (some (-1))) = some r := H
  have A2 := Aside0.mk A20
  clear A20
  by_cases c3 : t522 = true
  · subst c3
    have H1 : (some (mx (a0_1.size : Int) 1)) = some r := by rw [if_pos rfl] at H; exact H
    clear H
    have H := H1
    clear H1
    obtain ⟨ji4, hji4⟩ : ∃ j_ : Int, (mx (a0_1.size : Int) 1) = j_ := ⟨_, rfl⟩
    replace H : (some ji4) = some r := by first | (rw [hji4] at H; exact H) | (simp only [hji4] at H ⊢; exact H)
    (try rw [hji4] at A2)
    (try (have hji4l : 1 ≤ ji4 := by (rw [← hji4]; unfold mx; (repeat' split) <;> omega)))
    (try (have hji4m : 0 ≤ ji4 := by omega))
    have hji4_ : (if (a0_1.size : Int) < 1 then 1 else (a0_1.size : Int)) = ji4 := hji4
    obtain rfl := Option.some.inj H
    go_enter Tryd.func28, Tryd.ntmps28
    go_wp2_with (first | ((with_reducible refine gate_dst (N := 1) rfl ?_); refine box_event ?hg (N := 1) ?hd (cs := #[.bool a0_0, .string a0_1, .int .i64 a0_2]) (t := 26) ?hr ?_; (case hd => rfl); (case hg => rfl); (case hr => first | (go_simp; done) | (go_simp; rfl)); intro gb521 hg w5 hbox hb; have n0_ := Aside0.mk (below_step (by repeat (first | (with_reducible first | exact HB.out | apply below_alloc | apply pw_below_drewN | apply below_drew1) | exact HB.out)) hb); have n1_ := Aside0.mk (hbox); have n2_ := Aside0.mk ((by rw [hg]; exact (below_size (by repeat (first | (with_reducible first | exact HB.out | apply below_alloc | apply pw_below_drewN | apply below_drew1) | exact HB.out))) : w.heap.size ≤ gb521)); have n3_ := Aside0.mk ((by rw [hg]; exact (below_size (by repeat (first | (with_reducible first | exact HB.out | apply below_alloc | apply pw_below_drewN | apply below_drew1) | exact HB.out))) : w.heap.size ≤ gb521)); clear HB; have HB := n0_; have BK521 := n1_; have GW521 := n2_; have GE521 := n3_; clear n0_ n1_ n2_ n3_; clear hb hbox hg; have hcz6_0 : w5.cell? ⟨gb521, 0, none⟩ = some (.bool a0_0) := (blk_cell BK521.out 0).trans rfl; have hcz6_1 : w5.cell? ⟨gb521, 1, none⟩ = some (.string a0_1) := (blk_cell BK521.out 1).trans rfl; have hcz6_2 : w5.cell? ⟨gb521, 2, none⟩ = some (.int .i64 a0_2) := (blk_cell BK521.out 2).trans rfl; have hfz6_0 := blk_frozen BK521.out 0; have hfz6_1 := blk_frozen BK521.out 1; have hfz6_2 := blk_frozen BK521.out 2) | ((with_reducible refine gate_callee (f := 27) rfl ?_); refine goesL_ (some 4) rfl rfl Tryd.func27 (by kernel_rfl) rfl #[.agg #[.bool a0_0, .string a0_1, .int .i64 a0_2]] rfl (by (try simp only [List.map_toArray, List.map_cons, List.map_nil]); first | done | rfl | (simp only [List.length_drop, List.length_take]; rfl)) ?_; (with_reducible refine (impl_DecOk.calls a0_0 a0_1 a0_2 true _ A2.out).mono ?_); rintro e w7 ⟨rfl, hb⟩; refine ⟨_, rfl, ?_⟩; have n0_ := Aside0.mk (blk_below (g := gb521) (o := .cells #[.bool a0_0, .string a0_1, .int .i64 a0_2] 26 (0, 0)) (by refine blk_up ?_; exact BK521.out) hb); have n1_ := Aside0.mk (below_step (by repeat (first | (with_reducible first | exact HB.out | apply below_alloc | apply pw_below_drewN | apply below_drew1 | refine below_set ?_ GE521.out) | exact HB.out)) hb); clear BK521; clear HB; have BK521 := n0_; have HB := n1_; clear n0_ n1_; (try clear hb); (try clear hb2); (try clear hk); (try clear hi); have hcz8_0 : w7.cell? ⟨gb521, 0, none⟩ = some (.bool a0_0) := (blk_cell BK521.out 0).trans rfl; have hcz8_1 : w7.cell? ⟨gb521, 1, none⟩ = some (.string a0_1) := (blk_cell BK521.out 1).trans rfl; have hcz8_2 : w7.cell? ⟨gb521, 2, none⟩ = some (.int .i64 a0_2) := (blk_cell BK521.out 2).trans rfl; have hfz8_0 := blk_frozen BK521.out 0; have hfz8_1 := blk_frozen BK521.out 1; have hfz8_2 := blk_frozen BK521.out 2))
    go_ret
    exact ⟨by first | rfl | (simp [errW_none, errW_some] <;> rfl) | (simp only [← hji4]; first | rfl | (simp [errW_none, errW_some] <;> rfl)) | (simp [*, errW_none, errW_some] <;> rfl), by repeat (first | (with_reducible first | exact HB.out | apply below_alloc | apply pw_below_drewN | apply below_drew1 | refine below_set ?_ GE521.out) | exact HB.out)⟩
  · replace c3 := Bool.eq_false_iff.mpr c3
    subst c3
    have H1 : (some (-1)) = some r := by rw [if_neg (show ¬ (false = true) by decide)] at H; exact H
    clear H
    have H := H1
    clear H1
    obtain rfl := Option.some.inj H
    go_enter Tryd.func28, Tryd.ntmps28
    go_wp2_with (first | ((with_reducible refine gate_dst (N := 1) rfl ?_); refine box_event ?hg (N := 1) ?hd (cs := #[.bool a0_0, .string a0_1, .int .i64 a0_2]) (t := 26) ?hr ?_; (case hd => rfl); (case hg => rfl); (case hr => first | (go_simp; done) | (go_simp; rfl)); intro gb521 hg w9 hbox hb; have n0_ := Aside0.mk (below_step (by repeat (first | (with_reducible first | exact HB.out | apply below_alloc | apply pw_below_drewN | apply below_drew1) | exact HB.out)) hb); have n1_ := Aside0.mk (hbox); have n2_ := Aside0.mk ((by rw [hg]; exact (below_size (by repeat (first | (with_reducible first | exact HB.out | apply below_alloc | apply pw_below_drewN | apply below_drew1) | exact HB.out))) : w.heap.size ≤ gb521)); have n3_ := Aside0.mk ((by rw [hg]; exact (below_size (by repeat (first | (with_reducible first | exact HB.out | apply below_alloc | apply pw_below_drewN | apply below_drew1) | exact HB.out))) : w.heap.size ≤ gb521)); clear HB; have HB := n0_; have BK521 := n1_; have GW521 := n2_; have GE521 := n3_; clear n0_ n1_ n2_ n3_; clear hb hbox hg; have hcz10_0 : w9.cell? ⟨gb521, 0, none⟩ = some (.bool a0_0) := (blk_cell BK521.out 0).trans rfl; have hcz10_1 : w9.cell? ⟨gb521, 1, none⟩ = some (.string a0_1) := (blk_cell BK521.out 1).trans rfl; have hcz10_2 : w9.cell? ⟨gb521, 2, none⟩ = some (.int .i64 a0_2) := (blk_cell BK521.out 2).trans rfl; have hfz10_0 := blk_frozen BK521.out 0; have hfz10_1 := blk_frozen BK521.out 1; have hfz10_2 := blk_frozen BK521.out 2) | ((with_reducible refine gate_callee (f := 27) rfl ?_); refine goesL_ (some 4) rfl rfl Tryd.func27 (by kernel_rfl) rfl #[.agg #[.bool a0_0, .string a0_1, .int .i64 a0_2]] rfl (by (try simp only [List.map_toArray, List.map_cons, List.map_nil]); first | done | rfl | (simp only [List.length_drop, List.length_take]; rfl)) ?_; (with_reducible refine (impl_DecOk.calls a0_0 a0_1 a0_2 false _ A2.out).mono ?_); rintro e w11 ⟨rfl, hb⟩; refine ⟨_, rfl, ?_⟩; have n0_ := Aside0.mk (blk_below (g := gb521) (o := .cells #[.bool a0_0, .string a0_1, .int .i64 a0_2] 26 (0, 0)) (by refine blk_up ?_; exact BK521.out) hb); have n1_ := Aside0.mk (below_step (by repeat (first | (with_reducible first | exact HB.out | apply below_alloc | apply pw_below_drewN | apply below_drew1 | refine below_set ?_ GE521.out) | exact HB.out)) hb); clear BK521; clear HB; have BK521 := n0_; have HB := n1_; clear n0_ n1_; (try clear hb); (try clear hb2); (try clear hk); (try clear hi)))
    go_ret
    exact ⟨by first | rfl | (simp [errW_none, errW_some] <;> rfl) | (simp [*, errW_none, errW_some] <;> rfl), by repeat (first | (with_reducible first | exact HB.out | apply below_alloc | apply pw_below_drewN | apply below_drew1 | refine below_set ?_ GE521.out) | exact HB.out)⟩

end Go.Proofs.YtilmhfkbpnejeaaDoor.L

namespace Go.Proofs.YtilmhfkbpnejeaaDoor.L
open Go.RowKit Go.Proofs.YtilmhfkbpnejeaaDoorW.PrintWords Go.Proofs.YtilmhfkbpnejeaaDoorW.PrintLast Go.Proofs.YtilmhfkbpnejeaaDoorW.PrintMore
attribute [local go_sem] max2_int min2_int max_two min_two max_three min_three max_four min_four   -- for this text's walks alone
attribute [local go_sem] Go.Proofs.YtilmhfkbpnejeaaDoor.H.str_leq Go.Proofs.YtilmhfkbpnejeaaDoor.H.str_gtr Go.Proofs.YtilmhfkbpnejeaaDoor.H.str_geq
set_option linter.unusedVariables false
set_option linter.unusedSimpArgs false

/-! ### spec_TotalDigits: function 29 -/
def spec_TotalDigits.f (k : Nat) (a0_0 : Bool) (a0_1 : ByteArray) (a0_2 : Int) : Option (Int) := (spec_DecOk.f k a0_0 a0_1 a0_2).bind fun t524 => (if t524 = true then (some (mx 1 (a0_1.size : Int))) else (some (-1)))
theorem spec_TotalDigits.mono : ∀ a0 a1 a2 k, LeO (spec_TotalDigits.f k a0 a1 a2) (spec_TotalDigits.f (k + 1) a0 a1 a2) := by
  intro a0 a1 a2 k
  unfold spec_TotalDigits.f
  repeat' first
      | (with_reducible exact spec_DecOk.mono _ _ _ _)
      | (with_reducible exact LeO.refl _)
      | (with_reducible exact LeO.none _)
      | (with_reducible refine LeO.ite ?_ ?_)
      | (with_reducible refine LeO.bind ?_ (fun _ => ?_))
      | exact spec_DecOk.mono _ _ _ _
      | exact LeO.none _
      | refine LeO.ite ?_ ?_
      | refine LeO.bind ?_ (fun _ => ?_)
set_option maxHeartbeats 8000000 in
set_option maxRecDepth 100000 in
theorem spec_TotalDigits.calls (k : Nat) (a0_0 : Bool) (a0_1 : ByteArray) (a0_2 : Int) (r : Int) (w : World) (h : spec_TotalDigits.f k a0_0 a0_1 a0_2 = some r) :
    Calls Tryd.prog 29 #[.agg #[.bool a0_0, .string a0_1, .int .i64 a0_2]] w fun e w' => e = .returned (.int .i64 r) ∧ Below w.heap.size w w' := by
  have hu26 := Tryd.underlying26
  have HB := Aside0.mk (Below.refl w.heap.size w)
  have H : ((spec_DecOk.f k a0_0 a0_1 a0_2).bind fun t524 => (if t524 = true then (some (mx 1 (a0_1.size : Int))) else (some (-1)))) = some r := h
  clear h
  replace H := Option.bind_eq_some_iff.mp H
  obtain ⟨t524, A20, H⟩ := H
  replace H : (if t524 = true then (some (mx 1 (a0_1.size : Int))) else (some (-1))) = some r := H
  have A2 := Aside0.mk A20
  clear A20
  by_cases c3 : t524 = true
  · subst c3
    have H1 : (some (mx 1 (a0_1.size : Int))) = some r := by rw [if_pos rfl] at H; exact H
    clear H
    have H := H1
    clear H1
    obtain ⟨ji4, hji4⟩ : ∃ j_ : Int, (mx 1 (a0_1.size : Int)) = j_ := ⟨_, rfl⟩
    replace H : (some ji4) = some r := by first | (rw [hji4] at H; exact H) | (simp only [hji4] at H ⊢; exact H)
    (try rw [hji4] at A2)
    (try (have hji4l : 1 ≤ ji4 := by (rw [← hji4]; unfold mx; (repeat' split) <;> omega)))
    (try (have hji4m : 0 ≤ ji4 := by omega))
    have hji4_ : (if 1 < (a0_1.size : Int) then (a0_1.size : Int) else 1) = ji4 := hji4
    obtain rfl := Option.some.inj H
    go_enter Tryd.func29, Tryd.ntmps29
    go_wp2_with (first | ((with_reducible refine gate_dst (N := 1) rfl ?_); refine box_event ?hg (N := 1) ?hd (cs := #[.bool a0_0, .string a0_1, .int .i64 a0_2]) (t := 26) ?hr ?_; (case hd => rfl); (case hg => rfl); (case hr => first | (go_simp; done) | (go_simp; rfl)); intro gb523 hg w5 hbox hb; have n0_ := Aside0.mk (below_step (by repeat (first | (with_reducible first | exact HB.out | apply below_alloc | apply pw_below_drewN | apply below_drew1) | exact HB.out)) hb); have n1_ := Aside0.mk (hbox); have n2_ := Aside0.mk ((by rw [hg]; exact (below_size (by repeat (first | (with_reducible first | exact HB.out | apply below_alloc | apply pw_below_drewN | apply below_drew1) | exact HB.out))) : w.heap.size ≤ gb523)); have n3_ := Aside0.mk ((by rw [hg]; exact (below_size (by repeat (first | (with_reducible first | exact HB.out | apply below_alloc | apply pw_below_drewN | apply below_drew1) | exact HB.out))) : w.heap.size ≤ gb523)); clear HB; have HB := n0_; have BK523 := n1_; have GW523 := n2_; have GE523 := n3_; clear n0_ n1_ n2_ n3_; clear hb hbox hg; have hcz6_0 : w5.cell? ⟨gb523, 0, none⟩ = some (.bool a0_0) := (blk_cell BK523.out 0).trans rfl; have hcz6_1 : w5.cell? ⟨gb523, 1, none⟩ = some (.string a0_1) := (blk_cell BK523.out 1).trans rfl; have hcz6_2 : w5.cell? ⟨gb523, 2, none⟩ = some (.int .i64 a0_2) := (blk_cell BK523.out 2).trans rfl; have hfz6_0 := blk_frozen BK523.out 0; have hfz6_1 := blk_frozen BK523.out 1; have hfz6_2 := blk_frozen BK523.out 2) | ((with_reducible refine gate_callee (f := 47) rfl ?_); refine goesL_ (some 4) rfl rfl Tryd.func47 (by kernel_rfl) rfl #[.agg #[.bool a0_0, .string a0_1, .int .i64 a0_2]] rfl (by (try simp only [List.map_toArray, List.map_cons, List.map_nil]); first | done | rfl | (simp only [List.length_drop, List.length_take]; rfl)) ?_; (with_reducible refine (spec_DecOk.calls k a0_0 a0_1 a0_2 true _ A2.out).mono ?_); rintro e w7 ⟨rfl, hb⟩; refine ⟨_, rfl, ?_⟩; have n0_ := Aside0.mk (blk_below (g := gb523) (o := .cells #[.bool a0_0, .string a0_1, .int .i64 a0_2] 26 (0, 0)) (by refine blk_up ?_; exact BK523.out) hb); have n1_ := Aside0.mk (below_step (by repeat (first | (with_reducible first | exact HB.out | apply below_alloc | apply pw_below_drewN | apply below_drew1 | refine below_set ?_ GE523.out) | exact HB.out)) hb); clear BK523; clear HB; have BK523 := n0_; have HB := n1_; clear n0_ n1_; (try clear hb); (try clear hb2); (try clear hk); (try clear hi); have hcz8_0 : w7.cell? ⟨gb523, 0, none⟩ = some (.bool a0_0) := (blk_cell BK523.out 0).trans rfl; have hcz8_1 : w7.cell? ⟨gb523, 1, none⟩ = some (.string a0_1) := (blk_cell BK523.out 1).trans rfl; have hcz8_2 : w7.cell? ⟨gb523, 2, none⟩ = some (.int .i64 a0_2) := (blk_cell BK523.out 2).trans rfl; have hfz8_0 := blk_frozen BK523.out 0; have hfz8_1 := blk_frozen BK523.out 1; have hfz8_2 := blk_frozen BK523.out 2))
    go_ret
    exact ⟨by first | rfl | (simp [errW_none, errW_some] <;> rfl) | (simp only [← hji4]; first | rfl | (simp [errW_none, errW_some] <;> rfl)) | (simp [*, errW_none, errW_some] <;> rfl), by repeat (first | (with_reducible first | exact HB.out | apply below_alloc | apply pw_below_drewN | apply below_drew1 | refine below_set ?_ GE523.out) | exact HB.out)⟩
  · replace c3 := Bool.eq_false_iff.mpr c3
    subst c3
    have H1 : (some (-1)) = some r := by rw [if_neg (show ¬ (false = true) by decide)] at H; exact H
    clear H
    have H := H1
    clear H1
    obtain rfl := Option.some.inj H
    go_enter Tryd.func29, Tryd.ntmps29
    go_wp2_with (first | ((with_reducible refine gate_dst (N := 1) rfl ?_); refine box_event ?hg (N := 1) ?hd (cs := #[.bool a0_0, .string a0_1, .int .i64 a0_2]) (t := 26) ?hr ?_; (case hd => rfl); (case hg => rfl); (case hr => first | (go_simp; done) | (go_simp; rfl)); intro gb523 hg w9 hbox hb; have n0_ := Aside0.mk (below_step (by repeat (first | (with_reducible first | exact HB.out | apply below_alloc | apply pw_below_drewN | apply below_drew1) | exact HB.out)) hb); have n1_ := Aside0.mk (hbox); have n2_ := Aside0.mk ((by rw [hg]; exact (below_size (by repeat (first | (with_reducible first | exact HB.out | apply below_alloc | apply pw_below_drewN | apply below_drew1) | exact HB.out))) : w.heap.size ≤ gb523)); have n3_ := Aside0.mk ((by rw [hg]; exact (below_size (by repeat (first | (with_reducible first | exact HB.out | apply below_alloc | apply pw_below_drewN | apply below_drew1) | exact HB.out))) : w.heap.size ≤ gb523)); clear HB; have HB := n0_; have BK523 := n1_; have GW523 := n2_; have GE523 := n3_; clear n0_ n1_ n2_ n3_; clear hb hbox hg; have hcz10_0 : w9.cell? ⟨gb523, 0, none⟩ = some (.bool a0_0) := (blk_cell BK523.out 0).trans rfl; have hcz10_1 : w9.cell? ⟨gb523, 1, none⟩ = some (.string a0_1) := (blk_cell BK523.out 1).trans rfl; have hcz10_2 : w9.cell? ⟨gb523, 2, none⟩ = some (.int .i64 a0_2) := (blk_cell BK523.out 2).trans rfl; have hfz10_0 := blk_frozen BK523.out 0; have hfz10_1 := blk_frozen BK523.out 1; have hfz10_2 := blk_frozen BK523.out 2) | ((with_reducible refine gate_callee (f := 47) rfl ?_); refine goesL_ (some 4) rfl rfl Tryd.func47 (by kernel_rfl) rfl #[.agg #[.bool a0_0, .string a0_1, .int .i64 a0_2]] rfl (by (try simp only [List.map_toArray, List.map_cons, List.map_nil]); first | done | rfl | (simp only [List.length_drop, List.length_take]; rfl)) ?_; (with_reducible refine (spec_DecOk.calls k a0_0 a0_1 a0_2 false _ A2.out).mono ?_); rintro e w11 ⟨rfl, hb⟩; refine ⟨_, rfl, ?_⟩; have n0_ := Aside0.mk (blk_below (g := gb523) (o := .cells #[.bool a0_0, .string a0_1, .int .i64 a0_2] 26 (0, 0)) (by refine blk_up ?_; exact BK523.out) hb); have n1_ := Aside0.mk (below_step (by repeat (first | (with_reducible first | exact HB.out | apply below_alloc | apply pw_below_drewN | apply below_drew1 | refine below_set ?_ GE523.out) | exact HB.out)) hb); clear BK523; clear HB; have BK523 := n0_; have HB := n1_; clear n0_ n1_; (try clear hb); (try clear hb2); (try clear hk); (try clear hi)))
    go_ret
    exact ⟨by first | rfl | (simp [errW_none, errW_some] <;> rfl) | (simp [*, errW_none, errW_some] <;> rfl), by repeat (first | (with_reducible first | exact HB.out | apply below_alloc | apply pw_below_drewN | apply below_drew1 | refine below_set ?_ GE523.out) | exact HB.out)⟩

end Go.Proofs.YtilmhfkbpnejeaaDoor.L

namespace Go.Proofs.YtilmhfkbpnejeaaDoor.L
open Go.RowKit Go.Proofs.YtilmhfkbpnejeaaDoorW.PrintWords Go.Proofs.YtilmhfkbpnejeaaDoorW.PrintLast Go.Proofs.YtilmhfkbpnejeaaDoorW.PrintMore
attribute [local go_sem] max2_int min2_int max_two min_two max_three min_three max_four min_four   -- for this text's walks alone
attribute [local go_sem] Go.Proofs.YtilmhfkbpnejeaaDoor.H.str_leq Go.Proofs.YtilmhfkbpnejeaaDoor.H.str_gtr Go.Proofs.YtilmhfkbpnejeaaDoor.H.str_geq
set_option linter.unusedVariables false
set_option linter.unusedSimpArgs false

/-! ### spec_DrawReadDec: function 30 -/
def spec_DrawReadDec.f (k : Nat) (l0 : List Int) : Option (ByteArray) := (spec_l1Open.f l0).bind fun bt525 => ((spec_l1Rd_once.f bt525.1 bt525.2 6).bind fun bt528 => (if bt528.1 = true then ((some (([(⟨#[]⟩ : ByteArray), (⟨#[43]⟩ : ByteArray), (⟨#[45]⟩ : ByteArray), (⟨#[46]⟩ : ByteArray), (⟨#[49, 46]⟩ : ByteArray), (⟨#[46, 53]⟩ : ByteArray), (⟨#[49, 101, 53]⟩ : ByteArray), (⟨#[49, 46, 50, 46, 51]⟩ : ByteArray), (⟨#[32, 49]⟩ : ByteArray), (⟨#[45, 45, 49]⟩ : ByteArray)] : List ByteArray) : List ByteArray)).bind fun y530 => ((spec_l1Rd_below.f bt525.1 bt528.2 10).bind fun bt533 => (if 0 ≤ bt533.1 then (if bt533.1 < (y530.length : Int) then (some (rdOf ByteArray.empty y530 bt533.1)) else (none)) else (none)))) else ((spec_l1Rd_decText.f k bt525.1 bt528.2).bind fun bt536 => (some bt536.1))))
theorem spec_DrawReadDec.mono : ∀ a0 k, LeO (spec_DrawReadDec.f k a0) (spec_DrawReadDec.f (k + 1) a0) := by
  intro a0 k
  unfold spec_DrawReadDec.f
  repeat' first
      | (with_reducible exact spec_l1Rd_decText.mono _ _ _)
      | (with_reducible exact LeO.refl _)
      | (with_reducible exact LeO.none _)
      | (with_reducible refine LeO.ite ?_ ?_)
      | (with_reducible refine LeO.bind ?_ (fun _ => ?_))
      | exact spec_l1Rd_decText.mono _ _ _
      | exact LeO.none _
      | refine LeO.ite ?_ ?_
      | refine LeO.bind ?_ (fun _ => ?_)
set_option maxHeartbeats 8000000 in
set_option maxRecDepth 100000 in
theorem spec_DrawReadDec.calls (k : Nat) (A0 : Option Addr) (c0 : Nat) (l0 : List Int) (r : ByteArray) (w : World) (hr0 : Kd.C (Kd.int .u8) w A0 l0.length l0) (hc0 : l0.length ≤ c0) (h : spec_DrawReadDec.f k l0 = some r) :
    Calls Tryd.prog 30 #[.slice A0 l0.length c0] w fun e w' => e = .returned (.string r) ∧ Below w.heap.size w w' := by
  have HR0 := Aside0.mk hr0
  have HC0 := Aside0.mk hc0
  clear hr0 hc0
  have HB := Aside0.mk (Below.refl w.heap.size w)
  have H : ((spec_l1Open.f l0).bind fun bt525 => ((spec_l1Rd_once.f bt525.1 bt525.2 6).bind fun bt528 => (if bt528.1 = true then ((some (([(⟨#[]⟩ : ByteArray), (⟨#[43]⟩ : ByteArray), (⟨#[45]⟩ : ByteArray), (⟨#[46]⟩ : ByteArray), (⟨#[49, 46]⟩ : ByteArray), (⟨#[46, 53]⟩ : ByteArray), (⟨#[49, 101, 53]⟩ : ByteArray), (⟨#[49, 46, 50, 46, 51]⟩ : ByteArray), (⟨#[32, 49]⟩ : ByteArray), (⟨#[45, 45, 49]⟩ : ByteArray)] : List ByteArray) : List ByteArray)).bind fun y530 => ((spec_l1Rd_below.f bt525.1 bt528.2 10).bind fun bt533 => (if 0 ≤ bt533.1 then (if bt533.1 < (y530.length : Int) then (some (rdOf ByteArray.empty y530 bt533.1)) else (none)) else (none)))) else ((spec_l1Rd_decText.f k bt525.1 bt528.2).bind fun bt536 => (some bt536.1))))) = some r := h
  clear h
  replace H := Option.bind_eq_some_iff.mp H
  obtain ⟨⟨t525, t526⟩, A20, H⟩ := H
  replace H : ((spec_l1Rd_once.f t525 t526 6).bind fun bt528 => (if bt528.1 = true then ((some (([(⟨#[]⟩ : ByteArray), (⟨#[43]⟩ : ByteArray), (⟨#[45]⟩ : ByteArray), (⟨#[46]⟩ : ByteArray), (⟨#[49, 46]⟩ : ByteArray), (⟨#[46, 53]⟩ : ByteArray), (⟨#[49, 101, 53]⟩ : ByteArray), (⟨#[49, 46, 50, 46, 51]⟩ : ByteArray), (⟨#[32, 49]⟩ : ByteArray), (⟨#[45, 45, 49]⟩ : ByteArray)] : List ByteArray) : List ByteArray)).bind fun y530 => ((spec_l1Rd_below.f t525 bt528.2 10).bind fun bt533 => (if 0 ≤ bt533.1 then (if bt533.1 < (y530.length : Int) then (some (rdOf ByteArray.empty y530 bt533.1)) else (none)) else (none)))) else ((spec_l1Rd_decText.f k t525 bt528.2).bind fun bt536 => (some bt536.1)))) = some r := H
  have A2 := Aside0.mk A20
  clear A20
  replace H := Option.bind_eq_some_iff.mp H
  obtain ⟨⟨t528, t529⟩, A30, H⟩ := H
  replace H : (if t528 = true then ((some (([(⟨#[]⟩ : ByteArray), (⟨#[43]⟩ : ByteArray), (⟨#[45]⟩ : ByteArray), (⟨#[46]⟩ : ByteArray), (⟨#[49, 46]⟩ : ByteArray), (⟨#[46, 53]⟩ : ByteArray), (⟨#[49, 101, 53]⟩ : ByteArray), (⟨#[49, 46, 50, 46, 51]⟩ : ByteArray), (⟨#[32, 49]⟩ : ByteArray), (⟨#[45, 45, 49]⟩ : ByteArray)] : List ByteArray) : List ByteArray)).bind fun y530 => ((spec_l1Rd_below.f t525 t529 10).bind fun bt533 => (if 0 ≤ bt533.1 then (if bt533.1 < (y530.length : Int) then (some (rdOf ByteArray.empty y530 bt533.1)) else (none)) else (none)))) else ((spec_l1Rd_decText.f k t525 t529).bind fun bt536 => (some bt536.1))) = some r := H
  have A3 := Aside0.mk A30
  clear A30
  by_cases c4 : t528 = true
  · subst c4
    have H1 : ((some (([(⟨#[]⟩ : ByteArray), (⟨#[43]⟩ : ByteArray), (⟨#[45]⟩ : ByteArray), (⟨#[46]⟩ : ByteArray), (⟨#[49, 46]⟩ : ByteArray), (⟨#[46, 53]⟩ : ByteArray), (⟨#[49, 101, 53]⟩ : ByteArray), (⟨#[49, 46, 50, 46, 51]⟩ : ByteArray), (⟨#[32, 49]⟩ : ByteArray), (⟨#[45, 45, 49]⟩ : ByteArray)] : List ByteArray) : List ByteArray)).bind fun y530 => ((spec_l1Rd_below.f t525 t529 10).bind fun bt533 => (if 0 ≤ bt533.1 then (if bt533.1 < (y530.length : Int) then (some (rdOf ByteArray.empty y530 bt533.1)) else (none)) else (none)))) = some r := by rw [if_pos rfl] at H; exact H
    clear H
    have H := H1
    clear H1
    obtain ⟨y530, hy530⟩ : ∃ y_ : List ByteArray, y_ = (([(⟨#[]⟩ : ByteArray), (⟨#[43]⟩ : ByteArray), (⟨#[45]⟩ : ByteArray), (⟨#[46]⟩ : ByteArray), (⟨#[49, 46]⟩ : ByteArray), (⟨#[46, 53]⟩ : ByteArray), (⟨#[49, 101, 53]⟩ : ByteArray), (⟨#[49, 46, 50, 46, 51]⟩ : ByteArray), (⟨#[32, 49]⟩ : ByteArray), (⟨#[45, 45, 49]⟩ : ByteArray)] : List ByteArray)) := ⟨_, rfl⟩
    replace H : ((spec_l1Rd_below.f t525 t529 10).bind fun bt533 => (if 0 ≤ bt533.1 then (if bt533.1 < (y530.length : Int) then (some (rdOf ByteArray.empty y530 bt533.1)) else (none)) else (none))) = some r := by first | (rw [hy530]; with_reducible exact H) | (have H2_ := (Option.bind_some _ _).symm.trans H; rw [hy530]; with_reducible exact H2_) | (have H2_ := (Option.bind_some _ _).symm.trans H; with_reducible exact H2_) | with_reducible exact H | (rw [hy530]; exact H) | exact H
    have Ny530 := Aside0.mk hy530
    clear hy530
    replace H := Option.bind_eq_some_iff.mp H
    obtain ⟨⟨t533, t534⟩, A50, H⟩ := H
    replace H : (if 0 ≤ t533 then (if t533 < (y530.length : Int) then (some (rdOf ByteArray.empty y530 t533)) else (none)) else (none)) = some r := H
    have A5 := Aside0.mk A50
    clear A50
    by_cases c6 : 0 ≤ t533
    · rw [if_pos c6] at H
      have c6b0 : decide (0 ≤ t533) = true := decide_eq_true c6
      clear c6
      by_cases c7 : t533 < (y530.length : Int)
      · rw [if_pos c7] at H
        have c7b0 : decide (t533 < (y530.length : Int)) = true := decide_eq_true c7
        clear c7
        obtain rfl := Option.some.inj H
        go_enter Tryd.func30, Tryd.ntmps30
        go_wp2_with (first | ((with_reducible refine gate_callee (f := 57) rfl ?_); refine goesL_ (some 5) rfl rfl Tryd.func57 (by kernel_rfl) rfl #[.slice A0 l0.length c0] rfl (by (try simp only [List.map_toArray, List.map_cons, List.map_nil]); first | done | rfl | (simp only [List.length_drop, List.length_take]; rfl)) ?_; (with_reducible refine (spec_l1Open.calls _ _ l0 t525 t526 w _ ?side1 ?side2 ?side3 A2.out).mono ?_); (case side1 => repeat (first | (with_reducible first | exact HB.out | apply below_alloc | apply pw_below_drewN | apply below_drew1) | exact HB.out)); (case side2 => exact HR0.out); (case side3 => exact HC0.out); rintro e w8 ⟨g527, rfl, hi, hb, hb2⟩; refine ⟨_, rfl, ?_⟩; have n0_ := Aside0.mk (hb); have n1_ := Aside0.mk (hi); clear HB; have HB := n0_; have HI527 := n1_; clear n0_ n1_; (try clear hb); (try clear hb2); (try clear hk); (try clear hi)) | ((with_reducible refine gate_callee (f := 61) rfl ?_); refine goesL_ (some 7) rfl rfl Tryd.func61 (by kernel_rfl) rfl #[.pointer (some ⟨g527, 0, none⟩), .int .i64 6] rfl (by (try simp only [List.map_toArray, List.map_cons, List.map_nil]); first | done | rfl | (simp only [List.length_drop, List.length_take]; rfl)) ?_; (with_reducible refine (spec_l1Rd_once.calls g527 t525 t526 6 true t529 w _ ?side1 ?side2 A3.out).mono ?_); (case side1 => repeat (first | (with_reducible first | exact HI527.out | apply IsS115.alloc | apply IsS115.drewN | apply IsS115.drew | apply IsS115.set_1) | exact HI527.out)); (case side2 => repeat (first | (with_reducible first | exact HB.out | apply below_alloc | apply pw_below_drewN | apply below_drew1 | refine below_set ?_ (IsS115.ge HI527.out)) | exact HB.out)); rintro e w9 ⟨rfl, hi, hb, hk⟩; refine ⟨_, rfl, ?_⟩; have n0_ := Aside0.mk (hb); have n1_ := Aside0.mk (hi); clear HB; clear HI527; have HB := n0_; have HI527 := n1_; clear n0_ n1_; (try clear hb); (try clear hb2); (try clear hk); (try clear hi)) | ((with_reducible refine gate_dst (N := 8) rfl ?_); refine Kd.R_lit Kd.string _ 9 ?hg (N := 8) ?hd (xs := ([(⟨#[]⟩ : ByteArray), (⟨#[43]⟩ : ByteArray), (⟨#[45]⟩ : ByteArray), (⟨#[46]⟩ : ByteArray), (⟨#[49, 46]⟩ : ByteArray), (⟨#[46, 53]⟩ : ByteArray), (⟨#[49, 101, 53]⟩ : ByteArray), (⟨#[49, 46, 50, 46, 51]⟩ : ByteArray), (⟨#[32, 49]⟩ : ByteArray), (⟨#[45, 45, 49]⟩ : ByteArray)] : List ByteArray)) (inner := [.string (⟨#[]⟩ : ByteArray), .string (⟨#[43]⟩ : ByteArray), .string (⟨#[45]⟩ : ByteArray), .string (⟨#[46]⟩ : ByteArray), .string (⟨#[49, 46]⟩ : ByteArray), .string (⟨#[46, 53]⟩ : ByteArray), .string (⟨#[49, 101, 53]⟩ : ByteArray), .string (⟨#[49, 46, 50, 46, 51]⟩ : ByteArray), .string (⟨#[32, 49]⟩ : ByteArray), .string (⟨#[45, 45, 49]⟩ : ByteArray)]) (ok := fun _ => True) (okp := fun _ => True) ?hr ?hp (fun _ hk => hk) trivial (Below.refl _ _) (Nat.le_refl _) (by simp) ?_; (case hd => rfl); (case hg => rfl); (case hr => first | (go_simp; done) | (go_simp; rfl)); (case hp => exact (Reps.one (show Kd.M Kd.string _ _ _ (⟨#[]⟩ : ByteArray) [.string (⟨#[]⟩ : ByteArray)] from rfl) (Reps.one (show Kd.M Kd.string _ _ _ (⟨#[43]⟩ : ByteArray) [.string (⟨#[43]⟩ : ByteArray)] from rfl) (Reps.one (show Kd.M Kd.string _ _ _ (⟨#[45]⟩ : ByteArray) [.string (⟨#[45]⟩ : ByteArray)] from rfl) (Reps.one (show Kd.M Kd.string _ _ _ (⟨#[46]⟩ : ByteArray) [.string (⟨#[46]⟩ : ByteArray)] from rfl) (Reps.one (show Kd.M Kd.string _ _ _ (⟨#[49, 46]⟩ : ByteArray) [.string (⟨#[49, 46]⟩ : ByteArray)] from rfl) (Reps.one (show Kd.M Kd.string _ _ _ (⟨#[46, 53]⟩ : ByteArray) [.string (⟨#[46, 53]⟩ : ByteArray)] from rfl) (Reps.one (show Kd.M Kd.string _ _ _ (⟨#[49, 101, 53]⟩ : ByteArray) [.string (⟨#[49, 101, 53]⟩ : ByteArray)] from rfl) (Reps.one (show Kd.M Kd.string _ _ _ (⟨#[49, 46, 50, 46, 51]⟩ : ByteArray) [.string (⟨#[49, 46, 50, 46, 51]⟩ : ByteArray)] from rfl) (Reps.one (show Kd.M Kd.string _ _ _ (⟨#[32, 49]⟩ : ByteArray) [.string (⟨#[32, 49]⟩ : ByteArray)] from rfl) (Reps.one (show Kd.M Kd.string _ _ _ (⟨#[45, 45, 49]⟩ : ByteArray) [.string (⟨#[45, 45, 49]⟩ : ByteArray)] from rfl) (Reps.none _ _)))))))))))); intro v531 w10 ho11 hb hg_ hnew_; clear hg_ hnew_; (first | rw [← Ny530.out] at ho11 | (simp only [Int.reduceToNat] at ho11; rw [← Ny530.out] at ho11)); have n0_ := Aside0.mk (Kd.R_lower ho11 (below_size (by repeat (first | (with_reducible first | exact HB.out | apply below_alloc | apply pw_below_drewN | apply below_drew1 | refine below_set ?_ (IsS115.ge HI527.out)) | exact HB.out)))); have n1_ := Aside0.mk (IsS115.below (by repeat (first | (with_reducible first | exact HI527.out | apply IsS115.alloc | apply IsS115.drewN | apply IsS115.drew | apply IsS115.set_1) | exact HI527.out)) hb); have n2_ := Aside0.mk (below_step (by repeat (first | (with_reducible first | exact HB.out | apply below_alloc | apply pw_below_drewN | apply below_drew1 | refine below_set ?_ (IsS115.ge HI527.out)) | exact HB.out)) hb); clear HI527; clear HB; have HO532 := n0_; have HI527 := n1_; have HB := n2_; clear n0_ n1_ n2_; clear hb ho11) | ((with_reducible refine gate_callee (f := 69) rfl ?_); refine goesL_ (some 10) rfl rfl Tryd.func69 (by kernel_rfl) rfl #[.pointer (some ⟨g527, 0, none⟩), .int .i64 10] rfl (by (try simp only [List.map_toArray, List.map_cons, List.map_nil]); first | done | rfl | (simp only [List.length_drop, List.length_take]; rfl)) ?_; (with_reducible refine (spec_l1Rd_below.calls g527 t525 t529 10 t533 t534 w _ ?side1 ?side2 A5.out).mono ?_); (case side1 => repeat (first | (with_reducible first | exact HI527.out | apply IsS115.alloc | apply IsS115.drewN | apply IsS115.drew | apply IsS115.set_1) | exact HI527.out)); (case side2 => repeat (first | (with_reducible first | exact HB.out | apply below_alloc | apply pw_below_drewN | apply below_drew1 | refine below_set ?_ (IsS115.ge HI527.out)) | exact HB.out)); rintro e w12 ⟨rfl, hi, hb, hk⟩; refine ⟨_, rfl, ?_⟩; have n0_ := Aside0.mk (Kd.R_mono (Kd.R_keep (IsS115.apart (show IsS115 w _ g527 t525 t529 from by repeat (first | (with_reducible first | exact HI527.out | apply IsS115.alloc | apply IsS115.drewN | apply IsS115.drew | apply IsS115.set_1) | exact HI527.out)) (by (with_reducible repeat (first | apply Kd.R_alloc | apply Kd.R_drewN | apply Kd.R_drew)); exact HO532.out) (by decide)) hk (fun _ h => h.2)) (fun _ h => h.1)); have n1_ := Aside0.mk (hb); have n2_ := Aside0.mk (hi); clear HO532; clear HB; clear HI527; have HO532 := n0_; have HB := n1_; have HI527 := n2_; clear n0_ n1_ n2_; (try clear hb); (try clear hb2); (try clear hk); (try clear hi); obtain ⟨Ao13, co13, eo13⟩ := Kd.R_slice HO532.out; subst eo13; have p535 : 0 ≤ (t533 : Int) := of_decide_eq_true (by first | (with_reducible assumption) | assumption); have q535 : t533 < (y530.length : Int) := of_decide_eq_true (by first | (with_reducible assumption) | assumption); obtain ⟨ad535, e535, hx535_0⟩ := Kd.at_string (Kd.R_reads' HO532.out).2.2 t533 p535 q535; cases e535; replace p535 := eq_true p535; replace q535 := eq_true q535))
        go_ret
        exact ⟨by first | rfl | (simp [errW_none, errW_some] <;> rfl) | (simp [*, errW_none, errW_some] <;> rfl), by repeat (first | (with_reducible first | exact HB.out | apply below_alloc | apply pw_below_drewN | apply below_drew1 | refine below_set ?_ (IsS115.ge HI527.out)) | exact HB.out)⟩
      · rw [if_neg c7] at H
        exact absurd H (by simp)
    · rw [if_neg c6] at H
      exact absurd H (by simp)
  · replace c4 := Bool.eq_false_iff.mpr c4
    subst c4
    have H1 : ((spec_l1Rd_decText.f k t525 t529).bind fun bt536 => (some bt536.1)) = some r := by rw [if_neg (show ¬ (false = true) by decide)] at H; exact H
    clear H
    have H := H1
    clear H1
    replace H := Option.bind_eq_some_iff.mp H
    obtain ⟨⟨t536, t537⟩, A140, H⟩ := H
    replace H : (some t536) = some r := H
    have A14 := Aside0.mk A140
    clear A140
    obtain rfl := Option.some.inj H
    go_enter Tryd.func30, Tryd.ntmps30
    go_wp2_with (first | ((with_reducible refine gate_callee (f := 57) rfl ?_); refine goesL_ (some 5) rfl rfl Tryd.func57 (by kernel_rfl) rfl #[.slice A0 l0.length c0] rfl (by (try simp only [List.map_toArray, List.map_cons, List.map_nil]); first | done | rfl | (simp only [List.length_drop, List.length_take]; rfl)) ?_; (with_reducible refine (spec_l1Open.calls _ _ l0 t525 t526 w _ ?side1 ?side2 ?side3 A2.out).mono ?_); (case side1 => repeat (first | (with_reducible first | exact HB.out | apply below_alloc | apply pw_below_drewN | apply below_drew1) | exact HB.out)); (case side2 => exact HR0.out); (case side3 => exact HC0.out); rintro e w15 ⟨g527, rfl, hi, hb, hb2⟩; refine ⟨_, rfl, ?_⟩; have n0_ := Aside0.mk (hb); have n1_ := Aside0.mk (hi); clear HB; have HB := n0_; have HI527 := n1_; clear n0_ n1_; (try clear hb); (try clear hb2); (try clear hk); (try clear hi)) | ((with_reducible refine gate_callee (f := 61) rfl ?_); refine goesL_ (some 7) rfl rfl Tryd.func61 (by kernel_rfl) rfl #[.pointer (some ⟨g527, 0, none⟩), .int .i64 6] rfl (by (try simp only [List.map_toArray, List.map_cons, List.map_nil]); first | done | rfl | (simp only [List.length_drop, List.length_take]; rfl)) ?_; (with_reducible refine (spec_l1Rd_once.calls g527 t525 t526 6 false t529 w _ ?side1 ?side2 A3.out).mono ?_); (case side1 => repeat (first | (with_reducible first | exact HI527.out | apply IsS115.alloc | apply IsS115.drewN | apply IsS115.drew | apply IsS115.set_1) | exact HI527.out)); (case side2 => repeat (first | (with_reducible first | exact HB.out | apply below_alloc | apply pw_below_drewN | apply below_drew1 | refine below_set ?_ (IsS115.ge HI527.out)) | exact HB.out)); rintro e w16 ⟨rfl, hi, hb, hk⟩; refine ⟨_, rfl, ?_⟩; have n0_ := Aside0.mk (hb); have n1_ := Aside0.mk (hi); clear HB; clear HI527; have HB := n0_; have HI527 := n1_; clear n0_ n1_; (try clear hb); (try clear hb2); (try clear hk); (try clear hi)) | ((with_reducible refine gate_callee (f := 70) rfl ?_); refine goesL_ (some 14) rfl rfl Tryd.func70 (by kernel_rfl) rfl #[.pointer (some ⟨g527, 0, none⟩)] rfl (by (try simp only [List.map_toArray, List.map_cons, List.map_nil]); first | done | rfl | (simp only [List.length_drop, List.length_take]; rfl)) ?_; (with_reducible refine (spec_l1Rd_decText.calls k g527 t525 t529 t536 t537 w _ ?side1 ?side2 A14.out).mono ?_); (case side1 => repeat (first | (with_reducible first | exact HI527.out | apply IsS115.alloc | apply IsS115.drewN | apply IsS115.drew | apply IsS115.set_1) | exact HI527.out)); (case side2 => repeat (first | (with_reducible first | exact HB.out | apply below_alloc | apply pw_below_drewN | apply below_drew1 | refine below_set ?_ (IsS115.ge HI527.out)) | exact HB.out)); rintro e w17 ⟨rfl, hi, hb, hk⟩; refine ⟨_, rfl, ?_⟩; have n0_ := Aside0.mk (hb); have n1_ := Aside0.mk (hi); clear HB; clear HI527; have HB := n0_; have HI527 := n1_; clear n0_ n1_; (try clear hb); (try clear hb2); (try clear hk); (try clear hi)))
    go_ret
    exact ⟨by first | rfl | (simp [errW_none, errW_some] <;> rfl) | (simp [*, errW_none, errW_some] <;> rfl), by repeat (first | (with_reducible first | exact HB.out | apply below_alloc | apply pw_below_drewN | apply below_drew1 | refine below_set ?_ (IsS115.ge HI527.out)) | exact HB.out)⟩

end Go.Proofs.YtilmhfkbpnejeaaDoor.L
