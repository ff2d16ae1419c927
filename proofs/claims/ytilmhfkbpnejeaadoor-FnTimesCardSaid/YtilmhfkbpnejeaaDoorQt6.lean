/- Words and contracts for the row RowFnTimes: what the Go functions answer that it calls; printed by programs of the kit and of this session, and merged. -/
import Derived.Test.YtilmhfkbpnejeaaDoorQt5
namespace Go.Proofs.YtilmhfkbpnejeaaDoor.L
open Go.RowKit Go.Proofs.YtilmhfkbpnejeaaDoorW.PrintWords Go.Proofs.YtilmhfkbpnejeaaDoorW.PrintLast Go.Proofs.YtilmhfkbpnejeaaDoorW.PrintMore
attribute [local go_sem] max2_int min2_int max_two min_two max_three min_three max_four min_four
attribute [local go_sem] Go.Proofs.YtilmhfkbpnejeaaDoor.H.str_leq Go.Proofs.YtilmhfkbpnejeaaDoor.H.str_gtr Go.Proofs.YtilmhfkbpnejeaaDoor.H.str_geq
set_option linter.unusedVariables false
set_option linter.unusedSimpArgs false

attribute [local go_sem high] eqA26
/-! ### laws_FnTimes: function 4 -/
mutual
def laws_FnTimes.j0 : Nat → List Int → Bool → Bool → Bool → Bool → ByteArray → Int → Bool → ByteArray → Int → Bool → ByteArray → Int → Bool → ByteArray → Int → Option (Bool)
 | 0, _, _, _, _, _, _, _, _, _, _, _, _, _, _, _, _ => none
 | k + 1, x0, x6, x8, x50, x342000, x342001, x342002, x343000, x343001, x343002, x348000, x348001, x348002, x353000, x353001, x353002 => if x50 = true then (if (x348000 == x353000 && (x348001.toList == x353001.toList && (x348002 == x353002))) = true then (some (x6 == x8)) else (none)) else ((impl_TimesDec.f x343000 x343001 x343002 x342000 x342001 x342002).bind fun bt353 => (if bt353.2.2.2 = true then (if (!(bt353.1 == x348000) || (!(bt353.2.1.toList == x348001.toList) || (!(bt353.2.2.1 == x348002)))) = true then (laws_FnTimes.j1 k x0 true x342000 x342001 x342002 x343000 x343001 x343002 x348000 x348001 x348002) else (if x342001.toList = ([] : List UInt8) then (laws_FnTimes.j1 k x0 ((x348001.toList == ([] : List UInt8)) != true) x342000 x342001 x342002 x343000 x343001 x343002 x348000 x348001 x348002) else (laws_FnTimes.j1 k x0 ((x348001.toList == ([] : List UInt8)) != (x343001.toList == ([] : List UInt8))) x342000 x342001 x342002 x343000 x343001 x343002 x348000 x348001 x348002))) else (laws_FnTimes.j1 k x0 true x342000 x342001 x342002 x343000 x343001 x343002 x348000 x348001 x348002)))
def laws_FnTimes.j1 : Nat → List Int → Bool → Bool → ByteArray → Int → Bool → ByteArray → Int → Bool → ByteArray → Int → Option (Bool)
 | 0, _, _, _, _, _, _, _, _, _, _, _ => none
 | k + 1, x0, x85, x342000, x342001, x342002, x343000, x343001, x343002, x348000, x348001, x348002 => if x85 = true then (none) else ((spec_DrawDecText.f k x0).bind fun bt358 => ((impl_AddDec.f k x342000 x342001 x342002 bt358.1 bt358.2.1 bt358.2.2).bind fun bt362 => ((impl_TimesDec.f bt362.1 bt362.2.1 bt362.2.2.1 x343000 x343001 x343002).bind fun bt367 => ((impl_TimesDec.f bt358.1 bt358.2.1 bt358.2.2 x343000 x343001 x343002).bind fun bt372 => ((impl_AddDec.f k x348000 x348001 x348002 bt372.1 bt372.2.1 bt372.2.2.1).bind fun bt377 => (if bt362.2.2.2 = true then (if bt367.2.2.2 = true then (if bt372.2.2.2 = true then (if bt377.2.2.2 = true then (some (bt367.1 == bt377.1 && (bt367.2.1.toList == bt377.2.1.toList && (bt367.2.2.1 == bt377.2.2.1)))) else (some true)) else (some true)) else (some true)) else (some true)))))))
end
def laws_FnTimes.f (k : Nat) (l0 : List Int) : Option (Bool) := (laws_big.f l0).bind fun t334 => (if t334 = true then (some true) else ((spec_DrawTimesDec.f k l0).bind fun bt335 => ((impl_TimesDec.f bt335.1 bt335.2.1 bt335.2.2.1 bt335.2.2.2.1 bt335.2.2.2.2.1 bt335.2.2.2.2.2).bind fun bt343 => ((spec_TimesDec.f k bt335.1 bt335.2.1 bt335.2.2.1 bt335.2.2.2.1 bt335.2.2.2.2.1 bt335.2.2.2.2.2).bind fun bt348 => (if (!(bt343.1 == bt348.1) || (!(bt343.2.1.toList == bt348.2.1.toList) || (!(bt343.2.2.1 == bt348.2.2.1)))) = true then (laws_FnTimes.j0 k l0 bt343.2.2.2 bt348.2.2.2 true bt335.1 bt335.2.1 bt335.2.2.1 bt335.2.2.2.1 bt335.2.2.2.2.1 bt335.2.2.2.2.2 bt343.1 bt343.2.1 bt343.2.2.1 bt348.1 bt348.2.1 bt348.2.2.1) else (if (bt343.2.2.2 != bt348.2.2.2) = true then (laws_FnTimes.j0 k l0 bt343.2.2.2 bt348.2.2.2 true bt335.1 bt335.2.1 bt335.2.2.1 bt335.2.2.2.1 bt335.2.2.2.2.1 bt335.2.2.2.2.2 bt343.1 bt343.2.1 bt343.2.2.1 bt348.1 bt348.2.1 bt348.2.2.1) else (laws_FnTimes.j0 k l0 bt343.2.2.2 bt348.2.2.2 (!bt343.2.2.2) bt335.1 bt335.2.1 bt335.2.2.1 bt335.2.2.2.1 bt335.2.2.2.2.1 bt335.2.2.2.2.2 bt343.1 bt343.2.1 bt343.2.2.1 bt348.1 bt348.2.1 bt348.2.2.1)))))))
set_option maxHeartbeats 8000000 in
set_option maxRecDepth 100000 in
theorem laws_FnTimes.calls (k : Nat) (A0 : Option Addr) (c0 : Nat) (l0 : List Int) (r : Bool) (w : World) (hr0 : Kd.C (Kd.int .u8) w A0 l0.length l0) (hc0 : l0.length ≤ c0) (h : laws_FnTimes.f k l0 = some r) :
  Calls Tryd.prog 4 #[.slice A0 l0.length c0] w fun e w' => e = .returned (.bool r) ∧ Below w.heap.size w w' := by
 have hu26 := Tryd.underlying26
 have HR0 := Aside0.mk hr0
 have HC0 := Aside0.mk hc0
 clear hr0 hc0
 have HB := Aside0.mk (Below.refl w.heap.size w)
 have H : ((laws_big.f l0).bind fun t334 => (if t334 = true then (some true) else ((spec_DrawTimesDec.f k l0).bind fun bt335 => ((impl_TimesDec.f bt335.1 bt335.2.1 bt335.2.2.1 bt335.2.2.2.1 bt335.2.2.2.2.1 bt335.2.2.2.2.2).bind fun bt343 => ((spec_TimesDec.f k bt335.1 bt335.2.1 bt335.2.2.1 bt335.2.2.2.1 bt335.2.2.2.2.1 bt335.2.2.2.2.2).bind fun bt348 => (if (!(bt343.1 == bt348.1) || (!(bt343.2.1.toList == bt348.2.1.toList) || (!(bt343.2.2.1 == bt348.2.2.1)))) = true then (laws_FnTimes.j0 k l0 bt343.2.2.2 bt348.2.2.2 true bt335.1 bt335.2.1 bt335.2.2.1 bt335.2.2.2.1 bt335.2.2.2.2.1 bt335.2.2.2.2.2 bt343.1 bt343.2.1 bt343.2.2.1 bt348.1 bt348.2.1 bt348.2.2.1) else (if (bt343.2.2.2 != bt348.2.2.2) = true then (laws_FnTimes.j0 k l0 bt343.2.2.2 bt348.2.2.2 true bt335.1 bt335.2.1 bt335.2.2.1 bt335.2.2.2.1 bt335.2.2.2.2.1 bt335.2.2.2.2.2 bt343.1 bt343.2.1 bt343.2.2.1 bt348.1 bt348.2.1 bt348.2.2.1) else (laws_FnTimes.j0 k l0 bt343.2.2.2 bt348.2.2.2 (!bt343.2.2.2) bt335.1 bt335.2.1 bt335.2.2.1 bt335.2.2.2.1 bt335.2.2.2.2.1 bt335.2.2.2.2.2 bt343.1 bt343.2.1 bt343.2.2.1 bt348.1 bt348.2.1 bt348.2.2.1)))))))) = some r := h
 clear h
 replace H := Option.bind_eq_some_iff.mp H
 obtain ⟨t334, A20, H⟩ := H
 replace H : (if t334 = true then (some true) else ((spec_DrawTimesDec.f k l0).bind fun bt335 => ((impl_TimesDec.f bt335.1 bt335.2.1 bt335.2.2.1 bt335.2.2.2.1 bt335.2.2.2.2.1 bt335.2.2.2.2.2).bind fun bt343 => ((spec_TimesDec.f k bt335.1 bt335.2.1 bt335.2.2.1 bt335.2.2.2.1 bt335.2.2.2.2.1 bt335.2.2.2.2.2).bind fun bt348 => (if (!(bt343.1 == bt348.1) || (!(bt343.2.1.toList == bt348.2.1.toList) || (!(bt343.2.2.1 == bt348.2.2.1)))) = true then (laws_FnTimes.j0 k l0 bt343.2.2.2 bt348.2.2.2 true bt335.1 bt335.2.1 bt335.2.2.1 bt335.2.2.2.1 bt335.2.2.2.2.1 bt335.2.2.2.2.2 bt343.1 bt343.2.1 bt343.2.2.1 bt348.1 bt348.2.1 bt348.2.2.1) else (if (bt343.2.2.2 != bt348.2.2.2) = true then (laws_FnTimes.j0 k l0 bt343.2.2.2 bt348.2.2.2 true bt335.1 bt335.2.1 bt335.2.2.1 bt335.2.2.2.1 bt335.2.2.2.2.1 bt335.2.2.2.2.2 bt343.1 bt343.2.1 bt343.2.2.1 bt348.1 bt348.2.1 bt348.2.2.1) else (laws_FnTimes.j0 k l0 bt343.2.2.2 bt348.2.2.2 (!bt343.2.2.2) bt335.1 bt335.2.1 bt335.2.2.1 bt335.2.2.2.1 bt335.2.2.2.2.1 bt335.2.2.2.2.2 bt343.1 bt343.2.1 bt343.2.2.1 bt348.1 bt348.2.1 bt348.2.2.1))))))) = some r := H
 have A2 := Aside0.mk A20
 clear A20
 by_cases c3 : t334 = true
 ·subst c3
  have H1 : (some true) = some r := by rw [if_pos rfl] at H; exact H
  clear H
  have H := H1
  clear H1
  obtain rfl := Option.some.inj H
  go_enter Tryd.func4, Tryd.ntmps4
  go_wp2_with (first | ((with_reducible refine gate_callee (f := 15) rfl ?_); refine goesL_ (some 21) rfl rfl Tryd.func15 (by kernel_rfl) rfl #[.slice A0 l0.length c0] rfl (by (try simp only [List.map_toArray, List.map_cons, List.map_nil]); first | done | rfl | (simp only [List.length_drop, List.length_take]; rfl)) ?_; (with_reducible refine (laws_big.calls _ _ l0 true _ ?side1 ?side2 A2.out).mono ?_); (case side1 => repeat (first | exact HR0.out | (with_reducible refine Kd.C_alloc ?_ _) | (with_reducible refine Kd.C_drewN ?_ _) | (with_reducible refine Kd.C_drew ?_))); (case side2 => exact HC0.out); rintro e w' ⟨rfl, ⟨nd, rfl⟩⟩; refine ⟨_, rfl, ?_⟩))
  go_ret
  exact ⟨by first | rfl | (simp [errW_none, errW_some] <;> rfl) | (simp [*, errW_none, errW_some] <;> rfl), by repeat (first | (with_reducible first | exact HB.out | apply below_alloc | apply pw_below_drewN | apply below_drew1) | exact HB.out)⟩
 ·replace c3 := Bool.eq_false_iff.mpr c3
  subst c3
  have H1 : ((spec_DrawTimesDec.f k l0).bind fun bt335 => ((impl_TimesDec.f bt335.1 bt335.2.1 bt335.2.2.1 bt335.2.2.2.1 bt335.2.2.2.2.1 bt335.2.2.2.2.2).bind fun bt343 => ((spec_TimesDec.f k bt335.1 bt335.2.1 bt335.2.2.1 bt335.2.2.2.1 bt335.2.2.2.2.1 bt335.2.2.2.2.2).bind fun bt348 => (if (!(bt343.1 == bt348.1) || (!(bt343.2.1.toList == bt348.2.1.toList) || (!(bt343.2.2.1 == bt348.2.2.1)))) = true then (laws_FnTimes.j0 k l0 bt343.2.2.2 bt348.2.2.2 true bt335.1 bt335.2.1 bt335.2.2.1 bt335.2.2.2.1 bt335.2.2.2.2.1 bt335.2.2.2.2.2 bt343.1 bt343.2.1 bt343.2.2.1 bt348.1 bt348.2.1 bt348.2.2.1) else (if (bt343.2.2.2 != bt348.2.2.2) = true then (laws_FnTimes.j0 k l0 bt343.2.2.2 bt348.2.2.2 true bt335.1 bt335.2.1 bt335.2.2.1 bt335.2.2.2.1 bt335.2.2.2.2.1 bt335.2.2.2.2.2 bt343.1 bt343.2.1 bt343.2.2.1 bt348.1 bt348.2.1 bt348.2.2.1) else (laws_FnTimes.j0 k l0 bt343.2.2.2 bt348.2.2.2 (!bt343.2.2.2) bt335.1 bt335.2.1 bt335.2.2.1 bt335.2.2.2.1 bt335.2.2.2.2.1 bt335.2.2.2.2.2 bt343.1 bt343.2.1 bt343.2.2.1 bt348.1 bt348.2.1 bt348.2.2.1)))))) = some r := by rw [if_neg (show ¬ (false = true) by decide)] at H; exact H
  clear H
  have H := H1
  clear H1
  replace H := Option.bind_eq_some_iff.mp H
  obtain ⟨⟨t335, t336, t337, t338, t339, t340⟩, A40, H⟩ := H
  replace H : ((impl_TimesDec.f t335 t336 t337 t338 t339 t340).bind fun bt343 => ((spec_TimesDec.f k t335 t336 t337 t338 t339 t340).bind fun bt348 => (if (!(bt343.1 == bt348.1) || (!(bt343.2.1.toList == bt348.2.1.toList) || (!(bt343.2.2.1 == bt348.2.2.1)))) = true then (laws_FnTimes.j0 k l0 bt343.2.2.2 bt348.2.2.2 true t335 t336 t337 t338 t339 t340 bt343.1 bt343.2.1 bt343.2.2.1 bt348.1 bt348.2.1 bt348.2.2.1) else (if (bt343.2.2.2 != bt348.2.2.2) = true then (laws_FnTimes.j0 k l0 bt343.2.2.2 bt348.2.2.2 true t335 t336 t337 t338 t339 t340 bt343.1 bt343.2.1 bt343.2.2.1 bt348.1 bt348.2.1 bt348.2.2.1) else (laws_FnTimes.j0 k l0 bt343.2.2.2 bt348.2.2.2 (!bt343.2.2.2) t335 t336 t337 t338 t339 t340 bt343.1 bt343.2.1 bt343.2.2.1 bt348.1 bt348.2.1 bt348.2.2.1))))) = some r := H
  have A4 := Aside0.mk A40
  clear A40
  replace H := Option.bind_eq_some_iff.mp H
  obtain ⟨⟨t343, t344, t345, t346⟩, A50, H⟩ := H
  replace H : ((spec_TimesDec.f k t335 t336 t337 t338 t339 t340).bind fun bt348 => (if (!(t343 == bt348.1) || (!(t344.toList == bt348.2.1.toList) || (!(t345 == bt348.2.2.1)))) = true then (laws_FnTimes.j0 k l0 t346 bt348.2.2.2 true t335 t336 t337 t338 t339 t340 t343 t344 t345 bt348.1 bt348.2.1 bt348.2.2.1) else (if (t346 != bt348.2.2.2) = true then (laws_FnTimes.j0 k l0 t346 bt348.2.2.2 true t335 t336 t337 t338 t339 t340 t343 t344 t345 bt348.1 bt348.2.1 bt348.2.2.1) else (laws_FnTimes.j0 k l0 t346 bt348.2.2.2 (!t346) t335 t336 t337 t338 t339 t340 t343 t344 t345 bt348.1 bt348.2.1 bt348.2.2.1)))) = some r := H
  have A5 := Aside0.mk A50
  clear A50
  replace H := Option.bind_eq_some_iff.mp H
  obtain ⟨⟨t348, t349, t350, t351⟩, A60, H⟩ := H
  replace H : (if (!(t343 == t348) || (!(t344.toList == t349.toList) || (!(t345 == t350)))) = true then (laws_FnTimes.j0 k l0 t346 t351 true t335 t336 t337 t338 t339 t340 t343 t344 t345 t348 t349 t350) else (if (t346 != t351) = true then (laws_FnTimes.j0 k l0 t346 t351 true t335 t336 t337 t338 t339 t340 t343 t344 t345 t348 t349 t350) else (laws_FnTimes.j0 k l0 t346 t351 (!t346) t335 t336 t337 t338 t339 t340 t343 t344 t345 t348 t349 t350))) = some r := H
  have A6 := Aside0.mk A60
  clear A60
  have HC7 := Aside0.mk H
  clear H
  go_enter Tryd.func4, Tryd.ntmps4
  go_upto_region 6 with (first | ((with_reducible refine gate_callee (f := 15) rfl ?_); refine goesL_ (some 21) rfl rfl Tryd.func15 (by kernel_rfl) rfl #[.slice A0 l0.length c0] rfl (by (try simp only [List.map_toArray, List.map_cons, List.map_nil]); first | done | rfl | (simp only [List.length_drop, List.length_take]; rfl)) ?_; (with_reducible refine (laws_big.calls _ _ l0 false _ ?side1 ?side2 A2.out).mono ?_); (case side1 => repeat (first | exact HR0.out | (with_reducible refine Kd.C_alloc ?_ _) | (with_reducible refine Kd.C_drewN ?_ _) | (with_reducible refine Kd.C_drew ?_))); (case side2 => exact HC0.out); rintro e w' ⟨rfl, ⟨nd, rfl⟩⟩; refine ⟨_, rfl, ?_⟩) | ((with_reducible refine gate_callee (f := 16) rfl ?_); refine goesL_ (some 24) rfl rfl Tryd.func16 (by kernel_rfl) rfl #[.slice A0 l0.length c0] rfl (by (try simp only [List.map_toArray, List.map_cons, List.map_nil]); first | done | rfl | (simp only [List.length_drop, List.length_take]; rfl)) ?_; (with_reducible refine (spec_DrawTimesDec.calls k _ _ l0 t335 t336 t337 t338 t339 t340 _ ?side1 ?side2 A4.out).mono ?_); (case side1 => repeat (first | exact HR0.out | (with_reducible refine Kd.C_alloc ?_ _) | (with_reducible refine Kd.C_drewN ?_ _) | (with_reducible refine Kd.C_drew ?_))); (case side2 => exact HC0.out); rintro e w8 ⟨rfl, hb⟩; refine ⟨_, rfl, ?_⟩; have n0_ := Aside0.mk (below_step (by repeat (first | (with_reducible first | exact HB.out | apply below_alloc | apply pw_below_drewN | apply below_drew1) | exact HB.out)) hb); clear HB; have HB := n0_; clear n0_; (try clear hb); (try clear hb2); (try clear hk); (try clear hi)) | ((with_reducible refine gate_dst (N := 3) rfl ?_); refine box_event ?hg (N := 3) ?hd (cs := #[.bool false, .string (⟨#[]⟩ : ByteArray), .int .i64 0]) (t := 26) ?hr ?_; (case hd => rfl); (case hg => rfl); (case hr => first | (go_simp; done) | (go_simp; rfl)); intro gb341 hg w9 hbox hb; have n0_ := Aside0.mk (below_step (by repeat (first | (with_reducible first | exact HB.out | apply below_alloc | apply pw_below_drewN | apply below_drew1) | exact HB.out)) hb); have n1_ := Aside0.mk (hbox); have n2_ := Aside0.mk ((by rw [hg]; exact (below_size (by repeat (first | (with_reducible first | exact HB.out | apply below_alloc | apply pw_below_drewN | apply below_drew1) | exact HB.out))) : w.heap.size ≤ gb341)); have n3_ := Aside0.mk ((by rw [hg]; exact (below_size (by repeat (first | (with_reducible first | exact HB.out | apply below_alloc | apply pw_below_drewN | apply below_drew1) | exact HB.out))) : w.heap.size ≤ gb341)); clear HB; have HB := n0_; have BK341 := n1_; have GW341 := n2_; have GE341 := n3_; clear n0_ n1_ n2_ n3_; clear hb hbox hg) | ((with_reducible refine gate_dst (N := 4) rfl ?_); refine box_event ?hg (N := 4) ?hd (cs := #[.bool false, .string (⟨#[]⟩ : ByteArray), .int .i64 0]) (t := 26) ?hr ?_; (case hd => rfl); (case hg => rfl); (case hr => first | (go_simp; done) | (go_simp; rfl)); intro gb342 hg w10 hbox hb; have n0_ := Aside0.mk (blk_below (g := gb341) (o := .cells #[.bool false, .string (⟨#[]⟩ : ByteArray), .int .i64 0] 26 (0, 0)) (by refine blk_up ?_; exact BK341.out) hb); have n1_ := Aside0.mk (below_step (by repeat (first | (with_reducible first | exact HB.out | apply below_alloc | apply pw_below_drewN | apply below_drew1 | refine below_set ?_ GE341.out) | exact HB.out)) hb); have n2_ := Aside0.mk (hbox); have n3_ := Aside0.mk ((by rw [hg]; exact (below_size (by repeat (first | (with_reducible first | exact HB.out | apply below_alloc | apply pw_below_drewN | apply below_drew1 | refine below_set ?_ GE341.out) | exact HB.out))) : w.heap.size ≤ gb342)); have n4_ := Aside0.mk ((by rw [hg]; exact (below_size (by repeat (first | (with_reducible first | exact HB.out | apply below_alloc | apply pw_below_drewN | apply below_drew1 | refine below_set ?_ GE341.out) | exact HB.out))) : w.heap.size ≤ gb342)); have n5_ := Aside0.mk ((by rw [hg]; exact Nat.ne_of_lt (blk_lt (g := gb341) (o := .cells #[.bool false, .string (⟨#[]⟩ : ByteArray), .int .i64 0] 26 (0, 0)) (by refine blk_up ?_; exact BK341.out)) : gb341 ≠ gb342)); have n6_ := Aside0.mk ((by rw [hg]; exact Nat.ne_of_gt (blk_lt (g := gb341) (o := .cells #[.bool false, .string (⟨#[]⟩ : ByteArray), .int .i64 0] 26 (0, 0)) (by refine blk_up ?_; exact BK341.out)) : gb342 ≠ gb341)); clear BK341; clear HB; have BK341 := n0_; have HB := n1_; have BK342 := n2_; have GW342 := n3_; have GE342 := n4_; have NB341_342 := n5_; have NB342_341 := n6_; clear n0_ n1_ n2_ n3_ n4_ n5_ n6_; clear hb hbox hg; have hnb11 := NB341_342.out; have hnc11 := NB342_341.out; have hcz12_0 : w10.cell? ⟨gb341, 0, none⟩ = some (.bool false) := (blk_cell BK341.out 0).trans rfl; have hcz12_1 : w10.cell? ⟨gb341, 1, none⟩ = some (.string (⟨#[]⟩ : ByteArray)) := (blk_cell BK341.out 1).trans rfl; have hcz12_2 : w10.cell? ⟨gb341, 2, none⟩ = some (.int .i64 0) := (blk_cell BK341.out 2).trans rfl; have hfz12_0 := blk_frozen BK341.out 0; have hfz12_1 := blk_frozen BK341.out 1; have hfz12_2 := blk_frozen BK341.out 2; have hcz13_0 : w10.cell? ⟨gb342, 0, none⟩ = some (.bool false) := (blk_cell BK342.out 0).trans rfl; have hcz13_1 : w10.cell? ⟨gb342, 1, none⟩ = some (.string (⟨#[]⟩ : ByteArray)) := (blk_cell BK342.out 1).trans rfl; have hcz13_2 : w10.cell? ⟨gb342, 2, none⟩ = some (.int .i64 0) := (blk_cell BK342.out 2).trans rfl; have hfz13_0 := blk_frozen BK342.out 0; have hfz13_1 := blk_frozen BK342.out 1; have hfz13_2 := blk_frozen BK342.out 2) | ((with_reducible refine gate_callee (f := 17) rfl ?_); refine goesL_ (some 30) rfl rfl Tryd.func17 (by kernel_rfl) rfl #[.agg #[.bool t335, .string t336, .int .i64 t337], .agg #[.bool t338, .string t339, .int .i64 t340]] rfl (by (try simp only [List.map_toArray, List.map_cons, List.map_nil]); first | done | rfl | (simp only [List.length_drop, List.length_take]; rfl)) ?_; (with_reducible refine (impl_TimesDec.calls t335 t336 t337 t338 t339 t340 t343 t344 t345 t346 _ A5.out).mono ?_); rintro e w14 ⟨rfl, hb⟩; refine ⟨_, rfl, ?_⟩; have n0_ := Aside0.mk (blk_below (g := gb341) (o := .cells #[.bool t335, .string t336, .int .i64 t337] 26 (0, 0)) (by refine blk_up ?_; refine blk_far ?_ NB341_342.out _; refine blk_up ?_; refine blk_far ?_ NB341_342.out _; refine blk_up ?_; refine blk_far ?_ NB341_342.out _; refine blk_up ?_; refine blk_put (cs := #[.bool t335, .string t336, .int .i64 0]) ?_ 2 _ rfl; refine blk_up ?_; refine blk_put (cs := #[.bool t335, .string (⟨#[]⟩ : ByteArray), .int .i64 0]) ?_ 1 _ rfl; refine blk_up ?_; refine blk_put (cs := #[.bool false, .string (⟨#[]⟩ : ByteArray), .int .i64 0]) ?_ 0 _ rfl; refine blk_up ?_; exact BK341.out) hb); have n1_ := Aside0.mk (blk_below (g := gb342) (o := .cells #[.bool t338, .string t339, .int .i64 t340] 26 (0, 0)) (by refine blk_up ?_; refine blk_put (cs := #[.bool t338, .string t339, .int .i64 0]) ?_ 2 _ rfl; refine blk_up ?_; refine blk_put (cs := #[.bool t338, .string (⟨#[]⟩ : ByteArray), .int .i64 0]) ?_ 1 _ rfl; refine blk_up ?_; refine blk_put (cs := #[.bool false, .string (⟨#[]⟩ : ByteArray), .int .i64 0]) ?_ 0 _ rfl; refine blk_up ?_; refine blk_far ?_ NB342_341.out _; refine blk_up ?_; refine blk_far ?_ NB342_341.out _; refine blk_up ?_; refine blk_far ?_ NB342_341.out _; refine blk_up ?_; exact BK342.out) hb); have n2_ := Aside0.mk (below_step (by repeat (first | (with_reducible first | exact HB.out | apply below_alloc | apply pw_below_drewN | apply below_drew1 | refine below_set ?_ GE341.out | refine below_set ?_ GE342.out) | exact HB.out)) hb); clear BK341; clear BK342; clear HB; have BK341 := n0_; have BK342 := n1_; have HB := n2_; clear n0_ n1_ n2_; (try clear hb); (try clear hb2); (try clear hk); (try clear hi)) | ((with_reducible refine gate_dst (N := 5) rfl ?_); refine box_event ?hg (N := 5) ?hd (cs := #[.bool false, .string (⟨#[]⟩ : ByteArray), .int .i64 0]) (t := 26) ?hr ?_; (case hd => rfl); (case hg => rfl); (case hr => first | (go_simp; done) | (go_simp; rfl)); intro gb347 hg w15 hbox hb; have n0_ := Aside0.mk (blk_below (g := gb341) (o := .cells #[.bool t335, .string t336, .int .i64 t337] 26 (0, 0)) (by refine blk_up ?_; exact BK341.out) hb); have n1_ := Aside0.mk (blk_below (g := gb342) (o := .cells #[.bool t338, .string t339, .int .i64 t340] 26 (0, 0)) (by refine blk_up ?_; exact BK342.out) hb); have n2_ := Aside0.mk (below_step (by repeat (first | (with_reducible first | exact HB.out | apply below_alloc | apply pw_below_drewN | apply below_drew1 | refine below_set ?_ GE341.out | refine below_set ?_ GE342.out) | exact HB.out)) hb); have n3_ := Aside0.mk (hbox); have n4_ := Aside0.mk ((by rw [hg]; exact (below_size (by repeat (first | (with_reducible first | exact HB.out | apply below_alloc | apply pw_below_drewN | apply below_drew1 | refine below_set ?_ GE341.out | refine below_set ?_ GE342.out) | exact HB.out))) : w.heap.size ≤ gb347)); have n5_ := Aside0.mk ((by rw [hg]; exact (below_size (by repeat (first | (with_reducible first | exact HB.out | apply below_alloc | apply pw_below_drewN | apply below_drew1 | refine below_set ?_ GE341.out | refine below_set ?_ GE342.out) | exact HB.out))) : w.heap.size ≤ gb347)); have n6_ := Aside0.mk ((by rw [hg]; exact Nat.ne_of_lt (blk_lt (g := gb341) (o := .cells #[.bool t335, .string t336, .int .i64 t337] 26 (0, 0)) (by refine blk_up ?_; exact BK341.out)) : gb341 ≠ gb347)); have n7_ := Aside0.mk ((by rw [hg]; exact Nat.ne_of_gt (blk_lt (g := gb341) (o := .cells #[.bool t335, .string t336, .int .i64 t337] 26 (0, 0)) (by refine blk_up ?_; exact BK341.out)) : gb347 ≠ gb341)); have n8_ := Aside0.mk ((by rw [hg]; exact Nat.ne_of_lt (blk_lt (g := gb342) (o := .cells #[.bool t338, .string t339, .int .i64 t340] 26 (0, 0)) (by refine blk_up ?_; exact BK342.out)) : gb342 ≠ gb347)); have n9_ := Aside0.mk ((by rw [hg]; exact Nat.ne_of_gt (blk_lt (g := gb342) (o := .cells #[.bool t338, .string t339, .int .i64 t340] 26 (0, 0)) (by refine blk_up ?_; exact BK342.out)) : gb347 ≠ gb342)); clear BK341; clear BK342; clear HB; have BK341 := n0_; have BK342 := n1_; have HB := n2_; have BK347 := n3_; have GW347 := n4_; have GE347 := n5_; have NB341_347 := n6_; have NB347_341 := n7_; have NB342_347 := n8_; have NB347_342 := n9_; clear n0_ n1_ n2_ n3_ n4_ n5_ n6_ n7_ n8_ n9_; clear hb hbox hg; have hnb16 := NB347_341.out; have hnc16 := NB341_347.out; have hnb17 := NB347_342.out; have hnc17 := NB342_347.out; have hcz18_0 : w15.cell? ⟨gb347, 0, none⟩ = some (.bool false) := (blk_cell BK347.out 0).trans rfl; have hcz18_1 : w15.cell? ⟨gb347, 1, none⟩ = some (.string (⟨#[]⟩ : ByteArray)) := (blk_cell BK347.out 1).trans rfl; have hcz18_2 : w15.cell? ⟨gb347, 2, none⟩ = some (.int .i64 0) := (blk_cell BK347.out 2).trans rfl; have hfz18_0 := blk_frozen BK347.out 0; have hfz18_1 := blk_frozen BK347.out 1; have hfz18_2 := blk_frozen BK347.out 2; have hcz19_0 : w15.cell? ⟨gb341, 0, none⟩ = some (.bool t335) := (blk_cell BK341.out 0).trans rfl; have hcz19_1 : w15.cell? ⟨gb341, 1, none⟩ = some (.string t336) := (blk_cell BK341.out 1).trans rfl; have hcz19_2 : w15.cell? ⟨gb341, 2, none⟩ = some (.int .i64 t337) := (blk_cell BK341.out 2).trans rfl; have hfz19_0 := blk_frozen BK341.out 0; have hfz19_1 := blk_frozen BK341.out 1; have hfz19_2 := blk_frozen BK341.out 2; have hcz20_0 : w15.cell? ⟨gb342, 0, none⟩ = some (.bool t338) := (blk_cell BK342.out 0).trans rfl; have hcz20_1 : w15.cell? ⟨gb342, 1, none⟩ = some (.string t339) := (blk_cell BK342.out 1).trans rfl; have hcz20_2 : w15.cell? ⟨gb342, 2, none⟩ = some (.int .i64 t340) := (blk_cell BK342.out 2).trans rfl; have hfz20_0 := blk_frozen BK342.out 0; have hfz20_1 := blk_frozen BK342.out 1; have hfz20_2 := blk_frozen BK342.out 2) | ((with_reducible refine gate_callee (f := 18) rfl ?_); refine goesL_ (some 36) rfl rfl Tryd.func18 (by kernel_rfl) rfl #[.agg #[.bool t335, .string t336, .int .i64 t337], .agg #[.bool t338, .string t339, .int .i64 t340]] rfl (by (try simp only [List.map_toArray, List.map_cons, List.map_nil]); first | done | rfl | (simp only [List.length_drop, List.length_take]; rfl)) ?_; (with_reducible refine (spec_TimesDec.calls k t335 t336 t337 t338 t339 t340 t348 t349 t350 t351 _ A6.out).mono ?_); rintro e w21 ⟨rfl, hb⟩; refine ⟨_, rfl, ?_⟩; have n0_ := Aside0.mk (blk_below (g := gb341) (o := .cells #[.bool t335, .string t336, .int .i64 t337] 26 (0, 0)) (by refine blk_up ?_; refine blk_far ?_ NB341_347.out _; refine blk_up ?_; refine blk_far ?_ NB341_347.out _; refine blk_up ?_; refine blk_far ?_ NB341_347.out _; refine blk_up ?_; exact BK341.out) hb); have n1_ := Aside0.mk (blk_below (g := gb342) (o := .cells #[.bool t338, .string t339, .int .i64 t340] 26 (0, 0)) (by refine blk_up ?_; refine blk_far ?_ NB342_347.out _; refine blk_up ?_; refine blk_far ?_ NB342_347.out _; refine blk_up ?_; refine blk_far ?_ NB342_347.out _; refine blk_up ?_; exact BK342.out) hb); have n2_ := Aside0.mk (blk_below (g := gb347) (o := .cells #[.bool t343, .string t344, .int .i64 t345] 26 (0, 0)) (by refine blk_up ?_; refine blk_put (cs := #[.bool t343, .string t344, .int .i64 0]) ?_ 2 _ rfl; refine blk_up ?_; refine blk_put (cs := #[.bool t343, .string (⟨#[]⟩ : ByteArray), .int .i64 0]) ?_ 1 _ rfl; refine blk_up ?_; refine blk_put (cs := #[.bool false, .string (⟨#[]⟩ : ByteArray), .int .i64 0]) ?_ 0 _ rfl; refine blk_up ?_; exact BK347.out) hb); have n3_ := Aside0.mk (below_step (by repeat (first | (with_reducible first | exact HB.out | apply below_alloc | apply pw_below_drewN | apply below_drew1 | refine below_set ?_ GE341.out | refine below_set ?_ GE342.out | refine below_set ?_ GE347.out) | exact HB.out)) hb); clear BK341; clear BK342; clear BK347; clear HB; have BK341 := n0_; have BK342 := n1_; have BK347 := n2_; have HB := n3_; clear n0_ n1_ n2_ n3_; (try clear hb); (try clear hb2); (try clear hk); (try clear hi)) | ((with_reducible refine gate_dst (N := 7) rfl ?_); refine box_event ?hg (N := 7) ?hd (cs := #[.bool false, .string (⟨#[]⟩ : ByteArray), .int .i64 0]) (t := 26) ?hr ?_; (case hd => rfl); (case hg => rfl); (case hr => first | (go_simp; done) | (go_simp; rfl)); intro gb352 hg w22 hbox hb; have n0_ := Aside0.mk (blk_below (g := gb341) (o := .cells #[.bool t335, .string t336, .int .i64 t337] 26 (0, 0)) (by refine blk_up ?_; exact BK341.out) hb); have n1_ := Aside0.mk (blk_below (g := gb342) (o := .cells #[.bool t338, .string t339, .int .i64 t340] 26 (0, 0)) (by refine blk_up ?_; exact BK342.out) hb); have n2_ := Aside0.mk (blk_below (g := gb347) (o := .cells #[.bool t343, .string t344, .int .i64 t345] 26 (0, 0)) (by refine blk_up ?_; exact BK347.out) hb); have n3_ := Aside0.mk (below_step (by repeat (first | (with_reducible first | exact HB.out | apply below_alloc | apply pw_below_drewN | apply below_drew1 | refine below_set ?_ GE341.out | refine below_set ?_ GE342.out | refine below_set ?_ GE347.out) | exact HB.out)) hb); have n4_ := Aside0.mk (hbox); have n5_ := Aside0.mk ((by rw [hg]; exact (below_size (by repeat (first | (with_reducible first | exact HB.out | apply below_alloc | apply pw_below_drewN | apply below_drew1 | refine below_set ?_ GE341.out | refine below_set ?_ GE342.out | refine below_set ?_ GE347.out) | exact HB.out))) : w.heap.size ≤ gb352)); have n6_ := Aside0.mk ((by rw [hg]; exact (below_size (by repeat (first | (with_reducible first | exact HB.out | apply below_alloc | apply pw_below_drewN | apply below_drew1 | refine below_set ?_ GE341.out | refine below_set ?_ GE342.out | refine below_set ?_ GE347.out) | exact HB.out))) : w.heap.size ≤ gb352)); have n7_ := Aside0.mk ((by rw [hg]; exact Nat.ne_of_lt (blk_lt (g := gb341) (o := .cells #[.bool t335, .string t336, .int .i64 t337] 26 (0, 0)) (by refine blk_up ?_; exact BK341.out)) : gb341 ≠ gb352)); have n8_ := Aside0.mk ((by rw [hg]; exact Nat.ne_of_gt (blk_lt (g := gb341) (o := .cells #[.bool t335, .string t336, .int .i64 t337] 26 (0, 0)) (by refine blk_up ?_; exact BK341.out)) : gb352 ≠ gb341)); have n9_ := Aside0.mk ((by rw [hg]; exact Nat.ne_of_lt (blk_lt (g := gb342) (o := .cells #[.bool t338, .string t339, .int .i64 t340] 26 (0, 0)) (by refine blk_up ?_; exact BK342.out)) : gb342 ≠ gb352)); have n10_ := Aside0.mk ((by rw [hg]; exact Nat.ne_of_gt (blk_lt (g := gb342) (o := .cells #[.bool t338, .string t339, .int .i64 t340] 26 (0, 0)) (by refine blk_up ?_; exact BK342.out)) : gb352 ≠ gb342)); have n11_ := Aside0.mk ((by rw [hg]; exact Nat.ne_of_lt (blk_lt (g := gb347) (o := .cells #[.bool t343, .string t344, .int .i64 t345] 26 (0, 0)) (by refine blk_up ?_; exact BK347.out)) : gb347 ≠ gb352)); have n12_ := Aside0.mk ((by rw [hg]; exact Nat.ne_of_gt (blk_lt (g := gb347) (o := .cells #[.bool t343, .string t344, .int .i64 t345] 26 (0, 0)) (by refine blk_up ?_; exact BK347.out)) : gb352 ≠ gb347)); clear BK341; clear BK342; clear BK347; clear HB; have BK341 := n0_; have BK342 := n1_; have BK347 := n2_; have HB := n3_; have BK352 := n4_; have GW352 := n5_; have GE352 := n6_; have NB341_352 := n7_; have NB352_341 := n8_; have NB342_352 := n9_; have NB352_342 := n10_; have NB347_352 := n11_; have NB352_347 := n12_; clear n0_ n1_ n2_ n3_ n4_ n5_ n6_ n7_ n8_ n9_ n10_ n11_ n12_; clear hb hbox hg; have hnb23 := NB352_341.out; have hnc23 := NB341_352.out; have hnb24 := NB352_342.out; have hnc24 := NB342_352.out; have hnb25 := NB352_347.out; have hnc25 := NB347_352.out; have hcz26_0 : w22.cell? ⟨gb352, 0, none⟩ = some (.bool false) := (blk_cell BK352.out 0).trans rfl; have hcz26_1 : w22.cell? ⟨gb352, 1, none⟩ = some (.string (⟨#[]⟩ : ByteArray)) := (blk_cell BK352.out 1).trans rfl; have hcz26_2 : w22.cell? ⟨gb352, 2, none⟩ = some (.int .i64 0) := (blk_cell BK352.out 2).trans rfl; have hfz26_0 := blk_frozen BK352.out 0; have hfz26_1 := blk_frozen BK352.out 1; have hfz26_2 := blk_frozen BK352.out 2))
  (try simp only [Act.put, List.setIfInBounds_toArray, List.set_cons_zero, List.set_cons_succ])
  go_cut [50] (fun v50 wc => ∃ (kq : Nat) (x50_6 : Bool), v50 = .bool x50_6 ∧ Aside0 (laws_FnTimes.j0 kq l0 t346 t351 x50_6 t335 t336 t337 t338 t339 t340 t343 t344 t345 t348 t349 t350 = some r) ∧ Aside0 (kq ≤ k) ∧ Aside0 (wc.heap[gb341]? = some (.cells #[.bool t335, .string t336, .int .i64 t337] 26 (0, 0))) ∧ Aside0 (wc.heap[gb342]? = some (.cells #[.bool t338, .string t339, .int .i64 t340] 26 (0, 0))) ∧ Aside0 (wc.heap[gb347]? = some (.cells #[.bool t343, .string t344, .int .i64 t345] 26 (0, 0))) ∧ Aside0 (wc.heap[gb352]? = some (.cells #[.bool t348, .string t349, .int .i64 t350] 26 (0, 0))) ∧ Aside0 (Below w.heap.size w wc))
  case first =>
   have H := HC7.out
   clear HC7
   by_cases c27 : (!(t343 == t348) || (!(t344.toList == t349.toList) || (!(t345 == t350)))) = true
   ·rw [if_pos c27] at H
    have c27b0 : (!(t343 == t348) || (!(t344.toList == t349.toList) || (!(t345 == t350)))) = true := c27
    clear c27
    (first | rw [c27b0] | (simp only [i64_w, i32_w]; rw [c27b0]) | skip)
    have H' := Aside0.mk H
    clear H
    have hnb28 := NB347_341.out
    have hnc28 := NB341_347.out
    have hnb29 := NB347_342.out
    have hnc29 := NB342_347.out
    have hnb30 := NB347_352.out
    have hnc30 := NB352_347.out
    have hcz31_0 : w22.cell? ⟨gb347, 0, none⟩ = some (.bool t343) := (blk_cell BK347.out 0).trans rfl
    have hcz31_1 : w22.cell? ⟨gb347, 1, none⟩ = some (.string t344) := (blk_cell BK347.out 1).trans rfl
    have hcz31_2 : w22.cell? ⟨gb347, 2, none⟩ = some (.int .i64 t345) := (blk_cell BK347.out 2).trans rfl
    have hfz31_0 := blk_frozen BK347.out 0
    have hfz31_1 := blk_frozen BK347.out 1
    have hfz31_2 := blk_frozen BK347.out 2
    have hnb32 := NB352_341.out
    have hnc32 := NB341_352.out
    have hnb33 := NB352_342.out
    have hnc33 := NB342_352.out
    have hcz34_0 : w22.cell? ⟨gb352, 0, none⟩ = some (.bool false) := (blk_cell BK352.out 0).trans rfl
    have hcz34_1 : w22.cell? ⟨gb352, 1, none⟩ = some (.string (⟨#[]⟩ : ByteArray)) := (blk_cell BK352.out 1).trans rfl
    have hcz34_2 : w22.cell? ⟨gb352, 2, none⟩ = some (.int .i64 0) := (blk_cell BK352.out 2).trans rfl
    have hfz34_0 := blk_frozen BK352.out 0
    have hfz34_1 := blk_frozen BK352.out 1
    have hfz34_2 := blk_frozen BK352.out 2
    go_wp2
    go_meet
    case rel => exact ⟨_, (true), (by first | rfl | (simp; done) | (simp [*]; done)), H', ⟨by first | omega | exact Nat.le_refl _⟩, ⟨by refine blk_up ?_; refine blk_far ?_ NB341_352.out _; refine blk_up ?_; refine blk_far ?_ NB341_352.out _; refine blk_up ?_; refine blk_far ?_ NB341_352.out _; refine blk_up ?_; exact BK341.out⟩, ⟨by refine blk_up ?_; refine blk_far ?_ NB342_352.out _; refine blk_up ?_; refine blk_far ?_ NB342_352.out _; refine blk_up ?_; refine blk_far ?_ NB342_352.out _; refine blk_up ?_; exact BK342.out⟩, ⟨by refine blk_up ?_; refine blk_far ?_ NB347_352.out _; refine blk_up ?_; refine blk_far ?_ NB347_352.out _; refine blk_up ?_; refine blk_far ?_ NB347_352.out _; refine blk_up ?_; exact BK347.out⟩, ⟨by refine blk_up ?_; refine blk_put (cs := #[.bool t348, .string t349, .int .i64 0]) ?_ 2 _ rfl; refine blk_up ?_; refine blk_put (cs := #[.bool t348, .string (⟨#[]⟩ : ByteArray), .int .i64 0]) ?_ 1 _ rfl; refine blk_up ?_; refine blk_put (cs := #[.bool false, .string (⟨#[]⟩ : ByteArray), .int .i64 0]) ?_ 0 _ rfl; refine blk_up ?_; exact BK352.out⟩, ⟨by repeat (first | (with_reducible first | exact HB.out | apply below_alloc | apply pw_below_drewN | apply below_drew1 | refine below_set ?_ GE341.out | refine below_set ?_ GE342.out | refine below_set ?_ GE347.out | refine below_set ?_ GE352.out) | exact HB.out)⟩⟩
   ·rw [if_neg c27] at H
    have c27b0 : (!(t343 == t348) || (!(t344.toList == t349.toList) || (!(t345 == t350)))) = false := by simpa using c27
    clear c27
    (first | rw [c27b0] | (simp only [i64_w, i32_w]; rw [c27b0]) | skip)
    by_cases c35 : (t346 != t351) = true
    ·rw [if_pos c35] at H
     have c35b0 : (t346 != t351) = true := c35
     (try (have c35b1 : decide (t346 = t351) = false := by simpa using c35))
     (try (have c35b2 : (t346 == t351) = false := by simpa using c35))
     (try (have c35b3 : ¬ (t346 = t351) := by simpa using c35))
     clear c35
     have H' := Aside0.mk H
     clear H
     have hnb36 := NB347_341.out
     have hnc36 := NB341_347.out
     have hnb37 := NB347_342.out
     have hnc37 := NB342_347.out
     have hnb38 := NB347_352.out
     have hnc38 := NB352_347.out
     have hcz39_0 : w22.cell? ⟨gb347, 0, none⟩ = some (.bool t343) := (blk_cell BK347.out 0).trans rfl
     have hcz39_1 : w22.cell? ⟨gb347, 1, none⟩ = some (.string t344) := (blk_cell BK347.out 1).trans rfl
     have hcz39_2 : w22.cell? ⟨gb347, 2, none⟩ = some (.int .i64 t345) := (blk_cell BK347.out 2).trans rfl
     have hfz39_0 := blk_frozen BK347.out 0
     have hfz39_1 := blk_frozen BK347.out 1
     have hfz39_2 := blk_frozen BK347.out 2
     have hnb40 := NB352_341.out
     have hnc40 := NB341_352.out
     have hnb41 := NB352_342.out
     have hnc41 := NB342_352.out
     have hcz42_0 : w22.cell? ⟨gb352, 0, none⟩ = some (.bool false) := (blk_cell BK352.out 0).trans rfl
     have hcz42_1 : w22.cell? ⟨gb352, 1, none⟩ = some (.string (⟨#[]⟩ : ByteArray)) := (blk_cell BK352.out 1).trans rfl
     have hcz42_2 : w22.cell? ⟨gb352, 2, none⟩ = some (.int .i64 0) := (blk_cell BK352.out 2).trans rfl
     have hfz42_0 := blk_frozen BK352.out 0
     have hfz42_1 := blk_frozen BK352.out 1
     have hfz42_2 := blk_frozen BK352.out 2
     go_wp2
     go_meet
     case rel => exact ⟨_, (true), (by first | rfl | (simp; done) | (simp [*]; done)), H', ⟨by first | omega | exact Nat.le_refl _⟩, ⟨by refine blk_up ?_; refine blk_far ?_ NB341_352.out _; refine blk_up ?_; refine blk_far ?_ NB341_352.out _; refine blk_up ?_; refine blk_far ?_ NB341_352.out _; refine blk_up ?_; exact BK341.out⟩, ⟨by refine blk_up ?_; refine blk_far ?_ NB342_352.out _; refine blk_up ?_; refine blk_far ?_ NB342_352.out _; refine blk_up ?_; refine blk_far ?_ NB342_352.out _; refine blk_up ?_; exact BK342.out⟩, ⟨by refine blk_up ?_; refine blk_far ?_ NB347_352.out _; refine blk_up ?_; refine blk_far ?_ NB347_352.out _; refine blk_up ?_; refine blk_far ?_ NB347_352.out _; refine blk_up ?_; exact BK347.out⟩, ⟨by refine blk_up ?_; refine blk_put (cs := #[.bool t348, .string t349, .int .i64 0]) ?_ 2 _ rfl; refine blk_up ?_; refine blk_put (cs := #[.bool t348, .string (⟨#[]⟩ : ByteArray), .int .i64 0]) ?_ 1 _ rfl; refine blk_up ?_; refine blk_put (cs := #[.bool false, .string (⟨#[]⟩ : ByteArray), .int .i64 0]) ?_ 0 _ rfl; refine blk_up ?_; exact BK352.out⟩, ⟨by repeat (first | (with_reducible first | exact HB.out | apply below_alloc | apply pw_below_drewN | apply below_drew1 | refine below_set ?_ GE341.out | refine below_set ?_ GE342.out | refine below_set ?_ GE347.out | refine below_set ?_ GE352.out) | exact HB.out)⟩⟩
    ·rw [if_neg c35] at H
     have c35b0 : (t346 != t351) = false := by simpa using c35
     (try (have c35b1 : decide (t346 = t351) = true := by simpa using c35))
     (try (have c35b2 : (t346 == t351) = true := by simpa using c35))
     clear c35
     have H' := Aside0.mk H
     clear H
     have hnb43 := NB347_341.out
     have hnc43 := NB341_347.out
     have hnb44 := NB347_342.out
     have hnc44 := NB342_347.out
     have hnb45 := NB347_352.out
     have hnc45 := NB352_347.out
     have hcz46_0 : w22.cell? ⟨gb347, 0, none⟩ = some (.bool t343) := (blk_cell BK347.out 0).trans rfl
     have hcz46_1 : w22.cell? ⟨gb347, 1, none⟩ = some (.string t344) := (blk_cell BK347.out 1).trans rfl
     have hcz46_2 : w22.cell? ⟨gb347, 2, none⟩ = some (.int .i64 t345) := (blk_cell BK347.out 2).trans rfl
     have hfz46_0 := blk_frozen BK347.out 0
     have hfz46_1 := blk_frozen BK347.out 1
     have hfz46_2 := blk_frozen BK347.out 2
     have hnb47 := NB352_341.out
     have hnc47 := NB341_352.out
     have hnb48 := NB352_342.out
     have hnc48 := NB342_352.out
     have hcz49_0 : w22.cell? ⟨gb352, 0, none⟩ = some (.bool false) := (blk_cell BK352.out 0).trans rfl
     have hcz49_1 : w22.cell? ⟨gb352, 1, none⟩ = some (.string (⟨#[]⟩ : ByteArray)) := (blk_cell BK352.out 1).trans rfl
     have hcz49_2 : w22.cell? ⟨gb352, 2, none⟩ = some (.int .i64 0) := (blk_cell BK352.out 2).trans rfl
     have hfz49_0 := blk_frozen BK352.out 0
     have hfz49_1 := blk_frozen BK352.out 1
     have hfz49_2 := blk_frozen BK352.out 2
     go_wp2
     go_meet
     case rel => exact ⟨_, (!t346), (by first | rfl | (simp; done) | (simp [*]; done)), H', ⟨by first | omega | exact Nat.le_refl _⟩, ⟨by refine blk_up ?_; refine blk_far ?_ NB341_352.out _; refine blk_up ?_; refine blk_far ?_ NB341_352.out _; refine blk_up ?_; refine blk_far ?_ NB341_352.out _; refine blk_up ?_; exact BK341.out⟩, ⟨by refine blk_up ?_; refine blk_far ?_ NB342_352.out _; refine blk_up ?_; refine blk_far ?_ NB342_352.out _; refine blk_up ?_; refine blk_far ?_ NB342_352.out _; refine blk_up ?_; exact BK342.out⟩, ⟨by refine blk_up ?_; refine blk_far ?_ NB347_352.out _; refine blk_up ?_; refine blk_far ?_ NB347_352.out _; refine blk_up ?_; refine blk_far ?_ NB347_352.out _; refine blk_up ?_; exact BK347.out⟩, ⟨by refine blk_up ?_; refine blk_put (cs := #[.bool t348, .string t349, .int .i64 0]) ?_ 2 _ rfl; refine blk_up ?_; refine blk_put (cs := #[.bool t348, .string (⟨#[]⟩ : ByteArray), .int .i64 0]) ?_ 1 _ rfl; refine blk_up ?_; refine blk_put (cs := #[.bool false, .string (⟨#[]⟩ : ByteArray), .int .i64 0]) ?_ 0 _ rfl; refine blk_up ?_; exact BK352.out⟩, ⟨by repeat (first | (with_reducible first | exact HB.out | apply below_alloc | apply pw_below_drewN | apply below_drew1 | refine below_set ?_ GE341.out | refine below_set ?_ GE342.out | refine below_set ?_ GE347.out | refine below_set ?_ GE352.out) | exact HB.out)⟩⟩
  case rest =>
   clear HC7
   try clear c1
   try clear c2
   try clear p2
   try clear c3
   try clear c4
   try clear c11
   try clear c15
   try clear c16
   try clear c17
   try clear c18
   try clear c23
   try clear c24
   try clear c25
   try clear c27
   try clear c27b0
   try clear c28
   try clear c29
   try clear c30
   try clear c32
   try clear c33
   try clear c35
   try clear c35b0
   try clear c35b1
   try clear c35b2
   try clear c36
   try clear c37
   try clear c38
   try clear c40
   try clear c41
   try clear c43
   try clear c44
   try clear c45
   try clear c47
   try clear c48
   try clear hcz12_0
   try clear hcz12_1
   try clear hcz12_2
   try clear hcz13_0
   try clear hcz13_1
   try clear hcz13_2
   try clear hcz18_0
   try clear hcz18_1
   try clear hcz18_2
   try clear hcz19_0
   try clear hcz19_1
   try clear hcz19_2
   try clear hcz20_0
   try clear hcz20_1
   try clear hcz20_2
   try clear hcz26_0
   try clear hcz26_1
   try clear hcz26_2
   try clear hcz31_0
   try clear hcz31_1
   try clear hcz31_2
   try clear hcz34_0
   try clear hcz34_1
   try clear hcz34_2
   try clear hcz39_0
   try clear hcz39_1
   try clear hcz39_2
   try clear hcz42_0
   try clear hcz42_1
   try clear hcz42_2
   try clear hcz46_0
   try clear hcz46_1
   try clear hcz46_2
   try clear hcz49_0
   try clear hcz49_1
   try clear hcz49_2
   try clear hfz12_0
   try clear hfz12_1
   try clear hfz12_2
   try clear hfz13_0
   try clear hfz13_1
   try clear hfz13_2
   try clear hfz18_0
   try clear hfz18_1
   try clear hfz18_2
   try clear hfz19_0
   try clear hfz19_1
   try clear hfz19_2
   try clear hfz20_0
   try clear hfz20_1
   try clear hfz20_2
   try clear hfz26_0
   try clear hfz26_1
   try clear hfz26_2
   try clear hfz31_0
   try clear hfz31_1
   try clear hfz31_2
   try clear hfz34_0
   try clear hfz34_1
   try clear hfz34_2
   try clear hfz39_0
   try clear hfz39_1
   try clear hfz39_2
   try clear hfz42_0
   try clear hfz42_1
   try clear hfz42_2
   try clear hfz46_0
   try clear hfz46_1
   try clear hfz46_2
   try clear hfz49_0
   try clear hfz49_1
   try clear hfz49_2
   obtain ⟨kq, x50_6, rfl, HA, HJ6, BK341, BK342, BK347, BK352, HB⟩ := hcut
   cases kq with
   | zero => exact absurd HA.out (by simp [laws_FnTimes.j0])
   | succ kj6 =>
    have H := HA.out
    clear HA
    simp only [laws_FnTimes.j0] at H
    by_cases c50 : x50_6 = true
    ·subst c50
     have H1 : (if (t343 == t348 && (t344.toList == t349.toList && (t345 == t350))) = true then (some (t346 == t351)) else (none)) = some r := by rw [if_pos rfl] at H; exact H
     clear H
     have H := H1
     clear H1
     by_cases c51 : (t343 == t348 && (t344.toList == t349.toList && (t345 == t350))) = true
     ·rw [if_pos c51] at H
      have c51b0 : (t343 == t348 && (t344.toList == t349.toList && (t345 == t350))) = true := c51
      (try (have c51b1 : decide (t343 = t348 && (t344.toList == t349.toList && (t345 == t350))) = true := by simpa using c51))
      (try (have c51b2 : (t343 == t348 && (t344.toList == t349.toList && (t345 == t350))) = true := by simpa using c51))
      clear c51
      obtain rfl := Option.some.inj H
      have hnb52 := NB347_341.out
      have hnc52 := NB341_347.out
      have hnb53 := NB347_342.out
      have hnc53 := NB342_347.out
      have hnb54 := NB347_352.out
      have hnc54 := NB352_347.out
      have hcz55_0 : wc.cell? ⟨gb347, 0, none⟩ = some (.bool t343) := (blk_cell BK347.out 0).trans rfl
      have hcz55_1 : wc.cell? ⟨gb347, 1, none⟩ = some (.string t344) := (blk_cell BK347.out 1).trans rfl
      have hcz55_2 : wc.cell? ⟨gb347, 2, none⟩ = some (.int .i64 t345) := (blk_cell BK347.out 2).trans rfl
      have hfz55_0 := blk_frozen BK347.out 0
      have hfz55_1 := blk_frozen BK347.out 1
      have hfz55_2 := blk_frozen BK347.out 2
      have hnb56 := NB352_341.out
      have hnc56 := NB341_352.out
      have hnb57 := NB352_342.out
      have hnc57 := NB342_352.out
      have hcz58_0 : wc.cell? ⟨gb352, 0, none⟩ = some (.bool t348) := (blk_cell BK352.out 0).trans rfl
      have hcz58_1 : wc.cell? ⟨gb352, 1, none⟩ = some (.string t349) := (blk_cell BK352.out 1).trans rfl
      have hcz58_2 : wc.cell? ⟨gb352, 2, none⟩ = some (.int .i64 t350) := (blk_cell BK352.out 2).trans rfl
      have hfz58_0 := blk_frozen BK352.out 0
      have hfz58_1 := blk_frozen BK352.out 1
      have hfz58_2 := blk_frozen BK352.out 2
      go_wp2
      go_ret
      exact ⟨by first | rfl | (simp [errW_none, errW_some] <;> rfl) | (simp [*, errW_none, errW_some] <;> rfl), by repeat (first | (with_reducible first | exact HB.out | apply below_alloc | apply pw_below_drewN | apply below_drew1 | refine below_set ?_ GE341.out | refine below_set ?_ GE342.out | refine below_set ?_ GE347.out | refine below_set ?_ GE352.out) | exact HB.out)⟩
     ·rw [if_neg c51] at H
      exact absurd H (by simp)
    ·replace c50 := Bool.eq_false_iff.mpr c50
     subst c50
     have H1 : ((impl_TimesDec.f t338 t339 t340 t335 t336 t337).bind fun bt353 => (if bt353.2.2.2 = true then (if (!(bt353.1 == t343) || (!(bt353.2.1.toList == t344.toList) || (!(bt353.2.2.1 == t345)))) = true then (laws_FnTimes.j1 kj6 l0 true t335 t336 t337 t338 t339 t340 t343 t344 t345) else (if t336.toList = ([] : List UInt8) then (laws_FnTimes.j1 kj6 l0 ((t344.toList == ([] : List UInt8)) != true) t335 t336 t337 t338 t339 t340 t343 t344 t345) else (laws_FnTimes.j1 kj6 l0 ((t344.toList == ([] : List UInt8)) != (t339.toList == ([] : List UInt8))) t335 t336 t337 t338 t339 t340 t343 t344 t345))) else (laws_FnTimes.j1 kj6 l0 true t335 t336 t337 t338 t339 t340 t343 t344 t345))) = some r := by rw [if_neg (show ¬ (false = true) by decide)] at H; exact H
     clear H
     have H := H1
     clear H1
     replace H := Option.bind_eq_some_iff.mp H
     obtain ⟨⟨t353, t354, t355, t356⟩, A590, H⟩ := H
     replace H : (if t356 = true then (if (!(t353 == t343) || (!(t354.toList == t344.toList) || (!(t355 == t345)))) = true then (laws_FnTimes.j1 kj6 l0 true t335 t336 t337 t338 t339 t340 t343 t344 t345) else (if t336.toList = ([] : List UInt8) then (laws_FnTimes.j1 kj6 l0 ((t344.toList == ([] : List UInt8)) != true) t335 t336 t337 t338 t339 t340 t343 t344 t345) else (laws_FnTimes.j1 kj6 l0 ((t344.toList == ([] : List UInt8)) != (t339.toList == ([] : List UInt8))) t335 t336 t337 t338 t339 t340 t343 t344 t345))) else (laws_FnTimes.j1 kj6 l0 true t335 t336 t337 t338 t339 t340 t343 t344 t345)) = some r := H
     have A59 := Aside0.mk A590
     clear A590
     have HC60 := Aside0.mk H
     clear H
     have hnb61 := NB342_341.out
     have hnc61 := NB341_342.out
     have hnb62 := NB342_347.out
     have hnc62 := NB347_342.out
     have hnb63 := NB342_352.out
     have hnc63 := NB352_342.out
     have hcz64_0 : wc.cell? ⟨gb342, 0, none⟩ = some (.bool t338) := (blk_cell BK342.out 0).trans rfl
     have hcz64_1 : wc.cell? ⟨gb342, 1, none⟩ = some (.string t339) := (blk_cell BK342.out 1).trans rfl
     have hcz64_2 : wc.cell? ⟨gb342, 2, none⟩ = some (.int .i64 t340) := (blk_cell BK342.out 2).trans rfl
     have hfz64_0 := blk_frozen BK342.out 0
     have hfz64_1 := blk_frozen BK342.out 1
     have hfz64_2 := blk_frozen BK342.out 2
     have hnb65 := NB341_347.out
     have hnc65 := NB347_341.out
     have hnb66 := NB341_352.out
     have hnc66 := NB352_341.out
     have hcz67_0 : wc.cell? ⟨gb341, 0, none⟩ = some (.bool t335) := (blk_cell BK341.out 0).trans rfl
     have hcz67_1 : wc.cell? ⟨gb341, 1, none⟩ = some (.string t336) := (blk_cell BK341.out 1).trans rfl
     have hcz67_2 : wc.cell? ⟨gb341, 2, none⟩ = some (.int .i64 t337) := (blk_cell BK341.out 2).trans rfl
     have hfz67_0 := blk_frozen BK341.out 0
     have hfz67_1 := blk_frozen BK341.out 1
     have hfz67_2 := blk_frozen BK341.out 2
     go_upto_region 9 with (first | ((with_reducible refine gate_callee (f := 17) rfl ?_); refine goesL_ (some 62) rfl rfl Tryd.func17 (by kernel_rfl) rfl #[.agg #[.bool t338, .string t339, .int .i64 t340], .agg #[.bool t335, .string t336, .int .i64 t337]] rfl (by (try simp only [List.map_toArray, List.map_cons, List.map_nil]); first | done | rfl | (simp only [List.length_drop, List.length_take]; rfl)) ?_; (with_reducible refine (impl_TimesDec.calls t338 t339 t340 t335 t336 t337 t353 t354 t355 t356 _ A59.out).mono ?_); rintro e w68 ⟨rfl, hb⟩; refine ⟨_, rfl, ?_⟩; have n0_ := Aside0.mk (blk_below (g := gb341) (o := .cells #[.bool t335, .string t336, .int .i64 t337] 26 (0, 0)) (by refine blk_up ?_; exact BK341.out) hb); have n1_ := Aside0.mk (blk_below (g := gb342) (o := .cells #[.bool t338, .string t339, .int .i64 t340] 26 (0, 0)) (by refine blk_up ?_; exact BK342.out) hb); have n2_ := Aside0.mk (blk_below (g := gb347) (o := .cells #[.bool t343, .string t344, .int .i64 t345] 26 (0, 0)) (by refine blk_up ?_; exact BK347.out) hb); have n3_ := Aside0.mk (blk_below (g := gb352) (o := .cells #[.bool t348, .string t349, .int .i64 t350] 26 (0, 0)) (by refine blk_up ?_; exact BK352.out) hb); have n4_ := Aside0.mk (below_step (by repeat (first | (with_reducible first | exact HB.out | apply below_alloc | apply pw_below_drewN | apply below_drew1 | refine below_set ?_ GE341.out | refine below_set ?_ GE342.out | refine below_set ?_ GE347.out | refine below_set ?_ GE352.out) | exact HB.out)) hb); clear BK341; clear BK342; clear BK347; clear BK352; clear HB; have BK341 := n0_; have BK342 := n1_; have BK347 := n2_; have BK352 := n3_; have HB := n4_; clear n0_ n1_ n2_ n3_ n4_; (try clear hb); (try clear hb2); (try clear hk); (try clear hi)) | ((with_reducible refine gate_dst (N := 9) rfl ?_); refine box_event ?hg (N := 9) ?hd (cs := #[.bool false, .string (⟨#[]⟩ : ByteArray), .int .i64 0]) (t := 26) ?hr ?_; (case hd => rfl); (case hg => rfl); (case hr => first | (go_simp; done) | (go_simp; rfl)); intro gb357 hg w69 hbox hb; have n0_ := Aside0.mk (blk_below (g := gb341) (o := .cells #[.bool t335, .string t336, .int .i64 t337] 26 (0, 0)) (by refine blk_up ?_; exact BK341.out) hb); have n1_ := Aside0.mk (blk_below (g := gb342) (o := .cells #[.bool t338, .string t339, .int .i64 t340] 26 (0, 0)) (by refine blk_up ?_; exact BK342.out) hb); have n2_ := Aside0.mk (blk_below (g := gb347) (o := .cells #[.bool t343, .string t344, .int .i64 t345] 26 (0, 0)) (by refine blk_up ?_; exact BK347.out) hb); have n3_ := Aside0.mk (blk_below (g := gb352) (o := .cells #[.bool t348, .string t349, .int .i64 t350] 26 (0, 0)) (by refine blk_up ?_; exact BK352.out) hb); have n4_ := Aside0.mk (below_step (by repeat (first | (with_reducible first | exact HB.out | apply below_alloc | apply pw_below_drewN | apply below_drew1 | refine below_set ?_ GE341.out | refine below_set ?_ GE342.out | refine below_set ?_ GE347.out | refine below_set ?_ GE352.out) | exact HB.out)) hb); have n5_ := Aside0.mk (hbox); have n6_ := Aside0.mk ((by rw [hg]; exact (below_size (by repeat (first | (with_reducible first | exact HB.out | apply below_alloc | apply pw_below_drewN | apply below_drew1 | refine below_set ?_ GE341.out | refine below_set ?_ GE342.out | refine below_set ?_ GE347.out | refine below_set ?_ GE352.out) | exact HB.out))) : w.heap.size ≤ gb357)); have n7_ := Aside0.mk ((by rw [hg]; exact (below_size (by repeat (first | (with_reducible first | exact HB.out | apply below_alloc | apply pw_below_drewN | apply below_drew1 | refine below_set ?_ GE341.out | refine below_set ?_ GE342.out | refine below_set ?_ GE347.out | refine below_set ?_ GE352.out) | exact HB.out))) : w.heap.size ≤ gb357)); have n8_ := Aside0.mk ((by rw [hg]; exact Nat.ne_of_lt (blk_lt (g := gb341) (o := .cells #[.bool t335, .string t336, .int .i64 t337] 26 (0, 0)) (by refine blk_up ?_; exact BK341.out)) : gb341 ≠ gb357)); have n9_ := Aside0.mk ((by rw [hg]; exact Nat.ne_of_gt (blk_lt (g := gb341) (o := .cells #[.bool t335, .string t336, .int .i64 t337] 26 (0, 0)) (by refine blk_up ?_; exact BK341.out)) : gb357 ≠ gb341)); have n10_ := Aside0.mk ((by rw [hg]; exact Nat.ne_of_lt (blk_lt (g := gb342) (o := .cells #[.bool t338, .string t339, .int .i64 t340] 26 (0, 0)) (by refine blk_up ?_; exact BK342.out)) : gb342 ≠ gb357)); have n11_ := Aside0.mk ((by rw [hg]; exact Nat.ne_of_gt (blk_lt (g := gb342) (o := .cells #[.bool t338, .string t339, .int .i64 t340] 26 (0, 0)) (by refine blk_up ?_; exact BK342.out)) : gb357 ≠ gb342)); have n12_ := Aside0.mk ((by rw [hg]; exact Nat.ne_of_lt (blk_lt (g := gb347) (o := .cells #[.bool t343, .string t344, .int .i64 t345] 26 (0, 0)) (by refine blk_up ?_; exact BK347.out)) : gb347 ≠ gb357)); have n13_ := Aside0.mk ((by rw [hg]; exact Nat.ne_of_gt (blk_lt (g := gb347) (o := .cells #[.bool t343, .string t344, .int .i64 t345] 26 (0, 0)) (by refine blk_up ?_; exact BK347.out)) : gb357 ≠ gb347)); have n14_ := Aside0.mk ((by rw [hg]; exact Nat.ne_of_lt (blk_lt (g := gb352) (o := .cells #[.bool t348, .string t349, .int .i64 t350] 26 (0, 0)) (by refine blk_up ?_; exact BK352.out)) : gb352 ≠ gb357)); have n15_ := Aside0.mk ((by rw [hg]; exact Nat.ne_of_gt (blk_lt (g := gb352) (o := .cells #[.bool t348, .string t349, .int .i64 t350] 26 (0, 0)) (by refine blk_up ?_; exact BK352.out)) : gb357 ≠ gb352)); clear BK341; clear BK342; clear BK347; clear BK352; clear HB; have BK341 := n0_; have BK342 := n1_; have BK347 := n2_; have BK352 := n3_; have HB := n4_; have BK357 := n5_; have GW357 := n6_; have GE357 := n7_; have NB341_357 := n8_; have NB357_341 := n9_; have NB342_357 := n10_; have NB357_342 := n11_; have NB347_357 := n12_; have NB357_347 := n13_; have NB352_357 := n14_; have NB357_352 := n15_; clear n0_ n1_ n2_ n3_ n4_ n5_ n6_ n7_ n8_ n9_ n10_ n11_ n12_ n13_ n14_ n15_; clear hb hbox hg; have hnb70 := NB357_341.out; have hnc70 := NB341_357.out; have hnb71 := NB357_342.out; have hnc71 := NB342_357.out; have hnb72 := NB357_347.out; have hnc72 := NB347_357.out; have hnb73 := NB357_352.out; have hnc73 := NB352_357.out; have hcz74_0 : w69.cell? ⟨gb357, 0, none⟩ = some (.bool false) := (blk_cell BK357.out 0).trans rfl; have hcz74_1 : w69.cell? ⟨gb357, 1, none⟩ = some (.string (⟨#[]⟩ : ByteArray)) := (blk_cell BK357.out 1).trans rfl; have hcz74_2 : w69.cell? ⟨gb357, 2, none⟩ = some (.int .i64 0) := (blk_cell BK357.out 2).trans rfl; have hfz74_0 := blk_frozen BK357.out 0; have hfz74_1 := blk_frozen BK357.out 1; have hfz74_2 := blk_frozen BK357.out 2))
     (try simp only [Act.put, List.setIfInBounds_toArray, List.set_cons_zero, List.set_cons_succ])
     go_cut [85] (fun v85 wc => ∃ (kq : Nat) (x85_59 : Bool), v85 = .bool x85_59 ∧ Aside0 (laws_FnTimes.j1 kq l0 x85_59 t335 t336 t337 t338 t339 t340 t343 t344 t345 = some r) ∧ Aside0 (kq ≤ kj6) ∧ Aside0 (wc.heap[gb341]? = some (.cells #[.bool t335, .string t336, .int .i64 t337] 26 (0, 0))) ∧ Aside0 (wc.heap[gb342]? = some (.cells #[.bool t338, .string t339, .int .i64 t340] 26 (0, 0))) ∧ Aside0 (wc.heap[gb347]? = some (.cells #[.bool t343, .string t344, .int .i64 t345] 26 (0, 0))) ∧ Aside0 (wc.heap[gb352]? = some (.cells #[.bool t348, .string t349, .int .i64 t350] 26 (0, 0))) ∧ Aside0 (wc.heap[gb357]? = some (.cells #[.bool t353, .string t354, .int .i64 t355] 26 (0, 0))) ∧ Aside0 (Below w.heap.size w wc))
     case first =>
      have H := HC60.out
      clear HC60
      by_cases c75 : t356 = true
      ·subst c75
       have H1 : (if (!(t353 == t343) || (!(t354.toList == t344.toList) || (!(t355 == t345)))) = true then (laws_FnTimes.j1 kj6 l0 true t335 t336 t337 t338 t339 t340 t343 t344 t345) else (if t336.toList = ([] : List UInt8) then (laws_FnTimes.j1 kj6 l0 ((t344.toList == ([] : List UInt8)) != true) t335 t336 t337 t338 t339 t340 t343 t344 t345) else (laws_FnTimes.j1 kj6 l0 ((t344.toList == ([] : List UInt8)) != (t339.toList == ([] : List UInt8))) t335 t336 t337 t338 t339 t340 t343 t344 t345))) = some r := by rw [if_pos rfl] at H; exact H
       clear H
       have H := H1
       clear H1
       by_cases c76 : (!(t353 == t343) || (!(t354.toList == t344.toList) || (!(t355 == t345)))) = true
       ·rw [if_pos c76] at H
        have c76b0 : (!(t353 == t343) || (!(t354.toList == t344.toList) || (!(t355 == t345)))) = true := c76
        clear c76
        (first | rw [c76b0] | (simp only [i64_w, i32_w]; rw [c76b0]) | skip)
        have H' := Aside0.mk H
        clear H
        have hnb77 := NB357_341.out
        have hnc77 := NB341_357.out
        have hnb78 := NB357_342.out
        have hnc78 := NB342_357.out
        have hnb79 := NB357_347.out
        have hnc79 := NB347_357.out
        have hnb80 := NB357_352.out
        have hnc80 := NB352_357.out
        have hcz81_0 : w69.cell? ⟨gb357, 0, none⟩ = some (.bool false) := (blk_cell BK357.out 0).trans rfl
        have hcz81_1 : w69.cell? ⟨gb357, 1, none⟩ = some (.string (⟨#[]⟩ : ByteArray)) := (blk_cell BK357.out 1).trans rfl
        have hcz81_2 : w69.cell? ⟨gb357, 2, none⟩ = some (.int .i64 0) := (blk_cell BK357.out 2).trans rfl
        have hfz81_0 := blk_frozen BK357.out 0
        have hfz81_1 := blk_frozen BK357.out 1
        have hfz81_2 := blk_frozen BK357.out 2
        have hnb82 := NB347_341.out
        have hnc82 := NB341_347.out
        have hnb83 := NB347_342.out
        have hnc83 := NB342_347.out
        have hnb84 := NB347_352.out
        have hnc84 := NB352_347.out
        have hcz85_0 : w69.cell? ⟨gb347, 0, none⟩ = some (.bool t343) := (blk_cell BK347.out 0).trans rfl
        have hcz85_1 : w69.cell? ⟨gb347, 1, none⟩ = some (.string t344) := (blk_cell BK347.out 1).trans rfl
        have hcz85_2 : w69.cell? ⟨gb347, 2, none⟩ = some (.int .i64 t345) := (blk_cell BK347.out 2).trans rfl
        have hfz85_0 := blk_frozen BK347.out 0
        have hfz85_1 := blk_frozen BK347.out 1
        have hfz85_2 := blk_frozen BK347.out 2
        go_wp2
        go_meet
        case rel => exact ⟨_, (true), (by first | rfl | (simp; done) | (simp [*]; done)), H', ⟨by have := HJ6.out; first | omega | exact Nat.le_refl _⟩, ⟨by refine blk_up ?_; refine blk_far ?_ NB341_357.out _; refine blk_up ?_; refine blk_far ?_ NB341_357.out _; refine blk_up ?_; refine blk_far ?_ NB341_357.out _; refine blk_up ?_; exact BK341.out⟩, ⟨by refine blk_up ?_; refine blk_far ?_ NB342_357.out _; refine blk_up ?_; refine blk_far ?_ NB342_357.out _; refine blk_up ?_; refine blk_far ?_ NB342_357.out _; refine blk_up ?_; exact BK342.out⟩, ⟨by refine blk_up ?_; refine blk_far ?_ NB347_357.out _; refine blk_up ?_; refine blk_far ?_ NB347_357.out _; refine blk_up ?_; refine blk_far ?_ NB347_357.out _; refine blk_up ?_; exact BK347.out⟩, ⟨by refine blk_up ?_; refine blk_far ?_ NB352_357.out _; refine blk_up ?_; refine blk_far ?_ NB352_357.out _; refine blk_up ?_; refine blk_far ?_ NB352_357.out _; refine blk_up ?_; exact BK352.out⟩, ⟨by refine blk_up ?_; refine blk_put (cs := #[.bool t353, .string t354, .int .i64 0]) ?_ 2 _ rfl; refine blk_up ?_; refine blk_put (cs := #[.bool t353, .string (⟨#[]⟩ : ByteArray), .int .i64 0]) ?_ 1 _ rfl; refine blk_up ?_; refine blk_put (cs := #[.bool false, .string (⟨#[]⟩ : ByteArray), .int .i64 0]) ?_ 0 _ rfl; refine blk_up ?_; exact BK357.out⟩, ⟨by repeat (first | (with_reducible first | exact HB.out | apply below_alloc | apply pw_below_drewN | apply below_drew1 | refine below_set ?_ GE341.out | refine below_set ?_ GE342.out | refine below_set ?_ GE347.out | refine below_set ?_ GE352.out | refine below_set ?_ GE357.out) | exact HB.out)⟩⟩
       ·rw [if_neg c76] at H
        have c76b0 : (!(t353 == t343) || (!(t354.toList == t344.toList) || (!(t355 == t345)))) = false := by simpa using c76
        clear c76
        (first | rw [c76b0] | (simp only [i64_w, i32_w]; rw [c76b0]) | skip)
        by_cases c86 : t336.toList = ([] : List UInt8)
        ·rw [if_pos c86] at H
         have c86b0 : (t336.toList == ([] : List UInt8)) = true := beq_iff_eq.mpr c86
         have c86b1 : (t336.toList != ([] : List UInt8)) = false := bne_eq_false_iff_eq.mpr c86
         clear c86
         have H' := Aside0.mk H
         clear H
         have hnb87 := NB357_341.out
         have hnc87 := NB341_357.out
         have hnb88 := NB357_342.out
         have hnc88 := NB342_357.out
         have hnb89 := NB357_347.out
         have hnc89 := NB347_357.out
         have hnb90 := NB357_352.out
         have hnc90 := NB352_357.out
         have hcz91_0 : w69.cell? ⟨gb357, 0, none⟩ = some (.bool false) := (blk_cell BK357.out 0).trans rfl
         have hcz91_1 : w69.cell? ⟨gb357, 1, none⟩ = some (.string (⟨#[]⟩ : ByteArray)) := (blk_cell BK357.out 1).trans rfl
         have hcz91_2 : w69.cell? ⟨gb357, 2, none⟩ = some (.int .i64 0) := (blk_cell BK357.out 2).trans rfl
         have hfz91_0 := blk_frozen BK357.out 0
         have hfz91_1 := blk_frozen BK357.out 1
         have hfz91_2 := blk_frozen BK357.out 2
         have hnb92 := NB347_341.out
         have hnc92 := NB341_347.out
         have hnb93 := NB347_342.out
         have hnc93 := NB342_347.out
         have hnb94 := NB347_352.out
         have hnc94 := NB352_347.out
         have hcz95_0 : w69.cell? ⟨gb347, 0, none⟩ = some (.bool t343) := (blk_cell BK347.out 0).trans rfl
         have hcz95_1 : w69.cell? ⟨gb347, 1, none⟩ = some (.string t344) := (blk_cell BK347.out 1).trans rfl
         have hcz95_2 : w69.cell? ⟨gb347, 2, none⟩ = some (.int .i64 t345) := (blk_cell BK347.out 2).trans rfl
         have hfz95_0 := blk_frozen BK347.out 0
         have hfz95_1 := blk_frozen BK347.out 1
         have hfz95_2 := blk_frozen BK347.out 2
         have hnb96 := NB341_342.out
         have hnc96 := NB342_341.out
         have hnb97 := NB341_352.out
         have hnc97 := NB352_341.out
         have hcz98_0 : w69.cell? ⟨gb341, 0, none⟩ = some (.bool t335) := (blk_cell BK341.out 0).trans rfl
         have hcz98_1 : w69.cell? ⟨gb341, 1, none⟩ = some (.string t336) := (blk_cell BK341.out 1).trans rfl
         have hcz98_2 : w69.cell? ⟨gb341, 2, none⟩ = some (.int .i64 t337) := (blk_cell BK341.out 2).trans rfl
         have hfz98_0 := blk_frozen BK341.out 0
         have hfz98_1 := blk_frozen BK341.out 1
         have hfz98_2 := blk_frozen BK341.out 2
         go_wp2
         go_meet
         case rel => exact ⟨_, (((t344.toList == ([] : List UInt8)) != true)), (by first | rfl | (simp; done) | (simp [*]; done)), H', ⟨by have := HJ6.out; first | omega | exact Nat.le_refl _⟩, ⟨by refine blk_up ?_; refine blk_far ?_ NB341_357.out _; refine blk_up ?_; refine blk_far ?_ NB341_357.out _; refine blk_up ?_; refine blk_far ?_ NB341_357.out _; refine blk_up ?_; exact BK341.out⟩, ⟨by refine blk_up ?_; refine blk_far ?_ NB342_357.out _; refine blk_up ?_; refine blk_far ?_ NB342_357.out _; refine blk_up ?_; refine blk_far ?_ NB342_357.out _; refine blk_up ?_; exact BK342.out⟩, ⟨by refine blk_up ?_; refine blk_far ?_ NB347_357.out _; refine blk_up ?_; refine blk_far ?_ NB347_357.out _; refine blk_up ?_; refine blk_far ?_ NB347_357.out _; refine blk_up ?_; exact BK347.out⟩, ⟨by refine blk_up ?_; refine blk_far ?_ NB352_357.out _; refine blk_up ?_; refine blk_far ?_ NB352_357.out _; refine blk_up ?_; refine blk_far ?_ NB352_357.out _; refine blk_up ?_; exact BK352.out⟩, ⟨by refine blk_up ?_; refine blk_put (cs := #[.bool t353, .string t354, .int .i64 0]) ?_ 2 _ rfl; refine blk_up ?_; refine blk_put (cs := #[.bool t353, .string (⟨#[]⟩ : ByteArray), .int .i64 0]) ?_ 1 _ rfl; refine blk_up ?_; refine blk_put (cs := #[.bool false, .string (⟨#[]⟩ : ByteArray), .int .i64 0]) ?_ 0 _ rfl; refine blk_up ?_; exact BK357.out⟩, ⟨by repeat (first | (with_reducible first | exact HB.out | apply below_alloc | apply pw_below_drewN | apply below_drew1 | refine below_set ?_ GE341.out | refine below_set ?_ GE342.out | refine below_set ?_ GE347.out | refine below_set ?_ GE352.out | refine below_set ?_ GE357.out) | exact HB.out)⟩⟩
        ·rw [if_neg c86] at H
         have c86b0 : (t336.toList == ([] : List UInt8)) = false := beq_eq_false_iff_ne.mpr c86
         have c86b1 : (t336.toList != ([] : List UInt8)) = true := bne_iff_ne.mpr c86
         have H' := Aside0.mk H
         clear H
         have hnb99 := NB357_341.out
         have hnc99 := NB341_357.out
         have hnb100 := NB357_342.out
         have hnc100 := NB342_357.out
         have hnb101 := NB357_347.out
         have hnc101 := NB347_357.out
         have hnb102 := NB357_352.out
         have hnc102 := NB352_357.out
         have hcz103_0 : w69.cell? ⟨gb357, 0, none⟩ = some (.bool false) := (blk_cell BK357.out 0).trans rfl
         have hcz103_1 : w69.cell? ⟨gb357, 1, none⟩ = some (.string (⟨#[]⟩ : ByteArray)) := (blk_cell BK357.out 1).trans rfl
         have hcz103_2 : w69.cell? ⟨gb357, 2, none⟩ = some (.int .i64 0) := (blk_cell BK357.out 2).trans rfl
         have hfz103_0 := blk_frozen BK357.out 0
         have hfz103_1 := blk_frozen BK357.out 1
         have hfz103_2 := blk_frozen BK357.out 2
         have hnb104 := NB347_341.out
         have hnc104 := NB341_347.out
         have hnb105 := NB347_342.out
         have hnc105 := NB342_347.out
         have hnb106 := NB347_352.out
         have hnc106 := NB352_347.out
         have hcz107_0 : w69.cell? ⟨gb347, 0, none⟩ = some (.bool t343) := (blk_cell BK347.out 0).trans rfl
         have hcz107_1 : w69.cell? ⟨gb347, 1, none⟩ = some (.string t344) := (blk_cell BK347.out 1).trans rfl
         have hcz107_2 : w69.cell? ⟨gb347, 2, none⟩ = some (.int .i64 t345) := (blk_cell BK347.out 2).trans rfl
         have hfz107_0 := blk_frozen BK347.out 0
         have hfz107_1 := blk_frozen BK347.out 1
         have hfz107_2 := blk_frozen BK347.out 2
         have hnb108 := NB341_342.out
         have hnc108 := NB342_341.out
         have hnb109 := NB341_352.out
         have hnc109 := NB352_341.out
         have hcz110_0 : w69.cell? ⟨gb341, 0, none⟩ = some (.bool t335) := (blk_cell BK341.out 0).trans rfl
         have hcz110_1 : w69.cell? ⟨gb341, 1, none⟩ = some (.string t336) := (blk_cell BK341.out 1).trans rfl
         have hcz110_2 : w69.cell? ⟨gb341, 2, none⟩ = some (.int .i64 t337) := (blk_cell BK341.out 2).trans rfl
         have hfz110_0 := blk_frozen BK341.out 0
         have hfz110_1 := blk_frozen BK341.out 1
         have hfz110_2 := blk_frozen BK341.out 2
         have hnb111 := NB342_352.out
         have hnc111 := NB352_342.out
         have hcz112_0 : w69.cell? ⟨gb342, 0, none⟩ = some (.bool t338) := (blk_cell BK342.out 0).trans rfl
         have hcz112_1 : w69.cell? ⟨gb342, 1, none⟩ = some (.string t339) := (blk_cell BK342.out 1).trans rfl
         have hcz112_2 : w69.cell? ⟨gb342, 2, none⟩ = some (.int .i64 t340) := (blk_cell BK342.out 2).trans rfl
         have hfz112_0 := blk_frozen BK342.out 0
         have hfz112_1 := blk_frozen BK342.out 1
         have hfz112_2 := blk_frozen BK342.out 2
         go_wp2
         go_meet
         case rel => exact ⟨_, (((t344.toList == ([] : List UInt8)) != (t339.toList == ([] : List UInt8)))), (by first | rfl | (simp; done) | (simp [*]; done) | (simp; cases t344.toList.isEmpty <;> cases t339.toList.isEmpty <;> rfl)), H', ⟨by have := HJ6.out; first | omega | exact Nat.le_refl _⟩, ⟨by refine blk_up ?_; refine blk_far ?_ NB341_357.out _; refine blk_up ?_; refine blk_far ?_ NB341_357.out _; refine blk_up ?_; refine blk_far ?_ NB341_357.out _; refine blk_up ?_; exact BK341.out⟩, ⟨by refine blk_up ?_; refine blk_far ?_ NB342_357.out _; refine blk_up ?_; refine blk_far ?_ NB342_357.out _; refine blk_up ?_; refine blk_far ?_ NB342_357.out _; refine blk_up ?_; exact BK342.out⟩, ⟨by refine blk_up ?_; refine blk_far ?_ NB347_357.out _; refine blk_up ?_; refine blk_far ?_ NB347_357.out _; refine blk_up ?_; refine blk_far ?_ NB347_357.out _; refine blk_up ?_; exact BK347.out⟩, ⟨by refine blk_up ?_; refine blk_far ?_ NB352_357.out _; refine blk_up ?_; refine blk_far ?_ NB352_357.out _; refine blk_up ?_; refine blk_far ?_ NB352_357.out _; refine blk_up ?_; exact BK352.out⟩, ⟨by refine blk_up ?_; refine blk_put (cs := #[.bool t353, .string t354, .int .i64 0]) ?_ 2 _ rfl; refine blk_up ?_; refine blk_put (cs := #[.bool t353, .string (⟨#[]⟩ : ByteArray), .int .i64 0]) ?_ 1 _ rfl; refine blk_up ?_; refine blk_put (cs := #[.bool false, .string (⟨#[]⟩ : ByteArray), .int .i64 0]) ?_ 0 _ rfl; refine blk_up ?_; exact BK357.out⟩, ⟨by repeat (first | (with_reducible first | exact HB.out | apply below_alloc | apply pw_below_drewN | apply below_drew1 | refine below_set ?_ GE341.out | refine below_set ?_ GE342.out | refine below_set ?_ GE347.out | refine below_set ?_ GE352.out | refine below_set ?_ GE357.out) | exact HB.out)⟩⟩
      ·replace c75 := Bool.eq_false_iff.mpr c75
       subst c75
       have H1 : (laws_FnTimes.j1 kj6 l0 true t335 t336 t337 t338 t339 t340 t343 t344 t345) = some r := by rw [if_neg (show ¬ (false = true) by decide)] at H; exact H
       clear H
       have H := H1
       clear H1
       have H' := Aside0.mk H
       clear H
       go_wp2
       go_meet
       case rel => exact ⟨_, (true), (by first | rfl | (simp; done) | (simp [*]; done)), H', ⟨by have := HJ6.out; first | omega | exact Nat.le_refl _⟩, ⟨by refine blk_up ?_; refine blk_far ?_ NB341_357.out _; refine blk_up ?_; refine blk_far ?_ NB341_357.out _; refine blk_up ?_; refine blk_far ?_ NB341_357.out _; refine blk_up ?_; exact BK341.out⟩, ⟨by refine blk_up ?_; refine blk_far ?_ NB342_357.out _; refine blk_up ?_; refine blk_far ?_ NB342_357.out _; refine blk_up ?_; refine blk_far ?_ NB342_357.out _; refine blk_up ?_; exact BK342.out⟩, ⟨by refine blk_up ?_; refine blk_far ?_ NB347_357.out _; refine blk_up ?_; refine blk_far ?_ NB347_357.out _; refine blk_up ?_; refine blk_far ?_ NB347_357.out _; refine blk_up ?_; exact BK347.out⟩, ⟨by refine blk_up ?_; refine blk_far ?_ NB352_357.out _; refine blk_up ?_; refine blk_far ?_ NB352_357.out _; refine blk_up ?_; refine blk_far ?_ NB352_357.out _; refine blk_up ?_; exact BK352.out⟩, ⟨by refine blk_up ?_; refine blk_put (cs := #[.bool t353, .string t354, .int .i64 0]) ?_ 2 _ rfl; refine blk_up ?_; refine blk_put (cs := #[.bool t353, .string (⟨#[]⟩ : ByteArray), .int .i64 0]) ?_ 1 _ rfl; refine blk_up ?_; refine blk_put (cs := #[.bool false, .string (⟨#[]⟩ : ByteArray), .int .i64 0]) ?_ 0 _ rfl; refine blk_up ?_; exact BK357.out⟩, ⟨by repeat (first | (with_reducible first | exact HB.out | apply below_alloc | apply pw_below_drewN | apply below_drew1 | refine below_set ?_ GE341.out | refine below_set ?_ GE342.out | refine below_set ?_ GE347.out | refine below_set ?_ GE352.out | refine below_set ?_ GE357.out) | exact HB.out)⟩⟩
     case rest =>
      clear HC60
      try clear c1
      try clear c2
      try clear p2
      try clear c3
      try clear c4
      try clear c5
      try clear c6
      try clear c7
      try clear c8
      try clear c9
      try clear c10
      try clear c11
      try clear c15
      try clear c16
      try clear c17
      try clear c18
      try clear c23
      try clear c24
      try clear c25
      try clear c27
      try clear c27b0
      try clear c28
      try clear c29
      try clear c30
      try clear c32
      try clear c33
      try clear c35
      try clear c35b0
      try clear c35b1
      try clear c35b2
      try clear c36
      try clear c37
      try clear c38
      try clear c40
      try clear c41
      try clear c43
      try clear c44
      try clear c45
      try clear c47
      try clear c48
      try clear c50
      try clear c51
      try clear c51b0
      try clear c51b1
      try clear c51b2
      try clear c52
      try clear c53
      try clear c54
      try clear c56
      try clear c57
      try clear c61
      try clear c62
      try clear c63
      try clear c65
      try clear c66
      try clear c70
      try clear c71
      try clear c72
      try clear c73
      try clear c75
      try clear c76
      try clear c76b0
      try clear c77
      try clear c78
      try clear c79
      try clear c80
      try clear c82
      try clear c83
      try clear c84
      try clear c86
      try clear c86b0
      try clear c86b1
      try clear c87
      try clear c88
      try clear c89
      try clear c90
      try clear c92
      try clear c93
      try clear c94
      try clear c96
      try clear c97
      try clear c99
      try clear c100
      try clear c101
      try clear c102
      try clear c104
      try clear c105
      try clear c106
      try clear c108
      try clear c109
      try clear c111
      try clear hcz103_0
      try clear hcz103_1
      try clear hcz103_2
      try clear hcz107_0
      try clear hcz107_1
      try clear hcz107_2
      try clear hcz110_0
      try clear hcz110_1
      try clear hcz110_2
      try clear hcz112_0
      try clear hcz112_1
      try clear hcz112_2
      try clear hcz12_0
      try clear hcz12_1
      try clear hcz12_2
      try clear hcz13_0
      try clear hcz13_1
      try clear hcz13_2
      try clear hcz18_0
      try clear hcz18_1
      try clear hcz18_2
      try clear hcz19_0
      try clear hcz19_1
      try clear hcz19_2
      try clear hcz20_0
      try clear hcz20_1
      try clear hcz20_2
      try clear hcz26_0
      try clear hcz26_1
      try clear hcz26_2
      try clear hcz31_0
      try clear hcz31_1
      try clear hcz31_2
      try clear hcz34_0
      try clear hcz34_1
      try clear hcz34_2
      try clear hcz39_0
      try clear hcz39_1
      try clear hcz39_2
      try clear hcz42_0
      try clear hcz42_1
      try clear hcz42_2
      try clear hcz46_0
      try clear hcz46_1
      try clear hcz46_2
      try clear hcz49_0
      try clear hcz49_1
      try clear hcz49_2
      try clear hcz55_0
      try clear hcz55_1
      try clear hcz55_2
      try clear hcz58_0
      try clear hcz58_1
      try clear hcz58_2
      try clear hcz64_0
      try clear hcz64_1
      try clear hcz64_2
      try clear hcz67_0
      try clear hcz67_1
      try clear hcz67_2
      try clear hcz74_0
      try clear hcz74_1
      try clear hcz74_2
      try clear hcz81_0
      try clear hcz81_1
      try clear hcz81_2
      try clear hcz85_0
      try clear hcz85_1
      try clear hcz85_2
      try clear hcz91_0
      try clear hcz91_1
      try clear hcz91_2
      try clear hcz95_0
      try clear hcz95_1
      try clear hcz95_2
      try clear hcz98_0
      try clear hcz98_1
      try clear hcz98_2
      try clear hfz103_0
      try clear hfz103_1
      try clear hfz103_2
      try clear hfz107_0
      try clear hfz107_1
      try clear hfz107_2
      try clear hfz110_0
      try clear hfz110_1
      try clear hfz110_2
      try clear hfz112_0
      try clear hfz112_1
      try clear hfz112_2
      try clear hfz12_0
      try clear hfz12_1
      try clear hfz12_2
      try clear hfz13_0
      try clear hfz13_1
      try clear hfz13_2
      try clear hfz18_0
      try clear hfz18_1
      try clear hfz18_2
      try clear hfz19_0
      try clear hfz19_1
      try clear hfz19_2
      try clear hfz20_0
      try clear hfz20_1
      try clear hfz20_2
      try clear hfz26_0
      try clear hfz26_1
      try clear hfz26_2
      try clear hfz31_0
      try clear hfz31_1
      try clear hfz31_2
      try clear hfz34_0
      try clear hfz34_1
      try clear hfz34_2
      try clear hfz39_0
      try clear hfz39_1
      try clear hfz39_2
      try clear hfz42_0
      try clear hfz42_1
      try clear hfz42_2
      try clear hfz46_0
      try clear hfz46_1
      try clear hfz46_2
      try clear hfz49_0
      try clear hfz49_1
      try clear hfz49_2
      try clear hfz55_0
      try clear hfz55_1
      try clear hfz55_2
      try clear hfz58_0
      try clear hfz58_1
      try clear hfz58_2
      try clear hfz64_0
      try clear hfz64_1
      try clear hfz64_2
      try clear hfz67_0
      try clear hfz67_1
      try clear hfz67_2
      try clear hfz74_0
      try clear hfz74_1
      try clear hfz74_2
      try clear hfz81_0
      try clear hfz81_1
      try clear hfz81_2
      try clear hfz85_0
      try clear hfz85_1
      try clear hfz85_2
      try clear hfz91_0
      try clear hfz91_1
      try clear hfz91_2
      try clear hfz95_0
      try clear hfz95_1
      try clear hfz95_2
      try clear hfz98_0
      try clear hfz98_1
      try clear hfz98_2
      try clear p2
      obtain ⟨kq, x85_59, rfl, HA, HJ59, BK341, BK342, BK347, BK352, BK357, HB⟩ := hcut
      cases kq with
      | zero => exact absurd HA.out (by simp [laws_FnTimes.j1])
      | succ kj59 =>
       have H := HA.out
       clear HA
       simp only [laws_FnTimes.j1] at H
       by_cases c113 : x85_59 = true
       ·subst c113
        have H1 : (none) = some r := by rw [if_pos rfl] at H; exact H
        clear H
        have H := H1
        clear H1
        exact absurd H (by simp)
       ·replace c113 := Bool.eq_false_iff.mpr c113
        subst c113
        have H1 : ((spec_DrawDecText.f kj59 l0).bind fun bt358 => ((impl_AddDec.f kj59 t335 t336 t337 bt358.1 bt358.2.1 bt358.2.2).bind fun bt362 => ((impl_TimesDec.f bt362.1 bt362.2.1 bt362.2.2.1 t338 t339 t340).bind fun bt367 => ((impl_TimesDec.f bt358.1 bt358.2.1 bt358.2.2 t338 t339 t340).bind fun bt372 => ((impl_AddDec.f kj59 t343 t344 t345 bt372.1 bt372.2.1 bt372.2.2.1).bind fun bt377 => (if bt362.2.2.2 = true then (if bt367.2.2.2 = true then (if bt372.2.2.2 = true then (if bt377.2.2.2 = true then (some (bt367.1 == bt377.1 && (bt367.2.1.toList == bt377.2.1.toList && (bt367.2.2.1 == bt377.2.2.1)))) else (some true)) else (some true)) else (some true)) else (some true))))))) = some r := by rw [if_neg (show ¬ (false = true) by decide)] at H; exact H
        clear H
        have H := H1
        clear H1
        replace H := Option.bind_eq_some_iff.mp H
        obtain ⟨⟨t358, t359, t360⟩, A1140, H⟩ := H
        replace H : ((impl_AddDec.f kj59 t335 t336 t337 t358 t359 t360).bind fun bt362 => ((impl_TimesDec.f bt362.1 bt362.2.1 bt362.2.2.1 t338 t339 t340).bind fun bt367 => ((impl_TimesDec.f t358 t359 t360 t338 t339 t340).bind fun bt372 => ((impl_AddDec.f kj59 t343 t344 t345 bt372.1 bt372.2.1 bt372.2.2.1).bind fun bt377 => (if bt362.2.2.2 = true then (if bt367.2.2.2 = true then (if bt372.2.2.2 = true then (if bt377.2.2.2 = true then (some (bt367.1 == bt377.1 && (bt367.2.1.toList == bt377.2.1.toList && (bt367.2.2.1 == bt377.2.2.1)))) else (some true)) else (some true)) else (some true)) else (some true)))))) = some r := H
        have A114 := Aside0.mk A1140
        clear A1140
        replace H := Option.bind_eq_some_iff.mp H
        obtain ⟨⟨t362, t363, t364, t365⟩, A1150, H⟩ := H
        replace H : ((impl_TimesDec.f t362 t363 t364 t338 t339 t340).bind fun bt367 => ((impl_TimesDec.f t358 t359 t360 t338 t339 t340).bind fun bt372 => ((impl_AddDec.f kj59 t343 t344 t345 bt372.1 bt372.2.1 bt372.2.2.1).bind fun bt377 => (if t365 = true then (if bt367.2.2.2 = true then (if bt372.2.2.2 = true then (if bt377.2.2.2 = true then (some (bt367.1 == bt377.1 && (bt367.2.1.toList == bt377.2.1.toList && (bt367.2.2.1 == bt377.2.2.1)))) else (some true)) else (some true)) else (some true)) else (some true))))) = some r := H
        have A115 := Aside0.mk A1150
        clear A1150
        replace H := Option.bind_eq_some_iff.mp H
        obtain ⟨⟨t367, t368, t369, t370⟩, A1160, H⟩ := H
        replace H : ((impl_TimesDec.f t358 t359 t360 t338 t339 t340).bind fun bt372 => ((impl_AddDec.f kj59 t343 t344 t345 bt372.1 bt372.2.1 bt372.2.2.1).bind fun bt377 => (if t365 = true then (if t370 = true then (if bt372.2.2.2 = true then (if bt377.2.2.2 = true then (some (t367 == bt377.1 && (t368.toList == bt377.2.1.toList && (t369 == bt377.2.2.1)))) else (some true)) else (some true)) else (some true)) else (some true)))) = some r := H
        have A116 := Aside0.mk A1160
        clear A1160
        replace H := Option.bind_eq_some_iff.mp H
        obtain ⟨⟨t372, t373, t374, t375⟩, A1170, H⟩ := H
        replace H : ((impl_AddDec.f kj59 t343 t344 t345 t372 t373 t374).bind fun bt377 => (if t365 = true then (if t370 = true then (if t375 = true then (if bt377.2.2.2 = true then (some (t367 == bt377.1 && (t368.toList == bt377.2.1.toList && (t369 == bt377.2.2.1)))) else (some true)) else (some true)) else (some true)) else (some true))) = some r := H
        have A117 := Aside0.mk A1170
        clear A1170
        replace H := Option.bind_eq_some_iff.mp H
        obtain ⟨⟨t377, t378, t379, t380⟩, A1180, H⟩ := H
        replace H : (if t365 = true then (if t370 = true then (if t375 = true then (if t380 = true then (some (t367 == t377 && (t368.toList == t378.toList && (t369 == t379)))) else (some true)) else (some true)) else (some true)) else (some true)) = some r := H
        have A118 := Aside0.mk A1180
        clear A1180
        go_upto_region 16 with (first | ((with_reducible refine gate_callee (f := 19) rfl ?_); refine goesL_ (some 87) rfl rfl Tryd.func19 (by kernel_rfl) rfl #[.slice A0 l0.length c0] rfl (by (try simp only [List.map_toArray, List.map_cons, List.map_nil]); first | done | rfl | (simp only [List.length_drop, List.length_take]; rfl)) ?_; (with_reducible refine (spec_DrawDecText.calls kj59 _ _ l0 t358 t359 t360 _ ?side1 ?side2 A114.out).mono ?_); (case side1 => repeat (first | exact (Kd.C_below HR0.out HB.out) | (with_reducible refine Kd.C_alloc ?_ _) | (with_reducible refine Kd.C_drewN ?_ _) | (with_reducible refine Kd.C_drew ?_))); (case side2 => exact HC0.out); rintro e w123 ⟨rfl, hb⟩; refine ⟨_, rfl, ?_⟩; have n0_ := Aside0.mk (blk_below (g := gb341) (o := .cells #[.bool t335, .string t336, .int .i64 t337] 26 (0, 0)) (by refine blk_up ?_; exact BK341.out) hb); have n1_ := Aside0.mk (blk_below (g := gb342) (o := .cells #[.bool t338, .string t339, .int .i64 t340] 26 (0, 0)) (by refine blk_up ?_; exact BK342.out) hb); have n2_ := Aside0.mk (blk_below (g := gb347) (o := .cells #[.bool t343, .string t344, .int .i64 t345] 26 (0, 0)) (by refine blk_up ?_; exact BK347.out) hb); have n3_ := Aside0.mk (blk_below (g := gb352) (o := .cells #[.bool t348, .string t349, .int .i64 t350] 26 (0, 0)) (by refine blk_up ?_; exact BK352.out) hb); have n4_ := Aside0.mk (blk_below (g := gb357) (o := .cells #[.bool t353, .string t354, .int .i64 t355] 26 (0, 0)) (by refine blk_up ?_; exact BK357.out) hb); have n5_ := Aside0.mk (below_step (by repeat (first | (with_reducible first | exact HB.out | apply below_alloc | apply pw_below_drewN | apply below_drew1 | refine below_set ?_ GE341.out | refine below_set ?_ GE342.out | refine below_set ?_ GE347.out | refine below_set ?_ GE352.out | refine below_set ?_ GE357.out) | exact HB.out)) hb); clear BK341; clear BK342; clear BK347; clear BK352; clear BK357; clear HB; have BK341 := n0_; have BK342 := n1_; have BK347 := n2_; have BK352 := n3_; have BK357 := n4_; have HB := n5_; clear n0_ n1_ n2_ n3_ n4_ n5_; (try clear hb); (try clear hb2); (try clear hk); (try clear hi)) | ((with_reducible refine gate_dst (N := 11) rfl ?_); refine box_event ?hg (N := 11) ?hd (cs := #[.bool false, .string (⟨#[]⟩ : ByteArray), .int .i64 0]) (t := 26) ?hr ?_; (case hd => rfl); (case hg => rfl); (case hr => first | (go_simp; done) | (go_simp; rfl)); intro gb361 hg w124 hbox hb; have n0_ := Aside0.mk (blk_below (g := gb341) (o := .cells #[.bool t335, .string t336, .int .i64 t337] 26 (0, 0)) (by refine blk_up ?_; exact BK341.out) hb); have n1_ := Aside0.mk (blk_below (g := gb342) (o := .cells #[.bool t338, .string t339, .int .i64 t340] 26 (0, 0)) (by refine blk_up ?_; exact BK342.out) hb); have n2_ := Aside0.mk (blk_below (g := gb347) (o := .cells #[.bool t343, .string t344, .int .i64 t345] 26 (0, 0)) (by refine blk_up ?_; exact BK347.out) hb); have n3_ := Aside0.mk (blk_below (g := gb352) (o := .cells #[.bool t348, .string t349, .int .i64 t350] 26 (0, 0)) (by refine blk_up ?_; exact BK352.out) hb); have n4_ := Aside0.mk (blk_below (g := gb357) (o := .cells #[.bool t353, .string t354, .int .i64 t355] 26 (0, 0)) (by refine blk_up ?_; exact BK357.out) hb); have n5_ := Aside0.mk (below_step (by repeat (first | (with_reducible first | exact HB.out | apply below_alloc | apply pw_below_drewN | apply below_drew1 | refine below_set ?_ GE341.out | refine below_set ?_ GE342.out | refine below_set ?_ GE347.out | refine below_set ?_ GE352.out | refine below_set ?_ GE357.out) | exact HB.out)) hb); have n6_ := Aside0.mk (hbox); have n7_ := Aside0.mk ((by rw [hg]; exact (below_size (by repeat (first | (with_reducible first | exact HB.out | apply below_alloc | apply pw_below_drewN | apply below_drew1 | refine below_set ?_ GE341.out | refine below_set ?_ GE342.out | refine below_set ?_ GE347.out | refine below_set ?_ GE352.out | refine below_set ?_ GE357.out) | exact HB.out))) : w.heap.size ≤ gb361)); have n8_ := Aside0.mk ((by rw [hg]; exact (below_size (by repeat (first | (with_reducible first | exact HB.out | apply below_alloc | apply pw_below_drewN | apply below_drew1 | refine below_set ?_ GE341.out | refine below_set ?_ GE342.out | refine below_set ?_ GE347.out | refine below_set ?_ GE352.out | refine below_set ?_ GE357.out) | exact HB.out))) : w.heap.size ≤ gb361)); have n9_ := Aside0.mk ((by rw [hg]; exact Nat.ne_of_lt (blk_lt (g := gb341) (o := .cells #[.bool t335, .string t336, .int .i64 t337] 26 (0, 0)) (by refine blk_up ?_; exact BK341.out)) : gb341 ≠ gb361)); have n10_ := Aside0.mk ((by rw [hg]; exact Nat.ne_of_gt (blk_lt (g := gb341) (o := .cells #[.bool t335, .string t336, .int .i64 t337] 26 (0, 0)) (by refine blk_up ?_; exact BK341.out)) : gb361 ≠ gb341)); have n11_ := Aside0.mk ((by rw [hg]; exact Nat.ne_of_lt (blk_lt (g := gb342) (o := .cells #[.bool t338, .string t339, .int .i64 t340] 26 (0, 0)) (by refine blk_up ?_; exact BK342.out)) : gb342 ≠ gb361)); have n12_ := Aside0.mk ((by rw [hg]; exact Nat.ne_of_gt (blk_lt (g := gb342) (o := .cells #[.bool t338, .string t339, .int .i64 t340] 26 (0, 0)) (by refine blk_up ?_; exact BK342.out)) : gb361 ≠ gb342)); have n13_ := Aside0.mk ((by rw [hg]; exact Nat.ne_of_lt (blk_lt (g := gb347) (o := .cells #[.bool t343, .string t344, .int .i64 t345] 26 (0, 0)) (by refine blk_up ?_; exact BK347.out)) : gb347 ≠ gb361)); have n14_ := Aside0.mk ((by rw [hg]; exact Nat.ne_of_gt (blk_lt (g := gb347) (o := .cells #[.bool t343, .string t344, .int .i64 t345] 26 (0, 0)) (by refine blk_up ?_; exact BK347.out)) : gb361 ≠ gb347)); have n15_ := Aside0.mk ((by rw [hg]; exact Nat.ne_of_lt (blk_lt (g := gb352) (o := .cells #[.bool t348, .string t349, .int .i64 t350] 26 (0, 0)) (by refine blk_up ?_; exact BK352.out)) : gb352 ≠ gb361)); have n16_ := Aside0.mk ((by rw [hg]; exact Nat.ne_of_gt (blk_lt (g := gb352) (o := .cells #[.bool t348, .string t349, .int .i64 t350] 26 (0, 0)) (by refine blk_up ?_; exact BK352.out)) : gb361 ≠ gb352)); have n17_ := Aside0.mk ((by rw [hg]; exact Nat.ne_of_lt (blk_lt (g := gb357) (o := .cells #[.bool t353, .string t354, .int .i64 t355] 26 (0, 0)) (by refine blk_up ?_; exact BK357.out)) : gb357 ≠ gb361)); have n18_ := Aside0.mk ((by rw [hg]; exact Nat.ne_of_gt (blk_lt (g := gb357) (o := .cells #[.bool t353, .string t354, .int .i64 t355] 26 (0, 0)) (by refine blk_up ?_; exact BK357.out)) : gb361 ≠ gb357)); clear BK341; clear BK342; clear BK347; clear BK352; clear BK357; clear HB; have BK341 := n0_; have BK342 := n1_; have BK347 := n2_; have BK352 := n3_; have BK357 := n4_; have HB := n5_; have BK361 := n6_; have GW361 := n7_; have GE361 := n8_; have NB341_361 := n9_; have NB361_341 := n10_; have NB342_361 := n11_; have NB361_342 := n12_; have NB347_361 := n13_; have NB361_347 := n14_; have NB352_361 := n15_; have NB361_352 := n16_; have NB357_361 := n17_; have NB361_357 := n18_; clear n0_ n1_ n2_ n3_ n4_ n5_ n6_ n7_ n8_ n9_ n10_ n11_ n12_ n13_ n14_ n15_ n16_ n17_ n18_; clear hb hbox hg; have hnb125 := NB361_341.out; have hnc125 := NB341_361.out; have hnb126 := NB361_342.out; have hnc126 := NB342_361.out; have hnb127 := NB361_347.out; have hnc127 := NB347_361.out; have hnb128 := NB361_352.out; have hnc128 := NB352_361.out; have hnb129 := NB361_357.out; have hnc129 := NB357_361.out; have hcz130_0 : w124.cell? ⟨gb361, 0, none⟩ = some (.bool false) := (blk_cell BK361.out 0).trans rfl; have hcz130_1 : w124.cell? ⟨gb361, 1, none⟩ = some (.string (⟨#[]⟩ : ByteArray)) := (blk_cell BK361.out 1).trans rfl; have hcz130_2 : w124.cell? ⟨gb361, 2, none⟩ = some (.int .i64 0) := (blk_cell BK361.out 2).trans rfl; have hfz130_0 := blk_frozen BK361.out 0; have hfz130_1 := blk_frozen BK361.out 1; have hfz130_2 := blk_frozen BK361.out 2; have hnb131 := NB341_342.out; have hnc131 := NB342_341.out; have hnb132 := NB341_347.out; have hnc132 := NB347_341.out; have hnb133 := NB341_352.out; have hnc133 := NB352_341.out; have hnb134 := NB341_357.out; have hnc134 := NB357_341.out; have hcz135_0 : w124.cell? ⟨gb341, 0, none⟩ = some (.bool t335) := (blk_cell BK341.out 0).trans rfl; have hcz135_1 : w124.cell? ⟨gb341, 1, none⟩ = some (.string t336) := (blk_cell BK341.out 1).trans rfl; have hcz135_2 : w124.cell? ⟨gb341, 2, none⟩ = some (.int .i64 t337) := (blk_cell BK341.out 2).trans rfl; have hfz135_0 := blk_frozen BK341.out 0; have hfz135_1 := blk_frozen BK341.out 1; have hfz135_2 := blk_frozen BK341.out 2) | ((with_reducible refine gate_callee (f := 20) rfl ?_); refine goesL_ (some 91) rfl rfl Tryd.func20 (by kernel_rfl) rfl #[.agg #[.bool t335, .string t336, .int .i64 t337], .agg #[.bool t358, .string t359, .int .i64 t360]] rfl (by (try simp only [List.map_toArray, List.map_cons, List.map_nil]); first | done | rfl | (simp only [List.length_drop, List.length_take]; rfl)) ?_; (with_reducible refine (impl_AddDec.calls kj59 t335 t336 t337 t358 t359 t360 t362 t363 t364 t365 _ A115.out).mono ?_); rintro e w136 ⟨rfl, hb⟩; refine ⟨_, rfl, ?_⟩; have n0_ := Aside0.mk (blk_below (g := gb341) (o := .cells #[.bool t335, .string t336, .int .i64 t337] 26 (0, 0)) (by refine blk_up ?_; refine blk_far ?_ NB341_361.out _; refine blk_up ?_; refine blk_far ?_ NB341_361.out _; refine blk_up ?_; refine blk_far ?_ NB341_361.out _; refine blk_up ?_; exact BK341.out) hb); have n1_ := Aside0.mk (blk_below (g := gb342) (o := .cells #[.bool t338, .string t339, .int .i64 t340] 26 (0, 0)) (by refine blk_up ?_; refine blk_far ?_ NB342_361.out _; refine blk_up ?_; refine blk_far ?_ NB342_361.out _; refine blk_up ?_; refine blk_far ?_ NB342_361.out _; refine blk_up ?_; exact BK342.out) hb); have n2_ := Aside0.mk (blk_below (g := gb347) (o := .cells #[.bool t343, .string t344, .int .i64 t345] 26 (0, 0)) (by refine blk_up ?_; refine blk_far ?_ NB347_361.out _; refine blk_up ?_; refine blk_far ?_ NB347_361.out _; refine blk_up ?_; refine blk_far ?_ NB347_361.out _; refine blk_up ?_; exact BK347.out) hb); have n3_ := Aside0.mk (blk_below (g := gb352) (o := .cells #[.bool t348, .string t349, .int .i64 t350] 26 (0, 0)) (by refine blk_up ?_; refine blk_far ?_ NB352_361.out _; refine blk_up ?_; refine blk_far ?_ NB352_361.out _; refine blk_up ?_; refine blk_far ?_ NB352_361.out _; refine blk_up ?_; exact BK352.out) hb); have n4_ := Aside0.mk (blk_below (g := gb357) (o := .cells #[.bool t353, .string t354, .int .i64 t355] 26 (0, 0)) (by refine blk_up ?_; refine blk_far ?_ NB357_361.out _; refine blk_up ?_; refine blk_far ?_ NB357_361.out _; refine blk_up ?_; refine blk_far ?_ NB357_361.out _; refine blk_up ?_; exact BK357.out) hb); have n5_ := Aside0.mk (blk_below (g := gb361) (o := .cells #[.bool t358, .string t359, .int .i64 t360] 26 (0, 0)) (by refine blk_up ?_; refine blk_put (cs := #[.bool t358, .string t359, .int .i64 0]) ?_ 2 _ rfl; refine blk_up ?_; refine blk_put (cs := #[.bool t358, .string (⟨#[]⟩ : ByteArray), .int .i64 0]) ?_ 1 _ rfl; refine blk_up ?_; refine blk_put (cs := #[.bool false, .string (⟨#[]⟩ : ByteArray), .int .i64 0]) ?_ 0 _ rfl; refine blk_up ?_; exact BK361.out) hb); have n6_ := Aside0.mk (below_step (by repeat (first | (with_reducible first | exact HB.out | apply below_alloc | apply pw_below_drewN | apply below_drew1 | refine below_set ?_ GE341.out | refine below_set ?_ GE342.out | refine below_set ?_ GE347.out | refine below_set ?_ GE352.out | refine below_set ?_ GE357.out | refine below_set ?_ GE361.out) | exact HB.out)) hb); clear BK341; clear BK342; clear BK347; clear BK352; clear BK357; clear BK361; clear HB; have BK341 := n0_; have BK342 := n1_; have BK347 := n2_; have BK352 := n3_; have BK357 := n4_; have BK361 := n5_; have HB := n6_; clear n0_ n1_ n2_ n3_ n4_ n5_ n6_; (try clear hb); (try clear hb2); (try clear hk); (try clear hi)) | ((with_reducible refine gate_dst (N := 12) rfl ?_); refine box_event ?hg (N := 12) ?hd (cs := #[.bool false, .string (⟨#[]⟩ : ByteArray), .int .i64 0]) (t := 26) ?hr ?_; (case hd => rfl); (case hg => rfl); (case hr => first | (go_simp; done) | (go_simp; rfl)); intro gb366 hg w137 hbox hb; have n0_ := Aside0.mk (blk_below (g := gb341) (o := .cells #[.bool t335, .string t336, .int .i64 t337] 26 (0, 0)) (by refine blk_up ?_; exact BK341.out) hb); have n1_ := Aside0.mk (blk_below (g := gb342) (o := .cells #[.bool t338, .string t339, .int .i64 t340] 26 (0, 0)) (by refine blk_up ?_; exact BK342.out) hb); have n2_ := Aside0.mk (blk_below (g := gb347) (o := .cells #[.bool t343, .string t344, .int .i64 t345] 26 (0, 0)) (by refine blk_up ?_; exact BK347.out) hb); have n3_ := Aside0.mk (blk_below (g := gb352) (o := .cells #[.bool t348, .string t349, .int .i64 t350] 26 (0, 0)) (by refine blk_up ?_; exact BK352.out) hb); have n4_ := Aside0.mk (blk_below (g := gb357) (o := .cells #[.bool t353, .string t354, .int .i64 t355] 26 (0, 0)) (by refine blk_up ?_; exact BK357.out) hb); have n5_ := Aside0.mk (blk_below (g := gb361) (o := .cells #[.bool t358, .string t359, .int .i64 t360] 26 (0, 0)) (by refine blk_up ?_; exact BK361.out) hb); have n6_ := Aside0.mk (below_step (by repeat (first | (with_reducible first | exact HB.out | apply below_alloc | apply pw_below_drewN | apply below_drew1 | refine below_set ?_ GE341.out | refine below_set ?_ GE342.out | refine below_set ?_ GE347.out | refine below_set ?_ GE352.out | refine below_set ?_ GE357.out | refine below_set ?_ GE361.out) | exact HB.out)) hb); have n7_ := Aside0.mk (hbox); have n8_ := Aside0.mk ((by rw [hg]; exact (below_size (by repeat (first | (with_reducible first | exact HB.out | apply below_alloc | apply pw_below_drewN | apply below_drew1 | refine below_set ?_ GE341.out | refine below_set ?_ GE342.out | refine below_set ?_ GE347.out | refine below_set ?_ GE352.out | refine below_set ?_ GE357.out | refine below_set ?_ GE361.out) | exact HB.out))) : w.heap.size ≤ gb366)); have n9_ := Aside0.mk ((by rw [hg]; exact (below_size (by repeat (first | (with_reducible first | exact HB.out | apply below_alloc | apply pw_below_drewN | apply below_drew1 | refine below_set ?_ GE341.out | refine below_set ?_ GE342.out | refine below_set ?_ GE347.out | refine below_set ?_ GE352.out | refine below_set ?_ GE357.out | refine below_set ?_ GE361.out) | exact HB.out))) : w.heap.size ≤ gb366)); have n10_ := Aside0.mk ((by rw [hg]; exact Nat.ne_of_lt (blk_lt (g := gb341) (o := .cells #[.bool t335, .string t336, .int .i64 t337] 26 (0, 0)) (by refine blk_up ?_; exact BK341.out)) : gb341 ≠ gb366)); have n11_ := Aside0.mk ((by rw [hg]; exact Nat.ne_of_gt (blk_lt (g := gb341) (o := .cells #[.bool t335, .string t336, .int .i64 t337] 26 (0, 0)) (by refine blk_up ?_; exact BK341.out)) : gb366 ≠ gb341)); have n12_ := Aside0.mk ((by rw [hg]; exact Nat.ne_of_lt (blk_lt (g := gb342) (o := .cells #[.bool t338, .string t339, .int .i64 t340] 26 (0, 0)) (by refine blk_up ?_; exact BK342.out)) : gb342 ≠ gb366)); have n13_ := Aside0.mk ((by rw [hg]; exact Nat.ne_of_gt (blk_lt (g := gb342) (o := .cells #[.bool t338, .string t339, .int .i64 t340] 26 (0, 0)) (by refine blk_up ?_; exact BK342.out)) : gb366 ≠ gb342)); have n14_ := Aside0.mk ((by rw [hg]; exact Nat.ne_of_lt (blk_lt (g := gb347) (o := .cells #[.bool t343, .string t344, .int .i64 t345] 26 (0, 0)) (by refine blk_up ?_; exact BK347.out)) : gb347 ≠ gb366)); have n15_ := Aside0.mk ((by rw [hg]; exact Nat.ne_of_gt (blk_lt (g := gb347) (o := .cells #[.bool t343, .string t344, .int .i64 t345] 26 (0, 0)) (by refine blk_up ?_; exact BK347.out)) : gb366 ≠ gb347)); have n16_ := Aside0.mk ((by rw [hg]; exact Nat.ne_of_lt (blk_lt (g := gb352) (o := .cells #[.bool t348, .string t349, .int .i64 t350] 26 (0, 0)) (by refine blk_up ?_; exact BK352.out)) : gb352 ≠ gb366)); have n17_ := Aside0.mk ((by rw [hg]; exact Nat.ne_of_gt (blk_lt (g := gb352) (o := .cells #[.bool t348, .string t349, .int .i64 t350] 26 (0, 0)) (by refine blk_up ?_; exact BK352.out)) : gb366 ≠ gb352)); have n18_ := Aside0.mk ((by rw [hg]; exact Nat.ne_of_lt (blk_lt (g := gb357) (o := .cells #[.bool t353, .string t354, .int .i64 t355] 26 (0, 0)) (by refine blk_up ?_; exact BK357.out)) : gb357 ≠ gb366)); have n19_ := Aside0.mk ((by rw [hg]; exact Nat.ne_of_gt (blk_lt (g := gb357) (o := .cells #[.bool t353, .string t354, .int .i64 t355] 26 (0, 0)) (by refine blk_up ?_; exact BK357.out)) : gb366 ≠ gb357)); have n20_ := Aside0.mk ((by rw [hg]; exact Nat.ne_of_lt (blk_lt (g := gb361) (o := .cells #[.bool t358, .string t359, .int .i64 t360] 26 (0, 0)) (by refine blk_up ?_; exact BK361.out)) : gb361 ≠ gb366)); have n21_ := Aside0.mk ((by rw [hg]; exact Nat.ne_of_gt (blk_lt (g := gb361) (o := .cells #[.bool t358, .string t359, .int .i64 t360] 26 (0, 0)) (by refine blk_up ?_; exact BK361.out)) : gb366 ≠ gb361)); clear BK341; clear BK342; clear BK347; clear BK352; clear BK357; clear BK361; clear HB; have BK341 := n0_; have BK342 := n1_; have BK347 := n2_; have BK352 := n3_; have BK357 := n4_; have BK361 := n5_; have HB := n6_; have BK366 := n7_; have GW366 := n8_; have GE366 := n9_; have NB341_366 := n10_; have NB366_341 := n11_; have NB342_366 := n12_; have NB366_342 := n13_; have NB347_366 := n14_; have NB366_347 := n15_; have NB352_366 := n16_; have NB366_352 := n17_; have NB357_366 := n18_; have NB366_357 := n19_; have NB361_366 := n20_; have NB366_361 := n21_; clear n0_ n1_ n2_ n3_ n4_ n5_ n6_ n7_ n8_ n9_ n10_ n11_ n12_ n13_ n14_ n15_ n16_ n17_ n18_ n19_ n20_ n21_; clear hb hbox hg; have hnb138 := NB366_341.out; have hnc138 := NB341_366.out; have hnb139 := NB366_342.out; have hnc139 := NB342_366.out; have hnb140 := NB366_347.out; have hnc140 := NB347_366.out; have hnb141 := NB366_352.out; have hnc141 := NB352_366.out; have hnb142 := NB366_357.out; have hnc142 := NB357_366.out; have hnb143 := NB366_361.out; have hnc143 := NB361_366.out; have hcz144_0 : w137.cell? ⟨gb366, 0, none⟩ = some (.bool false) := (blk_cell BK366.out 0).trans rfl; have hcz144_1 : w137.cell? ⟨gb366, 1, none⟩ = some (.string (⟨#[]⟩ : ByteArray)) := (blk_cell BK366.out 1).trans rfl; have hcz144_2 : w137.cell? ⟨gb366, 2, none⟩ = some (.int .i64 0) := (blk_cell BK366.out 2).trans rfl; have hfz144_0 := blk_frozen BK366.out 0; have hfz144_1 := blk_frozen BK366.out 1; have hfz144_2 := blk_frozen BK366.out 2; have hnb145 := NB342_347.out; have hnc145 := NB347_342.out; have hnb146 := NB342_352.out; have hnc146 := NB352_342.out; have hnb147 := NB342_357.out; have hnc147 := NB357_342.out; have hcz148_0 : w137.cell? ⟨gb342, 0, none⟩ = some (.bool t338) := (blk_cell BK342.out 0).trans rfl; have hcz148_1 : w137.cell? ⟨gb342, 1, none⟩ = some (.string t339) := (blk_cell BK342.out 1).trans rfl; have hcz148_2 : w137.cell? ⟨gb342, 2, none⟩ = some (.int .i64 t340) := (blk_cell BK342.out 2).trans rfl; have hfz148_0 := blk_frozen BK342.out 0; have hfz148_1 := blk_frozen BK342.out 1; have hfz148_2 := blk_frozen BK342.out 2) | ((with_reducible refine gate_callee (f := 17) rfl ?_); refine goesL_ (some 97) rfl rfl Tryd.func17 (by kernel_rfl) rfl #[.agg #[.bool t362, .string t363, .int .i64 t364], .agg #[.bool t338, .string t339, .int .i64 t340]] rfl (by (try simp only [List.map_toArray, List.map_cons, List.map_nil]); first | done | rfl | (simp only [List.length_drop, List.length_take]; rfl)) ?_; (with_reducible refine (impl_TimesDec.calls t362 t363 t364 t338 t339 t340 t367 t368 t369 t370 _ A116.out).mono ?_); rintro e w149 ⟨rfl, hb⟩; refine ⟨_, rfl, ?_⟩; have n0_ := Aside0.mk (blk_below (g := gb341) (o := .cells #[.bool t335, .string t336, .int .i64 t337] 26 (0, 0)) (by refine blk_up ?_; refine blk_far ?_ NB341_366.out _; refine blk_up ?_; refine blk_far ?_ NB341_366.out _; refine blk_up ?_; refine blk_far ?_ NB341_366.out _; refine blk_up ?_; exact BK341.out) hb); have n1_ := Aside0.mk (blk_below (g := gb342) (o := .cells #[.bool t338, .string t339, .int .i64 t340] 26 (0, 0)) (by refine blk_up ?_; refine blk_far ?_ NB342_366.out _; refine blk_up ?_; refine blk_far ?_ NB342_366.out _; refine blk_up ?_; refine blk_far ?_ NB342_366.out _; refine blk_up ?_; exact BK342.out) hb); have n2_ := Aside0.mk (blk_below (g := gb347) (o := .cells #[.bool t343, .string t344, .int .i64 t345] 26 (0, 0)) (by refine blk_up ?_; refine blk_far ?_ NB347_366.out _; refine blk_up ?_; refine blk_far ?_ NB347_366.out _; refine blk_up ?_; refine blk_far ?_ NB347_366.out _; refine blk_up ?_; exact BK347.out) hb); have n3_ := Aside0.mk (blk_below (g := gb352) (o := .cells #[.bool t348, .string t349, .int .i64 t350] 26 (0, 0)) (by refine blk_up ?_; refine blk_far ?_ NB352_366.out _; refine blk_up ?_; refine blk_far ?_ NB352_366.out _; refine blk_up ?_; refine blk_far ?_ NB352_366.out _; refine blk_up ?_; exact BK352.out) hb); have n4_ := Aside0.mk (blk_below (g := gb357) (o := .cells #[.bool t353, .string t354, .int .i64 t355] 26 (0, 0)) (by refine blk_up ?_; refine blk_far ?_ NB357_366.out _; refine blk_up ?_; refine blk_far ?_ NB357_366.out _; refine blk_up ?_; refine blk_far ?_ NB357_366.out _; refine blk_up ?_; exact BK357.out) hb); have n5_ := Aside0.mk (blk_below (g := gb361) (o := .cells #[.bool t358, .string t359, .int .i64 t360] 26 (0, 0)) (by refine blk_up ?_; refine blk_far ?_ NB361_366.out _; refine blk_up ?_; refine blk_far ?_ NB361_366.out _; refine blk_up ?_; refine blk_far ?_ NB361_366.out _; refine blk_up ?_; exact BK361.out) hb); have n6_ := Aside0.mk (blk_below (g := gb366) (o := .cells #[.bool t362, .string t363, .int .i64 t364] 26 (0, 0)) (by refine blk_up ?_; refine blk_put (cs := #[.bool t362, .string t363, .int .i64 0]) ?_ 2 _ rfl; refine blk_up ?_; refine blk_put (cs := #[.bool t362, .string (⟨#[]⟩ : ByteArray), .int .i64 0]) ?_ 1 _ rfl; refine blk_up ?_; refine blk_put (cs := #[.bool false, .string (⟨#[]⟩ : ByteArray), .int .i64 0]) ?_ 0 _ rfl; refine blk_up ?_; exact BK366.out) hb); have n7_ := Aside0.mk (below_step (by repeat (first | (with_reducible first | exact HB.out | apply below_alloc | apply pw_below_drewN | apply below_drew1 | refine below_set ?_ GE341.out | refine below_set ?_ GE342.out | refine below_set ?_ GE347.out | refine below_set ?_ GE352.out | refine below_set ?_ GE357.out | refine below_set ?_ GE361.out | refine below_set ?_ GE366.out) | exact HB.out)) hb); clear BK341; clear BK342; clear BK347; clear BK352; clear BK357; clear BK361; clear BK366; clear HB; have BK341 := n0_; have BK342 := n1_; have BK347 := n2_; have BK352 := n3_; have BK357 := n4_; have BK361 := n5_; have BK366 := n6_; have HB := n7_; clear n0_ n1_ n2_ n3_ n4_ n5_ n6_ n7_; (try clear hb); (try clear hb2); (try clear hk); (try clear hi)) | ((with_reducible refine gate_dst (N := 14) rfl ?_); refine box_event ?hg (N := 14) ?hd (cs := #[.bool false, .string (⟨#[]⟩ : ByteArray), .int .i64 0]) (t := 26) ?hr ?_; (case hd => rfl); (case hg => rfl); (case hr => first | (go_simp; done) | (go_simp; rfl)); intro gb371 hg w150 hbox hb; have n0_ := Aside0.mk (blk_below (g := gb341) (o := .cells #[.bool t335, .string t336, .int .i64 t337] 26 (0, 0)) (by refine blk_up ?_; exact BK341.out) hb); have n1_ := Aside0.mk (blk_below (g := gb342) (o := .cells #[.bool t338, .string t339, .int .i64 t340] 26 (0, 0)) (by refine blk_up ?_; exact BK342.out) hb); have n2_ := Aside0.mk (blk_below (g := gb347) (o := .cells #[.bool t343, .string t344, .int .i64 t345] 26 (0, 0)) (by refine blk_up ?_; exact BK347.out) hb); have n3_ := Aside0.mk (blk_below (g := gb352) (o := .cells #[.bool t348, .string t349, .int .i64 t350] 26 (0, 0)) (by refine blk_up ?_; exact BK352.out) hb); have n4_ := Aside0.mk (blk_below (g := gb357) (o := .cells #[.bool t353, .string t354, .int .i64 t355] 26 (0, 0)) (by refine blk_up ?_; exact BK357.out) hb); have n5_ := Aside0.mk (blk_below (g := gb361) (o := .cells #[.bool t358, .string t359, .int .i64 t360] 26 (0, 0)) (by refine blk_up ?_; exact BK361.out) hb); have n6_ := Aside0.mk (blk_below (g := gb366) (o := .cells #[.bool t362, .string t363, .int .i64 t364] 26 (0, 0)) (by refine blk_up ?_; exact BK366.out) hb); have n7_ := Aside0.mk (below_step (by repeat (first | (with_reducible first | exact HB.out | apply below_alloc | apply pw_below_drewN | apply below_drew1 | refine below_set ?_ GE341.out | refine below_set ?_ GE342.out | refine below_set ?_ GE347.out | refine below_set ?_ GE352.out | refine below_set ?_ GE357.out | refine below_set ?_ GE361.out | refine below_set ?_ GE366.out) | exact HB.out)) hb); have n8_ := Aside0.mk (hbox); have n9_ := Aside0.mk ((by rw [hg]; exact (below_size (by repeat (first | (with_reducible first | exact HB.out | apply below_alloc | apply pw_below_drewN | apply below_drew1 | refine below_set ?_ GE341.out | refine below_set ?_ GE342.out | refine below_set ?_ GE347.out | refine below_set ?_ GE352.out | refine below_set ?_ GE357.out | refine below_set ?_ GE361.out | refine below_set ?_ GE366.out) | exact HB.out))) : w.heap.size ≤ gb371)); have n10_ := Aside0.mk ((by rw [hg]; exact (below_size (by repeat (first | (with_reducible first | exact HB.out | apply below_alloc | apply pw_below_drewN | apply below_drew1 | refine below_set ?_ GE341.out | refine below_set ?_ GE342.out | refine below_set ?_ GE347.out | refine below_set ?_ GE352.out | refine below_set ?_ GE357.out | refine below_set ?_ GE361.out | refine below_set ?_ GE366.out) | exact HB.out))) : w.heap.size ≤ gb371)); have n11_ := Aside0.mk ((by rw [hg]; exact Nat.ne_of_lt (blk_lt (g := gb341) (o := .cells #[.bool t335, .string t336, .int .i64 t337] 26 (0, 0)) (by refine blk_up ?_; exact BK341.out)) : gb341 ≠ gb371)); have n12_ := Aside0.mk ((by rw [hg]; exact Nat.ne_of_gt (blk_lt (g := gb341) (o := .cells #[.bool t335, .string t336, .int .i64 t337] 26 (0, 0)) (by refine blk_up ?_; exact BK341.out)) : gb371 ≠ gb341)); have n13_ := Aside0.mk ((by rw [hg]; exact Nat.ne_of_lt (blk_lt (g := gb342) (o := .cells #[.bool t338, .string t339, .int .i64 t340] 26 (0, 0)) (by refine blk_up ?_; exact BK342.out)) : gb342 ≠ gb371)); have n14_ := Aside0.mk ((by rw [hg]; exact Nat.ne_of_gt (blk_lt (g := gb342) (o := .cells #[.bool t338, .string t339, .int .i64 t340] 26 (0, 0)) (by refine blk_up ?_; exact BK342.out)) : gb371 ≠ gb342)); have n15_ := Aside0.mk ((by rw [hg]; exact Nat.ne_of_lt (blk_lt (g := gb347) (o := .cells #[.bool t343, .string t344, .int .i64 t345] 26 (0, 0)) (by refine blk_up ?_; exact BK347.out)) : gb347 ≠ gb371)); have n16_ := Aside0.mk ((by rw [hg]; exact Nat.ne_of_gt (blk_lt (g := gb347) (o := .cells #[.bool t343, .string t344, .int .i64 t345] 26 (0, 0)) (by refine blk_up ?_; exact BK347.out)) : gb371 ≠ gb347)); have n17_ := Aside0.mk ((by rw [hg]; exact Nat.ne_of_lt (blk_lt (g := gb352) (o := .cells #[.bool t348, .string t349, .int .i64 t350] 26 (0, 0)) (by refine blk_up ?_; exact BK352.out)) : gb352 ≠ gb371)); have n18_ := Aside0.mk ((by rw [hg]; exact Nat.ne_of_gt (blk_lt (g := gb352) (o := .cells #[.bool t348, .string t349, .int .i64 t350] 26 (0, 0)) (by refine blk_up ?_; exact BK352.out)) : gb371 ≠ gb352)); have n19_ := Aside0.mk ((by rw [hg]; exact Nat.ne_of_lt (blk_lt (g := gb357) (o := .cells #[.bool t353, .string t354, .int .i64 t355] 26 (0, 0)) (by refine blk_up ?_; exact BK357.out)) : gb357 ≠ gb371)); have n20_ := Aside0.mk ((by rw [hg]; exact Nat.ne_of_gt (blk_lt (g := gb357) (o := .cells #[.bool t353, .string t354, .int .i64 t355] 26 (0, 0)) (by refine blk_up ?_; exact BK357.out)) : gb371 ≠ gb357)); have n21_ := Aside0.mk ((by rw [hg]; exact Nat.ne_of_lt (blk_lt (g := gb361) (o := .cells #[.bool t358, .string t359, .int .i64 t360] 26 (0, 0)) (by refine blk_up ?_; exact BK361.out)) : gb361 ≠ gb371)); have n22_ := Aside0.mk ((by rw [hg]; exact Nat.ne_of_gt (blk_lt (g := gb361) (o := .cells #[.bool t358, .string t359, .int .i64 t360] 26 (0, 0)) (by refine blk_up ?_; exact BK361.out)) : gb371 ≠ gb361)); have n23_ := Aside0.mk ((by rw [hg]; exact Nat.ne_of_lt (blk_lt (g := gb366) (o := .cells #[.bool t362, .string t363, .int .i64 t364] 26 (0, 0)) (by refine blk_up ?_; exact BK366.out)) : gb366 ≠ gb371)); have n24_ := Aside0.mk ((by rw [hg]; exact Nat.ne_of_gt (blk_lt (g := gb366) (o := .cells #[.bool t362, .string t363, .int .i64 t364] 26 (0, 0)) (by refine blk_up ?_; exact BK366.out)) : gb371 ≠ gb366)); clear BK341; clear BK342; clear BK347; clear BK352; clear BK357; clear BK361; clear BK366; clear HB; have BK341 := n0_; have BK342 := n1_; have BK347 := n2_; have BK352 := n3_; have BK357 := n4_; have BK361 := n5_; have BK366 := n6_; have HB := n7_; have BK371 := n8_; have GW371 := n9_; have GE371 := n10_; have NB341_371 := n11_; have NB371_341 := n12_; have NB342_371 := n13_; have NB371_342 := n14_; have NB347_371 := n15_; have NB371_347 := n16_; have NB352_371 := n17_; have NB371_352 := n18_; have NB357_371 := n19_; have NB371_357 := n20_; have NB361_371 := n21_; have NB371_361 := n22_; have NB366_371 := n23_; have NB371_366 := n24_; clear n0_ n1_ n2_ n3_ n4_ n5_ n6_ n7_ n8_ n9_ n10_ n11_ n12_ n13_ n14_ n15_ n16_ n17_ n18_ n19_ n20_ n21_ n22_ n23_ n24_; clear hb hbox hg; have hnb151 := NB371_341.out; have hnc151 := NB341_371.out; have hnb152 := NB371_342.out; have hnc152 := NB342_371.out; have hnb153 := NB371_347.out; have hnc153 := NB347_371.out; have hnb154 := NB371_352.out; have hnc154 := NB352_371.out; have hnb155 := NB371_357.out; have hnc155 := NB357_371.out; have hnb156 := NB371_361.out; have hnc156 := NB361_371.out; have hnb157 := NB371_366.out; have hnc157 := NB366_371.out; have hcz158_0 : w150.cell? ⟨gb371, 0, none⟩ = some (.bool false) := (blk_cell BK371.out 0).trans rfl; have hcz158_1 : w150.cell? ⟨gb371, 1, none⟩ = some (.string (⟨#[]⟩ : ByteArray)) := (blk_cell BK371.out 1).trans rfl; have hcz158_2 : w150.cell? ⟨gb371, 2, none⟩ = some (.int .i64 0) := (blk_cell BK371.out 2).trans rfl; have hfz158_0 := blk_frozen BK371.out 0; have hfz158_1 := blk_frozen BK371.out 1; have hfz158_2 := blk_frozen BK371.out 2; have hcz159_0 : w150.cell? ⟨gb361, 0, none⟩ = some (.bool t358) := (blk_cell BK361.out 0).trans rfl; have hcz159_1 : w150.cell? ⟨gb361, 1, none⟩ = some (.string t359) := (blk_cell BK361.out 1).trans rfl; have hcz159_2 : w150.cell? ⟨gb361, 2, none⟩ = some (.int .i64 t360) := (blk_cell BK361.out 2).trans rfl; have hfz159_0 := blk_frozen BK361.out 0; have hfz159_1 := blk_frozen BK361.out 1; have hfz159_2 := blk_frozen BK361.out 2; have hcz160_0 : w150.cell? ⟨gb342, 0, none⟩ = some (.bool t338) := (blk_cell BK342.out 0).trans rfl; have hcz160_1 : w150.cell? ⟨gb342, 1, none⟩ = some (.string t339) := (blk_cell BK342.out 1).trans rfl; have hcz160_2 : w150.cell? ⟨gb342, 2, none⟩ = some (.int .i64 t340) := (blk_cell BK342.out 2).trans rfl; have hfz160_0 := blk_frozen BK342.out 0; have hfz160_1 := blk_frozen BK342.out 1; have hfz160_2 := blk_frozen BK342.out 2) | ((with_reducible refine gate_callee (f := 17) rfl ?_); refine goesL_ (some 103) rfl rfl Tryd.func17 (by kernel_rfl) rfl #[.agg #[.bool t358, .string t359, .int .i64 t360], .agg #[.bool t338, .string t339, .int .i64 t340]] rfl (by (try simp only [List.map_toArray, List.map_cons, List.map_nil]); first | done | rfl | (simp only [List.length_drop, List.length_take]; rfl)) ?_; (with_reducible refine (impl_TimesDec.calls t358 t359 t360 t338 t339 t340 t372 t373 t374 t375 _ A117.out).mono ?_); rintro e w161 ⟨rfl, hb⟩; refine ⟨_, rfl, ?_⟩; have n0_ := Aside0.mk (blk_below (g := gb341) (o := .cells #[.bool t335, .string t336, .int .i64 t337] 26 (0, 0)) (by refine blk_up ?_; refine blk_far ?_ NB341_371.out _; refine blk_up ?_; refine blk_far ?_ NB341_371.out _; refine blk_up ?_; refine blk_far ?_ NB341_371.out _; refine blk_up ?_; exact BK341.out) hb); have n1_ := Aside0.mk (blk_below (g := gb342) (o := .cells #[.bool t338, .string t339, .int .i64 t340] 26 (0, 0)) (by refine blk_up ?_; refine blk_far ?_ NB342_371.out _; refine blk_up ?_; refine blk_far ?_ NB342_371.out _; refine blk_up ?_; refine blk_far ?_ NB342_371.out _; refine blk_up ?_; exact BK342.out) hb); have n2_ := Aside0.mk (blk_below (g := gb347) (o := .cells #[.bool t343, .string t344, .int .i64 t345] 26 (0, 0)) (by refine blk_up ?_; refine blk_far ?_ NB347_371.out _; refine blk_up ?_; refine blk_far ?_ NB347_371.out _; refine blk_up ?_; refine blk_far ?_ NB347_371.out _; refine blk_up ?_; exact BK347.out) hb); have n3_ := Aside0.mk (blk_below (g := gb352) (o := .cells #[.bool t348, .string t349, .int .i64 t350] 26 (0, 0)) (by refine blk_up ?_; refine blk_far ?_ NB352_371.out _; refine blk_up ?_; refine blk_far ?_ NB352_371.out _; refine blk_up ?_; refine blk_far ?_ NB352_371.out _; refine blk_up ?_; exact BK352.out) hb); have n4_ := Aside0.mk (blk_below (g := gb357) (o := .cells #[.bool t353, .string t354, .int .i64 t355] 26 (0, 0)) (by refine blk_up ?_; refine blk_far ?_ NB357_371.out _; refine blk_up ?_; refine blk_far ?_ NB357_371.out _; refine blk_up ?_; refine blk_far ?_ NB357_371.out _; refine blk_up ?_; exact BK357.out) hb); have n5_ := Aside0.mk (blk_below (g := gb361) (o := .cells #[.bool t358, .string t359, .int .i64 t360] 26 (0, 0)) (by refine blk_up ?_; refine blk_far ?_ NB361_371.out _; refine blk_up ?_; refine blk_far ?_ NB361_371.out _; refine blk_up ?_; refine blk_far ?_ NB361_371.out _; refine blk_up ?_; exact BK361.out) hb); have n6_ := Aside0.mk (blk_below (g := gb366) (o := .cells #[.bool t362, .string t363, .int .i64 t364] 26 (0, 0)) (by refine blk_up ?_; refine blk_far ?_ NB366_371.out _; refine blk_up ?_; refine blk_far ?_ NB366_371.out _; refine blk_up ?_; refine blk_far ?_ NB366_371.out _; refine blk_up ?_; exact BK366.out) hb); have n7_ := Aside0.mk (blk_below (g := gb371) (o := .cells #[.bool t367, .string t368, .int .i64 t369] 26 (0, 0)) (by refine blk_up ?_; refine blk_put (cs := #[.bool t367, .string t368, .int .i64 0]) ?_ 2 _ rfl; refine blk_up ?_; refine blk_put (cs := #[.bool t367, .string (⟨#[]⟩ : ByteArray), .int .i64 0]) ?_ 1 _ rfl; refine blk_up ?_; refine blk_put (cs := #[.bool false, .string (⟨#[]⟩ : ByteArray), .int .i64 0]) ?_ 0 _ rfl; refine blk_up ?_; exact BK371.out) hb); have n8_ := Aside0.mk (below_step (by repeat (first | (with_reducible first | exact HB.out | apply below_alloc | apply pw_below_drewN | apply below_drew1 | refine below_set ?_ GE341.out | refine below_set ?_ GE342.out | refine below_set ?_ GE347.out | refine below_set ?_ GE352.out | refine below_set ?_ GE357.out | refine below_set ?_ GE361.out | refine below_set ?_ GE366.out | refine below_set ?_ GE371.out) | exact HB.out)) hb); clear BK341; clear BK342; clear BK347; clear BK352; clear BK357; clear BK361; clear BK366; clear BK371; clear HB; have BK341 := n0_; have BK342 := n1_; have BK347 := n2_; have BK352 := n3_; have BK357 := n4_; have BK361 := n5_; have BK366 := n6_; have BK371 := n7_; have HB := n8_; clear n0_ n1_ n2_ n3_ n4_ n5_ n6_ n7_ n8_; (try clear hb); (try clear hb2); (try clear hk); (try clear hi)) | ((with_reducible refine gate_dst (N := 16) rfl ?_); refine box_event ?hg (N := 16) ?hd (cs := #[.bool false, .string (⟨#[]⟩ : ByteArray), .int .i64 0]) (t := 26) ?hr ?_; (case hd => rfl); (case hg => rfl); (case hr => first | (go_simp; done) | (go_simp; rfl)); intro gb376 hg w162 hbox hb; have n0_ := Aside0.mk (blk_below (g := gb341) (o := .cells #[.bool t335, .string t336, .int .i64 t337] 26 (0, 0)) (by refine blk_up ?_; exact BK341.out) hb); have n1_ := Aside0.mk (blk_below (g := gb342) (o := .cells #[.bool t338, .string t339, .int .i64 t340] 26 (0, 0)) (by refine blk_up ?_; exact BK342.out) hb); have n2_ := Aside0.mk (blk_below (g := gb347) (o := .cells #[.bool t343, .string t344, .int .i64 t345] 26 (0, 0)) (by refine blk_up ?_; exact BK347.out) hb); have n3_ := Aside0.mk (blk_below (g := gb352) (o := .cells #[.bool t348, .string t349, .int .i64 t350] 26 (0, 0)) (by refine blk_up ?_; exact BK352.out) hb); have n4_ := Aside0.mk (blk_below (g := gb357) (o := .cells #[.bool t353, .string t354, .int .i64 t355] 26 (0, 0)) (by refine blk_up ?_; exact BK357.out) hb); have n5_ := Aside0.mk (blk_below (g := gb361) (o := .cells #[.bool t358, .string t359, .int .i64 t360] 26 (0, 0)) (by refine blk_up ?_; exact BK361.out) hb); have n6_ := Aside0.mk (blk_below (g := gb366) (o := .cells #[.bool t362, .string t363, .int .i64 t364] 26 (0, 0)) (by refine blk_up ?_; exact BK366.out) hb); have n7_ := Aside0.mk (blk_below (g := gb371) (o := .cells #[.bool t367, .string t368, .int .i64 t369] 26 (0, 0)) (by refine blk_up ?_; exact BK371.out) hb); have n8_ := Aside0.mk (below_step (by repeat (first | (with_reducible first | exact HB.out | apply below_alloc | apply pw_below_drewN | apply below_drew1 | refine below_set ?_ GE341.out | refine below_set ?_ GE342.out | refine below_set ?_ GE347.out | refine below_set ?_ GE352.out | refine below_set ?_ GE357.out | refine below_set ?_ GE361.out | refine below_set ?_ GE366.out | refine below_set ?_ GE371.out) | exact HB.out)) hb); have n9_ := Aside0.mk (hbox); have n10_ := Aside0.mk ((by rw [hg]; exact (below_size (by repeat (first | (with_reducible first | exact HB.out | apply below_alloc | apply pw_below_drewN | apply below_drew1 | refine below_set ?_ GE341.out | refine below_set ?_ GE342.out | refine below_set ?_ GE347.out | refine below_set ?_ GE352.out | refine below_set ?_ GE357.out | refine below_set ?_ GE361.out | refine below_set ?_ GE366.out | refine below_set ?_ GE371.out) | exact HB.out))) : w.heap.size ≤ gb376)); have n11_ := Aside0.mk ((by rw [hg]; exact (below_size (by repeat (first | (with_reducible first | exact HB.out | apply below_alloc | apply pw_below_drewN | apply below_drew1 | refine below_set ?_ GE341.out | refine below_set ?_ GE342.out | refine below_set ?_ GE347.out | refine below_set ?_ GE352.out | refine below_set ?_ GE357.out | refine below_set ?_ GE361.out | refine below_set ?_ GE366.out | refine below_set ?_ GE371.out) | exact HB.out))) : w.heap.size ≤ gb376)); have n12_ := Aside0.mk ((by rw [hg]; exact Nat.ne_of_lt (blk_lt (g := gb341) (o := .cells #[.bool t335, .string t336, .int .i64 t337] 26 (0, 0)) (by refine blk_up ?_; exact BK341.out)) : gb341 ≠ gb376)); have n13_ := Aside0.mk ((by rw [hg]; exact Nat.ne_of_gt (blk_lt (g := gb341) (o := .cells #[.bool t335, .string t336, .int .i64 t337] 26 (0, 0)) (by refine blk_up ?_; exact BK341.out)) : gb376 ≠ gb341)); have n14_ := Aside0.mk ((by rw [hg]; exact Nat.ne_of_lt (blk_lt (g := gb342) (o := .cells #[.bool t338, .string t339, .int .i64 t340] 26 (0, 0)) (by refine blk_up ?_; exact BK342.out)) : gb342 ≠ gb376)); have n15_ := Aside0.mk ((by rw [hg]; exact Nat.ne_of_gt (blk_lt (g := gb342) (o := .cells #[.bool t338, .string t339, .int .i64 t340] 26 (0, 0)) (by refine blk_up ?_; exact BK342.out)) : gb376 ≠ gb342)); have n16_ := Aside0.mk ((by rw [hg]; exact Nat.ne_of_lt (blk_lt (g := gb347) (o := .cells #[.bool t343, .string t344, .int .i64 t345] 26 (0, 0)) (by refine blk_up ?_; exact BK347.out)) : gb347 ≠ gb376)); have n17_ := Aside0.mk ((by rw [hg]; exact Nat.ne_of_gt (blk_lt (g := gb347) (o := .cells #[.bool t343, .string t344, .int .i64 t345] 26 (0, 0)) (by refine blk_up ?_; exact BK347.out)) : gb376 ≠ gb347)); have n18_ := Aside0.mk ((by rw [hg]; exact Nat.ne_of_lt (blk_lt (g := gb352) (o := .cells #[.bool t348, .string t349, .int .i64 t350] 26 (0, 0)) (by refine blk_up ?_; exact BK352.out)) : gb352 ≠ gb376)); have n19_ := Aside0.mk ((by rw [hg]; exact Nat.ne_of_gt (blk_lt (g := gb352) (o := .cells #[.bool t348, .string t349, .int .i64 t350] 26 (0, 0)) (by refine blk_up ?_; exact BK352.out)) : gb376 ≠ gb352)); have n20_ := Aside0.mk ((by rw [hg]; exact Nat.ne_of_lt (blk_lt (g := gb357) (o := .cells #[.bool t353, .string t354, .int .i64 t355] 26 (0, 0)) (by refine blk_up ?_; exact BK357.out)) : gb357 ≠ gb376)); have n21_ := Aside0.mk ((by rw [hg]; exact Nat.ne_of_gt (blk_lt (g := gb357) (o := .cells #[.bool t353, .string t354, .int .i64 t355] 26 (0, 0)) (by refine blk_up ?_; exact BK357.out)) : gb376 ≠ gb357)); have n22_ := Aside0.mk ((by rw [hg]; exact Nat.ne_of_lt (blk_lt (g := gb361) (o := .cells #[.bool t358, .string t359, .int .i64 t360] 26 (0, 0)) (by refine blk_up ?_; exact BK361.out)) : gb361 ≠ gb376)); have n23_ := Aside0.mk ((by rw [hg]; exact Nat.ne_of_gt (blk_lt (g := gb361) (o := .cells #[.bool t358, .string t359, .int .i64 t360] 26 (0, 0)) (by refine blk_up ?_; exact BK361.out)) : gb376 ≠ gb361)); have n24_ := Aside0.mk ((by rw [hg]; exact Nat.ne_of_lt (blk_lt (g := gb366) (o := .cells #[.bool t362, .string t363, .int .i64 t364] 26 (0, 0)) (by refine blk_up ?_; exact BK366.out)) : gb366 ≠ gb376)); have n25_ := Aside0.mk ((by rw [hg]; exact Nat.ne_of_gt (blk_lt (g := gb366) (o := .cells #[.bool t362, .string t363, .int .i64 t364] 26 (0, 0)) (by refine blk_up ?_; exact BK366.out)) : gb376 ≠ gb366)); have n26_ := Aside0.mk ((by rw [hg]; exact Nat.ne_of_lt (blk_lt (g := gb371) (o := .cells #[.bool t367, .string t368, .int .i64 t369] 26 (0, 0)) (by refine blk_up ?_; exact BK371.out)) : gb371 ≠ gb376)); have n27_ := Aside0.mk ((by rw [hg]; exact Nat.ne_of_gt (blk_lt (g := gb371) (o := .cells #[.bool t367, .string t368, .int .i64 t369] 26 (0, 0)) (by refine blk_up ?_; exact BK371.out)) : gb376 ≠ gb371)); clear BK341; clear BK342; clear BK347; clear BK352; clear BK357; clear BK361; clear BK366; clear BK371; clear HB; have BK341 := n0_; have BK342 := n1_; have BK347 := n2_; have BK352 := n3_; have BK357 := n4_; have BK361 := n5_; have BK366 := n6_; have BK371 := n7_; have HB := n8_; have BK376 := n9_; have GW376 := n10_; have GE376 := n11_; have NB341_376 := n12_; have NB376_341 := n13_; have NB342_376 := n14_; have NB376_342 := n15_; have NB347_376 := n16_; have NB376_347 := n17_; have NB352_376 := n18_; have NB376_352 := n19_; have NB357_376 := n20_; have NB376_357 := n21_; have NB361_376 := n22_; have NB376_361 := n23_; have NB366_376 := n24_; have NB376_366 := n25_; have NB371_376 := n26_; have NB376_371 := n27_; clear n0_ n1_ n2_ n3_ n4_ n5_ n6_ n7_ n8_ n9_ n10_ n11_ n12_ n13_ n14_ n15_ n16_ n17_ n18_ n19_ n20_ n21_ n22_ n23_ n24_ n25_ n26_ n27_; clear hb hbox hg; have hnb163 := NB376_341.out; have hnc163 := NB341_376.out; have hnb164 := NB376_342.out; have hnc164 := NB342_376.out; have hnb165 := NB376_347.out; have hnc165 := NB347_376.out; have hnb166 := NB376_352.out; have hnc166 := NB352_376.out; have hnb167 := NB376_357.out; have hnc167 := NB357_376.out; have hnb168 := NB376_361.out; have hnc168 := NB361_376.out; have hnb169 := NB376_366.out; have hnc169 := NB366_376.out; have hnb170 := NB376_371.out; have hnc170 := NB371_376.out; have hcz171_0 : w162.cell? ⟨gb376, 0, none⟩ = some (.bool false) := (blk_cell BK376.out 0).trans rfl; have hcz171_1 : w162.cell? ⟨gb376, 1, none⟩ = some (.string (⟨#[]⟩ : ByteArray)) := (blk_cell BK376.out 1).trans rfl; have hcz171_2 : w162.cell? ⟨gb376, 2, none⟩ = some (.int .i64 0) := (blk_cell BK376.out 2).trans rfl; have hfz171_0 := blk_frozen BK376.out 0; have hfz171_1 := blk_frozen BK376.out 1; have hfz171_2 := blk_frozen BK376.out 2; have hnb172 := NB347_352.out; have hnc172 := NB352_347.out; have hnb173 := NB347_357.out; have hnc173 := NB357_347.out; have hcz174_0 : w162.cell? ⟨gb347, 0, none⟩ = some (.bool t343) := (blk_cell BK347.out 0).trans rfl; have hcz174_1 : w162.cell? ⟨gb347, 1, none⟩ = some (.string t344) := (blk_cell BK347.out 1).trans rfl; have hcz174_2 : w162.cell? ⟨gb347, 2, none⟩ = some (.int .i64 t345) := (blk_cell BK347.out 2).trans rfl; have hfz174_0 := blk_frozen BK347.out 0; have hfz174_1 := blk_frozen BK347.out 1; have hfz174_2 := blk_frozen BK347.out 2) | ((with_reducible refine gate_callee (f := 20) rfl ?_); refine goesL_ (some 109) rfl rfl Tryd.func20 (by kernel_rfl) rfl #[.agg #[.bool t343, .string t344, .int .i64 t345], .agg #[.bool t372, .string t373, .int .i64 t374]] rfl (by (try simp only [List.map_toArray, List.map_cons, List.map_nil]); first | done | rfl | (simp only [List.length_drop, List.length_take]; rfl)) ?_; (with_reducible refine (impl_AddDec.calls kj59 t343 t344 t345 t372 t373 t374 t377 t378 t379 t380 _ A118.out).mono ?_); rintro e w175 ⟨rfl, hb⟩; refine ⟨_, rfl, ?_⟩; have n0_ := Aside0.mk (blk_below (g := gb341) (o := .cells #[.bool t335, .string t336, .int .i64 t337] 26 (0, 0)) (by refine blk_up ?_; refine blk_far ?_ NB341_376.out _; refine blk_up ?_; refine blk_far ?_ NB341_376.out _; refine blk_up ?_; refine blk_far ?_ NB341_376.out _; refine blk_up ?_; exact BK341.out) hb); have n1_ := Aside0.mk (blk_below (g := gb342) (o := .cells #[.bool t338, .string t339, .int .i64 t340] 26 (0, 0)) (by refine blk_up ?_; refine blk_far ?_ NB342_376.out _; refine blk_up ?_; refine blk_far ?_ NB342_376.out _; refine blk_up ?_; refine blk_far ?_ NB342_376.out _; refine blk_up ?_; exact BK342.out) hb); have n2_ := Aside0.mk (blk_below (g := gb347) (o := .cells #[.bool t343, .string t344, .int .i64 t345] 26 (0, 0)) (by refine blk_up ?_; refine blk_far ?_ NB347_376.out _; refine blk_up ?_; refine blk_far ?_ NB347_376.out _; refine blk_up ?_; refine blk_far ?_ NB347_376.out _; refine blk_up ?_; exact BK347.out) hb); have n3_ := Aside0.mk (blk_below (g := gb352) (o := .cells #[.bool t348, .string t349, .int .i64 t350] 26 (0, 0)) (by refine blk_up ?_; refine blk_far ?_ NB352_376.out _; refine blk_up ?_; refine blk_far ?_ NB352_376.out _; refine blk_up ?_; refine blk_far ?_ NB352_376.out _; refine blk_up ?_; exact BK352.out) hb); have n4_ := Aside0.mk (blk_below (g := gb357) (o := .cells #[.bool t353, .string t354, .int .i64 t355] 26 (0, 0)) (by refine blk_up ?_; refine blk_far ?_ NB357_376.out _; refine blk_up ?_; refine blk_far ?_ NB357_376.out _; refine blk_up ?_; refine blk_far ?_ NB357_376.out _; refine blk_up ?_; exact BK357.out) hb); have n5_ := Aside0.mk (blk_below (g := gb361) (o := .cells #[.bool t358, .string t359, .int .i64 t360] 26 (0, 0)) (by refine blk_up ?_; refine blk_far ?_ NB361_376.out _; refine blk_up ?_; refine blk_far ?_ NB361_376.out _; refine blk_up ?_; refine blk_far ?_ NB361_376.out _; refine blk_up ?_; exact BK361.out) hb); have n6_ := Aside0.mk (blk_below (g := gb366) (o := .cells #[.bool t362, .string t363, .int .i64 t364] 26 (0, 0)) (by refine blk_up ?_; refine blk_far ?_ NB366_376.out _; refine blk_up ?_; refine blk_far ?_ NB366_376.out _; refine blk_up ?_; refine blk_far ?_ NB366_376.out _; refine blk_up ?_; exact BK366.out) hb); have n7_ := Aside0.mk (blk_below (g := gb371) (o := .cells #[.bool t367, .string t368, .int .i64 t369] 26 (0, 0)) (by refine blk_up ?_; refine blk_far ?_ NB371_376.out _; refine blk_up ?_; refine blk_far ?_ NB371_376.out _; refine blk_up ?_; refine blk_far ?_ NB371_376.out _; refine blk_up ?_; exact BK371.out) hb); have n8_ := Aside0.mk (blk_below (g := gb376) (o := .cells #[.bool t372, .string t373, .int .i64 t374] 26 (0, 0)) (by refine blk_up ?_; refine blk_put (cs := #[.bool t372, .string t373, .int .i64 0]) ?_ 2 _ rfl; refine blk_up ?_; refine blk_put (cs := #[.bool t372, .string (⟨#[]⟩ : ByteArray), .int .i64 0]) ?_ 1 _ rfl; refine blk_up ?_; refine blk_put (cs := #[.bool false, .string (⟨#[]⟩ : ByteArray), .int .i64 0]) ?_ 0 _ rfl; refine blk_up ?_; exact BK376.out) hb); have n9_ := Aside0.mk (below_step (by repeat (first | (with_reducible first | exact HB.out | apply below_alloc | apply pw_below_drewN | apply below_drew1 | refine below_set ?_ GE341.out | refine below_set ?_ GE342.out | refine below_set ?_ GE347.out | refine below_set ?_ GE352.out | refine below_set ?_ GE357.out | refine below_set ?_ GE361.out | refine below_set ?_ GE366.out | refine below_set ?_ GE371.out | refine below_set ?_ GE376.out) | exact HB.out)) hb); clear BK341; clear BK342; clear BK347; clear BK352; clear BK357; clear BK361; clear BK366; clear BK371; clear BK376; clear HB; have BK341 := n0_; have BK342 := n1_; have BK347 := n2_; have BK352 := n3_; have BK357 := n4_; have BK361 := n5_; have BK366 := n6_; have BK371 := n7_; have BK376 := n8_; have HB := n9_; clear n0_ n1_ n2_ n3_ n4_ n5_ n6_ n7_ n8_ n9_; (try clear hb); (try clear hb2); (try clear hk); (try clear hi)) | ((with_reducible refine gate_dst (N := 18) rfl ?_); refine box_event ?hg (N := 18) ?hd (cs := #[.bool false, .string (⟨#[]⟩ : ByteArray), .int .i64 0]) (t := 26) ?hr ?_; (case hd => rfl); (case hg => rfl); (case hr => first | (go_simp; done) | (go_simp; rfl)); intro gb381 hg w176 hbox hb; have n0_ := Aside0.mk (blk_below (g := gb341) (o := .cells #[.bool t335, .string t336, .int .i64 t337] 26 (0, 0)) (by refine blk_up ?_; exact BK341.out) hb); have n1_ := Aside0.mk (blk_below (g := gb342) (o := .cells #[.bool t338, .string t339, .int .i64 t340] 26 (0, 0)) (by refine blk_up ?_; exact BK342.out) hb); have n2_ := Aside0.mk (blk_below (g := gb347) (o := .cells #[.bool t343, .string t344, .int .i64 t345] 26 (0, 0)) (by refine blk_up ?_; exact BK347.out) hb); have n3_ := Aside0.mk (blk_below (g := gb352) (o := .cells #[.bool t348, .string t349, .int .i64 t350] 26 (0, 0)) (by refine blk_up ?_; exact BK352.out) hb); have n4_ := Aside0.mk (blk_below (g := gb357) (o := .cells #[.bool t353, .string t354, .int .i64 t355] 26 (0, 0)) (by refine blk_up ?_; exact BK357.out) hb); have n5_ := Aside0.mk (blk_below (g := gb361) (o := .cells #[.bool t358, .string t359, .int .i64 t360] 26 (0, 0)) (by refine blk_up ?_; exact BK361.out) hb); have n6_ := Aside0.mk (blk_below (g := gb366) (o := .cells #[.bool t362, .string t363, .int .i64 t364] 26 (0, 0)) (by refine blk_up ?_; exact BK366.out) hb); have n7_ := Aside0.mk (blk_below (g := gb371) (o := .cells #[.bool t367, .string t368, .int .i64 t369] 26 (0, 0)) (by refine blk_up ?_; exact BK371.out) hb); have n8_ := Aside0.mk (blk_below (g := gb376) (o := .cells #[.bool t372, .string t373, .int .i64 t374] 26 (0, 0)) (by refine blk_up ?_; exact BK376.out) hb); have n9_ := Aside0.mk (below_step (by repeat (first | (with_reducible first | exact HB.out | apply below_alloc | apply pw_below_drewN | apply below_drew1 | refine below_set ?_ GE341.out | refine below_set ?_ GE342.out | refine below_set ?_ GE347.out | refine below_set ?_ GE352.out | refine below_set ?_ GE357.out | refine below_set ?_ GE361.out | refine below_set ?_ GE366.out | refine below_set ?_ GE371.out | refine below_set ?_ GE376.out) | exact HB.out)) hb); have n10_ := Aside0.mk (hbox); have n11_ := Aside0.mk ((by rw [hg]; exact (below_size (by repeat (first | (with_reducible first | exact HB.out | apply below_alloc | apply pw_below_drewN | apply below_drew1 | refine below_set ?_ GE341.out | refine below_set ?_ GE342.out | refine below_set ?_ GE347.out | refine below_set ?_ GE352.out | refine below_set ?_ GE357.out | refine below_set ?_ GE361.out | refine below_set ?_ GE366.out | refine below_set ?_ GE371.out | refine below_set ?_ GE376.out) | exact HB.out))) : w.heap.size ≤ gb381)); have n12_ := Aside0.mk ((by rw [hg]; exact (below_size (by repeat (first | (with_reducible first | exact HB.out | apply below_alloc | apply pw_below_drewN | apply below_drew1 | refine below_set ?_ GE341.out | refine below_set ?_ GE342.out | refine below_set ?_ GE347.out | refine below_set ?_ GE352.out | refine below_set ?_ GE357.out | refine below_set ?_ GE361.out | refine below_set ?_ GE366.out | refine below_set ?_ GE371.out | refine below_set ?_ GE376.out) | exact HB.out))) : w.heap.size ≤ gb381)); have n13_ := Aside0.mk ((by rw [hg]; exact Nat.ne_of_lt (blk_lt (g := gb341) (o := .cells #[.bool t335, .string t336, .int .i64 t337] 26 (0, 0)) (by refine blk_up ?_; exact BK341.out)) : gb341 ≠ gb381)); have n14_ := Aside0.mk ((by rw [hg]; exact Nat.ne_of_gt (blk_lt (g := gb341) (o := .cells #[.bool t335, .string t336, .int .i64 t337] 26 (0, 0)) (by refine blk_up ?_; exact BK341.out)) : gb381 ≠ gb341)); have n15_ := Aside0.mk ((by rw [hg]; exact Nat.ne_of_lt (blk_lt (g := gb342) (o := .cells #[.bool t338, .string t339, .int .i64 t340] 26 (0, 0)) (by refine blk_up ?_; exact BK342.out)) : gb342 ≠ gb381)); have n16_ := Aside0.mk ((by rw [hg]; exact Nat.ne_of_gt (blk_lt (g := gb342) (o := .cells #[.bool t338, .string t339, .int .i64 t340] 26 (0, 0)) (by refine blk_up ?_; exact BK342.out)) : gb381 ≠ gb342)); have n17_ := Aside0.mk ((by rw [hg]; exact Nat.ne_of_lt (blk_lt (g := gb347) (o := .cells #[.bool t343, .string t344, .int .i64 t345] 26 (0, 0)) (by refine blk_up ?_; exact BK347.out)) : gb347 ≠ gb381)); have n18_ := Aside0.mk ((by rw [hg]; exact Nat.ne_of_gt (blk_lt (g := gb347) (o := .cells #[.bool t343, .string t344, .int .i64 t345] 26 (0, 0)) (by refine blk_up ?_; exact BK347.out)) : gb381 ≠ gb347)); have n19_ := Aside0.mk ((by rw [hg]; exact Nat.ne_of_lt (blk_lt (g := gb352) (o := .cells #[.bool t348, .string t349, .int .i64 t350] 26 (0, 0)) (by refine blk_up ?_; exact BK352.out)) : gb352 ≠ gb381)); have n20_ := Aside0.mk ((by rw [hg]; exact Nat.ne_of_gt (blk_lt (g := gb352) (o := .cells #[.bool t348, .string t349, .int .i64 t350] 26 (0, 0)) (by refine blk_up ?_; exact BK352.out)) : gb381 ≠ gb352)); have n21_ := Aside0.mk ((by rw [hg]; exact Nat.ne_of_lt (blk_lt (g := gb357) (o := .cells #[.bool t353, .string t354, .int .i64 t355] 26 (0, 0)) (by refine blk_up ?_; exact BK357.out)) : gb357 ≠ gb381)); have n22_ := Aside0.mk ((by rw [hg]; exact Nat.ne_of_gt (blk_lt (g := gb357) (o := .cells #[.bool t353, .string t354, .int .i64 t355] 26 (0, 0)) (by refine blk_up ?_; exact BK357.out)) : gb381 ≠ gb357)); have n23_ := Aside0.mk ((by rw [hg]; exact Nat.ne_of_lt (blk_lt (g := gb361) (o := .cells #[.bool t358, .string t359, .int .i64 t360] 26 (0, 0)) (by refine blk_up ?_; exact BK361.out)) : gb361 ≠ gb381)); have n24_ := Aside0.mk ((by rw [hg]; exact Nat.ne_of_gt (blk_lt (g := gb361) (o := .cells #[.bool t358, .string t359, .int .i64 t360] 26 (0, 0)) (by refine blk_up ?_; exact BK361.out)) : gb381 ≠ gb361)); have n25_ := Aside0.mk ((by rw [hg]; exact Nat.ne_of_lt (blk_lt (g := gb366) (o := .cells #[.bool t362, .string t363, .int .i64 t364] 26 (0, 0)) (by refine blk_up ?_; exact BK366.out)) : gb366 ≠ gb381)); have n26_ := Aside0.mk ((by rw [hg]; exact Nat.ne_of_gt (blk_lt (g := gb366) (o := .cells #[.bool t362, .string t363, .int .i64 t364] 26 (0, 0)) (by refine blk_up ?_; exact BK366.out)) : gb381 ≠ gb366)); have n27_ := Aside0.mk ((by rw [hg]; exact Nat.ne_of_lt (blk_lt (g := gb371) (o := .cells #[.bool t367, .string t368, .int .i64 t369] 26 (0, 0)) (by refine blk_up ?_; exact BK371.out)) : gb371 ≠ gb381)); have n28_ := Aside0.mk ((by rw [hg]; exact Nat.ne_of_gt (blk_lt (g := gb371) (o := .cells #[.bool t367, .string t368, .int .i64 t369] 26 (0, 0)) (by refine blk_up ?_; exact BK371.out)) : gb381 ≠ gb371)); have n29_ := Aside0.mk ((by rw [hg]; exact Nat.ne_of_lt (blk_lt (g := gb376) (o := .cells #[.bool t372, .string t373, .int .i64 t374] 26 (0, 0)) (by refine blk_up ?_; exact BK376.out)) : gb376 ≠ gb381)); have n30_ := Aside0.mk ((by rw [hg]; exact Nat.ne_of_gt (blk_lt (g := gb376) (o := .cells #[.bool t372, .string t373, .int .i64 t374] 26 (0, 0)) (by refine blk_up ?_; exact BK376.out)) : gb381 ≠ gb376)); clear BK341; clear BK342; clear BK347; clear BK352; clear BK357; clear BK361; clear BK366; clear BK371; clear BK376; clear HB; have BK341 := n0_; have BK342 := n1_; have BK347 := n2_; have BK352 := n3_; have BK357 := n4_; have BK361 := n5_; have BK366 := n6_; have BK371 := n7_; have BK376 := n8_; have HB := n9_; have BK381 := n10_; have GW381 := n11_; have GE381 := n12_; have NB341_381 := n13_; have NB381_341 := n14_; have NB342_381 := n15_; have NB381_342 := n16_; have NB347_381 := n17_; have NB381_347 := n18_; have NB352_381 := n19_; have NB381_352 := n20_; have NB357_381 := n21_; have NB381_357 := n22_; have NB361_381 := n23_; have NB381_361 := n24_; have NB366_381 := n25_; have NB381_366 := n26_; have NB371_381 := n27_; have NB381_371 := n28_; have NB376_381 := n29_; have NB381_376 := n30_; clear n0_ n1_ n2_ n3_ n4_ n5_ n6_ n7_ n8_ n9_ n10_ n11_ n12_ n13_ n14_ n15_ n16_ n17_ n18_ n19_ n20_ n21_ n22_ n23_ n24_ n25_ n26_ n27_ n28_ n29_ n30_; clear hb hbox hg; have hnb177 := NB381_341.out; have hnc177 := NB341_381.out; have hnb178 := NB381_342.out; have hnc178 := NB342_381.out; have hnb179 := NB381_347.out; have hnc179 := NB347_381.out; have hnb180 := NB381_352.out; have hnc180 := NB352_381.out; have hnb181 := NB381_357.out; have hnc181 := NB357_381.out; have hnb182 := NB381_361.out; have hnc182 := NB361_381.out; have hnb183 := NB381_366.out; have hnc183 := NB366_381.out; have hnb184 := NB381_371.out; have hnc184 := NB371_381.out; have hnb185 := NB381_376.out; have hnc185 := NB376_381.out; have hcz186_0 : w176.cell? ⟨gb381, 0, none⟩ = some (.bool false) := (blk_cell BK381.out 0).trans rfl; have hcz186_1 : w176.cell? ⟨gb381, 1, none⟩ = some (.string (⟨#[]⟩ : ByteArray)) := (blk_cell BK381.out 1).trans rfl; have hcz186_2 : w176.cell? ⟨gb381, 2, none⟩ = some (.int .i64 0) := (blk_cell BK381.out 2).trans rfl; have hfz186_0 := blk_frozen BK381.out 0; have hfz186_1 := blk_frozen BK381.out 1; have hfz186_2 := blk_frozen BK381.out 2; have hcz187_0 : w176.cell? ⟨gb371, 0, none⟩ = some (.bool t367) := (blk_cell BK371.out 0).trans rfl; have hcz187_1 : w176.cell? ⟨gb371, 1, none⟩ = some (.string t368) := (blk_cell BK371.out 1).trans rfl; have hcz187_2 : w176.cell? ⟨gb371, 2, none⟩ = some (.int .i64 t369) := (blk_cell BK371.out 2).trans rfl; have hfz187_0 := blk_frozen BK371.out 0; have hfz187_1 := blk_frozen BK371.out 1; have hfz187_2 := blk_frozen BK371.out 2))
        by_cases c119 : t365 = true
        ·subst c119
         have H1 : (if t370 = true then (if t375 = true then (if t380 = true then (some (t367 == t377 && (t368.toList == t378.toList && (t369 == t379)))) else (some true)) else (some true)) else (some true)) = some r := by rw [if_pos rfl] at H; exact H
         clear H
         have H := H1
         clear H1
         by_cases c120 : t370 = true
         ·subst c120
          have H1 : (if t375 = true then (if t380 = true then (some (t367 == t377 && (t368.toList == t378.toList && (t369 == t379)))) else (some true)) else (some true)) = some r := by rw [if_pos rfl] at H; exact H
          clear H
          have H := H1
          clear H1
          by_cases c121 : t375 = true
          ·subst c121
           have H1 : (if t380 = true then (some (t367 == t377 && (t368.toList == t378.toList && (t369 == t379)))) else (some true)) = some r := by rw [if_pos rfl] at H; exact H
           clear H
           have H := H1
           clear H1
           by_cases c122 : t380 = true
           ·subst c122
            have H1 : (some (t367 == t377 && (t368.toList == t378.toList && (t369 == t379)))) = some r := by rw [if_pos rfl] at H; exact H
            clear H
            have H := H1
            clear H1
            obtain rfl := Option.some.inj H
            go_wp2
            go_ret
            exact ⟨by first | rfl | (simp [errW_none, errW_some] <;> rfl) | (simp [*, errW_none, errW_some] <;> rfl), by repeat (first | (with_reducible first | exact HB.out | apply below_alloc | apply pw_below_drewN | apply below_drew1 | refine below_set ?_ GE341.out | refine below_set ?_ GE342.out | refine below_set ?_ GE347.out | refine below_set ?_ GE352.out | refine below_set ?_ GE357.out | refine below_set ?_ GE361.out | refine below_set ?_ GE366.out | refine below_set ?_ GE371.out | refine below_set ?_ GE376.out | refine below_set ?_ GE381.out) | exact HB.out)⟩
           ·replace c122 := Bool.eq_false_iff.mpr c122
            subst c122
            have H1 : (some true) = some r := by rw [if_neg (show ¬ (false = true) by decide)] at H; exact H
            clear H
            have H := H1
            clear H1
            obtain rfl := Option.some.inj H
            go_wp2
            go_ret
            exact ⟨by first | rfl | (simp [errW_none, errW_some] <;> rfl) | (simp [*, errW_none, errW_some] <;> rfl), by repeat (first | (with_reducible first | exact HB.out | apply below_alloc | apply pw_below_drewN | apply below_drew1 | refine below_set ?_ GE341.out | refine below_set ?_ GE342.out | refine below_set ?_ GE347.out | refine below_set ?_ GE352.out | refine below_set ?_ GE357.out | refine below_set ?_ GE361.out | refine below_set ?_ GE366.out | refine below_set ?_ GE371.out | refine below_set ?_ GE376.out | refine below_set ?_ GE381.out) | exact HB.out)⟩
          ·replace c121 := Bool.eq_false_iff.mpr c121
           subst c121
           have H1 : (some true) = some r := by rw [if_neg (show ¬ (false = true) by decide)] at H; exact H
           clear H
           have H := H1
           clear H1
           obtain rfl := Option.some.inj H
           go_wp2
           go_ret
           exact ⟨by first | rfl | (simp [errW_none, errW_some] <;> rfl) | (simp [*, errW_none, errW_some] <;> rfl), by repeat (first | (with_reducible first | exact HB.out | apply below_alloc | apply pw_below_drewN | apply below_drew1 | refine below_set ?_ GE341.out | refine below_set ?_ GE342.out | refine below_set ?_ GE347.out | refine below_set ?_ GE352.out | refine below_set ?_ GE357.out | refine below_set ?_ GE361.out | refine below_set ?_ GE366.out | refine below_set ?_ GE371.out | refine below_set ?_ GE376.out | refine below_set ?_ GE381.out) | exact HB.out)⟩
         ·replace c120 := Bool.eq_false_iff.mpr c120
          subst c120
          have H1 : (some true) = some r := by rw [if_neg (show ¬ (false = true) by decide)] at H; exact H
          clear H
          have H := H1
          clear H1
          obtain rfl := Option.some.inj H
          go_wp2
          go_ret
          exact ⟨by first | rfl | (simp [errW_none, errW_some] <;> rfl) | (simp [*, errW_none, errW_some] <;> rfl), by repeat (first | (with_reducible first | exact HB.out | apply below_alloc | apply pw_below_drewN | apply below_drew1 | refine below_set ?_ GE341.out | refine below_set ?_ GE342.out | refine below_set ?_ GE347.out | refine below_set ?_ GE352.out | refine below_set ?_ GE357.out | refine below_set ?_ GE361.out | refine below_set ?_ GE366.out | refine below_set ?_ GE371.out | refine below_set ?_ GE376.out | refine below_set ?_ GE381.out) | exact HB.out)⟩
        ·replace c119 := Bool.eq_false_iff.mpr c119
         subst c119
         have H1 : (some true) = some r := by rw [if_neg (show ¬ (false = true) by decide)] at H; exact H
         clear H
         have H := H1
         clear H1
         obtain rfl := Option.some.inj H
         go_wp2
         go_ret
         exact ⟨by first | rfl | (simp [errW_none, errW_some] <;> rfl) | (simp [*, errW_none, errW_some] <;> rfl), by repeat (first | (with_reducible first | exact HB.out | apply below_alloc | apply pw_below_drewN | apply below_drew1 | refine below_set ?_ GE341.out | refine below_set ?_ GE342.out | refine below_set ?_ GE347.out | refine below_set ?_ GE352.out | refine below_set ?_ GE357.out | refine below_set ?_ GE361.out | refine below_set ?_ GE366.out | refine below_set ?_ GE371.out | refine below_set ?_ GE376.out | refine below_set ?_ GE381.out) | exact HB.out)⟩

/-- THE ONE PURE STATEMENT of laws_FnTimes: yours. -/
def laws_FnTimes.Pure : Prop := ∀ (l0 : List Int), l0.length ≤ maxLen → l0.length * 1 ≤ 140737488351232 → (∀ x ∈ l0, (Lit.int .u8 x).wf = true) → ∃ k, laws_FnTimes.f k l0 = some true
theorem laws_FnTimes.walk (P : laws_FnTimes.Pure) (a0 : Option Addr) (len0 cap0 : Nat) (z0 : List Int) (w : World) (w0 : (a0 = none ∧ len0 = 0 ∧ cap0 = 0 ∧ z0 = []) ∨ ∃ x, a0 = some x ∧ len0 ≤ cap0 ∧ cap0 ≤ maxLen ∧ z0.length = cap0 ∧ (∀ i, i < z0.length → w.cell? (x.add i) = some (.int .u8 (z0.getD i 0))) ∧ ∀ n ∈ z0, (Lit.int .u8 n).wf = true) (y0 : len0 * 1 ≤ 140737488351232) :
  Calls Tryd.prog 4 #[.slice a0 len0 cap0] w fun e w' => e = .returned (.bool true) ∧ Below w.heap.size w w' := by
 obtain ⟨l0, rfl, hr0, hm0, hw0, hc0⟩ := ReadsInt.ofRowC w0
 obtain ⟨k, h⟩ := P l0 hm0 y0 hw0
 refine (laws_FnTimes.calls k _ _ l0 true w (Kd.C_of_reads (d := (0 : Int)) (h1 := fun _ => rfl) hr0) hc0 h).mono ?_
 rintro e w' ⟨rfl, hd⟩
 exact ⟨rfl, hd⟩

end Go.Proofs.YtilmhfkbpnejeaaDoor.L

namespace Go.Proofs.YtilmhfkbpnejeaaDoor.L
open Go.RowKit Go.Proofs.YtilmhfkbpnejeaaDoorW.PrintWords Go.Proofs.YtilmhfkbpnejeaaDoorW.PrintLast Go.Proofs.YtilmhfkbpnejeaaDoorW.PrintMore
attribute [local go_sem] max2_int min2_int max_two min_two max_three min_three max_four min_four
attribute [local go_sem] Go.Proofs.YtilmhfkbpnejeaaDoor.H.str_leq Go.Proofs.YtilmhfkbpnejeaaDoor.H.str_gtr Go.Proofs.YtilmhfkbpnejeaaDoor.H.str_geq
set_option linter.unusedVariables false
set_option linter.unusedSimpArgs false

/-! ### spec_l4Sum: function 63 -/
def spec_l4Sum.l0 : Nat → ByteArray → ByteArray → List Int → Int → Int → Option (ByteArray)
 | 0, _, _, _, _, _ => none
 | k + 1, x0, x1, x5, x6, x7 => if x7 ≥ 0 then (if 0 ≤ x7 then (if x7 < (x0.size : Int) then (if x7 < (x1.size : Int) then ((some (([(wrap64 (48 + (Int.tmod (wrap64 (((((bt x0 x7) - 48) % 256) + (((bt x1 x7) - 48) % 256)) + x6)) 10))) % 256] : List Int) : List Int)).bind fun y419 => (if y419.length + x5.length < 140737488355328 then (spec_l4Sum.l0 k x0 x1 (y419 ++ x5) (wrap64 (Int.tdiv (wrap64 (((((bt x0 x7) - 48) % 256) + (((bt x1 x7) - 48) % 256)) + x6)) 10)) (wrap64 (x7 - 1))) else (none))) else (none)) else (none)) else (none)) else ((some (([(wrap64 (48 + x6)) % 256] : List Int) : List Int)).bind fun y425 => (if y425.length + x5.length < 140737488355328 then (some (strOfNums (y425 ++ x5))) else (none)))
def spec_l4Sum.f (k : Nat) (a0 : ByteArray) (a1 : ByteArray) : Option (ByteArray) := spec_l4Sum.l0 k a0 a1 (([] : List Int)) 0 (wrap64 ((a0.size : Int) - 1))
/-! ### spec_l4Less: function 64 -/
def spec_l4Less.l0 : Nat → ByteArray → ByteArray → List Int → Int → Int → Option (ByteArray)
 | 0, _, _, _, _, _ => none
 | k + 1, x0, x1, x5, x6, x7 => if x7 ≥ 0 then (if 0 ≤ x7 then (if x7 < (x0.size : Int) then (if x7 < (x1.size : Int) then (if (wrap64 ((wrap64 ((wrap64 (bt x0 x7)) - (wrap64 (bt x1 x7)))) - x6)) < 0 then ((some (([(wrap64 (48 + (wrap64 ((wrap64 ((wrap64 ((wrap64 (bt x0 x7)) - (wrap64 (bt x1 x7)))) - x6)) + 10)))) % 256] : List Int) : List Int)).bind fun y434 => (if y434.length + x5.length < 140737488355328 then (spec_l4Less.l0 k x0 x1 (y434 ++ x5) 1 (wrap64 (x7 - 1))) else (none))) else ((some (([(wrap64 (48 + (wrap64 ((wrap64 ((wrap64 (bt x0 x7)) - (wrap64 (bt x1 x7)))) - x6)))) % 256] : List Int) : List Int)).bind fun y440 => (if y440.length + x5.length < 140737488355328 then (spec_l4Less.l0 k x0 x1 (y440 ++ x5) 0 (wrap64 (x7 - 1))) else (none)))) else (none)) else (none)) else (none)) else (some (strOfNums x5))
def spec_l4Less.f (k : Nat) (a0 : ByteArray) (a1 : ByteArray) : Option (ByteArray) := spec_l4Less.l0 k a0 a1 (([] : List Int)) 0 (wrap64 ((a0.size : Int) - 1))
/-! ### spec_AddDec: function 23 -/
def spec_AddDec.j0 : Nat → Bool → Bool → ByteArray → Int → Bool → ByteArray → Int → Option (Bool × ByteArray × Int × Bool)
 | 0, _, _, _, _, _, _, _ => none
 | k + 1, x16, x447000, x447001, x447002, x448000, x448001, x448002 => if x16 = true then (some (false, (⟨#[]⟩ : ByteArray), 0, false)) else ((spec_l4Same.f k x447000 x447001 x447002 x448000 x448001 x448002).bind fun bt451 => (if (x447000 == x448000) = true then ((spec_l4Sum.f k bt451.1 bt451.2.1).bind fun t454 => ((spec_l4Norm.f k x447000 t454 bt451.2.2).bind fun bt455 => (some (bt455.1, bt455.2.1, bt455.2.2.1, bt455.2.2.2)))) else (if (Op.bytesLess bt451.1.toList bt451.2.1.toList) = true then ((spec_l4Less.f k bt451.2.1 bt451.1).bind fun t459 => ((spec_l4Norm.f k x448000 t459 bt451.2.2).bind fun bt460 => (some (bt460.1, bt460.2.1, bt460.2.2.1, bt460.2.2.2)))) else ((spec_l4Less.f k bt451.1 bt451.2.1).bind fun t464 => ((spec_l4Norm.f k x447000 t464 bt451.2.2).bind fun bt465 => (some (bt465.1, bt465.2.1, bt465.2.2.1, bt465.2.2.2)))))))
def spec_AddDec.f (k : Nat) (a0_0 : Bool) (a0_1 : ByteArray) (a0_2 : Int) (a1_0 : Bool) (a1_1 : ByteArray) (a1_2 : Int) : Option (Bool × ByteArray × Int × Bool) := (spec_DecOk.f k a0_0 a0_1 a0_2).bind fun t449 => (if t449 = true then ((spec_DecOk.f k a1_0 a1_1 a1_2).bind fun t450 => (spec_AddDec.j0 k (!t450) a0_0 a0_1 a0_2 a1_0 a1_1 a1_2)) else (spec_AddDec.j0 k true a0_0 a0_1 a0_2 a1_0 a1_1 a1_2))
def spec_AddDec.T5 : Bool × List (List Nat × List Nat) := (true, [([], []), ([0], [0]), ([], []), ([], []), ([2, 3], [2, 3]), ([], []), ([1, 4, 5, 4], [1, 4, 5]), ([6], [6]), ([6], [6]), ([7, 6, 0, 1, 2, 3, 4, 5, 6, 7, 8], [7]), ([8, 9, 0, 1, 2, 3, 4, 5, 6, 7, 8, 9], [8])])
def spec_AddDec.B5 : List Nat := [0, 1, 0, 0, 12, 0, 63, 127, 127, 511, 1023]
theorem spec_AddDec.tab5 : rtab .any (opsOf Tryd.f23 5) = spec_AddDec.T5 := by kernel_rfl
theorem spec_AddDec.bits5 : waitsOk spec_AddDec.T5.2 spec_AddDec.B5 = true := by kernel_rfl
def spec_AddDec.T7 : Bool × List (List Nat × List Nat) := (true, [([], []), ([0], [0]), ([], []), ([], []), ([2, 3], [2, 3]), ([], []), ([1, 4, 5, 4], [1, 4, 5]), ([6], [6]), ([6], [6]), ([7, 6, 0, 1, 2, 3, 4, 5, 6, 7, 8], [7]), ([8, 9, 0, 1, 2, 3, 4, 5, 6, 7, 8, 9], [8])])
def spec_AddDec.B7 : List Nat := [0, 1, 0, 0, 12, 0, 63, 127, 127, 511, 1023]
theorem spec_AddDec.tab7 : rtab .any (opsOf Tryd.f23 7) = spec_AddDec.T7 := by kernel_rfl
theorem spec_AddDec.bits7 : waitsOk spec_AddDec.T7.2 spec_AddDec.B7 = true := by kernel_rfl
def spec_AddDec.T8 : Bool × List (List Nat × List Nat) := (true, [([], []), ([0], [0]), ([], []), ([], []), ([2, 3], [2, 3]), ([], []), ([1, 4, 5, 4], [1, 4, 5]), ([6], [6]), ([6], [6]), ([7, 6, 0, 1, 2, 3, 4, 5, 6, 7, 8], [7]), ([8, 9, 0, 1, 2, 3, 4, 5, 6, 7, 8, 9], [8])])
def spec_AddDec.B8 : List Nat := [0, 1, 0, 0, 12, 0, 63, 127, 127, 511, 1023]
theorem spec_AddDec.tab8 : rtab .any (opsOf Tryd.f23 8) = spec_AddDec.T8 := by kernel_rfl
theorem spec_AddDec.bits8 : waitsOk spec_AddDec.T8.2 spec_AddDec.B8 = true := by kernel_rfl
end Go.Proofs.YtilmhfkbpnejeaaDoor.L

namespace Go.Proofs.YtilmhfkbpnejeaaDoor.L
open Go.RowKit Go.Proofs.YtilmhfkbpnejeaaDoorW.PrintWords Go.Proofs.YtilmhfkbpnejeaaDoorW.PrintLast Go.Proofs.YtilmhfkbpnejeaaDoorW.PrintMore
attribute [local go_sem] max2_int min2_int max_two min_two max_three min_three max_four min_four
attribute [local go_sem] Go.Proofs.YtilmhfkbpnejeaaDoor.H.str_leq Go.Proofs.YtilmhfkbpnejeaaDoor.H.str_gtr Go.Proofs.YtilmhfkbpnejeaaDoor.H.str_geq
set_option linter.unusedVariables false
set_option linter.unusedSimpArgs false

attribute [local go_sem high] eqA26
/-! ### laws_FnAdded: function 6 -/
def laws_FnAdded.T10 : Bool × List (List Nat × List Nat) := (true, [([], []), ([0], [0]), ([1], [1]), ([1], [1]), ([2, 3, 1], [1, 2, 3]), ([1, 4], [1, 4]), ([5, 1], [5]), ([6], [6]), ([6, 7], [6, 7]), ([8, 6], [8]), ([9], [9]), ([9], [9]), ([10, 11, 9], [9, 10, 11]), ([9, 12], [9, 12]), ([13, 9], [13]), ([14], [14]), ([14], [14]), ([15, 16, 14, 14], [14, 15, 16]), ([14], [14]), ([14], [14]), ([18, 19, 17, 14], [14, 18, 19]), ([20, 14], [14, 20]), ([17, 21, 14], [14, 17, 21]), ([14, 22], [14, 22]), ([23, 20, 0, 1, 2, 3, 4, 5, 6, 7, 8, 9, 10, 11, 12, 13, 14, 15, 16, 17, 18, 19, 20, 21, 22, 23], [23])])
def laws_FnAdded.B10 : List Nat := [0, 1, 3, 3, 15, 31, 63, 127, 255, 511, 1023, 1023, 4095, 8191, 16383, 32767, 32767, 131071, 32767, 32767, 1048575, 2097151, 4194303, 8388607, 16777215]
theorem laws_FnAdded.tab10 : rtab .any (opsOf Tryd.f6 10) = laws_FnAdded.T10 := by kernel_rfl
theorem laws_FnAdded.bits10 : waitsOk laws_FnAdded.T10.2 laws_FnAdded.B10 = true := by kernel_rfl
end Go.Proofs.YtilmhfkbpnejeaaDoor.L

namespace Go.Proofs.YtilmhfkbpnejeaaDoor.Pure
open Go.RowKit Go.Proofs.YtilmhfkbpnejeaaDoor.L Go.Proofs.YtilmhfkbpnejeaaDoorW.PrintWords Go.Proofs.YtilmhfkbpnejeaaDoorW.PrintLast Go.Proofs.YtilmhfkbpnejeaaDoorW.PrintMore
set_option linter.unusedVariables false
set_option linter.unusedSimpArgs false

theorem sum4_nat (a b c : Nat) (ha : a < 10) (hb : b < 10) (hc : c ≤ 1) : wrap64 (((((48 + (a : Int)) - 48) % 256) + (((48 + (b : Int)) - 48) % 256)) + (c : Int)) = ((a + b + c : Nat) : Int) := by
  have h1 : ((48 + (a : Int)) - 48) % 256 = a := by omega
  have h2 : ((48 + (b : Int)) - 48) % 256 = b := by omega
  rw [h1, h2, w64 (by omega) (by omega)]; omega
theorem dig4 (S : Nat) (hS : S < 20) : (wrap64 (48 + Int.tmod (S : Int) 10)) % 256 = ((dig (S % 10)).toNat : Int) := by
  rw [Int.tmod_eq_emod_of_nonneg (by omega), w64 (by omega) (by omega), dig_nat (Nat.mod_lt _ (by omega))]; omega
theorem car4 (S : Nat) (hS : S < 20) : wrap64 (Int.tdiv (S : Int) 10) = ((S / 10 : Nat) : Int) := by
  rw [Int.tdiv_eq_ediv_of_nonneg (by omega), w64 (by omega) (by omega)]; omega
theorem sum_step (k : Nat) (s0 s1 : ByteArray) (E : List UInt8) (c j S : Nat) (h0 : j < s0.size) (h1 : j < s1.size) (hE : E.length ≤ 1000) (hj : j ≤ 1000)
    (hS : S < 20) (hs : wrap64 (((((bt s0 (j : Int)) - 48) % 256) + (((bt s1 (j : Int)) - 48) % 256)) + (c : Int)) = (S : Int)) :
    spec_l4Sum.l0 (k + 1) s0 s1 (toI E) (c : Int) (j : Int) = spec_l4Sum.l0 k s0 s1 (toI (dig (S % 10) :: E)) ((S / 10 : Nat) : Int) ((j : Int) - 1) := by
  have i3 : wrap64 ((j : Int) - 1) = (j : Int) - 1 := w64 (by omega) (by omega)
  have g1 : (j : Int) ≥ 0 := by omega
  have g2 : (j : Int) < (s0.size : Int) := by omega
  have g3 : (j : Int) < (s1.size : Int) := by omega
  conv => lhs; unfold spec_l4Sum.l0
  rw [if_pos g1, if_pos g1, if_pos g2, if_pos g3, i3, hs, dig4 S hS, car4 S hS]
  simp only [Option.bind_some]
  rw [if_pos (by rw [toI_len]; simp only [List.length_cons, List.length_nil]; omega)]
  rfl
theorem sum_l0 (s0 s1 : ByteArray) (h0 : s0.data.toList.all digB = true) (h1 : s1.data.toList.all digB = true) (hl : s0.data.toList.length = s1.data.toList.length) (hn : s0.data.toList.length ≤ 500) :
    ∀ (j : Nat) (E : List UInt8) (c : Nat), j ≤ s0.data.toList.length → E.length = s0.data.toList.length - j → E.all digB = true → c ≤ 1 → nv E + c * 10 ^ E.length = nv (s0.data.toList.drop j) + nv (s1.data.toList.drop j) →
    ∃ F, Ev (fun k => spec_l4Sum.l0 k s0 s1 (toI E) (c : Int) ((j : Int) - 1)) (mkB F) ∧ F.all digB = true ∧ F.length = s0.data.toList.length + 1 ∧ nv F = nv s0.data.toList + nv s1.data.toList := by
  intro j
  have z0 := sz s0
  have z1 := sz s1
  induction j with
  | zero =>
    intro E c hj hE hd hc hv
    refine ⟨dig c :: E, Ev.step (f := fun _ => some (mkB (dig c :: E))) (fun k => ?_) (Ev.now _), all_cons_dig (by omega) hd, by rw [List.length_cons, hE]; omega, ?_⟩
    · conv => lhs; unfold spec_l4Sum.l0
      rw [if_neg (by omega)]
      simp only [Option.bind_some]
      rw [if_pos (by rw [toI_len]; simp only [List.length_cons, List.length_nil]; omega)]
      have e : (wrap64 (48 + (c : Int))) % 256 = ((dig c).toNat : Int) := by rw [dig_nat (by omega), w64 (by omega) (by omega)]; omega
      rw [e]
      have := str_toI (dig c :: E)
      simp only [toI, List.map_cons] at this ⊢
      rw [← this]; rfl
    · rw [nv_cons, (dig_ok (by omega : c < 10)).2]
      rw [List.drop_zero, List.drop_zero] at hv
      omega
  | succ j ih =>
    intro E c hj hE hd hc hv
    have c0 : j < s0.data.toList.length := by omega
    have c1 : j < s1.data.toList.length := by omega
    obtain ⟨b0, l0⟩ := bt_dig s0 j c0 h0
    obtain ⟨b1, l1⟩ := bt_dig s1 j c1 h1
    have e0 : s0.data.toList.drop j = s0.data.toList[j] :: s0.data.toList.drop (j + 1) := List.drop_eq_getElem_cons c0
    have e1 : s1.data.toList.drop j = s1.data.toList[j] :: s1.data.toList.drop (j + 1) := List.drop_eq_getElem_cons c1
    obtain ⟨S, hS⟩ : ∃ S : Nat, S = dv s0.data.toList[j] + dv s1.data.toList[j] + c := ⟨_, rfl⟩
    have hS20 : S < 20 := by omega
    have hd10 : S % 10 < 10 := Nat.mod_lt _ (by omega)
    obtain ⟨F, hF, g⟩ := ih (dig (S % 10) :: E) (S / 10) (by omega) (by rw [List.length_cons, hE]; omega) (all_cons_dig hd10 hd) (by omega) (by
      rw [e0, e1, nv_cons, nv_cons, nv_cons, (dig_ok hd10).2, List.length_cons, Nat.pow_succ]
      have q0 : (s0.data.toList.drop (j + 1)).length = E.length := by rw [List.length_drop, hE]
      have q1 : (s1.data.toList.drop (j + 1)).length = E.length := by rw [List.length_drop, hE, hl]
      rw [q0, q1]
      have key : S % 10 + 10 * (S / 10) = dv s0.data.toList[j] + dv s1.data.toList[j] + c := by rw [← hS]; exact Nat.mod_add_div _ 10
      have key2 := congrArg (· * 10 ^ E.length) key
      simp only [Nat.add_mul] at key2
      have r1 : S / 10 * (10 ^ E.length * 10) = 10 * (S / 10) * 10 ^ E.length := by
        rw [Nat.mul_comm (10 ^ E.length) 10, ← Nat.mul_assoc, Nat.mul_comm _ 10]
      rw [r1]
      omega)
    refine ⟨F, Ev.step (f := fun k => spec_l4Sum.l0 k s0 s1 (toI (dig (S % 10) :: E)) ((S / 10 : Nat) : Int) ((j : Int) - 1)) (fun k => ?_) hF, g⟩
    rw [pred_cast j]
    exact sum_step k s0 s1 E c j S (by rw [z0]; exact c0) (by rw [z1]; exact c1) (by rw [hE]; exact Nat.le_trans (Nat.sub_le _ _) (Nat.le_trans hn (by decide))) (Nat.le_trans (Nat.le_of_lt c0) (Nat.le_trans hn (by decide))) hS20 (by rw [b0, b1]; exact hS ▸ sum4_nat _ _ _ l0 l1 hc)
theorem sum_f (s0 s1 : ByteArray) (h0 : s0.data.toList.all digB = true) (h1 : s1.data.toList.all digB = true) (hl : s0.data.toList.length = s1.data.toList.length) (hn : s0.data.toList.length ≤ 500) :
    ∃ F, Ev (fun k => spec_l4Sum.f k s0 s1) (mkB F) ∧ F.all digB = true ∧ F.length = s0.data.toList.length + 1 ∧ nv F = nv s0.data.toList + nv s1.data.toList := by
  have z0 := sz s0
  have e1 : s0.data.toList.drop s0.data.toList.length = [] := List.drop_length
  have e2 : s1.data.toList.drop s0.data.toList.length = [] := by rw [hl]; exact List.drop_length
  obtain ⟨F, hF, g⟩ := sum_l0 s0 s1 h0 h1 hl hn s0.data.toList.length [] 0 (by omega) (by simp) rfl (by omega) (by rw [e1, e2]; rfl)
  refine ⟨F, Ev.congr (fun k => ?_) hF, g⟩
  unfold spec_l4Sum.f
  have i2 : wrap64 ((s0.size : Int) - 1) = (s0.data.toList.length : Int) - 1 := by rw [w64] <;> omega
  rw [i2]
  rfl

theorem rest4 (a b c : Nat) (ha : a < 10) (hb : b < 10) (hc : c ≤ 1) : (wrap64 ((wrap64 ((wrap64 (48 + (a : Int))) - (wrap64 (48 + (b : Int))))) - (c : Int))) = (a : Int) - b - c := by
  rw [w64 (n := 48 + (a : Int)) (by omega) (by omega), w64 (n := 48 + (b : Int)) (by omega) (by omega), w64 (n := 48 + (a : Int) - (48 + (b : Int))) (by omega) (by omega), w64 (by omega) (by omega)]; omega
theorem less_step (k : Nat) (s0 s1 : ByteArray) (E : List UInt8) (c j r : Nat) (T : Int) (h0 : j < s0.size) (h1 : j < s1.size) (hE : E.length ≤ 1000) (hj : j ≤ 1000)
    (hT : (wrap64 ((wrap64 ((wrap64 (bt s0 (j : Int))) - (wrap64 (bt s1 (j : Int))))) - (c : Int))) = T) (hr : (r : Int) = 10 + T) (hr20 : r < 20) :
    spec_l4Less.l0 (k + 1) s0 s1 (toI E) (c : Int) (j : Int) = spec_l4Less.l0 k s0 s1 (toI (dig (r % 10) :: E)) ((1 - r / 10 : Nat) : Int) ((j : Int) - 1) := by
  have i3 : wrap64 ((j : Int) - 1) = (j : Int) - 1 := w64 (by omega) (by omega)
  have g1 : (j : Int) ≥ 0 := by omega
  have g2 : (j : Int) < (s0.size : Int) := by omega
  have g3 : (j : Int) < (s1.size : Int) := by omega
  conv => lhs; unfold spec_l4Less.l0
  rw [if_pos g1, if_pos g1, if_pos g2, if_pos g3, i3, hT]
  have hlen : ∀ d : Int, ([d] : List Int).length + (toI E).length < 140737488355328 := by intro d; rw [toI_len]; simp only [List.length_cons, List.length_nil]; omega
  simp only [Option.bind_some]
  by_cases c1 : T < 0
  · rw [if_pos c1, if_pos (hlen _)]
    have e : (wrap64 (48 + wrap64 (T + 10))) % 256 = ((dig (r % 10)).toNat : Int) := by
      rw [dig_nat (Nat.mod_lt _ (by omega)), w64 (n := T + 10) (by omega) (by omega), w64 (by omega) (by omega)]; omega
    have e2 : ((1 - r / 10 : Nat) : Int) = 1 := by omega
    rw [e, e2]; rfl
  · rw [if_neg c1, if_pos (hlen _)]
    have e : (wrap64 (48 + T)) % 256 = ((dig (r % 10)).toNat : Int) := by
      rw [dig_nat (Nat.mod_lt _ (by omega)), w64 (by omega) (by omega)]; omega
    have e2 : ((1 - r / 10 : Nat) : Int) = 0 := by omega
    rw [e, e2]; rfl
theorem less_l0 (s0 s1 : ByteArray) (h0 : s0.data.toList.all digB = true) (h1 : s1.data.toList.all digB = true) (hl : s0.data.toList.length = s1.data.toList.length) (hn : s0.data.toList.length ≤ 500) :
    ∀ (j : Nat) (E : List UInt8) (c : Nat), j ≤ s0.data.toList.length → E.length = s0.data.toList.length - j → E.all digB = true → c ≤ 1 → nv E + nv (s1.data.toList.drop j) = nv (s0.data.toList.drop j) + c * 10 ^ E.length →
    ∃ F c', Ev (fun k => spec_l4Less.l0 k s0 s1 (toI E) (c : Int) ((j : Int) - 1)) (mkB F) ∧ F.all digB = true ∧ F.length = s0.data.toList.length ∧ nv F + nv s1.data.toList = nv s0.data.toList + c' * 10 ^ F.length := by
  intro j
  have z0 := sz s0
  have z1 := sz s1
  induction j with
  | zero =>
    intro E c hj hE hd hc hv
    refine ⟨E, c, Ev.step (f := fun _ => some (mkB E)) (fun k => ?_) (Ev.now _), hd, by omega, hv⟩
    conv => lhs; unfold spec_l4Less.l0
    rw [if_neg (by omega)]
    simp only [str_toI]
  | succ j ih =>
    intro E c hj hE hd hc hv
    have c0 : j < s0.data.toList.length := by omega
    have c1 : j < s1.data.toList.length := by omega
    obtain ⟨b0, l0⟩ := bt_dig s0 j c0 h0
    obtain ⟨b1, l1⟩ := bt_dig s1 j c1 h1
    have e0 : s0.data.toList.drop j = s0.data.toList[j] :: s0.data.toList.drop (j + 1) := List.drop_eq_getElem_cons c0
    have e1 : s1.data.toList.drop j = s1.data.toList[j] :: s1.data.toList.drop (j + 1) := List.drop_eq_getElem_cons c1
    obtain ⟨r, hr⟩ : ∃ r : Nat, r = 10 + dv s0.data.toList[j] - dv s1.data.toList[j] - c := ⟨_, rfl⟩
    have hr20 : r < 20 := by omega
    have hd10 : r % 10 < 10 := Nat.mod_lt _ (by omega)
    obtain ⟨F, c', hF, g⟩ := ih (dig (r % 10) :: E) (1 - r / 10) (by omega) (by rw [List.length_cons, hE]; omega) (all_cons_dig hd10 hd) (by omega) (by
      rw [e0, e1, nv_cons, nv_cons, nv_cons, (dig_ok hd10).2, List.length_cons, Nat.pow_succ]
      have q0 : (s0.data.toList.drop (j + 1)).length = E.length := by rw [List.length_drop, hE]
      have q1 : (s1.data.toList.drop (j + 1)).length = E.length := by rw [List.length_drop, hE, hl]
      rw [q0, q1]
      have key : r % 10 + dv s1.data.toList[j] + c = dv s0.data.toList[j] + 10 * (1 - r / 10) := by omega
      have key2 := congrArg (· * 10 ^ E.length) key
      simp only [Nat.add_mul] at key2
      have r1 : (1 - r / 10) * (10 ^ E.length * 10) = 10 * (1 - r / 10) * 10 ^ E.length := by
        rw [Nat.mul_comm (10 ^ E.length) 10, ← Nat.mul_assoc, Nat.mul_comm _ 10]
      rw [r1]
      omega)
    refine ⟨F, c', Ev.step (f := fun k => spec_l4Less.l0 k s0 s1 (toI (dig (r % 10) :: E)) ((1 - r / 10 : Nat) : Int) ((j : Int) - 1)) (fun k => ?_) hF, g⟩
    rw [pred_cast j]
    exact less_step k s0 s1 E c j r ((dv s0.data.toList[j] : Int) - dv s1.data.toList[j] - c) (by rw [z0]; exact c0) (by rw [z1]; exact c1) (by rw [hE]; exact Nat.le_trans (Nat.sub_le _ _) (Nat.le_trans hn (by decide))) (Nat.le_trans (Nat.le_of_lt c0) (Nat.le_trans hn (by decide))) (by rw [b0, b1]; exact rest4 _ _ _ l0 l1 hc) (by omega) hr20
theorem less_f (s0 s1 : ByteArray) (h0 : s0.data.toList.all digB = true) (h1 : s1.data.toList.all digB = true) (hl : s0.data.toList.length = s1.data.toList.length) (hn : s0.data.toList.length ≤ 500) (hv : nv s1.data.toList ≤ nv s0.data.toList) :
    ∃ F, Ev (fun k => spec_l4Less.f k s0 s1) (mkB F) ∧ F.all digB = true ∧ F.length = s0.data.toList.length ∧ nv F + nv s1.data.toList = nv s0.data.toList := by
  have z0 := sz s0
  have e1 : s0.data.toList.drop s0.data.toList.length = [] := List.drop_length
  have e2 : s1.data.toList.drop s0.data.toList.length = [] := by rw [hl]; exact List.drop_length
  obtain ⟨F, c', hF, g1, g2, g3⟩ := less_l0 s0 s1 h0 h1 hl hn s0.data.toList.length [] 0 (by omega) (by simp) rfl (by omega) (by rw [e1, e2]; rfl)
  refine ⟨F, Ev.congr (fun k => ?_) hF, g1, g2, ?_⟩
  · unfold spec_l4Less.f
    have i2 : wrap64 ((s0.size : Int) - 1) = (s0.data.toList.length : Int) - 1 := by rw [w64] <;> omega
    rw [i2]
    rfl
  · have hlt := nv_lt F g1
    rcases Nat.eq_zero_or_pos c' with h | h
    · subst h; omega
    · have := Nat.mul_le_mul_right (10 ^ F.length) h
      omega

theorem add_spec {n0 n1 : Bool} {s0 s1 : ByteArray} {x0 x1 : Int} (h0 : okB n0 s0 x0 = true) (h1 : okB n1 s1 x1 = true) (M : Nat) (hM : (M : Int) = mx x0 x1) :
    ∃ n l, l.all digB = true ∧ sg n * (nv l : Int) = V n0 s0 x0 M + V n1 s1 x1 M ∧ Ev (fun k => spec_AddDec.f k n0 s0 x0 n1 s1 x1) (norm n l M) := by
  obtain ⟨z0, a0, a1⟩ := ok_len h0
  obtain ⟨z1, b0, b1⟩ := ok_len h1
  obtain ⟨M', e1, e2, e3, e4, d0, d1, v0, v1, ht⟩ := V_lx h0 h1
  have : M' = M := by omega
  subst this
  obtain ⟨l0, l1⟩ := l_eq (s0 := s0) (s1 := s1) (x0 := x0) (x1 := x1)
  have start {n : Bool} {l : List UInt8} (h : Ev (fun k => spec_AddDec.j0 k false n0 s0 x0 n1 s1 x1) (norm n l M')) : Ev (fun k => spec_AddDec.f k n0 s0 x0 n1 s1 x1) (norm n l M') := by
    unfold spec_AddDec.f
    have q0 := spec_DecOk_f n0 s0 x0 (by omega)
    have q1 := spec_DecOk_f n1 s1 x1 (by omega)
    rw [h0] at q0; rw [h1] at q1
    refine Ev.bind q0 ?_
    simp only [if_true]
    refine Ev.bind q1 ?_
    exact h
  have less := less_nv (lx s0 x0 s1 x1).data.toList (ly s0 x0 s1 x1).data.toList d0 d1 (by omega)
  have same := l4Same_f n0 s0 x0 n1 s1 x1 z0 z1 a0 a1 b0 b1
  have made (n : Bool) (F : List UInt8) (hF : F.length ≤ 1000) : Ev (fun k => spec_l4Norm.f k n (mkB F) (mx x0 x1)) (norm n F M') := by
    have := l4Norm_f n (mkB F) M' (by omega) (by rw [sz, mkB_list]; omega)
    rw [mkB_list, e1] at this
    exact this
  by_cases c : (n0 == n1) = true
  · have hn : n0 = n1 := by simpa using c
    subst hn
    obtain ⟨F, hF, f1, f2, f3⟩ := sum_f (lx s0 x0 s1 x1) (ly s0 x0 s1 x1) d0 d1 (l0.trans l1.symm) (by rw [l0]; exact Nat.le_trans ht (by decide))
    refine ⟨n0, F, f1, ?_, start ?_⟩
    · rw [nat_add f3, Int.mul_add, v0, v1]
    · refine Ev.step (fun k => by simp only [spec_AddDec.j0, Bool.false_eq_true, if_false]; exact rfl) (Ev.bind same ?_)
      simp only [c, if_true]
      exact Ev.bind hF (Ev.bind (made n0 F (by rw [f2, l0]; exact Nat.le_trans (Nat.succ_le_succ ht) (by decide))) (Ev.now _))
  · have c' : (n0 == n1) = false := by simpa using c
    have hs : sg n0 = - sg n1 := sg_ne c'
    by_cases d : nv (lx s0 x0 s1 x1).data.toList < nv (ly s0 x0 s1 x1).data.toList
    · obtain ⟨F, hF, f1, f2, f3⟩ := less_f (ly s0 x0 s1 x1) (lx s0 x0 s1 x1) d1 d0 (by omega) (by omega) (by omega)
      refine ⟨n1, F, f1, ?_, start ?_⟩
      · rw [v0, v1, hs, Int.neg_mul]
        rw [nat_sub f3, Int.mul_sub, Int.sub_eq_add_neg, Int.add_comm]
      · refine Ev.step (fun k => by simp only [spec_AddDec.j0, Bool.false_eq_true, if_false]; exact rfl) (Ev.bind same ?_)
        simp only [c', Bool.false_eq_true, if_false, Lib.toList_data, less, d, decide_true, if_true]
        exact Ev.bind hF (Ev.bind (made n1 F (by omega)) (Ev.now _))
    · obtain ⟨F, hF, f1, f2, f3⟩ := less_f (lx s0 x0 s1 x1) (ly s0 x0 s1 x1) d0 d1 (by omega) (by omega) (by omega)
      refine ⟨n0, F, f1, ?_, start ?_⟩
      · have hs' : sg n1 = - sg n0 := by rw [hs, Int.neg_neg]
        rw [v0, v1, hs', Int.neg_mul]
        rw [nat_sub f3, Int.mul_sub, Int.sub_eq_add_neg]
      · refine Ev.step (fun k => by simp only [spec_AddDec.j0, Bool.false_eq_true, if_false]; exact rfl) (Ev.bind same ?_)
        simp only [c', Bool.false_eq_true, if_false, Lib.toList_data, less, d, decide_false]
        exact Ev.bind hF (Ev.bind (made n0 F (by omega)) (Ev.now _))
theorem add_no {n0 n1 : Bool} {s0 s1 : ByteArray} {x0 x1 : Int} (hs0 : s0.size ≤ 1000) (hs1 : s1.size ≤ 1000) (h : (okB n0 s0 x0 && okB n1 s1 x1) = false) :
    Ev (fun k => impl_AddDec.f k n0 s0 x0 n1 s1 x1) (false, ⟨#[]⟩, 0, false) ∧ Ev (fun k => spec_AddDec.f k n0 s0 x0 n1 s1 x1) (false, ⟨#[]⟩, 0, false) := by
  have q0 := spec_DecOk_f n0 s0 x0 (by omega)
  have q1 := spec_DecOk_f n1 s1 x1 (by omega)
  constructor
  · unfold impl_AddDec.f
    rw [impl_DecOk_f n0 s0 x0 (by omega), impl_DecOk_f n1 s1 x1 (by omega)]
    simp only [Option.bind_some]
    cases e0 : okB n0 s0 x0 with
    | true =>
      have e1 : okB n1 s1 x1 = false := by rw [e0] at h; exact h
      rw [e1]
      simp only [if_true, Bool.not_false]
      exact Ev.step (f := fun _ => some (false, (⟨#[]⟩ : ByteArray), (0 : Int), false)) (fun k => by simp only [impl_AddDec.j0, if_true]) (Ev.now _)
    | false =>
      simp only [Bool.false_eq_true, if_false]
      exact Ev.step (f := fun _ => some (false, (⟨#[]⟩ : ByteArray), (0 : Int), false)) (fun k => by simp only [impl_AddDec.j0, if_true]) (Ev.now _)
  · unfold spec_AddDec.f
    refine Ev.bind q0 ?_
    cases e0 : okB n0 s0 x0 with
    | true =>
      have e1 : okB n1 s1 x1 = false := by rw [e0] at h; exact h
      simp only [if_true]
      refine Ev.bind q1 ?_
      rw [e1]
      simp only [Bool.not_false]
      exact Ev.step (f := fun _ => some (false, (⟨#[]⟩ : ByteArray), (0 : Int), false)) (fun k => by simp only [spec_AddDec.j0, if_true]) (Ev.now _)
    | false =>
      simp only [Bool.false_eq_true, if_false]
      exact Ev.step (f := fun _ => some (false, (⟨#[]⟩ : ByteArray), (0 : Int), false)) (fun k => by simp only [spec_AddDec.j0, if_true]) (Ev.now _)
theorem add_both (n0 n1 : Bool) (s0 s1 : ByteArray) (x0 x1 : Int) (hs0 : s0.size ≤ 1000) (hs1 : s1.size ≤ 1000) :
    ∃ r, Ev (fun k => impl_AddDec.f k n0 s0 x0 n1 s1 x1) r ∧ Ev (fun k => spec_AddDec.f k n0 s0 x0 n1 s1 x1) r ∧ (r.2.2.2 = true → okB n0 s0 x0 = true ∧ okB n1 s1 x1 = true ∧
      ∃ (n : Bool) (l : List UInt8) (M : Nat), (M : Int) = mx x0 x1 ∧ l.all digB = true ∧ sg n * (nv l : Int) = V n0 s0 x0 M + V n1 s1 x1 M ∧ r = norm n l M) := by
  cases h : (okB n0 s0 x0 && okB n1 s1 x1) with
  | false => exact ⟨_, (add_no hs0 hs1 h).1, (add_no hs0 hs1 h).2, fun e => by cases e⟩
  | true =>
    rw [Bool.and_eq_true] at h
    obtain ⟨_, a0, a1⟩ := ok_len h.1
    obtain ⟨M, hM⟩ : ∃ M : Nat, (M : Int) = mx x0 x1 := ⟨(mx x0 x1).toNat, by have := mx_le x0 x1; omega⟩
    obtain ⟨n, l, hl, hv, ha⟩ := add_impl h.1 h.2 M hM
    obtain ⟨n2, l2, hl2, hv2, ha2⟩ := add_spec h.1 h.2 M hM
    have e : norm n2 l2 M = norm n l M := norm_eq hl2 hl (by rw [hv2, hv])
    rw [e] at ha2
    exact ⟨_, ha, ha2, fun _ => ⟨h.1, h.2, n, l, M, hM, hl, hv, rfl⟩⟩
theorem norm_size (n : Bool) (l : List UInt8) (x : Nat) (hd : l.all digB = true) : (norm n l x).2.1.size ≤ 60 := by
  cases e : (norm n l x).2.2.2 with
  | true => exact (ok_len (norm_good n l x hd e).1).1
  | false => rw [norm_bad n l x e]; decide
/-- What AddDec answers at whatever numbers. -/
theorem add_any (n0 n1 : Bool) (s0 s1 : ByteArray) (x0 x1 : Int) (hs0 : s0.size ≤ 1000) (hs1 : s1.size ≤ 1000) :
    ∃ r, Ev (fun k => impl_AddDec.f k n0 s0 x0 n1 s1 x1) r ∧ r.2.1.size ≤ 60 ∧ (r.2.2.2 = true → okB n0 s0 x0 = true ∧ okB n1 s1 x1 = true ∧ okB r.1 r.2.1 r.2.2.1 = true ∧ V r.1 r.2.1 r.2.2.1 60 = V n0 s0 x0 60 + V n1 s1 x1 60) := by
  obtain ⟨r, ha, _, hr⟩ := add_both n0 n1 s0 s1 x0 x1 hs0 hs1
  cases e : r.2.2.2 with
  | false =>
    cases h : (okB n0 s0 x0 && okB n1 s1 x1) with
    | false => exact ⟨_, (add_no hs0 hs1 h).1, by decide, fun e => by cases e⟩
    | true =>
      rw [Bool.and_eq_true] at h
      obtain ⟨_, a0, a1⟩ := ok_len h.1
      obtain ⟨M, hM⟩ : ∃ M : Nat, (M : Int) = mx x0 x1 := ⟨(mx x0 x1).toNat, by have := mx_le x0 x1; omega⟩
      obtain ⟨n, l, hl, hv, ha2⟩ := add_impl h.1 h.2 M hM
      refine ⟨_, ha2, norm_size _ _ _ hl, fun hok => ?_⟩
      obtain ⟨q1, q2, q3⟩ := norm_good n l M hl hok
      refine ⟨h.1, h.2, q1, ?_⟩
      obtain ⟨_, c0, c1⟩ := ok_len q1
      obtain ⟨g0, g1, g2⟩ := mx_le x0 x1
      obtain ⟨_, b0, b1⟩ := ok_len h.2
      obtain ⟨d, hd⟩ : ∃ d, 60 = M + d := ⟨60 - M, by omega⟩
      rw [hd, V_up _ _ c0 q2 d, q3, hv, V_up n0 s0 a0 (by omega) d, V_up n1 s1 b0 (by omega) d, Int.add_mul]
  | true =>
    obtain ⟨h0, h1, n, l, M, hM, hl, hv, he⟩ := hr e
    refine ⟨r, ha, by rw [he]; exact norm_size _ _ _ hl, fun _ => ?_⟩
    rw [he] at e
    obtain ⟨q1, q2, q3⟩ := norm_good n l M hl e
    rw [← he] at q1 q2 q3
    refine ⟨h0, h1, q1, ?_⟩
    obtain ⟨_, a0, a1⟩ := ok_len h0
    obtain ⟨_, c0, c1⟩ := ok_len q1
    obtain ⟨g0, g1, g2⟩ := mx_le x0 x1
    obtain ⟨_, b0, b1⟩ := ok_len h1
    obtain ⟨d, hd⟩ : ∃ d, 60 = M + d := ⟨60 - M, by omega⟩
    rw [hd, V_up _ _ c0 q2 d, q3, hv, V_up n0 s0 a0 (by omega) d, V_up n1 s1 b0 (by omega) d, Int.add_mul]
theorem V_60 {n : Bool} {s : ByteArray} {x : Int} (h : okB n s x = true) : V n s x 120 = V n s x 60 * ((10 ^ 60 : Nat) : Int) := by
  obtain ⟨_, a0, a1⟩ := ok_len h
  exact V_up n s a0 (by omega : x ≤ ((60 : Nat) : Int)) 60
theorem times_j1 {l : List Int} (h : Code l) (n0 n1 : Bool) (s0 s1 : ByteArray) (x0 x1 : Int) (hs0 : s0.size ≤ 1000) (hs1 : s1.size ≤ 1000) {p : Bool × ByteArray × Int} (hp : okB p.1 p.2.1 p.2.2 = true) (hv : V p.1 p.2.1 p.2.2 120 = V n0 s0 x0 60 * V n1 s1 x1 60) :
    Ev (fun k => laws_FnTimes.j1 k l false n0 s0 x0 n1 s1 x1 p.1 p.2.1 p.2.2) true := by
  obtain ⟨cn, cs, cx, hd, hc⟩ := drawText h
  obtain ⟨⟨sn, ss, sx, so⟩, ha, hsz, hsv⟩ := add_any n0 cn s0 cs x0 cx hs0 hc
  have hleft := times_f sn ss sx n1 s1 x1 (Nat.le_trans hsz (by decide)) (by omega)
  have hcb := times_f cn cs cx n1 s1 x1 (by omega) (by omega)
  obtain ⟨_, zp, _⟩ := ok_len hp
  obtain ⟨⟨rn, rs, rx, ro⟩, hr, hrz, hrv⟩ := add_any p.1 (timesR cn cs cx n1 s1 x1).1 p.2.1 (timesR cn cs cx n1 s1 x1).2.1 p.2.2 (timesR cn cs cx n1 s1 x1).2.2.1 (by have := (ok_len hp).1; omega) (by have := timesR_size cn cs cx n1 s1 x1; omega)
  have body : Ev (fun k => (spec_DrawDecText.f k l).bind fun bt358 => ((impl_AddDec.f k n0 s0 x0 bt358.1 bt358.2.1 bt358.2.2).bind fun bt362 => ((impl_TimesDec.f bt362.1 bt362.2.1 bt362.2.2.1 n1 s1 x1).bind fun bt367 => ((impl_TimesDec.f bt358.1 bt358.2.1 bt358.2.2 n1 s1 x1).bind fun bt372 => ((impl_AddDec.f k p.1 p.2.1 p.2.2 bt372.1 bt372.2.1 bt372.2.2.1).bind fun bt377 => (if bt362.2.2.2 = true then (if bt367.2.2.2 = true then (if bt372.2.2.2 = true then (if bt377.2.2.2 = true then (some (bt367.1 == bt377.1 && (bt367.2.1.toList == bt377.2.1.toList && (bt367.2.2.1 == bt377.2.2.1)))) else (some true)) else (some true)) else (some true)) else (some true))))))) true := by
    refine Ev.bind hd (Ev.bind ha ?_)
    simp only [hleft, hcb, Option.bind_some]
    refine Ev.bind hr ?_
    cases so with
    | false => exact Ev.now _
    | true =>
      simp only [if_true]
      cases e1 : (timesR sn ss sx n1 s1 x1).2.2.2 with
      | false => exact Ev.now _
      | true =>
        simp only [if_true]
        cases e2 : (timesR cn cs cx n1 s1 x1).2.2.2 with
        | false => exact Ev.now _
        | true =>
          simp only [if_true]
          cases ro with
          | false => exact Ev.now _
          | true =>
            simp only [if_true]
            obtain ⟨_, k2, k3, k4⟩ := hsv rfl
            obtain ⟨_, _, m3, m4⟩ := timesR_good e1
            obtain ⟨_, _, o3, o4⟩ := timesR_good e2
            obtain ⟨_, _, r3, r4⟩ := hrv rfl
            have key : V (timesR sn ss sx n1 s1 x1).1 (timesR sn ss sx n1 s1 x1).2.1 (timesR sn ss sx n1 s1 x1).2.2.1 120 = V rn rs rx 120 := by
              rw [m4, k4, V_60 r3, r4, Int.add_mul, Int.add_mul, ← V_60 hp, ← V_60 o3, hv, o4]
            obtain ⟨_, u0, u1⟩ := ok_len m3
            obtain ⟨_, v0, v1⟩ := ok_len r3
            obtain ⟨f1, f2, f3⟩ := V_uniq m3 r3 (by omega) (by omega) key
            rw [f1, f2, f3]
            simp only [beq_self_eq_true, Bool.and_self]
            exact Ev.now _
  refine Ev.step (fun k => ?_) body
  simp only [laws_FnTimes.j1, Bool.false_eq_true, if_false]
theorem times_nil {n0 n1 : Bool} {s0 s1 : ByteArray} {x0 x1 : Int} (h0 : okB n0 s0 x0 = true) (h1 : okB n1 s1 x1 = true) {p : Bool × ByteArray × Int} (hp : okB p.1 p.2.1 p.2.2 = true) (hv : V p.1 p.2.1 p.2.2 120 = V n0 s0 x0 60 * V n1 s1 x1 60) :
    p.2.1.data.toList = [] ↔ s0.data.toList = [] ∨ s1.data.toList = [] := by
  rw [(V_neg hp 120).2, hv, (V_neg h0 60).2, (V_neg h1 60).2, Int.mul_eq_zero]
theorem FnTimes : laws_FnTimes.Pure := by
  intro l _ h1 h2
  have h := code_of h1 h2
  refine Ev.rounds ?_
  unfold laws_FnTimes.f laws_big.f
  simp only [Option.bind_some]
  by_cases c : (decide ((l.length : Int) > 1048576)) = true
  · simp only [c, if_true]; exact Ev.now _
  · simp only [c]
    obtain ⟨n, s, x, m, t, y, hd, hs, ht⟩ := drawCompare h
    have hd' : Ev (fun k => spec_DrawTimesDec.f k l) (n, s, x, m, t, y) := by
      unfold spec_DrawTimesDec.f
      exact Ev.bind hd (Ev.now _)
    refine Ev.bind hd' ?_
    have hi := times_f n s x m t y (by omega) (by omega)
    have hi2 := times_f m t y n s x (by omega) (by omega)
    rw [timesR_comm] at hi2
    have hsp : Ev (fun k => spec_TimesDec.f k n s x m t y) (timesR n s x m t y) := by
      unfold timesR
      cases e : (okB n s x && okB m t y) with
      | false => exact times_no hs ht e
      | true =>
        rw [Bool.and_eq_true] at e
        exact times_spec e.1 e.2
    simp only [hi, Option.bind_some]
    refine Ev.bind hsp ?_
    simp only [Lib.toList_data, beq_self_eq_true, Bool.not_true, Bool.or_self, Bool.false_eq_true, if_false, bne_self_eq_false]
    cases eo : (timesR n s x m t y).2.2.2 with
    | false =>
      refine Ev.step (f := fun _ => some true) (fun k => ?_) (Ev.now _)
      simp only [laws_FnTimes.j0, Bool.not_false, if_true, beq_self_eq_true, Bool.and_self]
    | true =>
      obtain ⟨k0, k1, k2, k3⟩ := timesR_good eo
      have body := times_j1 h n m s t x y hs ht (p := ((timesR n s x m t y).1, (timesR n s x m t y).2.1, (timesR n s x m t y).2.2.1)) k2 k3
      refine Ev.step (fun k => ?_) body
      have hnil := times_nil k0 k1 (p := ((timesR n s x m t y).1, (timesR n s x m t y).2.1, (timesR n s x m t y).2.2.1)) k2 k3
      simp only [laws_FnTimes.j0, Bool.not_true, Bool.false_eq_true, if_false, hi2, Option.bind_some, eo, if_true, Lib.toList_data, beq_self_eq_true, Bool.or_self]
      simp only at hnil
      by_cases c1 : s.data.toList = []
      · have e1 : ((timesR n s x m t y).2.1.data.toList == ([] : List UInt8)) = true := by rw [beq_iff_eq]; exact hnil.2 (.inl c1)
        rw [if_pos c1, e1]; rfl
      · rw [if_neg c1]
        have e1 : ((timesR n s x m t y).2.1.data.toList == ([] : List UInt8)) = (t.data.toList == ([] : List UInt8)) := by
          rw [Bool.eq_iff_iff, beq_iff_eq, beq_iff_eq, hnil]
          exact ⟨fun e => e.resolve_left c1, .inr⟩
        rw [e1, bne_self_eq_false]
end Go.Proofs.YtilmhfkbpnejeaaDoor.Pure
