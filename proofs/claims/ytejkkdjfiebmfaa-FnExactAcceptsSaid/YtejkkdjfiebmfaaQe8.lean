/- Words and contracts for the row RowFnExactAccepts: what the Go functions answer that it calls; printed by programs of the kit and of this session, and merged. -/
import Derived.Test.YtejkkdjfiebmfaaQe7
import Derived.Lib.Hide
import Derived.Outline
namespace Go.Proofs.Ytejkkdjfiebmfaa.L
open Go.RowKit Go.Proofs.YtejkkdjfiebmfaaW.PrintWords Go.Proofs.YtejkkdjfiebmfaaW.PrintLast Go.Proofs.YtejkkdjfiebmfaaW.PrintMore
attribute [local go_sem] max2_int min2_int max_two min_two max_three min_three max_four min_four
set_option linter.unusedVariables false
set_option linter.unusedSimpArgs false

/-! ### laws_FnExactAccepts: function 8 -/
def laws_FnExactAccepts.f (k : Nat) (l0 : List (S46)) (l1 : List ByteArray) : Option (Bool) := (laws_szPNodeS.f k l0 1048576).bind fun t571 => (if t571 < 0 then (some true) else ((laws_szStringS.f k l1 t571).bind fun t572 => (if t572 < 0 then (some true) else ((laws_toPNodeS.f k l0).bind fun t573 => ((laws_toStringS.f k l1).bind fun t576 => ((spec_Accepts.f k t573 t576).bind fun t579 => ((laws_toPNodeS.f k l0).bind fun t580 => ((laws_toStringS.f k l1).bind fun t583 => ((impl_Accepts.f k t580 t583).bind fun t586 => (if (t586 != t579) = true then (some false) else ((laws_toPNodeS.f k l0).bind fun t587 => ((laws_eqPNodeS.f k t580 t587).bind fun t590 => (if t590 = true then ((laws_toStringS.f k l1).bind fun t591 => ((laws_eqStringS.f k t583 t591).bind fun t594 => (if t594 = true then (some true) else (some false)))) else (some false))))))))))))))
set_option maxHeartbeats 8000000 in
set_option maxRecDepth 100000 in
theorem laws_FnExactAccepts.calls (k : Nat) (A0 : Option Addr) (c0 : Nat) (l0 : List (S46)) (A1 : Option Addr) (c1 : Nat) (l1 : List ByteArray) (r : Bool) (w : World) (hr0 : Kd.C k46 w A0 l0.length l0) (hc0 : l0.length ≤ c0) (hr1 : Kd.C Kd.string w A1 l1.length l1) (hc1 : l1.length ≤ c1) (h : laws_FnExactAccepts.f k l0 l1 = some r) :
  Calls Try.prog 8 #[.slice A0 l0.length c0, .slice A1 l1.length c1] w fun e w' => e = .returned (.bool r) ∧ Below w.heap.size w w' := by
 have HR0 := Aside0.mk hr0
 have HC0 := Aside0.mk hc0
 clear hr0 hc0
 have HR1 := Aside0.mk hr1
 have HC1 := Aside0.mk hc1
 clear hr1 hc1
 have HB := Aside0.mk (Below.refl w.heap.size w)
 have H : ((laws_szPNodeS.f k l0 1048576).bind fun t571 => (if t571 < 0 then (some true) else ((laws_szStringS.f k l1 t571).bind fun t572 => (if t572 < 0 then (some true) else ((laws_toPNodeS.f k l0).bind fun t573 => ((laws_toStringS.f k l1).bind fun t576 => ((spec_Accepts.f k t573 t576).bind fun t579 => ((laws_toPNodeS.f k l0).bind fun t580 => ((laws_toStringS.f k l1).bind fun t583 => ((impl_Accepts.f k t580 t583).bind fun t586 => (if (t586 != t579) = true then (some false) else ((laws_toPNodeS.f k l0).bind fun t587 => ((laws_eqPNodeS.f k t580 t587).bind fun t590 => (if t590 = true then ((laws_toStringS.f k l1).bind fun t591 => ((laws_eqStringS.f k t583 t591).bind fun t594 => (if t594 = true then (some true) else (some false)))) else (some false))))))))))))))) = some r := h
 clear h
 replace H := Option.bind_eq_some_iff.mp H
 obtain ⟨t571, A30, H⟩ := H
 replace H : (if t571 < 0 then (some true) else ((laws_szStringS.f k l1 t571).bind fun t572 => (if t572 < 0 then (some true) else ((laws_toPNodeS.f k l0).bind fun t573 => ((laws_toStringS.f k l1).bind fun t576 => ((spec_Accepts.f k t573 t576).bind fun t579 => ((laws_toPNodeS.f k l0).bind fun t580 => ((laws_toStringS.f k l1).bind fun t583 => ((impl_Accepts.f k t580 t583).bind fun t586 => (if (t586 != t579) = true then (some false) else ((laws_toPNodeS.f k l0).bind fun t587 => ((laws_eqPNodeS.f k t580 t587).bind fun t590 => (if t590 = true then ((laws_toStringS.f k l1).bind fun t591 => ((laws_eqStringS.f k t583 t591).bind fun t594 => (if t594 = true then (some true) else (some false)))) else (some false)))))))))))))) = some r := H
 have A3 := Aside0.mk A30
 clear A30
 by_cases c4 : t571 < 0
 ·rw [if_pos c4] at H
  have c4b0 := decide_eq_true c4
  clear c4
  obtain rfl := Option.some.inj H
  go_enter Try.func8, Try.ntmps8
  go_wp2_with (first | ((with_reducible refine gate_callee (f := 9) rfl ?_); refine goesL_ (some 12) rfl rfl Try.func9 dq19 rfl #[.slice A0 l0.length c0, .int .i64 1048576] rfl dq18 ?_; (with_reducible refine (laws_szPNodeS.calls k _ _ l0 1048576 t571 _ ?side1 ?side2 A3.out).mono ?_); (case side1 => exact dq3); (case side2 => exact HC0.out); rintro e w5 ⟨rfl, hb⟩; refine ⟨_, rfl, ?_⟩; have n0_ := Aside0.mk (below_step dq15 hb); clear HB; have HB := n0_; clear n0_; (try clear hb); (try clear hb2); (try clear hk); (try clear hi)))
  go_ret
  exact ⟨dq17, dq15⟩
 rw [if_neg c4] at H
 have c4b0 := decide_eq_false c4
 clear c4
 replace H := Option.bind_eq_some_iff.mp H
 obtain ⟨t572, A60, H⟩ := H
 replace H : (if t572 < 0 then (some true) else ((laws_toPNodeS.f k l0).bind fun t573 => ((laws_toStringS.f k l1).bind fun t576 => ((spec_Accepts.f k t573 t576).bind fun t579 => ((laws_toPNodeS.f k l0).bind fun t580 => ((laws_toStringS.f k l1).bind fun t583 => ((impl_Accepts.f k t580 t583).bind fun t586 => (if (t586 != t579) = true then (some false) else ((laws_toPNodeS.f k l0).bind fun t587 => ((laws_eqPNodeS.f k t580 t587).bind fun t590 => (if t590 = true then ((laws_toStringS.f k l1).bind fun t591 => ((laws_eqStringS.f k t583 t591).bind fun t594 => (if t594 = true then (some true) else (some false)))) else (some false)))))))))))) = some r := H
 have A6 := Aside0.mk A60
 clear A60
 by_cases c7 : t572 < 0
 ·rw [if_pos c7] at H
  have c7b0 := decide_eq_true c7
  clear c7
  obtain rfl := Option.some.inj H
  go_enter Try.func8, Try.ntmps8
  go_wp2_with (first | ((with_reducible refine gate_callee (f := 9) rfl ?_); refine goesL_ (some 12) rfl rfl Try.func9 dq19 rfl #[.slice A0 l0.length c0, .int .i64 1048576] rfl dq18 ?_; (with_reducible refine (laws_szPNodeS.calls k _ _ l0 1048576 t571 _ ?side1 ?side2 A3.out).mono ?_); (case side1 => exact dq3); (case side2 => exact HC0.out); rintro e w8 ⟨rfl, hb⟩; refine ⟨_, rfl, ?_⟩; have n0_ := Aside0.mk (below_step dq15 hb); clear HB; have HB := n0_; clear n0_; (try clear hb); (try clear hb2); (try clear hk); (try clear hi)) | ((with_reducible refine gate_callee (f := 24) rfl ?_); refine goesL_ (some 17) rfl rfl Try.func24 dq19 rfl #[.slice A1 l1.length c1, .int .i64 t571] rfl dq18 ?_; (with_reducible refine (laws_szStringS.calls k _ _ l1 t571 t572 _ ?side1 ?side2 A6.out).mono ?_); (case side1 => exact dq5); (case side2 => exact HC1.out); rintro e w' ⟨rfl, ⟨nd, rfl⟩⟩; refine ⟨_, rfl, ?_⟩))
  go_ret
  exact ⟨dq17, dq15⟩
 rw [if_neg c7] at H
 have c7b0 := decide_eq_false c7
 clear c7
 replace H := Option.bind_eq_some_iff.mp H
 obtain ⟨t573, A90, H⟩ := H
 replace H : ((laws_toStringS.f k l1).bind fun t576 => ((spec_Accepts.f k t573 t576).bind fun t579 => ((laws_toPNodeS.f k l0).bind fun t580 => ((laws_toStringS.f k l1).bind fun t583 => ((impl_Accepts.f k t580 t583).bind fun t586 => (if (t586 != t579) = true then (some false) else ((laws_toPNodeS.f k l0).bind fun t587 => ((laws_eqPNodeS.f k t580 t587).bind fun t590 => (if t590 = true then ((laws_toStringS.f k l1).bind fun t591 => ((laws_eqStringS.f k t583 t591).bind fun t594 => (if t594 = true then (some true) else (some false)))) else (some false)))))))))) = some r := H
 have A9 := Aside0.mk A90
 clear A90
 replace H := Option.bind_eq_some_iff.mp H
 obtain ⟨t576, A100, H⟩ := H
 replace H : ((spec_Accepts.f k t573 t576).bind fun t579 => ((laws_toPNodeS.f k l0).bind fun t580 => ((laws_toStringS.f k l1).bind fun t583 => ((impl_Accepts.f k t580 t583).bind fun t586 => (if (t586 != t579) = true then (some false) else ((laws_toPNodeS.f k l0).bind fun t587 => ((laws_eqPNodeS.f k t580 t587).bind fun t590 => (if t590 = true then ((laws_toStringS.f k l1).bind fun t591 => ((laws_eqStringS.f k t583 t591).bind fun t594 => (if t594 = true then (some true) else (some false)))) else (some false))))))))) = some r := H
 have A10 := Aside0.mk A100
 clear A100
 replace H := Option.bind_eq_some_iff.mp H
 obtain ⟨t579, A110, H⟩ := H
 replace H : ((laws_toPNodeS.f k l0).bind fun t580 => ((laws_toStringS.f k l1).bind fun t583 => ((impl_Accepts.f k t580 t583).bind fun t586 => (if (t586 != t579) = true then (some false) else ((laws_toPNodeS.f k l0).bind fun t587 => ((laws_eqPNodeS.f k t580 t587).bind fun t590 => (if t590 = true then ((laws_toStringS.f k l1).bind fun t591 => ((laws_eqStringS.f k t583 t591).bind fun t594 => (if t594 = true then (some true) else (some false)))) else (some false)))))))) = some r := H
 have A11 := Aside0.mk A110
 clear A110
 replace H := Option.bind_eq_some_iff.mp H
 obtain ⟨t580, A120, H⟩ := H
 replace H : ((laws_toStringS.f k l1).bind fun t583 => ((impl_Accepts.f k t580 t583).bind fun t586 => (if (t586 != t579) = true then (some false) else ((laws_toPNodeS.f k l0).bind fun t587 => ((laws_eqPNodeS.f k t580 t587).bind fun t590 => (if t590 = true then ((laws_toStringS.f k l1).bind fun t591 => ((laws_eqStringS.f k t583 t591).bind fun t594 => (if t594 = true then (some true) else (some false)))) else (some false))))))) = some r := H
 have A12 := Aside0.mk A120
 clear A120
 replace H := Option.bind_eq_some_iff.mp H
 obtain ⟨t583, A130, H⟩ := H
 replace H : ((impl_Accepts.f k t580 t583).bind fun t586 => (if (t586 != t579) = true then (some false) else ((laws_toPNodeS.f k l0).bind fun t587 => ((laws_eqPNodeS.f k t580 t587).bind fun t590 => (if t590 = true then ((laws_toStringS.f k l1).bind fun t591 => ((laws_eqStringS.f k t583 t591).bind fun t594 => (if t594 = true then (some true) else (some false)))) else (some false)))))) = some r := H
 have A13 := Aside0.mk A130
 clear A130
 replace H := Option.bind_eq_some_iff.mp H
 obtain ⟨t586, A140, H⟩ := H
 replace H : (if (t586 != t579) = true then (some false) else ((laws_toPNodeS.f k l0).bind fun t587 => ((laws_eqPNodeS.f k t580 t587).bind fun t590 => (if t590 = true then ((laws_toStringS.f k l1).bind fun t591 => ((laws_eqStringS.f k t583 t591).bind fun t594 => (if t594 = true then (some true) else (some false)))) else (some false))))) = some r := H
 have A14 := Aside0.mk A140
 clear A140
 by_cases c15 : (t586 != t579) = true
 ·rw [if_pos c15] at H
  have c15b0 : (t586 != t579) = true := c15
  (try (have c15b1 : decide (t586 = t579) = false := by simpa using c15))
  (try (have c15b2 : (t586 == t579) = false := by simpa using c15))
  (try (have c15b3 : ¬ (t586 = t579) := by simpa using c15))
  clear c15
  obtain rfl := Option.some.inj H
  go_enter Try.func8, Try.ntmps8
  go_wp2_with (first | ((with_reducible refine gate_callee (f := 9) rfl ?_); refine goesL_ (some 12) rfl rfl Try.func9 dq19 rfl #[.slice A0 l0.length c0, .int .i64 1048576] rfl dq18 ?_; (with_reducible refine (laws_szPNodeS.calls k _ _ l0 1048576 t571 _ ?side1 ?side2 A3.out).mono ?_); (case side1 => exact dq3); (case side2 => exact HC0.out); rintro e w16 ⟨rfl, hb⟩; refine ⟨_, rfl, ?_⟩; have n0_ := Aside0.mk (below_step dq15 hb); clear HB; have HB := n0_; clear n0_; (try clear hb); (try clear hb2); (try clear hk); (try clear hi)) | ((with_reducible refine gate_callee (f := 24) rfl ?_); refine goesL_ (some 17) rfl rfl Try.func24 dq19 rfl #[.slice A1 l1.length c1, .int .i64 t571] rfl dq18 ?_; (with_reducible refine (laws_szStringS.calls k _ _ l1 t571 t572 _ ?side1 ?side2 A6.out).mono ?_); (case side1 => exact dq5); (case side2 => exact HC1.out); rintro e w' ⟨rfl, ⟨nd, rfl⟩⟩; refine ⟨_, rfl, ?_⟩) | ((with_reducible refine gate_callee (f := 11) rfl ?_); refine goesL_ (some 21) rfl rfl Try.func11 dq19 rfl #[.slice A0 l0.length c0] rfl dq18 ?_; (with_reducible refine (laws_toPNodeS.calls k _ _ l0 t573 _ ?side1 ?side2 A9.out).mono ?_); (case side1 => repeat (first | exact (Kd.C_below HR0.out dq15) | (with_reducible refine Kd.C_alloc ?_ _) | (with_reducible refine Kd.C_drewN ?_ _) | (with_reducible refine Kd.C_drew ?_))); (case side2 => exact HC0.out); rintro e w17 ⟨v574, rfl, ho0, hb⟩; refine ⟨_, rfl, ?_⟩; have n0_ := Aside0.mk (Kd.S_lower ho0 (below_size dq15)); have n1_ := Aside0.mk (below_step dq15 hb); clear HB; have HO575 := n0_; have HB := n1_; clear n0_ n1_; (try clear hb); (try clear hb2); (try clear hk); (try clear hi); (try clear ho0)) | ((with_reducible refine gate_callee (f := 26) rfl ?_); refine goesL_ (some 23) rfl rfl Try.func26 dq19 rfl #[.slice A1 l1.length c1] rfl dq18 ?_; (with_reducible refine (laws_toStringS.calls k _ _ l1 t576 _ ?side1 ?side2 A10.out).mono ?_); (case side1 => exact dq5); (case side2 => exact HC1.out); rintro e w18 ⟨v577, rfl, ho0, hb⟩; refine ⟨_, rfl, ?_⟩; have n0_ := Aside0.mk (Kd.S_below dq63 hb); have n1_ := Aside0.mk (Kd.R_lower ho0 (below_size dq15)); have n2_ := Aside0.mk (below_step dq15 hb); clear HO575; clear HB; have HO575 := n0_; have HO578 := n1_; have HB := n2_; clear n0_ n1_ n2_; (try clear hb); (try clear hb2); (try clear hk); (try clear hi); (try clear ho0); obtain ⟨Ao19, co19, eo19⟩ := Kd.S_slice HO575.out; subst eo19; obtain ⟨Ao20, co20, eo20⟩ := Kd.R_slice HO578.out; subst eo20) | ((with_reducible refine gate_callee (f := 30) rfl ?_); refine goesL_ (some 24) rfl rfl Try.func30 dq19 rfl #[.slice Ao19 t573.length co19, .slice Ao20 t576.length co20] rfl dq18 ?_; (with_reducible refine (spec_Accepts.calls k _ _ t573 _ _ t576 t579 _ ?side1 ?side2 ?side3 ?side4 A11.out).mono ?_); (case side1 => exact dq7); (case side2 => exact (Kd.S_reads' HO575.out).2.1); (case side3 => exact dq8); (case side4 => exact (Kd.R_reads' HO578.out).2.1); rintro e w21 ⟨rfl, hb⟩; refine ⟨_, rfl, ?_⟩; have n0_ := Aside0.mk (Kd.S_below dq63 hb); have n1_ := Aside0.mk (Kd.R_below dq62 hb); have n2_ := Aside0.mk (below_step dq15 hb); clear HO575; clear HO578; clear HB; have HO575 := n0_; have HO578 := n1_; have HB := n2_; clear n0_ n1_ n2_; (try clear hb); (try clear hb2); (try clear hk); (try clear hi)) | ((with_reducible refine gate_callee (f := 11) rfl ?_); refine goesL_ (some 26) rfl rfl Try.func11 dq19 rfl #[.slice A0 l0.length c0] rfl dq18 ?_; (with_reducible refine (laws_toPNodeS.calls k _ _ l0 t580 _ ?side1 ?side2 A12.out).mono ?_); (case side1 => exact dq4); (case side2 => exact HC0.out); rintro e w22 ⟨v581, rfl, ho0, hb⟩; refine ⟨_, rfl, ?_⟩; have n0_ := Aside0.mk (Kd.S_elder' dq63 (Kd.S_base ho0) hb); have n1_ := Aside0.mk (Kd.R_below dq62 hb); have n2_ := Aside0.mk (Kd.S_lower (Kd.S_new' ho0 (Kd.S_lt dq63)) (below_size dq15)); have n3_ := Aside0.mk (below_step dq15 hb); clear HO575; clear HO578; clear HB; have HO575 := n0_; have HO578 := n1_; have HO582 := n2_; have HB := n3_; clear n0_ n1_ n2_ n3_; (try clear hb); (try clear hb2); (try clear hk); (try clear hi); (try clear ho0)) | ((with_reducible refine gate_callee (f := 26) rfl ?_); refine goesL_ (some 28) rfl rfl Try.func26 dq19 rfl #[.slice A1 l1.length c1] rfl dq18 ?_; (with_reducible refine (laws_toStringS.calls k _ _ l1 t583 _ ?side1 ?side2 A13.out).mono ?_); (case side1 => exact dq5); (case side2 => exact HC1.out); rintro e w23 ⟨v584, rfl, ho0, hb⟩; refine ⟨_, rfl, ?_⟩; have n0_ := Aside0.mk (Kd.S_below dq63 hb); have n1_ := Aside0.mk (Kd.R_elder' dq62 (Kd.R_base ho0) hb); have n2_ := Aside0.mk (Kd.S_below dq61 hb); have n3_ := Aside0.mk (Kd.R_lower (Kd.R_new' ho0 (Kd.R_lt dq62)) (below_size dq15)); have n4_ := Aside0.mk (below_step dq15 hb); clear HO575; clear HO578; clear HO582; clear HB; have HO575 := n0_; have HO578 := n1_; have HO582 := n2_; have HO585 := n3_; have HB := n4_; clear n0_ n1_ n2_ n3_ n4_; (try clear hb); (try clear hb2); (try clear hk); (try clear hi); (try clear ho0); obtain ⟨Ao24, co24, eo24⟩ := Kd.S_slice HO582.out; subst eo24; obtain ⟨Ao25, co25, eo25⟩ := Kd.R_slice HO585.out; subst eo25) | ((with_reducible refine gate_callee (f := 31) rfl ?_); refine goesL_ (some 31) rfl rfl Try.func31 dq19 rfl #[.slice Ao24 t580.length co24, .slice Ao25 t583.length co25] rfl dq18 ?_; (with_reducible refine (impl_Accepts.calls k _ _ t580 _ _ t583 t586 _ ?side1 ?side2 ?side3 ?side4 A14.out).mono ?_); (case side1 => exact dq9); (case side2 => exact (Kd.S_reads' HO582.out).2.1); (case side3 => exact dq10); (case side4 => exact (Kd.R_reads' HO585.out).2.1); rintro e w26 ⟨rfl, hb⟩; refine ⟨_, rfl, ?_⟩; have n0_ := Aside0.mk (Kd.S_below dq63 hb); have n1_ := Aside0.mk (Kd.R_below dq62 hb); have n2_ := Aside0.mk (Kd.S_below dq61 hb); have n3_ := Aside0.mk (Kd.R_below dq60 hb); have n4_ := Aside0.mk (below_step dq15 hb); clear HO575; clear HO578; clear HO582; clear HO585; clear HB; have HO575 := n0_; have HO578 := n1_; have HO582 := n2_; have HO585 := n3_; have HB := n4_; clear n0_ n1_ n2_ n3_ n4_; (try clear hb); (try clear hb2); (try clear hk); (try clear hi)))
  go_ret
  exact ⟨dq17, dq15⟩
 rw [if_neg c15] at H
 have c15b0 : (t586 != t579) = false := by simpa using c15
 (try (have c15b1 : decide (t586 = t579) = true := by simpa using c15))
 (try (have c15b2 : (t586 == t579) = true := by simpa using c15))
 clear c15
 replace H := Option.bind_eq_some_iff.mp H
 obtain ⟨t587, A270, H⟩ := H
 replace H : ((laws_eqPNodeS.f k t580 t587).bind fun t590 => (if t590 = true then ((laws_toStringS.f k l1).bind fun t591 => ((laws_eqStringS.f k t583 t591).bind fun t594 => (if t594 = true then (some true) else (some false)))) else (some false))) = some r := H
 have A27 := Aside0.mk A270
 clear A270
 replace H := Option.bind_eq_some_iff.mp H
 obtain ⟨t590, A280, H⟩ := H
 replace H : (if t590 = true then ((laws_toStringS.f k l1).bind fun t591 => ((laws_eqStringS.f k t583 t591).bind fun t594 => (if t594 = true then (some true) else (some false)))) else (some false)) = some r := H
 have A28 := Aside0.mk A280
 clear A280
 by_cases c29 : t590 = true
 rotate_left
 ·replace c29 := Bool.eq_false_iff.mpr c29
  subst c29
  have H1 : (some false) = some r := by rw [if_neg (show ¬ (false = true) by decide)] at H; exact H
  clear H
  have H := H1
  clear H1
  obtain rfl := Option.some.inj H
  go_enter Try.func8, Try.ntmps8
  go_wp2_with (first | ((with_reducible refine gate_callee (f := 9) rfl ?_); refine goesL_ (some 12) rfl rfl Try.func9 dq19 rfl #[.slice A0 l0.length c0, .int .i64 1048576] rfl dq18 ?_; (with_reducible refine (laws_szPNodeS.calls k _ _ l0 1048576 t571 _ ?side1 ?side2 A3.out).mono ?_); (case side1 => exact dq3); (case side2 => exact HC0.out); rintro e w65 ⟨rfl, hb⟩; refine ⟨_, rfl, ?_⟩; have n0_ := Aside0.mk (below_step dq15 hb); clear HB; have HB := n0_; clear n0_; (try clear hb); (try clear hb2); (try clear hk); (try clear hi)) | ((with_reducible refine gate_callee (f := 24) rfl ?_); refine goesL_ (some 17) rfl rfl Try.func24 dq19 rfl #[.slice A1 l1.length c1, .int .i64 t571] rfl dq18 ?_; (with_reducible refine (laws_szStringS.calls k _ _ l1 t571 t572 _ ?side1 ?side2 A6.out).mono ?_); (case side1 => exact dq5); (case side2 => exact HC1.out); rintro e w' ⟨rfl, ⟨nd, rfl⟩⟩; refine ⟨_, rfl, ?_⟩) | ((with_reducible refine gate_callee (f := 11) rfl ?_); refine goesL_ (some 21) rfl rfl Try.func11 dq19 rfl #[.slice A0 l0.length c0] rfl dq18 ?_; (with_reducible refine (laws_toPNodeS.calls k _ _ l0 t573 _ ?side1 ?side2 A9.out).mono ?_); (case side1 => repeat (first | exact (Kd.C_below HR0.out dq15) | (with_reducible refine Kd.C_alloc ?_ _) | (with_reducible refine Kd.C_drewN ?_ _) | (with_reducible refine Kd.C_drew ?_))); (case side2 => exact HC0.out); rintro e w66 ⟨v574, rfl, ho0, hb⟩; refine ⟨_, rfl, ?_⟩; have n0_ := Aside0.mk (Kd.S_lower ho0 (below_size dq15)); have n1_ := Aside0.mk (below_step dq15 hb); clear HB; have HO575 := n0_; have HB := n1_; clear n0_ n1_; (try clear hb); (try clear hb2); (try clear hk); (try clear hi); (try clear ho0)) | ((with_reducible refine gate_callee (f := 26) rfl ?_); refine goesL_ (some 23) rfl rfl Try.func26 dq19 rfl #[.slice A1 l1.length c1] rfl dq18 ?_; (with_reducible refine (laws_toStringS.calls k _ _ l1 t576 _ ?side1 ?side2 A10.out).mono ?_); (case side1 => exact dq5); (case side2 => exact HC1.out); rintro e w67 ⟨v577, rfl, ho0, hb⟩; refine ⟨_, rfl, ?_⟩; have n0_ := Aside0.mk (Kd.S_below dq63 hb); have n1_ := Aside0.mk (Kd.R_lower ho0 (below_size dq15)); have n2_ := Aside0.mk (below_step dq15 hb); clear HO575; clear HB; have HO575 := n0_; have HO578 := n1_; have HB := n2_; clear n0_ n1_ n2_; (try clear hb); (try clear hb2); (try clear hk); (try clear hi); (try clear ho0); obtain ⟨Ao68, co68, eo68⟩ := Kd.S_slice HO575.out; subst eo68; obtain ⟨Ao69, co69, eo69⟩ := Kd.R_slice HO578.out; subst eo69) | ((with_reducible refine gate_callee (f := 30) rfl ?_); refine goesL_ (some 24) rfl rfl Try.func30 dq19 rfl #[.slice Ao68 t573.length co68, .slice Ao69 t576.length co69] rfl dq18 ?_; (with_reducible refine (spec_Accepts.calls k _ _ t573 _ _ t576 t579 _ ?side1 ?side2 ?side3 ?side4 A11.out).mono ?_); (case side1 => exact dq7); (case side2 => exact (Kd.S_reads' HO575.out).2.1); (case side3 => exact dq8); (case side4 => exact (Kd.R_reads' HO578.out).2.1); rintro e w70 ⟨rfl, hb⟩; refine ⟨_, rfl, ?_⟩; have n0_ := Aside0.mk (Kd.S_below dq63 hb); have n1_ := Aside0.mk (Kd.R_below dq62 hb); have n2_ := Aside0.mk (below_step dq15 hb); clear HO575; clear HO578; clear HB; have HO575 := n0_; have HO578 := n1_; have HB := n2_; clear n0_ n1_ n2_; (try clear hb); (try clear hb2); (try clear hk); (try clear hi)) | ((with_reducible refine gate_callee (f := 11) rfl ?_); refine goesL_ (some 26) rfl rfl Try.func11 dq19 rfl #[.slice A0 l0.length c0] rfl dq18 ?_; (with_reducible refine (laws_toPNodeS.calls k _ _ l0 t580 _ ?side1 ?side2 A12.out).mono ?_); (case side1 => exact dq4); (case side2 => exact HC0.out); rintro e w71 ⟨v581, rfl, ho0, hb⟩; refine ⟨_, rfl, ?_⟩; have n0_ := Aside0.mk (Kd.S_elder' dq63 (Kd.S_base ho0) hb); have n1_ := Aside0.mk (Kd.R_below dq62 hb); have n2_ := Aside0.mk (Kd.S_lower (Kd.S_new' ho0 (Kd.S_lt dq63)) (below_size dq15)); have n3_ := Aside0.mk (below_step dq15 hb); clear HO575; clear HO578; clear HB; have HO575 := n0_; have HO578 := n1_; have HO582 := n2_; have HB := n3_; clear n0_ n1_ n2_ n3_; (try clear hb); (try clear hb2); (try clear hk); (try clear hi); (try clear ho0)) | ((with_reducible refine gate_callee (f := 26) rfl ?_); refine goesL_ (some 28) rfl rfl Try.func26 dq19 rfl #[.slice A1 l1.length c1] rfl dq18 ?_; (with_reducible refine (laws_toStringS.calls k _ _ l1 t583 _ ?side1 ?side2 A13.out).mono ?_); (case side1 => exact dq5); (case side2 => exact HC1.out); rintro e w72 ⟨v584, rfl, ho0, hb⟩; refine ⟨_, rfl, ?_⟩; have n0_ := Aside0.mk (Kd.S_below dq63 hb); have n1_ := Aside0.mk (Kd.R_elder' dq62 (Kd.R_base ho0) hb); have n2_ := Aside0.mk (Kd.S_below dq61 hb); have n3_ := Aside0.mk (Kd.R_lower (Kd.R_new' ho0 (Kd.R_lt dq62)) (below_size dq15)); have n4_ := Aside0.mk (below_step dq15 hb); clear HO575; clear HO578; clear HO582; clear HB; have HO575 := n0_; have HO578 := n1_; have HO582 := n2_; have HO585 := n3_; have HB := n4_; clear n0_ n1_ n2_ n3_ n4_; (try clear hb); (try clear hb2); (try clear hk); (try clear hi); (try clear ho0); obtain ⟨Ao73, co73, eo73⟩ := Kd.S_slice HO582.out; subst eo73; obtain ⟨Ao74, co74, eo74⟩ := Kd.R_slice HO585.out; subst eo74) | ((with_reducible refine gate_callee (f := 31) rfl ?_); refine goesL_ (some 31) rfl rfl Try.func31 dq19 rfl #[.slice Ao73 t580.length co73, .slice Ao74 t583.length co74] rfl dq18 ?_; (with_reducible refine (impl_Accepts.calls k _ _ t580 _ _ t583 t586 _ ?side1 ?side2 ?side3 ?side4 A14.out).mono ?_); (case side1 => exact dq9); (case side2 => exact (Kd.S_reads' HO582.out).2.1); (case side3 => exact dq10); (case side4 => exact (Kd.R_reads' HO585.out).2.1); rintro e w75 ⟨rfl, hb⟩; refine ⟨_, rfl, ?_⟩; have n0_ := Aside0.mk (Kd.S_below dq63 hb); have n1_ := Aside0.mk (Kd.R_below dq62 hb); have n2_ := Aside0.mk (Kd.S_below dq61 hb); have n3_ := Aside0.mk (Kd.R_below dq60 hb); have n4_ := Aside0.mk (below_step dq15 hb); clear HO575; clear HO578; clear HO582; clear HO585; clear HB; have HO575 := n0_; have HO578 := n1_; have HO582 := n2_; have HO585 := n3_; have HB := n4_; clear n0_ n1_ n2_ n3_ n4_; (try clear hb); (try clear hb2); (try clear hk); (try clear hi)) | ((with_reducible refine gate_callee (f := 11) rfl ?_); refine goesL_ (some 37) rfl rfl Try.func11 dq19 rfl #[.slice A0 l0.length c0] rfl dq18 ?_; (with_reducible refine (laws_toPNodeS.calls k _ _ l0 t587 _ ?side1 ?side2 A27.out).mono ?_); (case side1 => exact dq4); (case side2 => exact HC0.out); rintro e w76 ⟨v588, rfl, ho0, hb⟩; refine ⟨_, rfl, ?_⟩; have n0_ := Aside0.mk (Kd.S_elder' dq63 (Kd.S_base ho0) hb); have n1_ := Aside0.mk (Kd.R_below dq62 hb); have n2_ := Aside0.mk (Kd.S_elder' dq61 (Kd.S_base ho0) hb); have n3_ := Aside0.mk (Kd.R_below dq60 hb); have n4_ := Aside0.mk (Kd.S_lower (Kd.S_new' (Kd.S_new' ho0 (Kd.S_lt dq63)) (Kd.S_lt dq61)) (below_size dq15)); have n5_ := Aside0.mk (below_step dq15 hb); clear HO575; clear HO578; clear HO582; clear HO585; clear HB; have HO575 := n0_; have HO578 := n1_; have HO582 := n2_; have HO585 := n3_; have HO589 := n4_; have HB := n5_; clear n0_ n1_ n2_ n3_ n4_ n5_; (try clear hb); (try clear hb2); (try clear hk); (try clear hi); (try clear ho0); obtain ⟨Ao77, co77, eo77⟩ := Kd.S_slice HO589.out; subst eo77) | ((with_reducible refine gate_callee (f := 14) rfl ?_); refine goesL_ (some 38) rfl rfl Try.func14 dq19 rfl #[.slice Ao73 t580.length co73, .slice Ao77 t587.length co77] rfl dq18 ?_; (with_reducible refine (laws_eqPNodeS.calls k _ _ t580 _ _ t587 false _ ?side1 ?side2 ?side3 ?side4 A28.out).mono ?_); (case side1 => exact dq9); (case side2 => exact (Kd.S_reads' HO582.out).2.1); (case side3 => exact dq11); (case side4 => exact (Kd.S_reads' HO589.out).2.1); rintro e w78 ⟨rfl, hb⟩; refine ⟨_, rfl, ?_⟩; have n0_ := Aside0.mk (Kd.S_below dq63 hb); have n1_ := Aside0.mk (Kd.R_below dq62 hb); have n2_ := Aside0.mk (Kd.S_below dq61 hb); have n3_ := Aside0.mk (Kd.R_below dq60 hb); have n4_ := Aside0.mk (Kd.S_below dq64 hb); have n5_ := Aside0.mk (below_step dq15 hb); clear HO575; clear HO578; clear HO582; clear HO585; clear HO589; clear HB; have HO575 := n0_; have HO578 := n1_; have HO582 := n2_; have HO585 := n3_; have HO589 := n4_; have HB := n5_; clear n0_ n1_ n2_ n3_ n4_ n5_; (try clear hb); (try clear hb2); (try clear hk); (try clear hi)))
  go_ret
  exact ⟨dq17, dq15⟩
 subst c29
 have H1 : ((laws_toStringS.f k l1).bind fun t591 => ((laws_eqStringS.f k t583 t591).bind fun t594 => (if t594 = true then (some true) else (some false)))) = some r := by rw [if_pos rfl] at H; exact H
 clear H
 have H := H1
 clear H1
 replace H := Option.bind_eq_some_iff.mp H
 obtain ⟨t591, A300, H⟩ := H
 replace H : ((laws_eqStringS.f k t583 t591).bind fun t594 => (if t594 = true then (some true) else (some false))) = some r := H
 have A30 := Aside0.mk A300
 clear A300
 replace H := Option.bind_eq_some_iff.mp H
 obtain ⟨t594, A310, H⟩ := H
 replace H : (if t594 = true then (some true) else (some false)) = some r := H
 have A31 := Aside0.mk A310
 clear A310
 by_cases c32 : t594 = true
 ·subst c32
  have H1 : (some true) = some r := by rw [if_pos rfl] at H; exact H
  clear H
  have H := H1
  clear H1
  obtain rfl := Option.some.inj H
  go_enter Try.func8, Try.ntmps8
  go_wp2_with (first | ((with_reducible refine gate_callee (f := 9) rfl ?_); refine goesL_ (some 12) rfl rfl Try.func9 dq19 rfl #[.slice A0 l0.length c0, .int .i64 1048576] rfl dq18 ?_; (with_reducible refine (laws_szPNodeS.calls k _ _ l0 1048576 t571 _ ?side1 ?side2 A3.out).mono ?_); (case side1 => exact dq3); (case side2 => exact HC0.out); rintro e w33 ⟨rfl, hb⟩; refine ⟨_, rfl, ?_⟩; have n0_ := Aside0.mk (below_step dq15 hb); clear HB; have HB := n0_; clear n0_; (try clear hb); (try clear hb2); (try clear hk); (try clear hi)) | ((with_reducible refine gate_callee (f := 24) rfl ?_); refine goesL_ (some 17) rfl rfl Try.func24 dq19 rfl #[.slice A1 l1.length c1, .int .i64 t571] rfl dq18 ?_; (with_reducible refine (laws_szStringS.calls k _ _ l1 t571 t572 _ ?side1 ?side2 A6.out).mono ?_); (case side1 => exact dq5); (case side2 => exact HC1.out); rintro e w' ⟨rfl, ⟨nd, rfl⟩⟩; refine ⟨_, rfl, ?_⟩) | ((with_reducible refine gate_callee (f := 11) rfl ?_); refine goesL_ (some 21) rfl rfl Try.func11 dq19 rfl #[.slice A0 l0.length c0] rfl dq18 ?_; (with_reducible refine (laws_toPNodeS.calls k _ _ l0 t573 _ ?side1 ?side2 A9.out).mono ?_); (case side1 => repeat (first | exact (Kd.C_below HR0.out dq15) | (with_reducible refine Kd.C_alloc ?_ _) | (with_reducible refine Kd.C_drewN ?_ _) | (with_reducible refine Kd.C_drew ?_))); (case side2 => exact HC0.out); rintro e w34 ⟨v574, rfl, ho0, hb⟩; refine ⟨_, rfl, ?_⟩; have n0_ := Aside0.mk (Kd.S_lower ho0 (below_size dq15)); have n1_ := Aside0.mk (below_step dq15 hb); clear HB; have HO575 := n0_; have HB := n1_; clear n0_ n1_; (try clear hb); (try clear hb2); (try clear hk); (try clear hi); (try clear ho0)) | ((with_reducible refine gate_callee (f := 26) rfl ?_); refine goesL_ (some 23) rfl rfl Try.func26 dq19 rfl #[.slice A1 l1.length c1] rfl dq18 ?_; (with_reducible refine (laws_toStringS.calls k _ _ l1 t576 _ ?side1 ?side2 A10.out).mono ?_); (case side1 => exact dq5); (case side2 => exact HC1.out); rintro e w35 ⟨v577, rfl, ho0, hb⟩; refine ⟨_, rfl, ?_⟩; have n0_ := Aside0.mk (Kd.S_below dq63 hb); have n1_ := Aside0.mk (Kd.R_lower ho0 (below_size dq15)); have n2_ := Aside0.mk (below_step dq15 hb); clear HO575; clear HB; have HO575 := n0_; have HO578 := n1_; have HB := n2_; clear n0_ n1_ n2_; (try clear hb); (try clear hb2); (try clear hk); (try clear hi); (try clear ho0); obtain ⟨Ao36, co36, eo36⟩ := Kd.S_slice HO575.out; subst eo36; obtain ⟨Ao37, co37, eo37⟩ := Kd.R_slice HO578.out; subst eo37) | ((with_reducible refine gate_callee (f := 30) rfl ?_); refine goesL_ (some 24) rfl rfl Try.func30 dq19 rfl #[.slice Ao36 t573.length co36, .slice Ao37 t576.length co37] rfl dq18 ?_; (with_reducible refine (spec_Accepts.calls k _ _ t573 _ _ t576 t579 _ ?side1 ?side2 ?side3 ?side4 A11.out).mono ?_); (case side1 => exact dq7); (case side2 => exact (Kd.S_reads' HO575.out).2.1); (case side3 => exact dq8); (case side4 => exact (Kd.R_reads' HO578.out).2.1); rintro e w38 ⟨rfl, hb⟩; refine ⟨_, rfl, ?_⟩; have n0_ := Aside0.mk (Kd.S_below dq63 hb); have n1_ := Aside0.mk (Kd.R_below dq62 hb); have n2_ := Aside0.mk (below_step dq15 hb); clear HO575; clear HO578; clear HB; have HO575 := n0_; have HO578 := n1_; have HB := n2_; clear n0_ n1_ n2_; (try clear hb); (try clear hb2); (try clear hk); (try clear hi)) | ((with_reducible refine gate_callee (f := 11) rfl ?_); refine goesL_ (some 26) rfl rfl Try.func11 dq19 rfl #[.slice A0 l0.length c0] rfl dq18 ?_; (with_reducible refine (laws_toPNodeS.calls k _ _ l0 t580 _ ?side1 ?side2 A12.out).mono ?_); (case side1 => exact dq4); (case side2 => exact HC0.out); rintro e w39 ⟨v581, rfl, ho0, hb⟩; refine ⟨_, rfl, ?_⟩; have n0_ := Aside0.mk (Kd.S_elder' dq63 (Kd.S_base ho0) hb); have n1_ := Aside0.mk (Kd.R_below dq62 hb); have n2_ := Aside0.mk (Kd.S_lower (Kd.S_new' ho0 (Kd.S_lt dq63)) (below_size dq15)); have n3_ := Aside0.mk (below_step dq15 hb); clear HO575; clear HO578; clear HB; have HO575 := n0_; have HO578 := n1_; have HO582 := n2_; have HB := n3_; clear n0_ n1_ n2_ n3_; (try clear hb); (try clear hb2); (try clear hk); (try clear hi); (try clear ho0)) | ((with_reducible refine gate_callee (f := 26) rfl ?_); refine goesL_ (some 28) rfl rfl Try.func26 dq19 rfl #[.slice A1 l1.length c1] rfl dq18 ?_; (with_reducible refine (laws_toStringS.calls k _ _ l1 t583 _ ?side1 ?side2 A13.out).mono ?_); (case side1 => exact dq5); (case side2 => exact HC1.out); rintro e w40 ⟨v584, rfl, ho0, hb⟩; refine ⟨_, rfl, ?_⟩; have n0_ := Aside0.mk (Kd.S_below dq63 hb); have n1_ := Aside0.mk (Kd.R_elder' dq62 (Kd.R_base ho0) hb); have n2_ := Aside0.mk (Kd.S_below dq61 hb); have n3_ := Aside0.mk (Kd.R_lower (Kd.R_new' ho0 (Kd.R_lt dq62)) (below_size dq15)); have n4_ := Aside0.mk (below_step dq15 hb); clear HO575; clear HO578; clear HO582; clear HB; have HO575 := n0_; have HO578 := n1_; have HO582 := n2_; have HO585 := n3_; have HB := n4_; clear n0_ n1_ n2_ n3_ n4_; (try clear hb); (try clear hb2); (try clear hk); (try clear hi); (try clear ho0); obtain ⟨Ao41, co41, eo41⟩ := Kd.S_slice HO582.out; subst eo41; obtain ⟨Ao42, co42, eo42⟩ := Kd.R_slice HO585.out; subst eo42) | ((with_reducible refine gate_callee (f := 31) rfl ?_); refine goesL_ (some 31) rfl rfl Try.func31 dq19 rfl #[.slice Ao41 t580.length co41, .slice Ao42 t583.length co42] rfl dq18 ?_; (with_reducible refine (impl_Accepts.calls k _ _ t580 _ _ t583 t586 _ ?side1 ?side2 ?side3 ?side4 A14.out).mono ?_); (case side1 => exact dq9); (case side2 => exact (Kd.S_reads' HO582.out).2.1); (case side3 => exact dq10); (case side4 => exact (Kd.R_reads' HO585.out).2.1); rintro e w43 ⟨rfl, hb⟩; refine ⟨_, rfl, ?_⟩; have n0_ := Aside0.mk (Kd.S_below dq63 hb); have n1_ := Aside0.mk (Kd.R_below dq62 hb); have n2_ := Aside0.mk (Kd.S_below dq61 hb); have n3_ := Aside0.mk (Kd.R_below dq60 hb); have n4_ := Aside0.mk (below_step dq15 hb); clear HO575; clear HO578; clear HO582; clear HO585; clear HB; have HO575 := n0_; have HO578 := n1_; have HO582 := n2_; have HO585 := n3_; have HB := n4_; clear n0_ n1_ n2_ n3_ n4_; (try clear hb); (try clear hb2); (try clear hk); (try clear hi)) | ((with_reducible refine gate_callee (f := 11) rfl ?_); refine goesL_ (some 37) rfl rfl Try.func11 dq19 rfl #[.slice A0 l0.length c0] rfl dq18 ?_; (with_reducible refine (laws_toPNodeS.calls k _ _ l0 t587 _ ?side1 ?side2 A27.out).mono ?_); (case side1 => exact dq4); (case side2 => exact HC0.out); rintro e w44 ⟨v588, rfl, ho0, hb⟩; refine ⟨_, rfl, ?_⟩; have n0_ := Aside0.mk (Kd.S_elder' dq63 (Kd.S_base ho0) hb); have n1_ := Aside0.mk (Kd.R_below dq62 hb); have n2_ := Aside0.mk (Kd.S_elder' dq61 (Kd.S_base ho0) hb); have n3_ := Aside0.mk (Kd.R_below dq60 hb); have n4_ := Aside0.mk (Kd.S_lower (Kd.S_new' (Kd.S_new' ho0 (Kd.S_lt dq63)) (Kd.S_lt dq61)) (below_size dq15)); have n5_ := Aside0.mk (below_step dq15 hb); clear HO575; clear HO578; clear HO582; clear HO585; clear HB; have HO575 := n0_; have HO578 := n1_; have HO582 := n2_; have HO585 := n3_; have HO589 := n4_; have HB := n5_; clear n0_ n1_ n2_ n3_ n4_ n5_; (try clear hb); (try clear hb2); (try clear hk); (try clear hi); (try clear ho0); obtain ⟨Ao45, co45, eo45⟩ := Kd.S_slice HO589.out; subst eo45) | ((with_reducible refine gate_callee (f := 14) rfl ?_); refine goesL_ (some 38) rfl rfl Try.func14 dq19 rfl #[.slice Ao41 t580.length co41, .slice Ao45 t587.length co45] rfl dq18 ?_; (with_reducible refine (laws_eqPNodeS.calls k _ _ t580 _ _ t587 true _ ?side1 ?side2 ?side3 ?side4 A28.out).mono ?_); (case side1 => exact dq9); (case side2 => exact (Kd.S_reads' HO582.out).2.1); (case side3 => exact dq11); (case side4 => exact (Kd.S_reads' HO589.out).2.1); rintro e w46 ⟨rfl, hb⟩; refine ⟨_, rfl, ?_⟩; have n0_ := Aside0.mk (Kd.S_below dq63 hb); have n1_ := Aside0.mk (Kd.R_below dq62 hb); have n2_ := Aside0.mk (Kd.S_below dq61 hb); have n3_ := Aside0.mk (Kd.R_below dq60 hb); have n4_ := Aside0.mk (Kd.S_below dq64 hb); have n5_ := Aside0.mk (below_step dq15 hb); clear HO575; clear HO578; clear HO582; clear HO585; clear HO589; clear HB; have HO575 := n0_; have HO578 := n1_; have HO582 := n2_; have HO585 := n3_; have HO589 := n4_; have HB := n5_; clear n0_ n1_ n2_ n3_ n4_ n5_; (try clear hb); (try clear hb2); (try clear hk); (try clear hi)) | ((with_reducible refine gate_callee (f := 26) rfl ?_); refine goesL_ (some 42) rfl rfl Try.func26 dq19 rfl #[.slice A1 l1.length c1] rfl dq18 ?_; (with_reducible refine (laws_toStringS.calls k _ _ l1 t591 _ ?side1 ?side2 A30.out).mono ?_); (case side1 => exact dq5); (case side2 => exact HC1.out); rintro e w47 ⟨v592, rfl, ho0, hb⟩; refine ⟨_, rfl, ?_⟩; have n0_ := Aside0.mk (Kd.S_below dq63 hb); have n1_ := Aside0.mk (Kd.R_elder' dq62 (Kd.R_base ho0) hb); have n2_ := Aside0.mk (Kd.S_below dq61 hb); have n3_ := Aside0.mk (Kd.R_elder' dq60 (Kd.R_base ho0) hb); have n4_ := Aside0.mk (Kd.S_below dq64 hb); have n5_ := Aside0.mk (Kd.R_lower (Kd.R_new' (Kd.R_new' ho0 (Kd.R_lt dq62)) (Kd.R_lt dq60)) (below_size dq15)); have n6_ := Aside0.mk (below_step dq15 hb); clear HO575; clear HO578; clear HO582; clear HO585; clear HO589; clear HB; have HO575 := n0_; have HO578 := n1_; have HO582 := n2_; have HO585 := n3_; have HO589 := n4_; have HO593 := n5_; have HB := n6_; clear n0_ n1_ n2_ n3_ n4_ n5_ n6_; (try clear hb); (try clear hb2); (try clear hk); (try clear hi); (try clear ho0); obtain ⟨Ao48, co48, eo48⟩ := Kd.R_slice HO593.out; subst eo48) | ((with_reducible refine gate_callee (f := 28) rfl ?_); refine goesL_ (some 43) rfl rfl Try.func28 dq19 rfl #[.slice Ao42 t583.length co42, .slice Ao48 t591.length co48] rfl dq18 ?_; (with_reducible refine (laws_eqStringS.calls k _ _ t583 _ _ t591 true _ ?side1 ?side2 ?side3 ?side4 A31.out).mono ?_); (case side1 => exact dq10); (case side2 => exact (Kd.R_reads' HO585.out).2.1); (case side3 => repeat (first | exact (Kd.R_reads' HO593.out).2.2 | (with_reducible refine Kd.C_alloc ?_ _) | (with_reducible refine Kd.C_drewN ?_ _) | (with_reducible refine Kd.C_drew ?_))); (case side4 => exact (Kd.R_reads' HO593.out).2.1); rintro e w' ⟨rfl, ⟨nd, rfl⟩⟩; refine ⟨_, rfl, ?_⟩))
  go_ret
  exact ⟨dq17, dq15⟩
 replace c32 := Bool.eq_false_iff.mpr c32
 subst c32
 have H1 : (some false) = some r := by rw [if_neg (show ¬ (false = true) by decide)] at H; exact H
 clear H
 have H := H1
 clear H1
 obtain rfl := Option.some.inj H
 go_enter Try.func8, Try.ntmps8
 go_wp2_with (first | ((with_reducible refine gate_callee (f := 9) rfl ?_); refine goesL_ (some 12) rfl rfl Try.func9 dq19 rfl #[.slice A0 l0.length c0, .int .i64 1048576] rfl dq18 ?_; (with_reducible refine (laws_szPNodeS.calls k _ _ l0 1048576 t571 _ ?side1 ?side2 A3.out).mono ?_); (case side1 => exact dq3); (case side2 => exact HC0.out); rintro e w49 ⟨rfl, hb⟩; refine ⟨_, rfl, ?_⟩; have n0_ := Aside0.mk (below_step dq15 hb); clear HB; have HB := n0_; clear n0_; (try clear hb); (try clear hb2); (try clear hk); (try clear hi)) | ((with_reducible refine gate_callee (f := 24) rfl ?_); refine goesL_ (some 17) rfl rfl Try.func24 dq19 rfl #[.slice A1 l1.length c1, .int .i64 t571] rfl dq18 ?_; (with_reducible refine (laws_szStringS.calls k _ _ l1 t571 t572 _ ?side1 ?side2 A6.out).mono ?_); (case side1 => exact dq5); (case side2 => exact HC1.out); rintro e w' ⟨rfl, ⟨nd, rfl⟩⟩; refine ⟨_, rfl, ?_⟩) | ((with_reducible refine gate_callee (f := 11) rfl ?_); refine goesL_ (some 21) rfl rfl Try.func11 dq19 rfl #[.slice A0 l0.length c0] rfl dq18 ?_; (with_reducible refine (laws_toPNodeS.calls k _ _ l0 t573 _ ?side1 ?side2 A9.out).mono ?_); (case side1 => repeat (first | exact (Kd.C_below HR0.out dq15) | (with_reducible refine Kd.C_alloc ?_ _) | (with_reducible refine Kd.C_drewN ?_ _) | (with_reducible refine Kd.C_drew ?_))); (case side2 => exact HC0.out); rintro e w50 ⟨v574, rfl, ho0, hb⟩; refine ⟨_, rfl, ?_⟩; have n0_ := Aside0.mk (Kd.S_lower ho0 (below_size dq15)); have n1_ := Aside0.mk (below_step dq15 hb); clear HB; have HO575 := n0_; have HB := n1_; clear n0_ n1_; (try clear hb); (try clear hb2); (try clear hk); (try clear hi); (try clear ho0)) | ((with_reducible refine gate_callee (f := 26) rfl ?_); refine goesL_ (some 23) rfl rfl Try.func26 dq19 rfl #[.slice A1 l1.length c1] rfl dq18 ?_; (with_reducible refine (laws_toStringS.calls k _ _ l1 t576 _ ?side1 ?side2 A10.out).mono ?_); (case side1 => exact dq5); (case side2 => exact HC1.out); rintro e w51 ⟨v577, rfl, ho0, hb⟩; refine ⟨_, rfl, ?_⟩; have n0_ := Aside0.mk (Kd.S_below dq63 hb); have n1_ := Aside0.mk (Kd.R_lower ho0 (below_size dq15)); have n2_ := Aside0.mk (below_step dq15 hb); clear HO575; clear HB; have HO575 := n0_; have HO578 := n1_; have HB := n2_; clear n0_ n1_ n2_; (try clear hb); (try clear hb2); (try clear hk); (try clear hi); (try clear ho0); obtain ⟨Ao52, co52, eo52⟩ := Kd.S_slice HO575.out; subst eo52; obtain ⟨Ao53, co53, eo53⟩ := Kd.R_slice HO578.out; subst eo53) | ((with_reducible refine gate_callee (f := 30) rfl ?_); refine goesL_ (some 24) rfl rfl Try.func30 dq19 rfl #[.slice Ao52 t573.length co52, .slice Ao53 t576.length co53] rfl dq18 ?_; (with_reducible refine (spec_Accepts.calls k _ _ t573 _ _ t576 t579 _ ?side1 ?side2 ?side3 ?side4 A11.out).mono ?_); (case side1 => exact dq7); (case side2 => exact (Kd.S_reads' HO575.out).2.1); (case side3 => exact dq8); (case side4 => exact (Kd.R_reads' HO578.out).2.1); rintro e w54 ⟨rfl, hb⟩; refine ⟨_, rfl, ?_⟩; have n0_ := Aside0.mk (Kd.S_below dq63 hb); have n1_ := Aside0.mk (Kd.R_below dq62 hb); have n2_ := Aside0.mk (below_step dq15 hb); clear HO575; clear HO578; clear HB; have HO575 := n0_; have HO578 := n1_; have HB := n2_; clear n0_ n1_ n2_; (try clear hb); (try clear hb2); (try clear hk); (try clear hi)) | ((with_reducible refine gate_callee (f := 11) rfl ?_); refine goesL_ (some 26) rfl rfl Try.func11 dq19 rfl #[.slice A0 l0.length c0] rfl dq18 ?_; (with_reducible refine (laws_toPNodeS.calls k _ _ l0 t580 _ ?side1 ?side2 A12.out).mono ?_); (case side1 => exact dq4); (case side2 => exact HC0.out); rintro e w55 ⟨v581, rfl, ho0, hb⟩; refine ⟨_, rfl, ?_⟩; have n0_ := Aside0.mk (Kd.S_elder' dq63 (Kd.S_base ho0) hb); have n1_ := Aside0.mk (Kd.R_below dq62 hb); have n2_ := Aside0.mk (Kd.S_lower (Kd.S_new' ho0 (Kd.S_lt dq63)) (below_size dq15)); have n3_ := Aside0.mk (below_step dq15 hb); clear HO575; clear HO578; clear HB; have HO575 := n0_; have HO578 := n1_; have HO582 := n2_; have HB := n3_; clear n0_ n1_ n2_ n3_; (try clear hb); (try clear hb2); (try clear hk); (try clear hi); (try clear ho0)) | ((with_reducible refine gate_callee (f := 26) rfl ?_); refine goesL_ (some 28) rfl rfl Try.func26 dq19 rfl #[.slice A1 l1.length c1] rfl dq18 ?_; (with_reducible refine (laws_toStringS.calls k _ _ l1 t583 _ ?side1 ?side2 A13.out).mono ?_); (case side1 => exact dq5); (case side2 => exact HC1.out); rintro e w56 ⟨v584, rfl, ho0, hb⟩; refine ⟨_, rfl, ?_⟩; have n0_ := Aside0.mk (Kd.S_below dq63 hb); have n1_ := Aside0.mk (Kd.R_elder' dq62 (Kd.R_base ho0) hb); have n2_ := Aside0.mk (Kd.S_below dq61 hb); have n3_ := Aside0.mk (Kd.R_lower (Kd.R_new' ho0 (Kd.R_lt dq62)) (below_size dq15)); have n4_ := Aside0.mk (below_step dq15 hb); clear HO575; clear HO578; clear HO582; clear HB; have HO575 := n0_; have HO578 := n1_; have HO582 := n2_; have HO585 := n3_; have HB := n4_; clear n0_ n1_ n2_ n3_ n4_; (try clear hb); (try clear hb2); (try clear hk); (try clear hi); (try clear ho0); obtain ⟨Ao57, co57, eo57⟩ := Kd.S_slice HO582.out; subst eo57; obtain ⟨Ao58, co58, eo58⟩ := Kd.R_slice HO585.out; subst eo58) | ((with_reducible refine gate_callee (f := 31) rfl ?_); refine goesL_ (some 31) rfl rfl Try.func31 dq19 rfl #[.slice Ao57 t580.length co57, .slice Ao58 t583.length co58] rfl dq18 ?_; (with_reducible refine (impl_Accepts.calls k _ _ t580 _ _ t583 t586 _ ?side1 ?side2 ?side3 ?side4 A14.out).mono ?_); (case side1 => exact dq9); (case side2 => exact (Kd.S_reads' HO582.out).2.1); (case side3 => exact dq10); (case side4 => exact (Kd.R_reads' HO585.out).2.1); rintro e w59 ⟨rfl, hb⟩; refine ⟨_, rfl, ?_⟩; have n0_ := Aside0.mk (Kd.S_below dq63 hb); have n1_ := Aside0.mk (Kd.R_below dq62 hb); have n2_ := Aside0.mk (Kd.S_below dq61 hb); have n3_ := Aside0.mk (Kd.R_below dq60 hb); have n4_ := Aside0.mk (below_step dq15 hb); clear HO575; clear HO578; clear HO582; clear HO585; clear HB; have HO575 := n0_; have HO578 := n1_; have HO582 := n2_; have HO585 := n3_; have HB := n4_; clear n0_ n1_ n2_ n3_ n4_; (try clear hb); (try clear hb2); (try clear hk); (try clear hi)) | ((with_reducible refine gate_callee (f := 11) rfl ?_); refine goesL_ (some 37) rfl rfl Try.func11 dq19 rfl #[.slice A0 l0.length c0] rfl dq18 ?_; (with_reducible refine (laws_toPNodeS.calls k _ _ l0 t587 _ ?side1 ?side2 A27.out).mono ?_); (case side1 => exact dq4); (case side2 => exact HC0.out); rintro e w60 ⟨v588, rfl, ho0, hb⟩; refine ⟨_, rfl, ?_⟩; have n0_ := Aside0.mk (Kd.S_elder' dq63 (Kd.S_base ho0) hb); have n1_ := Aside0.mk (Kd.R_below dq62 hb); have n2_ := Aside0.mk (Kd.S_elder' dq61 (Kd.S_base ho0) hb); have n3_ := Aside0.mk (Kd.R_below dq60 hb); have n4_ := Aside0.mk (Kd.S_lower (Kd.S_new' (Kd.S_new' ho0 (Kd.S_lt dq63)) (Kd.S_lt dq61)) (below_size dq15)); have n5_ := Aside0.mk (below_step dq15 hb); clear HO575; clear HO578; clear HO582; clear HO585; clear HB; have HO575 := n0_; have HO578 := n1_; have HO582 := n2_; have HO585 := n3_; have HO589 := n4_; have HB := n5_; clear n0_ n1_ n2_ n3_ n4_ n5_; (try clear hb); (try clear hb2); (try clear hk); (try clear hi); (try clear ho0); obtain ⟨Ao61, co61, eo61⟩ := Kd.S_slice HO589.out; subst eo61) | ((with_reducible refine gate_callee (f := 14) rfl ?_); refine goesL_ (some 38) rfl rfl Try.func14 dq19 rfl #[.slice Ao57 t580.length co57, .slice Ao61 t587.length co61] rfl dq18 ?_; (with_reducible refine (laws_eqPNodeS.calls k _ _ t580 _ _ t587 true _ ?side1 ?side2 ?side3 ?side4 A28.out).mono ?_); (case side1 => exact dq9); (case side2 => exact (Kd.S_reads' HO582.out).2.1); (case side3 => exact dq11); (case side4 => exact (Kd.S_reads' HO589.out).2.1); rintro e w62 ⟨rfl, hb⟩; refine ⟨_, rfl, ?_⟩; have n0_ := Aside0.mk (Kd.S_below dq63 hb); have n1_ := Aside0.mk (Kd.R_below dq62 hb); have n2_ := Aside0.mk (Kd.S_below dq61 hb); have n3_ := Aside0.mk (Kd.R_below dq60 hb); have n4_ := Aside0.mk (Kd.S_below dq64 hb); have n5_ := Aside0.mk (below_step dq15 hb); clear HO575; clear HO578; clear HO582; clear HO585; clear HO589; clear HB; have HO575 := n0_; have HO578 := n1_; have HO582 := n2_; have HO585 := n3_; have HO589 := n4_; have HB := n5_; clear n0_ n1_ n2_ n3_ n4_ n5_; (try clear hb); (try clear hb2); (try clear hk); (try clear hi)) | ((with_reducible refine gate_callee (f := 26) rfl ?_); refine goesL_ (some 42) rfl rfl Try.func26 dq19 rfl #[.slice A1 l1.length c1] rfl dq18 ?_; (with_reducible refine (laws_toStringS.calls k _ _ l1 t591 _ ?side1 ?side2 A30.out).mono ?_); (case side1 => exact dq5); (case side2 => exact HC1.out); rintro e w63 ⟨v592, rfl, ho0, hb⟩; refine ⟨_, rfl, ?_⟩; have n0_ := Aside0.mk (Kd.S_below dq63 hb); have n1_ := Aside0.mk (Kd.R_elder' dq62 (Kd.R_base ho0) hb); have n2_ := Aside0.mk (Kd.S_below dq61 hb); have n3_ := Aside0.mk (Kd.R_elder' dq60 (Kd.R_base ho0) hb); have n4_ := Aside0.mk (Kd.S_below dq64 hb); have n5_ := Aside0.mk (Kd.R_lower (Kd.R_new' (Kd.R_new' ho0 (Kd.R_lt dq62)) (Kd.R_lt dq60)) (below_size dq15)); have n6_ := Aside0.mk (below_step dq15 hb); clear HO575; clear HO578; clear HO582; clear HO585; clear HO589; clear HB; have HO575 := n0_; have HO578 := n1_; have HO582 := n2_; have HO585 := n3_; have HO589 := n4_; have HO593 := n5_; have HB := n6_; clear n0_ n1_ n2_ n3_ n4_ n5_ n6_; (try clear hb); (try clear hb2); (try clear hk); (try clear hi); (try clear ho0); obtain ⟨Ao64, co64, eo64⟩ := Kd.R_slice HO593.out; subst eo64) | ((with_reducible refine gate_callee (f := 28) rfl ?_); refine goesL_ (some 43) rfl rfl Try.func28 dq19 rfl #[.slice Ao58 t583.length co58, .slice Ao64 t591.length co64] rfl dq18 ?_; (with_reducible refine (laws_eqStringS.calls k _ _ t583 _ _ t591 false _ ?side1 ?side2 ?side3 ?side4 A31.out).mono ?_); (case side1 => exact dq10); (case side2 => exact (Kd.R_reads' HO585.out).2.1); (case side3 => repeat (first | exact (Kd.R_reads' HO593.out).2.2 | (with_reducible refine Kd.C_alloc ?_ _) | (with_reducible refine Kd.C_drewN ?_ _) | (with_reducible refine Kd.C_drew ?_))); (case side4 => exact (Kd.R_reads' HO593.out).2.1); rintro e w' ⟨rfl, ⟨nd, rfl⟩⟩; refine ⟨_, rfl, ?_⟩))
 go_ret
 exact ⟨dq17, dq15⟩

end Go.Proofs.Ytejkkdjfiebmfaa.L

namespace Go.Proofs.Ytejkkdjfiebmfaa.Pure
set_option linter.unusedVariables false
set_option linter.unusedSimpArgs false
namespace MT
structure Nd where
  kind : Int
  name : ByteArray
  kids : List Nat
  occ : Int
abbrev Md := List Nd
def Nd.pos (x : Nd) : Bool := x.kind == 1 || x.kind == 4
def Nd.opt (x : Nd) : Bool := x.occ == 1 || x.occ == 2
def Nd.oft (x : Nd) : Bool := x.occ == 2 || x.occ == 3
instance : Inhabited Nd := ⟨⟨2, ByteArray.empty, [], 0⟩⟩
def nd (p : Md) (i : Nat) : Nd := p.getD i default
def nul (p : Md) (i : Nat) : Bool :=
  (if (nd p i).kind = 2 then (nd p i).kids.all (fun k => if _h : k < i then nul p k else false) else if (nd p i).kind = 3 then (nd p i).kids.any (fun k => if _h : k < i then nul p k else false) else false) || (nd p i).opt
termination_by i
/-- What a row's kids begin with. -/
def pre (N : Nat → Bool) (F : Nat → List Nat) : List Nat → List Nat
  | [] => []
  | k :: ks => F k ++ (if N k then pre N F ks else [])
/-- What a row's kids end with, behind what was there. -/
def suf (N : Nat → Bool) (L : Nat → List Nat) : List Nat → List Nat → List Nat
  | acc, [] => acc
  | acc, k :: ks => suf N L ((if N k then acc else []) ++ L k) ks
def fst (p : Md) (i : Nat) : List Nat :=
  if (nd p i).pos = true then [i] else if (nd p i).kind = 3 then (nd p i).kids.flatMap (fun k => if _h : k < i then fst p k else []) else pre (nul p) (fun k => if _h : k < i then fst p k else []) (nd p i).kids
termination_by i
def lst (p : Md) (i : Nat) : List Nat :=
  if (nd p i).pos = true then [i] else if (nd p i).kind = 3 then (nd p i).kids.flatMap (fun k => if _h : k < i then lst p k else []) else suf (nul p) (fun k => if _h : k < i then lst p k else []) [] (nd p i).kids
termination_by i
/-- What may follow by node j itself. -/
def led (p : Md) (j a b : Nat) : Prop :=
  ((nd p j).kind = 2 ∧ ∃ us k vs, (nd p j).kids = us ++ k :: vs ∧ a ∈ suf (nul p) (lst p) [] us ∧ b ∈ fst p k) ∨ ((nd p j).oft = true ∧ a ∈ lst p j ∧ b ∈ fst p j)
def fol (p : Md) (a b : Nat) : Prop := ∃ j, j < p.length ∧ led p j a b
/-- Kids stand ahead. -/
def Ahead (p : Md) : Prop := ∀ i, i < p.length → ∀ k ∈ (nd p i).kids, k < i
/-- The kids of a node, from the last one on, stand one ahead of the other; with where the first one begins. -/
def Chain (lo : Nat → Nat) : Nat → List Nat → Nat → Prop
  | e, [], b => b = e
  | e, k :: ks, b => ∃ m, Chain lo e ks m ∧ m = k + 1 ∧ b = lo k
structure Tree (p : Md) (lo : Nat → Nat) : Prop where
  chain : ∀ i, i < p.length → Chain lo i (nd p i).kids (lo i)
  kinds : ∀ i, i < p.length → ((nd p i).pos = true ∧ (nd p i).kids = []) ∨ (nd p i).kind = 2 ∨ ((nd p i).kind = 3 ∧ 2 ≤ (nd p i).kids.length)
theorem Chain.facts {lo : Nat → Nat} : ∀ {ks : List Nat} {e b : Nat}, (∀ k, k < e → lo k ≤ k) → Chain lo e ks b → b ≤ e ∧ (∀ k ∈ ks, b ≤ lo k ∧ k < e) ∧ ks.Pairwise (fun k k' => k < lo k')
  | [], e, b, h, hc => ⟨by have : b = e := hc; omega, by simp, .nil⟩
  | k :: ks, e, b, h, hc => by
    obtain ⟨m, h1, h2, h3⟩ := hc
    obtain ⟨a1, a2, a3⟩ := Chain.facts h h1
    have hk := h k (by omega)
    refine ⟨by omega, ?_, List.pairwise_cons.2 ⟨fun k' hk' => ?_, a3⟩⟩
    · intro k' hk'
      rcases List.mem_cons.1 hk' with rfl | h'
      · omega
      · have := a2 k' h'; omega
    · have := a2 k' hk'; omega
section
variable {p : Md} {lo : Nat → Nat} (T : Tree p lo)
include T
theorem Tree.le : ∀ i, i < p.length → lo i ≤ i := by
  intro i
  induction i using Nat.strongRecOn with
  | _ i ih =>
  intro hi
  exact (Chain.facts (fun k hk => ih k hk (by omega)) (T.chain i hi)).1
theorem Tree.kid {i k : Nat} (hi : i < p.length) (hk : k ∈ (nd p i).kids) : lo i ≤ lo k ∧ k < i := (Chain.facts (fun k hk => T.le k (by omega)) (T.chain i hi)).2.1 k hk
theorem Tree.apart {i : Nat} (hi : i < p.length) : (nd p i).kids.Pairwise (fun k k' => k < lo k') := (Chain.facts (fun k hk => T.le k (by omega)) (T.chain i hi)).2.2
theorem Tree.ahead : Ahead p := fun i hi k hk => (T.kid hi hk).2
end
theorem pre_congr {N N' : Nat → Bool} {F F' : Nat → List Nat} : ∀ {ks : List Nat}, (∀ k ∈ ks, N k = N' k ∧ F k = F' k) → pre N F ks = pre N' F' ks
  | [], _ => rfl
  | k :: ks, h => by
    have h1 := h k (by simp)
    unfold pre
    rw [h1.1, h1.2, pre_congr (fun k' hk' => h k' (by simp [hk']))]
theorem suf_congr {N N' : Nat → Bool} {F F' : Nat → List Nat} : ∀ {ks acc : List Nat}, (∀ k ∈ ks, N k = N' k ∧ F k = F' k) → suf N F acc ks = suf N' F' acc ks
  | [], acc, _ => rfl
  | k :: ks, acc, h => by
    have h1 := h k (by simp)
    unfold suf
    rw [h1.1, h1.2, suf_congr (fun k' hk' => h k' (by simp [hk']))]
theorem flatMap_congr {F F' : Nat → List Nat} : ∀ {ks : List Nat}, (∀ k ∈ ks, F k = F' k) → ks.flatMap F = ks.flatMap F'
  | [], _ => rfl
  | k :: ks, h => by rw [List.flatMap_cons, List.flatMap_cons, h k (by simp), flatMap_congr (fun k' hk' => h k' (by simp [hk']))]
theorem all_congr {N N' : Nat → Bool} : ∀ {ks : List Nat}, (∀ k ∈ ks, N k = N' k) → ks.all N = ks.all N'
  | [], _ => rfl
  | k :: ks, h => by rw [List.all_cons, List.all_cons, h k (by simp), all_congr (fun k' hk' => h k' (by simp [hk']))]
theorem any_congr {N N' : Nat → Bool} : ∀ {ks : List Nat}, (∀ k ∈ ks, N k = N' k) → ks.any N = ks.any N'
  | [], _ => rfl
  | k :: ks, h => by rw [List.any_cons, List.any_cons, h k (by simp), any_congr (fun k' hk' => h k' (by simp [hk']))]
section
variable {p : Md} (A : Ahead p)
include A
theorem nul_eq {i : Nat} (hi : i < p.length) : nul p i = ((if (nd p i).kind = 2 then (nd p i).kids.all (nul p) else if (nd p i).kind = 3 then (nd p i).kids.any (nul p) else false) || (nd p i).opt) := by
  conv => lhs; rw [nul]
  rw [all_congr (N' := nul p) (fun k hk => by rw [dif_pos (A i hi k hk)]), any_congr (N' := nul p) (fun k hk => by rw [dif_pos (A i hi k hk)])]
theorem fst_eq {i : Nat} (hi : i < p.length) : fst p i = if (nd p i).pos = true then [i] else if (nd p i).kind = 3 then (nd p i).kids.flatMap (fst p) else pre (nul p) (fst p) (nd p i).kids := by
  conv => lhs; rw [fst]
  rw [flatMap_congr (F' := fst p) (fun k hk => by rw [dif_pos (A i hi k hk)]), pre_congr (N' := nul p) (F' := fst p) (fun k hk => ⟨rfl, by rw [dif_pos (A i hi k hk)]⟩)]
theorem lst_eq {i : Nat} (hi : i < p.length) : lst p i = if (nd p i).pos = true then [i] else if (nd p i).kind = 3 then (nd p i).kids.flatMap (lst p) else suf (nul p) (lst p) [] (nd p i).kids := by
  conv => lhs; rw [lst]
  rw [flatMap_congr (F' := lst p) (fun k hk => by rw [dif_pos (A i hi k hk)]), suf_congr (N' := nul p) (F' := lst p) (fun k hk => ⟨rfl, by rw [dif_pos (A i hi k hk)]⟩)]
end
/-- Membership in what a row begins with. -/
theorem mem_pre {N : Nat → Bool} {F : Nat → List Nat} {a : Nat} : ∀ {ks : List Nat}, a ∈ pre N F ks ↔ ∃ us k vs, ks = us ++ k :: vs ∧ (∀ u ∈ us, N u = true) ∧ a ∈ F k
  | [] => by simp [pre]
  | k :: ks => by
    unfold pre
    rw [List.mem_append]
    constructor
    · rintro (h | h)
      · exact ⟨[], k, ks, rfl, by simp, h⟩
      · cases hN : N k with
        | false => rw [hN] at h; simp at h
        | true =>
          rw [hN, if_pos rfl] at h
          obtain ⟨us, k', vs, e, hu, ha⟩ := mem_pre.1 h
          refine ⟨k :: us, k', vs, by rw [e]; rfl, ?_, ha⟩
          intro u hu'
          rcases List.mem_cons.1 hu' with rfl | h'
          · exact hN
          · exact hu u h'
    · rintro ⟨us, k', vs, e, hu, ha⟩
      cases us with
      | nil =>
        simp only [List.nil_append, List.cons.injEq] at e
        exact .inl (e.1 ▸ ha)
      | cons u us =>
        simp only [List.cons_append, List.cons.injEq] at e
        obtain ⟨rfl, rfl⟩ := e
        right
        rw [hu k (by simp), if_pos rfl]
        exact mem_pre.2 ⟨us, k', vs, rfl, fun x hx => hu x (by simp [hx]), ha⟩
theorem mem_suf {N : Nat → Bool} {L : Nat → List Nat} {a : Nat} : ∀ {ks acc : List Nat}, a ∈ suf N L acc ks ↔ (a ∈ acc ∧ ∀ u ∈ ks, N u = true) ∨ ∃ us k vs, ks = us ++ k :: vs ∧ (∀ v ∈ vs, N v = true) ∧ a ∈ L k
  | [], acc => by simp [suf]
  | k :: ks, acc => by
    unfold suf
    rw [mem_suf]
    constructor
    · rintro (⟨h, hu⟩ | ⟨us, k', vs, e, hv, ha⟩)
      · rcases List.mem_append.1 h with h | h
        · left
          cases hN : N k with
          | false => rw [hN] at h; simp at h
          | true =>
            rw [hN, if_pos rfl] at h
            refine ⟨h, ?_⟩
            intro u hu'
            rcases List.mem_cons.1 hu' with rfl | h'
            · exact hN
            · exact hu u h'
        · exact .inr ⟨[], k, ks, rfl, hu, h⟩
      · exact .inr ⟨k :: us, k', vs, by rw [e]; rfl, hv, ha⟩
    · rintro (⟨h, hu⟩ | ⟨us, k', vs, e, hv, ha⟩)
      · left
        refine ⟨List.mem_append.2 (.inl ?_), fun u h' => hu u (by simp [h'])⟩
        rw [hu k (by simp), if_pos rfl]
        exact h
      · cases us with
        | nil =>
          simp only [List.nil_append, List.cons.injEq] at e
          obtain ⟨rfl, rfl⟩ := e
          exact .inl ⟨List.mem_append.2 (.inr ha), hv⟩
        | cons u us =>
          simp only [List.cons_append, List.cons.injEq] at e
          obtain ⟨rfl, rfl⟩ := e
          exact .inr ⟨us, k', vs, rfl, hv, ha⟩
section
variable {p : Md} {lo : Nat → Nat} (T : Tree p lo)
include T
/-- The positions of a node's edges stand within it. -/
theorem edge_in (E : Md → Nat → List Nat) (hE : E = fst ∨ E = lst) : ∀ i, i < p.length → ∀ a ∈ E p i, lo i ≤ a ∧ a ≤ i ∧ (nd p a).pos = true := by
  intro i
  induction i using Nat.strongRecOn with
  | _ i ih =>
  intro hi a ha
  have key : ∀ k ∈ (nd p i).kids, a ∈ E p k → lo i ≤ a ∧ a ≤ i ∧ (nd p a).pos = true := by
    intro k hk hak
    have h1 := T.kid hi hk
    have h2 := ih k h1.2 (by omega) a hak
    exact ⟨by omega, by omega, h2.2.2⟩
  have hle := T.le i hi
  rcases hE with rfl | rfl
  · rw [fst_eq T.ahead hi] at ha
    split at ha
    · rename_i hp
      obtain rfl : a = i := by simpa using ha
      exact ⟨hle, Nat.le_refl _, hp⟩
    · split at ha
      · obtain ⟨k, hk, hak⟩ := List.mem_flatMap.1 ha
        exact key k hk hak
      · obtain ⟨us, k, vs, e, _, hak⟩ := mem_pre.1 ha
        exact key k (by rw [e]; simp) hak
  · rw [lst_eq T.ahead hi] at ha
    split at ha
    · rename_i hp
      obtain rfl : a = i := by simpa using ha
      exact ⟨hle, Nat.le_refl _, hp⟩
    · split at ha
      · obtain ⟨k, hk, hak⟩ := List.mem_flatMap.1 ha
        exact key k hk hak
      · rcases mem_suf.1 ha with ⟨h, _⟩ | ⟨us, k, vs, e, _, hak⟩
        · simp at h
        · exact key k (by rw [e]; simp) hak
omit T in
theorem nodup_flat {F : Nat → List Nat} : ∀ {ks : List Nat}, (∀ k ∈ ks, (F k).Nodup) → ks.Pairwise (fun k k' => ∀ a ∈ F k, a ∉ F k') → (ks.flatMap F).Nodup
  | [], _, _ => by simp
  | k :: ks, h, hp => by
    rw [List.flatMap_cons]
    rw [List.pairwise_cons] at hp
    refine List.nodup_append.2 ⟨h k (by simp), nodup_flat (fun k' hk' => h k' (by simp [hk'])) hp.2, ?_⟩
    intro a ha b hb e
    subst e
    obtain ⟨k', hk', hak'⟩ := List.mem_flatMap.1 hb
    exact hp.1 k' hk' a ha hak'
omit T in
theorem pre_sub {N : Nat → Bool} {F : Nat → List Nat} : ∀ ks : List Nat, (pre N F ks).Sublist (ks.flatMap F)
  | [] => by simp [pre]
  | k :: ks => by
    rw [pre, List.flatMap_cons]
    refine List.Sublist.append (List.Sublist.refl _) ?_
    split
    · exact pre_sub ks
    · exact List.nil_sublist _
omit T in
theorem suf_sub {N : Nat → Bool} {L : Nat → List Nat} : ∀ ks acc : List Nat, (suf N L acc ks).Sublist (acc ++ ks.flatMap L)
  | [], acc => by simp [suf]
  | k :: ks, acc => by
    rw [suf, List.flatMap_cons]
    refine (suf_sub ks _).trans ?_
    rw [← List.append_assoc]
    refine List.Sublist.append ?_ (List.Sublist.refl _)
    refine List.Sublist.append ?_ (List.Sublist.refl _)
    split
    · exact List.Sublist.refl _
    · exact List.nil_sublist _
theorem edge_apart (E : Md → Nat → List Nat) (hE : E = fst ∨ E = lst) {i : Nat} (hi : i < p.length) : (nd p i).kids.Pairwise (fun k k' => ∀ a ∈ E p k, a ∉ E p k') := by
  have h : (nd p i).kids.Pairwise (fun k k' => k < i ∧ k' < i ∧ k < lo k') :=
    List.Pairwise.imp_of_mem (fun {a b} ha hb hab => ⟨(T.kid hi ha).2, (T.kid hi hb).2, hab⟩) (T.apart hi)
  refine h.imp ?_
  rintro k k' ⟨h1, h2, h3⟩ a ha ha'
  have := edge_in T E hE k (by omega) a ha
  have := edge_in T E hE k' (by omega) a ha'
  omega
theorem edge_nodup (E : Md → Nat → List Nat) (hE : E = fst ∨ E = lst) : ∀ i, i < p.length → (E p i).Nodup := by
  intro i
  induction i using Nat.strongRecOn with
  | _ i ih =>
  intro hi
  have key : ((nd p i).kids.flatMap (E p)).Nodup := nodup_flat (fun k hk => ih k (T.kid hi hk).2 (by have := (T.kid hi hk).2; omega)) (edge_apart T E hE hi)
  rcases hE with rfl | rfl
  · rw [fst_eq T.ahead hi]
    split
    · simp
    · split
      · exact key
      · exact key.sublist (pre_sub _)
  · rw [lst_eq T.ahead hi]
    split
    · simp
    · split
      · exact key
      · exact key.sublist (by simpa using suf_sub (N := nul p) (L := lst p) (nd p i).kids [])
end
end MT
namespace MT
/- The specification's edges and what may follow -/
def lstS (p : Md) (i : Nat) : List Nat :=
  if (nd p i).pos = true then [i] else if (nd p i).kind = 3 then (nd p i).kids.reverse.flatMap (fun k => if _h : k < i then lstS p k else []) else pre (nul p) (fun k => if _h : k < i then lstS p k else []) (nd p i).kids.reverse
termination_by i
theorem lstS_eq {p : Md} (A : Ahead p) {i : Nat} (hi : i < p.length) : lstS p i = if (nd p i).pos = true then [i] else if (nd p i).kind = 3 then (nd p i).kids.reverse.flatMap (lstS p) else pre (nul p) (lstS p) (nd p i).kids.reverse := by
  conv => lhs; rw [lstS]
  rw [flatMap_congr (F' := lstS p) (fun k hk => by rw [dif_pos (A i hi k (List.mem_reverse.1 hk))]), pre_congr (N' := nul p) (F' := lstS p) (fun k hk => ⟨rfl, by rw [dif_pos (A i hi k (List.mem_reverse.1 hk))]⟩)]
theorem mem_lstS {p : Md} (A : Ahead p) {a : Nat} : ∀ i, i < p.length → (a ∈ lstS p i ↔ a ∈ lst p i) := by
  intro i
  induction i using Nat.strongRecOn with
  | _ i ih =>
  intro hi
  have hk : ∀ k ∈ (nd p i).kids, (a ∈ lstS p k ↔ a ∈ lst p k) := fun k hk => ih k (A i hi k hk) (by have := A i hi k hk; omega)
  rw [lstS_eq A hi, lst_eq A hi]
  split
  · exact Iff.rfl
  · split
    · rw [List.mem_flatMap, List.mem_flatMap]
      constructor
      · rintro ⟨k, h1, h2⟩
        exact ⟨k, List.mem_reverse.1 h1, (hk k (List.mem_reverse.1 h1)).1 h2⟩
      · rintro ⟨k, h1, h2⟩
        exact ⟨k, List.mem_reverse.2 h1, (hk k h1).2 h2⟩
    · rw [mem_pre, mem_suf]
      constructor
      · rintro ⟨us, k, vs, e, hu, ha⟩
        have e' : (nd p i).kids = vs.reverse ++ k :: us.reverse := by
          have := congrArg List.reverse e
          simpa using this
        exact .inr ⟨vs.reverse, k, us.reverse, e', fun v hv => hu v (List.mem_reverse.1 hv), (hk k (by rw [e']; simp)).1 ha⟩
      · rintro (⟨h, _⟩ | ⟨us, k, vs, e, hv, ha⟩)
        · simp at h
        · exact ⟨vs.reverse, k, us.reverse, by rw [e]; simp, fun v h => hv v (List.mem_reverse.1 h), (hk k (by rw [e]; simp)).2 ha⟩
/-- Behind the kids that end with n. -/
def aftr (p : Md) (n : Nat) : List Nat → List Nat
  | [] => []
  | k :: ks => (if n ∈ lstS p k then pre (nul p) (fst p) ks else []) ++ aftr p n ks
theorem mem_aftr {p : Md} {n b : Nat} : ∀ {ks : List Nat}, b ∈ aftr p n ks ↔ ∃ us k vs, ks = us ++ k :: vs ∧ n ∈ lstS p k ∧ b ∈ pre (nul p) (fst p) vs
  | [] => by simp [aftr]
  | k :: ks => by
    rw [aftr, List.mem_append, mem_aftr]
    constructor
    · rintro (h | ⟨us, k', vs, e, h1, h2⟩)
      · split at h
        · rename_i c
          exact ⟨[], k, ks, rfl, c, h⟩
        · simp at h
      · exact ⟨k :: us, k', vs, by rw [e]; rfl, h1, h2⟩
    · rintro ⟨us, k', vs, e, h1, h2⟩
      cases us with
      | nil =>
        simp only [List.nil_append, List.cons.injEq] at e
        obtain ⟨rfl, rfl⟩ := e
        left
        rw [if_pos h1]
        exact h2
      | cons u us =>
        simp only [List.cons_append, List.cons.injEq] at e
        obtain ⟨rfl, rfl⟩ := e
        exact .inr ⟨us, k', vs, rfl, h1, h2⟩
/-- What one node adds to what may follow n. -/
def adds (p : Md) (n i : Nat) : List Nat := (if (nd p i).oft = true ∧ n ∈ lstS p i then fst p i else []) ++ (if (nd p i).kind = 2 then aftr p n (nd p i).kids else [])
def folS (p : Md) (n : Nat) : List Nat := (List.range p.length).flatMap (adds p n)
theorem mem_adds {p : Md} (A : Ahead p) {i n b : Nat} (hi : i < p.length) : b ∈ adds p n i ↔ led p i n b := by
  unfold adds led
  rw [List.mem_append]
  constructor
  · rintro (h | h)
    · split at h
      · rename_i c
        exact .inr ⟨c.1, (mem_lstS A i hi).1 c.2, h⟩
      · simp at h
    · split at h
      · rename_i c
        obtain ⟨us, k, vs, e, h1, h2⟩ := mem_aftr.1 h
        obtain ⟨us', k', vs', e', h3, h4⟩ := mem_pre.1 h2
        have hk : k < p.length := by have := A i hi k (by rw [e]; simp); omega
        refine .inl ⟨c, us ++ k :: us', k', vs', by rw [e, e']; simp, ?_, h4⟩
        exact mem_suf.2 (.inr ⟨us, k, us', rfl, h3, (mem_lstS A k hk).1 h1⟩)
      · simp at h
  · rintro (⟨c, us, k, vs, e, h1, h2⟩ | ⟨c, h1, h2⟩)
    · right
      rw [if_pos c]
      rcases mem_suf.1 h1 with ⟨h, _⟩ | ⟨us', k', vs', e', hv, ha⟩
      · simp at h
      · have hk : k' < p.length := by have := A i hi k' (by rw [e, e']; simp); omega
        exact mem_aftr.2 ⟨us', k', vs' ++ k :: vs, by rw [e, e']; simp, (mem_lstS A k' hk).2 ha, mem_pre.2 ⟨vs', k, vs, rfl, hv, h2⟩⟩
    · left
      rw [if_pos ⟨c, (mem_lstS A i hi).2 h1⟩]
      exact h2
theorem mem_folS {p : Md} (A : Ahead p) {n b : Nat} : b ∈ folS p n ↔ fol p n b := by
  unfold folS fol
  rw [List.mem_flatMap]
  constructor
  · rintro ⟨i, hi, h⟩
    exact ⟨i, List.mem_range.1 hi, (mem_adds A (List.mem_range.1 hi)).1 h⟩
  · rintro ⟨i, hi, h⟩
    exact ⟨i, List.mem_range.2 hi, (mem_adds A hi).2 h⟩
end MT
end Go.Proofs.Ytejkkdjfiebmfaa.Pure

namespace Go.Proofs.Ytejkkdjfiebmfaa.Pure
open Go.RowKit Go.Proofs.Ytejkkdjfiebmfaa.L Go.Proofs.YtejkkdjfiebmfaaW.PrintWords Go.Proofs.YtejkkdjfiebmfaaW.PrintLast Go.Proofs.YtejkkdjfiebmfaaW.PrintMore
set_option linter.unusedVariables false
set_option linter.unusedSimpArgs false

def fstB (b : UInt8) : Bool := decide (97 ≤ b.toNat ∧ b.toNat ≤ 122) || decide (65 ≤ b.toNat ∧ b.toNat ≤ 90) || decide (b.toNat = 95)
def moreB (b : UInt8) : Bool := fstB b || decide (48 ≤ b.toNat ∧ b.toNat ≤ 57) || decide (b.toNat = 46) || decide (b.toNat = 45)
def nameB : List UInt8 → Bool
  | [] => false
  | b :: t => fstB b && t.all moreB && decide (t.length + 1 ≤ 40)
theorem u8_all {p : UInt8 → Prop} (h : ∀ n : Fin 256, p (UInt8.ofNat n.val)) (b : UInt8) : p b := by
  have := h ⟨b.toNat, b.toNat_lt⟩
  simpa using this
theorem first_f (b : UInt8) : spec_l1First.f (b.toNat : Int) = some (fstB b) := by
  revert b
  refine u8_all ?_
  decide +kernel
theorem more_f (b : UInt8) : spec_l1More.f (b.toNat : Int) = some (moreB b) := by
  revert b
  refine u8_all ?_
  decide +kernel
theorem spec_name_l0 (s : ByteArray) (hs : s.data.toList.length ≤ 9223372036854775806) : ∀ (n i : Nat), i + n = s.data.toList.length →
    Ev (fun k => spec_NameOk.l0 k s (i : Int)) ((s.data.toList.drop i).all moreB) := by
  intro n
  induction n with
  | zero =>
    intro i hi
    refine Ev.step (f := fun _ => some true) (fun k => ?_) ?_
    · unfold spec_NameOk.l0
      rw [if_neg (by rw [sz]; omega)]
    · rw [List.drop_of_length_le (by omega)]; exact Ev.now _
  | succ n ih =>
    intro i hi
    have hlt : i < s.data.toList.length := by omega
    have e : spec_l1More.f (bt s (i : Int)) = some (moreB (s.data.toList[i])) := by rw [bt_nat s i hlt]; exact more_f _
    have hd : s.data.toList.drop i = s.data.toList[i] :: s.data.toList.drop (i + 1) := List.drop_eq_getElem_cons hlt
    have w : wrap64 ((i : Int) + 1) = ((i + 1 : Nat) : Int) := by rw [w64] <;> omega
    by_cases c : moreB (s.data.toList[i]) = true
    · refine Ev.step (f := fun k => spec_NameOk.l0 k s ((i + 1 : Nat) : Int)) (fun k => ?_) ?_
      · conv => lhs; unfold spec_NameOk.l0
        rw [if_pos (by rw [sz]; omega), if_pos (by omega), e]
        simp only [Option.bind_some, if_pos c, w]
      · rw [hd, List.all_cons, c, Bool.true_and]; exact ih (i + 1) (by omega)
    · refine Ev.step (f := fun _ => some false) (fun k => ?_) ?_
      · conv => lhs; unfold spec_NameOk.l0
        rw [if_pos (by rw [sz]; omega), if_pos (by omega), e]
        simp only [Option.bind_some, if_neg c]
      · rw [hd, List.all_cons]
        rw [Bool.not_eq_true] at c
        rw [c, Bool.false_and]; exact Ev.now _
theorem spec_name (s : ByteArray) : Ev (fun k => spec_NameOk.f k s) (nameB s.data.toList) := by
  cases hl : s.data.toList with
  | nil =>
    refine Ev.congr (f := fun k => spec_NameOk.j0 k s true) (fun k => ?_) ?_
    · unfold spec_NameOk.f
      rw [if_pos (by rw [sz, hl]; decide)]
    · refine Ev.step (f := fun _ => some false) (fun k => ?_) (Ev.now _)
      rfl
  | cons b t =>
    have hz : (s.size : Int) = (t.length : Int) + 1 := by rw [sz, hl]; simp
    by_cases c : t.length + 1 ≤ 40
    · refine Ev.congr (f := fun k => spec_NameOk.j0 k s (!fstB b)) (fun k => ?_) ?_
      · unfold spec_NameOk.f
        rw [if_neg (by omega), if_neg (by omega), if_pos (by omega), first_bt s b t hl, first_f]
        rfl
      · by_cases d : fstB b = true
        · refine Ev.step (f := fun k => spec_NameOk.l0 k s ((1 : Nat) : Int)) (fun k => ?_) ?_
          · rw [d]; rfl
          · have := spec_name_l0 s (by rw [hl]; simp; omega) t.length 1 (by rw [hl]; simp; omega)
            rw [hl] at this
            have e : nameB (b :: t) = ((b :: t).drop 1).all moreB := by simp [nameB, d, c]
            rw [e]; exact this
        · rw [Bool.not_eq_true] at d
          have e : nameB (b :: t) = false := by simp [nameB, d]
          rw [e]
          refine Ev.step (f := fun _ => some false) (fun k => ?_) (Ev.now _)
          rw [d]; rfl
    · have e : nameB (b :: t) = false := by simp [nameB, c]
      rw [e]
      refine Ev.congr (f := fun k => spec_NameOk.j0 k s true) (fun k => ?_) ?_
      · unfold spec_NameOk.f
        rw [if_neg (by omega), if_pos (by omega)]
      · refine Ev.step (f := fun _ => some false) (fun k => ?_) (Ev.now _)
        rfl

def lenB (n : Nat) : Bool := decide (1 ≤ n) && decide (n ≤ 40)
theorem in_len (n : Nat) : impl_in.f (n : Int) 1 40 = some (lenB n) := by
  unfold impl_in.f lenB
  by_cases h : 1 ≤ n
  · rw [if_pos (by omega)]; simp [h]; omega
  · rw [if_neg (by omega)]; simp [h]
theorem fst_iff (b : UInt8) : fstB b = true ↔ ((97 ≤ (b.toNat : Int) ∧ (b.toNat : Int) ≤ 122) ∨ (65 ≤ (b.toNat : Int) ∧ (b.toNat : Int) ≤ 90) ∨ (b.toNat : Int) = 95) := by
  unfold fstB
  simp only [Bool.or_eq_true, decide_eq_true_eq]
  omega
theorem more_iff (b : UInt8) : moreB b = true ↔ (((97 ≤ (b.toNat : Int) ∧ (b.toNat : Int) ≤ 122) ∨ (65 ≤ (b.toNat : Int) ∧ (b.toNat : Int) ≤ 90) ∨ (b.toNat : Int) = 95) ∨ (48 ≤ (b.toNat : Int) ∧ (b.toNat : Int) ≤ 57) ∨ (b.toNat : Int) = 46 ∨ (b.toNat : Int) = 45) := by
  unfold moreB
  simp only [Bool.or_eq_true, decide_eq_true_eq, fst_iff]
  omega
theorem impl_name_l0 (s : ByteArray) (hs : s.data.toList.length ≤ 9223372036854775806) : ∀ (n i : Nat), 1 ≤ i → i + n = s.data.toList.length →
    Ev (fun k => impl_NameOk.l0 k s (s.size : Int) (i : Int)) ((s.data.toList.drop i).all moreB && lenB s.data.toList.length) := by
  intro n
  induction n with
  | zero =>
    intro i h1 hi
    refine Ev.step (f := fun _ => some (lenB s.data.toList.length)) (fun k => ?_) ?_
    · unfold impl_NameOk.l0
      rw [if_neg (by rw [sz]; omega), sz, in_len]
      rfl
    · rw [List.drop_of_length_le (by omega)]; exact Ev.now _
  | succ n ih =>
    intro i h1 hi
    have hlt : i < s.data.toList.length := by omega
    have hd : s.data.toList.drop i = s.data.toList[i] :: s.data.toList.drop (i + 1) := List.drop_eq_getElem_cons hlt
    have w : wrap64 ((i : Int) + 1) = ((i + 1 : Nat) : Int) := by rw [w64] <;> omega
    have hm := more_iff (s.data.toList[i])
    by_cases c : moreB (s.data.toList[i]) = true
    · have hv := hm.1 c
      refine Ev.step (f := fun k => impl_NameOk.l0 k s (s.size : Int) ((i + 1 : Nat) : Int)) (fun k => ?_) ?_
      · conv => lhs; unfold impl_NameOk.l0
        rw [if_pos (by rw [sz]; omega), if_pos (by omega), if_pos (by rw [sz]; omega), bt_nat s i hlt, w]
        generalize impl_NameOk.l0 k s (s.size : Int) ((i + 1 : Nat) : Int) = X
        generalize ((s.data.toList[i]).toNat : Int) = v at hv
        clear hm ih c hd w hs hi hlt
        have hi0 : ¬ (i : Int) = 0 := by omega
        simp only [if_neg hi0]
        clear hi0 h1
        repeat' split
        all_goals first | rfl | (exfalso; omega)
      · rw [hd, List.all_cons, c, Bool.true_and]; exact ih (i + 1) (by omega) (by omega)
    · have hv := mt hm.2 c
      refine Ev.step (f := fun _ => some false) (fun k => ?_) ?_
      · conv => lhs; unfold impl_NameOk.l0
        rw [if_pos (by rw [sz]; omega), if_pos (by omega), if_pos (by rw [sz]; omega), bt_nat s i hlt, w]
        generalize impl_NameOk.l0 k s (s.size : Int) ((i + 1 : Nat) : Int) = X
        generalize ((s.data.toList[i]).toNat : Int) = v at hv
        clear hm ih c hd w hs hi hlt
        have hi0 : ¬ (i : Int) = 0 := by omega
        simp only [if_neg hi0]
        clear hi0 h1
        repeat' split
        all_goals first | rfl | (exfalso; omega)
      · rw [hd, List.all_cons]
        rw [Bool.not_eq_true] at c
        rw [c, Bool.false_and, Bool.false_and]; exact Ev.now _
theorem impl_name (s : ByteArray) (hs : s.data.toList.length ≤ 9223372036854775806) : Ev (fun k => impl_NameOk.f k s) (nameB s.data.toList) := by
  cases hl : s.data.toList with
  | nil =>
    unfold impl_NameOk.f
    refine Ev.step (f := fun _ => some false) (fun k => ?_) (Ev.now _)
    unfold impl_NameOk.l0
    have hz : s.size = 0 := by rw [sz, hl]; rfl
    rw [if_neg (by omega), hz]
    rfl
  | cons b t =>
    have hlt : 0 < s.data.toList.length := by rw [hl]; simp
    have hlen : s.data.toList.length = t.length + 1 := by rw [hl]; simp
    have w : wrap64 ((0 : Int) + 1) = ((1 : Nat) : Int) := by rw [w64 (by omega) (by omega)]; rfl
    have hm := fst_iff b
    have eb : bt s 0 = (b.toNat : Int) := first_bt s b t hl
    unfold impl_NameOk.f
    by_cases c : fstB b = true
    · have hv := hm.1 c
      refine Ev.step (f := fun k => impl_NameOk.l0 k s (s.size : Int) ((1 : Nat) : Int)) (fun k => ?_) ?_
      · conv => lhs; unfold impl_NameOk.l0
        rw [if_pos (by rw [sz]; omega), if_pos (by omega), if_pos (by rw [sz]; omega), eb, w]
        generalize impl_NameOk.l0 k s (s.size : Int) ((1 : Nat) : Int) = X
        generalize (b.toNat : Int) = v at hv
        clear hm c eb w hs hlt hlen hl
        simp only [if_true]
        repeat' split
        all_goals first | rfl | (exfalso; omega)
      · have := impl_name_l0 s hs t.length 1 (by omega) (by omega)
        rw [hl] at this
        have e : nameB (b :: t) = (((b :: t).drop 1).all moreB && lenB (b :: t).length) := by
          simp [nameB, lenB, c]
        rw [e]; exact this
    · have hv := mt hm.2 c
      refine Ev.step (f := fun _ => some false) (fun k => ?_) ?_
      · conv => lhs; unfold impl_NameOk.l0
        rw [if_pos (by rw [sz]; omega), if_pos (by omega), if_pos (by rw [sz]; omega), eb, w]
        generalize impl_NameOk.l0 k s (s.size : Int) ((1 : Nat) : Int) = X
        generalize (b.toNat : Int) = v at hv
        clear hm c eb w hs hlt hlen hl
        simp only [if_true]
        repeat' split
        all_goals first | rfl | (exfalso; omega)
      · rw [Bool.not_eq_true] at c
        have e : nameB (b :: t) = false := by simp [nameB, c]
        rw [e]; exact Ev.now _
theorem w1n {i m : Nat} (h : i < m) (hm : m ≤ 9223372036854775807) : wrap64 ((i : Int) + 1) = ((i + 1 : Nat) : Int) := by rw [w64] <;> omega
theorem rdZ (l : List Int) (i : Nat) (h : i < l.length) : rd l (i : Int) = l[i] := by
  unfold rd
  simp [h]
abbrev PM : Type := S49
def at_ (p : List PM) (i : Nat) : PM := rd_T49 p (i : Int)
theorem at_lt {p : List PM} {i : Nat} (h : i < p.length) : at_ p i = p[i] := by
  unfold at_ rd_T49
  simp [h]
/-- Kids from the right: each one the root of the tree that ends just ahead of what has been met. -/
def chF (g : Nat → Option Nat) : Nat → List Int → Option Nat
  | e, [] => some e
  | e, k :: ks => if 0 < e ∧ k = (e : Int) - 1 then (g (e - 1)).bind fun f => chF g f ks else none
def tf (p : List PM) (i : Nat) : Option Nat := chF (fun j => if _h : j < i then tf p j else none) i (at_ p i).f2.reverse
termination_by i
theorem chF_le {g : Nat → Option Nat} (hg : ∀ j f, g j = some f → f ≤ j) : ∀ {ks : List Int} {e f : Nat}, chF g e ks = some f → f ≤ e
  | [], e, f, h => by
    have : e = f := Option.some.inj h
    omega
  | k :: ks, e, f, h => by
    unfold chF at h
    by_cases c : 0 < e ∧ k = (e : Int) - 1
    · rw [if_pos c] at h
      obtain ⟨f1, h1, h2⟩ := Option.bind_eq_some_iff.1 h
      have a := hg _ _ h1
      have b := chF_le hg h2
      omega
    · rw [if_neg c] at h; cases h
theorem chF_congr {g g' : Nat → Option Nat} {i : Nat} (hg : ∀ j f, g j = some f → f ≤ j) (h : ∀ j, j < i → g' j = g j) : ∀ (ks : List Int) (e : Nat), e ≤ i → chF g' e ks = chF g e ks
  | [], e, _ => rfl
  | k :: ks, e, he => by
    unfold chF
    by_cases c : 0 < e ∧ k = (e : Int) - 1
    · rw [if_pos c, if_pos c, h (e - 1) (by omega)]
      cases hq : g (e - 1) with
      | none => rfl
      | some f => exact chF_congr hg h ks f (by have := hg _ _ hq; omega)
    · rw [if_neg c, if_neg c]
theorem tf_le {p : List PM} : ∀ i f, tf p i = some f → f ≤ i := by
  intro i
  induction i using Nat.strongRecOn with
  | _ i ih =>
  intro f h
  rw [tf] at h
  refine chF_le (fun j f hj => ?_) h
  by_cases c : j < i
  · rw [dif_pos c] at hj
    exact ih j c f hj
  · rw [dif_neg c] at hj; cases hj
theorem tf_eq (p : List PM) (i : Nat) : tf p i = chF (tf p) i (at_ p i).f2.reverse := by
  conv => lhs; rw [tf]
  exact chF_congr (fun j f h => tf_le j f h) (fun j hj => dif_pos hj) _ i (Nat.le_refl _)
theorem chF_app (g : Nat → Option Nat) : ∀ (a b : List Int) (e : Nat), chF g e (a ++ b) = (chF g e a).bind fun m => chF g m b
  | [], b, e => rfl
  | k :: a, b, e => by
    show (if 0 < e ∧ k = (e : Int) - 1 then (g (e - 1)).bind fun f => chF g f (a ++ b) else none) = (if 0 < e ∧ k = (e : Int) - 1 then (g (e - 1)).bind fun f => chF g f a else none).bind fun m => chF g m b
    by_cases c : 0 < e ∧ k = (e : Int) - 1
    · rw [if_pos c, if_pos c]
      cases g (e - 1) with
      | none => rfl
      | some f => exact chF_app g a b f
    · rw [if_neg c, if_neg c]; rfl
/-- The greatest of the kids' depths and one. -/
def dpS (g : Nat → Nat) (d : Nat) (ks : List Int) : Nat := ks.foldl (fun a k => max a (g k.toNat + 1)) d
def dp (p : List PM) (i : Nat) : Nat := dpS (fun j => if _h : j < i then dp p j else 0) 0 (at_ p i).f2
termination_by i
theorem dpS_max (g : Nat → Nat) : ∀ (ks : List Int) (d : Nat), dpS g d ks = max d (dpS g 0 ks)
  | [], d => by simp [dpS]
  | k :: ks, d => by
    show dpS g (max d (g k.toNat + 1)) ks = max d (dpS g (max 0 (g k.toNat + 1)) ks)
    rw [dpS_max g ks (max d _), dpS_max g ks (max 0 _)]
    omega
theorem dpS_app (g : Nat → Nat) (a b : List Int) (d : Nat) : dpS g d (a ++ b) = dpS g (dpS g d a) b := List.foldl_append
theorem dpS_rev (g : Nat → Nat) : ∀ (ks : List Int), dpS g 0 ks.reverse = dpS g 0 ks
  | [] => rfl
  | k :: ks => by
    rw [List.reverse_cons, dpS_app, dpS_rev g ks]
    show max (dpS g 0 ks) (g k.toNat + 1) = dpS g (max 0 (g k.toNat + 1)) ks
    rw [dpS_max g ks (max 0 _)]
    omega
theorem dpS_congr {g g' : Nat → Nat} : ∀ (ks : List Int) (d : Nat), (∀ k ∈ ks, g k.toNat = g' k.toNat) → dpS g d ks = dpS g' d ks
  | [], d, _ => rfl
  | k :: ks, d, h => by
    show dpS g (max d (g k.toNat + 1)) ks = dpS g' (max d (g' k.toNat + 1)) ks
    rw [h k (by simp), dpS_congr ks _ (fun k' hk' => h k' (by simp [hk']))]
/-- The kids of a node whose tree is one stand ahead of it. -/
theorem chF_kids {g : Nat → Option Nat} (hg : ∀ j f, g j = some f → f ≤ j) : ∀ {ks : List Int} {e f : Nat}, chF g e ks = some f → ∀ k ∈ ks, 0 ≤ k ∧ k < (e : Int) ∧ ∃ q, g k.toNat = some q ∧ f ≤ q
  | [], e, f, _ => by simp
  | k :: ks, e, f, h => by
    unfold chF at h
    by_cases c : 0 < e ∧ k = (e : Int) - 1
    · rw [if_pos c] at h
      obtain ⟨f1, h1, h2⟩ := Option.bind_eq_some_iff.1 h
      have a := hg _ _ h1
      have b := chF_le hg h2
      intro k' hk'
      rcases List.mem_cons.1 hk' with rfl | hk'
      · exact ⟨by omega, by omega, f1, by rw [show k'.toNat = e - 1 by omega]; exact h1, b⟩
      · obtain ⟨x, y, q, hq⟩ := chF_kids hg h2 k' hk'
        exact ⟨x, by omega, q, hq⟩
    · rw [if_neg c] at h; cases h
theorem tf_kids {p : List PM} {i f : Nat} (h : tf p i = some f) : ∀ k ∈ (at_ p i).f2, 0 ≤ k ∧ k < (i : Int) ∧ ∃ q, tf p k.toNat = some q ∧ f ≤ q := by
  rw [tf_eq] at h
  intro k hk
  exact chF_kids (fun j f hj => tf_le j f hj) h k (List.mem_reverse.2 hk)
theorem dp_eq {p : List PM} {i f : Nat} (h : tf p i = some f) : dp p i = dpS (dp p) 0 (at_ p i).f2 := by
  conv => lhs; rw [dp]
  refine dpS_congr _ _ (fun k hk => ?_)
  obtain ⟨a, b, _⟩ := tf_kids h k hk
  rw [dif_pos (by omega)]
theorem dp_le {p : List PM} : ∀ i f, tf p i = some f → dp p i ≤ i := by
  intro i
  induction i using Nat.strongRecOn with
  | _ i ih =>
  intro f h
  rw [dp_eq h]
  have hk := tf_kids h
  generalize (at_ p i).f2 = ks at hk
  have : ∀ (ks : List Int) (d : Nat), d ≤ i → (∀ k ∈ ks, 0 ≤ k ∧ k < (i : Int) ∧ ∃ q, tf p k.toNat = some q ∧ f ≤ q) → dpS (dp p) d ks ≤ i := by
    intro ks
    induction ks with
    | nil => intro d hd _; exact hd
    | cons k ks ihk =>
      intro d hd hk
      obtain ⟨a, b, q, hq, _⟩ := hk k (by simp)
      have := ih k.toNat (by omega) q hq
      exact ihk (max d (dp p k.toNat + 1)) (by omega) (fun k' hk' => hk k' (by simp [hk']))
  exact this ks 0 (Nat.zero_le _) hk
/-- What lies between a tree's first node and its root is in it: its own tree is one too. -/
theorem chF_cover {g : Nat → Option Nat} (hg : ∀ j f, g j = some f → f ≤ j) (hc : ∀ j f, g j = some f → ∀ q, f ≤ q → q ≤ j → (g q).isSome = true) : ∀ {ks : List Int} {e f : Nat}, chF g e ks = some f → ∀ q, f ≤ q → q < e → (g q).isSome = true
  | [], e, f, h => by
    have : e = f := Option.some.inj h
    intro q h1 h2
    omega
  | k :: ks, e, f, h => by
    unfold chF at h
    by_cases c : 0 < e ∧ k = (e : Int) - 1
    · rw [if_pos c] at h
      obtain ⟨f1, h1, h2⟩ := Option.bind_eq_some_iff.1 h
      intro q hq1 hq2
      by_cases hq : f1 ≤ q
      · exact hc _ _ h1 q hq (by omega)
      · exact chF_cover hg hc h2 q hq1 (by omega)
    · rw [if_neg c] at h; cases h
theorem tf_cover {p : List PM} : ∀ i f, tf p i = some f → ∀ q, f ≤ q → q ≤ i → (tf p q).isSome = true := by
  intro i
  induction i using Nat.strongRecOn with
  | _ i ih =>
  intro f h q h1 h2
  by_cases e : q = i
  · subst e; rw [h]; rfl
  · have h' := h
    rw [tf] at h'
    have h3 := chF_cover (g := fun j => if _h : j < i then tf p j else none) (fun j f hj => by
        by_cases c : j < i
        · simp only [dif_pos c] at hj; exact tf_le j f hj
        · simp only [dif_neg c] at hj; cases hj) (fun j f hj r hr1 hr2 => by
        by_cases c : j < i
        · simp only [dif_pos c] at hj
          simp only [dif_pos (show r < i by omega)]
          exact ih j c f hj r hr1 hr2
        · simp only [dif_neg c] at hj; cases hj) h' q h1 (by omega)
    simpa only [dif_pos (show q < i by omega)] using h3
/-- Is a node right in itself? -/
def fitsN (n : PM) : Bool :=
  if n.f0 = 1 then nameB n.f1.data.toList && n.f2.isEmpty else if n.f0 = 4 then n.f1.data.toList.isEmpty && n.f2.isEmpty else if n.f0 = 2 then n.f1.data.toList.isEmpty else if n.f0 = 3 then n.f1.data.toList.isEmpty && decide (2 ≤ n.f2.length) else false
def okN (n : PM) : Bool := fitsN n && decide (0 ≤ n.f3 ∧ n.f3 ≤ 3)
def posN (n : PM) : Bool := n.f0 == 1 || n.f0 == 4
/-- What both ParticleOk's answer. -/
def okV (p : List PM) : Bool :=
  decide (1 ≤ p.length ∧ p.length ≤ 40) && ((List.range p.length).all fun i => okN (at_ p i) && (tf p i).isSome) && (tf p (p.length - 1) == some 0) && !posN (at_ p (p.length - 1)) && decide (dp p (p.length - 1) ≤ 9)
/-- A model of texts and rows that are not too long. -/
def smallM (p : List PM) : Prop := ∀ x ∈ p, x.f1.data.toList.length ≤ 1048576 ∧ x.f2.length ≤ 1048576
theorem len0 (l : List Int) : ((l.length : Int) == 0) = l.isEmpty := by
  cases l with
  | nil => rfl
  | cons x l => simp; omega
theorem emp_iff (s : ByteArray) : (s.toList = ([] : List UInt8)) ↔ s.data.toList.isEmpty = true := by
  rw [List.isEmpty_iff, Lib.toList_data]
theorem impl_fits (n : PM) (hn : n.f1.data.toList.length ≤ 1048576) : Ev (fun k => impl_PNode_fits.f k n.f0 n.f1 n.f2 n.f3) (fitsN n) := by
  unfold impl_PNode_fits.f fitsN
  by_cases h1 : n.f0 = 1
  · simp only [if_pos h1]
    refine Ev.bind (impl_name n.f1 (by omega)) ?_
    refine Ev.congr (f := fun _ => some _) (fun k => ?_) (Ev.now _)
    cases nameB n.f1.data.toList with
    | true => simp only [if_true, Bool.true_and, len0]
    | false => simp
  · simp only [if_neg h1]
    by_cases h4 : n.f0 = 4
    · refine Ev.congr (f := fun _ => some _) (fun k => ?_) (Ev.now _)
      have h2 : ¬ n.f0 = 2 := by omega
      rw [if_pos h4, if_pos h4, if_neg h2]
      by_cases he : n.f1.data.toList.isEmpty = true
      · rw [if_pos ((emp_iff _).2 he), he, Bool.true_and, len0]
      · rw [if_neg (fun h => he ((emp_iff _).1 h)), Bool.eq_false_iff.mpr he, Bool.false_and]
    · refine Ev.congr (f := fun _ => some _) (fun k => ?_) (Ev.now _)
      rw [if_neg h4, if_neg h4]
      by_cases h2 : n.f0 = 2
      · rw [if_pos h2, if_pos h2]
        by_cases he : n.f1.data.toList.isEmpty = true
        · rw [if_pos ((emp_iff _).2 he), he]
        · rw [if_neg (fun h => he ((emp_iff _).1 h)), Bool.eq_false_iff.mpr he]
      · rw [if_neg h2, if_neg h2]
        by_cases h3 : n.f0 = 3
        · rw [if_pos h3, if_pos h3]
          by_cases he : n.f1.data.toList.isEmpty = true
          · rw [if_pos ((emp_iff _).2 he), he, Bool.true_and]
            congr 1
            exact decide_eq_decide.2 (by omega)
          · rw [if_neg (fun h => he ((emp_iff _).1 h)), Bool.eq_false_iff.mpr he, Bool.false_and]
        · rw [if_neg h3, if_neg h3]
theorem rd_set {l : List Int} {i : Nat} (h : i < l.length) (v : Int) : rd (l.set i v) (i : Int) = v := by
  unfold rd
  simp [h]
theorem rd_set_ne {l : List Int} {i j : Nat} (h : i ≠ j) (v : Int) : rd (l.set i v) (j : Int) = rd l (j : Int) := by
  unfold rd
  simp [List.getElem?_set_ne h]
/-- The two arrays behind nodes 0 .. i - 1. -/
structure Arr (p : List PM) (i : Nat) (x3 x4 : List Int) : Prop where
  l3 : x3.length = p.length
  l4 : x4.length = p.length
  lo : ∀ j, j < i → ∃ f : Nat, tf p j = some f ∧ rd x3 (j : Int) = f ∧ rd x4 (j : Int) = dp p j
  hi : ∀ j, i < j → rd x4 (j : Int) = 0
theorem Arr.set_ {p : List PM} {i : Nat} {x3 x4 : List Int} (h : Arr p i x3 x4) (u v : Int) : Arr p i (x3.set i u) (x4.set i v) :=
  ⟨by rw [List.length_set, h.l3], by rw [List.length_set, h.l4], fun j hj => by
    rw [rd_set_ne (by omega), rd_set_ne (by omega)]
    exact h.lo j hj, fun j hj => by rw [rd_set_ne (by omega)]; exact h.hi j hj⟩
theorem impl_kids {p : List PM} {i : Nat} (hi : i < p.length) (hp : p.length ≤ 40) (hs : smallM p) (R : Bool) : ∀ (m : Nat) (x3 x4 : List Int) (e d : Nat), m ≤ (at_ p i).f2.length → Arr p i x3 x4 → rd x3 (i : Int) = e → rd x4 (i : Int) = d → e ≤ i → d ≤ i →
    (∀ (f : Nat) x3' x4', chF (tf p) e ((at_ p i).f2.take m).reverse = some f → Arr p i x3' x4' → rd x3' (i : Int) = f → rd x4' (i : Int) = dpS (dp p) d ((at_ p i).f2.take m).reverse → Ev (fun k => impl_ParticleOk.l0 k p x3' x4' p (p.length : Int) (wrap64 ((i : Int) + 1))) R) →
    (chF (tf p) e ((at_ p i).f2.take m).reverse = none → R = false) →
    Ev (fun k => impl_ParticleOk.l1 k p x3 x4 (i : Int) ((m : Int) - 1) p (p.length : Int) (i : Int) (at_ p i).f0 (at_ p i).f1 (at_ p i).f2 (at_ p i).f3) R := by
  intro m
  induction m with
  | zero =>
    intro x3 x4 e d hm hA he hd hei hdi hok hno
    refine Ev.step (fun k => ?_) (hok e x3 x4 rfl hA he hd)
    conv => lhs; unfold impl_ParticleOk.l1
    rw [if_neg (by omega)]
  | succ m ih =>
    intro x3 x4 e d hm hA he hd hei hdi hok hno
    have hlt : m < (at_ p i).f2.length := by omega
    have hkl : (at_ p i).f2.length ≤ 1048576 := by
      have := (hs p[i] (List.getElem_mem hi)).2
      rwa [← at_lt hi] at this
    have ht : ((at_ p i).f2.take (m + 1)).reverse = (at_ p i).f2[m] :: ((at_ p i).f2.take m).reverse := by
      rw [List.take_succ_eq_append_getElem hlt, List.reverse_append]; rfl
    rw [ht] at hok hno
    have hrd := rdZ (at_ p i).f2 m hlt
    have e7 : ((m + 1 : Nat) : Int) - 1 = (m : Int) := by omega
    rw [e7]
    have hch : ∀ ks, chF (tf p) e ((at_ p i).f2[m] :: ks) = if 0 < e ∧ (at_ p i).f2[m] = (e : Int) - 1 then (tf p (e - 1)).bind fun f => chF (tf p) f ks else none := fun _ => rfl
    by_cases c0 : (at_ p i).f2[m] < 0
    · have hR : R = false := hno (by rw [hch, if_neg (by omega)])
      subst hR
      refine Ev.step (f := fun _ => some false) (fun k => ?_) (Ev.now _)
      conv => lhs; unfold impl_ParticleOk.l1
      rw [if_pos (by omega), if_pos (by omega), if_pos (by omega), hrd, if_pos c0]
    · by_cases c1 : (at_ p i).f2[m] = (e : Int) - 1
      · obtain ⟨f, hf, hf3, hf4⟩ := hA.lo (e - 1) (by omega)
        have hce : 0 < e ∧ (at_ p i).f2[m] = (e : Int) - 1 := ⟨by omega, c1⟩
        rw [hch, if_pos hce, hf] at hok hno
        simp only [Option.bind_some] at hok hno
        have ekd : (at_ p i).f2[m] = ((e - 1 : Nat) : Int) := by omega
        have hdl := dp_le _ _ hf
        have hfl := tf_le _ _ hf
        have hA' := hA.set_ (f : Int) ((max d (dp p (e - 1) + 1) : Nat) : Int)
        have key := ih (x3.set i (f : Int)) (x4.set i ((max d (dp p (e - 1) + 1) : Nat) : Int)) f (max d (dp p (e - 1) + 1)) (by omega) hA' (rd_set (by rw [hA.l3]; exact hi) _) (rd_set (by rw [hA.l4]; exact hi) _) (by omega) (by omega)
          (fun f' x3' x4' h1 h2 h3 h4 => hok f' x3' x4' h1 h2 h3 (by
            rw [h4]
            show _ = ((dpS (dp p) (max d (dp p (at_ p i).f2[m].toNat + 1)) ((at_ p i).f2.take m).reverse : Nat) : Int)
            rw [show (at_ p i).f2[m].toNat = e - 1 by omega])) hno
        refine Ev.step (fun k => ?_) key
        conv => lhs; unfold impl_ParticleOk.l1
        have hw : wrap64 ((e : Int) - 1) = (e : Int) - 1 := w64 (by omega) (by omega)
        rw [if_pos (by omega), if_pos (by omega), if_pos (by omega), hrd, if_neg c0, if_pos (by omega), if_pos (by rw [hA.l3]; omega), he, hw, if_pos c1, if_pos (by omega), if_pos (by rw [hA.l3]; omega), if_pos (by rw [hA.l4]; omega), if_pos (by rw [hA.l4]; omega)]
        rw [ekd, hf3, hf4, hd, w64 (n := (dp p (e - 1) : Int) + 1) (by omega) (by omega), w64 (n := (m : Int) - 1) (by omega) (by omega), Int.toNat_natCast]
        have emx : mx (d : Int) ((dp p (e - 1) : Int) + 1) = ((max d (dp p (e - 1) + 1) : Nat) : Int) := by
          unfold mx
          split <;> omega
        rw [emx]
      · have hR : R = false := hno (by rw [hch, if_neg (fun h => c1 h.2)])
        subst hR
        refine Ev.step (f := fun _ => some false) (fun k => ?_) (Ev.now _)
        conv => lhs; unfold impl_ParticleOk.l1
        have hw : wrap64 ((e : Int) - 1) = (e : Int) - 1 := w64 (by omega) (by omega)
        rw [if_pos (by omega), if_pos (by omega), if_pos (by omega), hrd, if_neg c0, if_pos (by omega), if_pos (by rw [hA.l3]; omega), he, hw, if_neg c1]
def finV (p : List PM) : Bool := (tf p (p.length - 1) == some 0) && !posN (at_ p (p.length - 1)) && decide (dp p (p.length - 1) ≤ 9)
theorem pos_ok (n : PM) : impl_PNode_isPosition.f n.f0 n.f1 n.f2 n.f3 = some (posN n) := by
  unfold impl_PNode_isPosition.f posN
  by_cases h : n.f0 = 1
  · rw [if_pos h, h]; rfl
  · rw [if_neg h, beq_eq_false_iff_ne.2 h]; rfl
theorem in_ok (x : Int) : impl_in.f x 0 3 = some (decide (0 ≤ x ∧ x ≤ 3)) := by
  unfold impl_in.f
  by_cases h : 0 ≤ x
  · rw [if_pos h]; congr 1; exact decide_eq_decide.2 (by omega)
  · rw [if_neg h, decide_eq_false (by omega)]
theorem impl_nodes {p : List PM} (h1 : 1 ≤ p.length) (hp : p.length ≤ 40) (hs : smallM p) : ∀ (m i : Nat) (x3 x4 : List Int), i + m = p.length → Arr p i x3 x4 → (i < p.length → rd x4 (i : Int) = 0) →
    Ev (fun k => impl_ParticleOk.l0 k p x3 x4 p (p.length : Int) (i : Int)) (((List.range' i m).all fun j => okN (at_ p j) && (tf p j).isSome) && finV p) := by
  intro m
  induction m with
  | zero =>
    intro i x3 x4 hi hA hz
    obtain ⟨f, hf, hf3, hf4⟩ := hA.lo (p.length - 1) (by omega)
    refine Ev.step (f := fun _ => some _) (fun k => ?_) (Ev.now _)
    conv => lhs; unfold impl_ParticleOk.l0
    have hw : wrap64 ((p.length : Int) - 1) = ((p.length - 1 : Nat) : Int) := by rw [w64] <;> omega
    rw [if_neg (by omega), hw, if_pos (by omega), if_pos (by rw [hA.l3]; omega), hf3]
    rw [List.range'_zero, List.all_nil, Bool.true_and]
    unfold finV
    rw [hf]
    by_cases c : (f : Int) = 0
    · obtain rfl : f = 0 := by omega
      rw [if_pos c, if_pos (by omega)]
      have e : rd_T49 p ((p.length - 1 : Nat) : Int) = at_ p (p.length - 1) := rfl
      rw [e, pos_ok]
      simp only [Option.bind_some]
      cases posN (at_ p (p.length - 1)) with
      | true => simp
      | false =>
        rw [if_neg (by decide), if_pos (by rw [hA.l4]; omega), hf4]
        simp only [beq_self_eq_true, Bool.not_false, Bool.true_and]
        congr 1
        exact decide_eq_decide.2 (by omega)
    · rw [if_neg c]
      have : (some f == some 0) = false := beq_eq_false_iff_ne.2 (fun h => c (by injection h with h; omega))
      rw [this]
      rfl
  | succ m ih =>
    intro i x3 x4 hi hA hz
    have hil : i < p.length := by omega
    have e : rd_T49 p (i : Int) = at_ p i := rfl
    have hsm := hs p[i] (List.getElem_mem hil)
    rw [← at_lt hil] at hsm
    rw [List.range'_succ, List.all_cons]
    refine Ev.step (f := fun k => (impl_PNode_fits.f k (at_ p i).f0 (at_ p i).f1 (at_ p i).f2 (at_ p i).f3).bind fun t => if t = true then (impl_ParticleOk.j1 k p x3 x4 (i : Int) p (p.length : Int) (i : Int) (!decide (0 ≤ (at_ p i).f3 ∧ (at_ p i).f3 ≤ 3)) (at_ p i).f0 (at_ p i).f1 (at_ p i).f2 (at_ p i).f3) else (impl_ParticleOk.j1 k p x3 x4 (i : Int) p (p.length : Int) (i : Int) true (at_ p i).f0 (at_ p i).f1 (at_ p i).f2 (at_ p i).f3)) (fun k => ?_) ?_
    · conv => lhs; unfold impl_ParticleOk.l0
      rw [if_pos (by omega), if_pos (by omega), if_pos (by omega), e, in_ok]
      rfl
    · refine Ev.bind (impl_fits _ hsm.1) ?_
      have hno : Ev (fun k => impl_ParticleOk.j1 k p x3 x4 (i : Int) p (p.length : Int) (i : Int) true (at_ p i).f0 (at_ p i).f1 (at_ p i).f2 (at_ p i).f3) false := by
        refine Ev.step (f := fun _ => some false) (fun k => ?_) (Ev.now _)
        conv => lhs; unfold impl_ParticleOk.j1
        rw [if_pos rfl]
      rw [show okN (at_ p i) = (fitsN (at_ p i) && decide (0 ≤ (at_ p i).f3 ∧ (at_ p i).f3 ≤ 3)) from rfl, Bool.and_assoc]
      cases fitsN (at_ p i) with
      | false => simpa using hno
      | true =>
        simp only [if_true, Bool.true_and]
        cases decide (0 ≤ (at_ p i).f3 ∧ (at_ p i).f3 ≤ 3) with
        | false => simpa using hno
        | true =>
          simp only [Bool.not_true, Bool.true_and]
          have hA2 := hA.set_ (i : Int) (rd x4 (i : Int))
          have hset : x4.set i (rd x4 (i : Int)) = x4 := by
            unfold rd
            rw [Int.toNat_natCast, List.getD_eq_getElem?_getD, List.getElem?_eq_getElem (by rw [hA.l4]; exact hil)]
            exact List.set_getElem_self _
          rw [hset] at hA2
          have key := impl_kids hil hp hs ((tf p i).isSome && ((List.range' (i + 1) m).all fun j => okN (at_ p j) && (tf p j).isSome) && finV p) (at_ p i).f2.length (x3.set i (i : Int)) x4 i 0 (Nat.le_refl _) hA2 (rd_set (by rw [hA.l3]; exact hil) _) (by rw [hz hil]; rfl) (Nat.le_refl _) (Nat.zero_le _)
            (fun f x3' x4' h1 h2 h3 h4 => by
              rw [List.take_length, ← tf_eq] at h1
              rw [List.take_length] at h4
              rw [h1, Option.isSome_some, Bool.true_and]
              have := ih (i + 1) x3' x4' (by omega) ⟨h2.l3, h2.l4, fun j hj => by
                by_cases c : j < i
                · exact h2.lo j c
                · obtain rfl : j = i := by omega
                  exact ⟨f, h1, h3, by rw [h4, dpS_rev, dp_eq h1]⟩, fun j hj => h2.hi j (by omega)⟩ (fun _ => h2.hi (i + 1) (by omega))
              rw [show wrap64 ((i : Int) + 1) = ((i + 1 : Nat) : Int) by rw [w64] <;> omega]
              exact this)
            (fun hn => by rw [List.take_length, ← tf_eq] at hn; rw [hn]; rfl)
          refine Ev.step (fun k => ?_) (Bool.and_assoc _ _ _ ▸ key)
          conv => lhs; unfold impl_ParticleOk.j1
          rw [if_neg (by decide), if_pos (by omega), if_pos (by rw [hA.l3]; omega), Int.toNat_natCast, w64 (n := ((at_ p i).f2.length : Int) - 1) (by omega) (by omega)]
theorem impl_ok (p : List PM) (hs : smallM p) : Ev (fun k => impl_ParticleOk.f k p) (okV p) := by
  unfold impl_ParticleOk.f okV
  by_cases c : 1 ≤ p.length ∧ p.length ≤ 40
  · have hin : impl_in.f (p.length : Int) 1 40 = some true := by
      unfold impl_in.f
      rw [if_pos (by omega), decide_eq_true (by omega)]
    rw [hin, decide_eq_true c, Bool.true_and]
    simp only [Option.bind_some, if_true]
    refine Ev.congr (f := fun k => impl_ParticleOk.l0 k p (List.replicate p.length 0) (List.replicate p.length 0) p (p.length : Int) 0) (fun k => ?_) ?_
    · rw [if_pos (by omega), if_pos (by omega), Int.toNat_natCast]
    · have hrep : ∀ j : Nat, rd (List.replicate p.length (0 : Int)) (j : Int) = 0 := by
        intro j
        unfold rd
        rw [Int.toNat_natCast, List.getD_eq_getElem?_getD, List.getElem?_replicate]
        split <;> rfl
      have := impl_nodes c.1 c.2 hs p.length 0 (List.replicate p.length 0) (List.replicate p.length 0) (by omega) ⟨by simp, by simp, fun j hj => by omega, fun j _ => hrep j⟩ (fun _ => hrep 0)
      rw [← List.range_eq_range'] at this
      unfold finV at this
      rw [← Bool.and_assoc, ← Bool.and_assoc] at this
      exact this
  · have hin : impl_in.f (p.length : Int) 1 40 = some false := by
      unfold impl_in.f
      by_cases h : (1 : Int) ≤ p.length
      · rw [if_pos h, decide_eq_false (by omega)]
      · rw [if_neg h]
    rw [hin, decide_eq_false c]
    simp only [Option.bind_some, Bool.false_and]
    exact Ev.congr (f := fun _ => some false) (fun _ => by simp) (Ev.now _)
def tv : Option Nat → Int
  | none => -1
  | some f => f
theorem spec_tree {p : List PM} (hp : p.length ≤ 40) (hs : smallM p) : ∀ j, j < p.length → Ev (fun k => spec_l8Tree.f k p (j : Int)) (tv (tf p j)) := by
  intro j
  induction j using Nat.strongRecOn with
  | _ j ih =>
  intro hj
  have e : rd_T49 p (j : Int) = at_ p j := rfl
  have hkl : (at_ p j).f2.length ≤ 1048576 := by
    have := (hs p[j] (List.getElem_mem hj)).2
    rwa [← at_lt hj] at this
  have loop : ∀ (m e : Nat), m ≤ (at_ p j).f2.length → e ≤ j → Ev (fun k => spec_l8Tree.l0 k p (j : Int) ((e : Int) - 1) ((m : Int) - 1)) (tv (chF (tf p) e ((at_ p j).f2.take m).reverse)) := by
    intro m
    induction m with
    | zero =>
      intro e hm he
      refine Ev.step (f := fun _ => some (e : Int)) (fun k => ?_) (Ev.now _)
      conv => lhs; unfold spec_l8Tree.l0
      rw [if_neg (by omega), w64 (by omega) (by omega)]
      congr 1
      omega
    | succ m ihm =>
      intro e' hm he
      have hlt : m < (at_ p j).f2.length := by omega
      have ht : ((at_ p j).f2.take (m + 1)).reverse = (at_ p j).f2[m] :: ((at_ p j).f2.take m).reverse := by
        rw [List.take_succ_eq_append_getElem hlt, List.reverse_append]; rfl
      rw [ht]
      have hrd := rdZ (at_ p j).f2 m hlt
      have e7 : ((m + 1 : Nat) : Int) - 1 = (m : Int) := by omega
      rw [e7]
      have hch : ∀ ks, chF (tf p) e' ((at_ p j).f2[m] :: ks) = if 0 < e' ∧ (at_ p j).f2[m] = (e' : Int) - 1 then (tf p (e' - 1)).bind fun f => chF (tf p) f ks else none := fun _ => rfl
      rw [hch]
      have hno : Ev (fun k => spec_l8Tree.j1 k p (j : Int) ((e' : Int) - 1) (m : Int) true) (-1) := by
        refine Ev.step (f := fun _ => some (-1)) (fun k => ?_) (Ev.now _)
        conv => lhs; unfold spec_l8Tree.j1
        rw [if_pos rfl]
      by_cases c0 : 0 < e'
      · by_cases c1 : (at_ p j).f2[m] = (e' : Int) - 1
        · rw [if_pos ⟨c0, c1⟩]
          have hE := ih (e' - 1) (by omega) (by omega)
          have hee : ((e' - 1 : Nat) : Int) = (e' : Int) - 1 := by omega
          rw [hee] at hE
          refine Ev.step (f := fun k => spec_l8Tree.j1 k p (j : Int) ((e' : Int) - 1) (m : Int) false) (fun k => ?_) ?_
          · conv => lhs; unfold spec_l8Tree.l0
            rw [if_pos (by omega), if_neg (by omega), if_pos (by omega), if_pos (by omega), if_pos (by omega), e, if_pos (by omega), hrd, c1]
            simp
          · refine Ev.step (f := fun k => (spec_l8Tree.f k p ((e' : Int) - 1)).bind fun t => (if t < 0 then (some (-1)) else (spec_l8Tree.l0 k p (j : Int) (wrap64 (t - 1)) (wrap64 ((m : Int) - 1))))) (fun k => ?_) ?_
            · conv => lhs; unfold spec_l8Tree.j1
              rw [if_neg (by decide)]
            · refine Ev.bind hE ?_
              cases hf : tf p (e' - 1) with
              | none =>
                refine Ev.congr (f := fun _ => some (-1)) (fun k => ?_) (Ev.now _)
                rw [if_pos (by decide : tv none < 0)]
              | some f =>
                have hfl := tf_le _ _ hf
                refine Ev.congr (f := fun k => spec_l8Tree.l0 k p (j : Int) ((f : Int) - 1) ((m : Int) - 1)) (fun k => ?_) (ihm f (by omega) (by omega))
                have htv : tv (some f) = (f : Int) := rfl
                rw [htv, if_neg (by omega)]
                rw [w64 (by omega) (by omega), w64 (by omega) (by omega)]
        · rw [if_neg (fun h => c1 h.2)]
          refine Ev.step (f := fun k => spec_l8Tree.j1 k p (j : Int) ((e' : Int) - 1) (m : Int) true) (fun k => ?_) hno
          conv => lhs; unfold spec_l8Tree.l0
          rw [if_pos (by omega), if_neg (by omega), if_pos (by omega), if_pos (by omega), if_pos (by omega), e, if_pos (by omega), hrd]
          rw [bne_iff_ne.2 c1]
      · rw [if_neg (fun h => c0 h.1)]
        refine Ev.step (f := fun k => spec_l8Tree.j1 k p (j : Int) ((e' : Int) - 1) (m : Int) true) (fun k => ?_) hno
        conv => lhs; unfold spec_l8Tree.l0
        rw [if_pos (by omega), if_pos (by omega)]
  have := loop (at_ p j).f2.length j (Nat.le_refl _) (Nat.le_refl _)
  rw [List.take_length, ← tf_eq] at this
  refine Ev.step (fun k => ?_) this
  conv => lhs; unfold spec_l8Tree.f
  rw [if_pos (by omega), if_pos (by omega), e, w64 (by omega) (by omega), w64 (by omega) (by omega)]
theorem spec_deep {p : List PM} (hp : p.length ≤ 40) (hs : smallM p) : ∀ j, j < p.length → ∀ f, tf p j = some f → Ev (fun k => spec_l8Deep.f k p (j : Int)) ((dp p j + 1 : Nat) : Int) := by
  intro j
  induction j using Nat.strongRecOn with
  | _ j ih =>
  intro hj f hf
  have e : rd_T49 p (j : Int) = at_ p j := rfl
  have hkl : (at_ p j).f2.length ≤ 1048576 := by
    have := (hs p[j] (List.getElem_mem hj)).2
    rwa [← at_lt hj] at this
  have hkids := tf_kids hf
  have loop : ∀ (m i d : Nat), i + m = (at_ p j).f2.length → d ≤ 40 → Ev (fun k => spec_l8Deep.l0 k p (j : Int) (d : Int) (i : Int)) ((dpS (dp p) d ((at_ p j).f2.drop i) + 1 : Nat) : Int) := by
    intro m
    induction m with
    | zero =>
      intro i d hi hd
      refine Ev.step (f := fun _ => some ((d + 1 : Nat) : Int)) (fun k => ?_) ?_
      · conv => lhs; unfold spec_l8Deep.l0
        rw [if_pos (by omega), if_pos (by omega), e, if_neg (by omega), w64 (by omega) (by omega)]
        rfl
      · rw [List.drop_of_length_le (by omega)]
        exact Ev.now _
    | succ m ihm =>
      intro i d hi hd
      have hlt : i < (at_ p j).f2.length := by omega
      obtain ⟨a, b, q, hq, _⟩ := hkids _ (List.getElem_mem hlt)
      have hE := ih (at_ p j).f2[i].toNat (by omega) (by omega) q hq
      have hdl := dp_le _ _ hq
      rw [show (((at_ p j).f2[i].toNat : Nat) : Int) = (at_ p j).f2[i] by omega] at hE
      have hrd := rdZ (at_ p j).f2 i hlt
      rw [List.drop_eq_getElem_cons hlt]
      refine Ev.step (f := fun k => (spec_l8Deep.f k p (at_ p j).f2[i]).bind fun t => spec_l8Deep.l0 k p (j : Int) (mx (d : Int) t) (wrap64 ((i : Int) + 1))) (fun k => ?_) (Ev.bind hE ?_)
      · conv => lhs; unfold spec_l8Deep.l0
        rw [if_pos (by omega), if_pos (by omega), e, if_pos (by omega), if_pos (by omega), hrd]
      · have emx : mx (d : Int) ((dp p (at_ p j).f2[i].toNat + 1 : Nat) : Int) = ((max d (dp p (at_ p j).f2[i].toNat + 1) : Nat) : Int) := by
          unfold mx
          split <;> omega
        rw [emx, w1n hlt (by omega)]
        exact ihm (i + 1) _ (by omega) (by omega)
  have := loop (at_ p j).f2.length 0 0 (by omega) (by omega)
  rw [List.drop_zero, ← dp_eq hf] at this
  refine Ev.step (fun k => ?_) this
  conv => lhs; unfold spec_l8Deep.f
  rfl
def kidsIn (p : List PM) (i : Nat) : Bool := (at_ p i).f2.all fun k => decide (0 ≤ k ∧ k < (i : Int))
theorem lin_ok (x a b : Int) : spec_l1In.f x a b = some (decide (a ≤ x ∧ x ≤ b)) := by
  unfold spec_l1In.f
  by_cases h : x ≥ a
  · rw [if_pos h]; congr 1; exact decide_eq_decide.2 (by omega)
  · rw [if_neg h, decide_eq_false (by omega)]
theorem spec_nodes {p : List PM} (h1 : 1 ≤ p.length) (hp : p.length ≤ 40) (hs : smallM p) : ∀ (m i : Nat), i + m = p.length →
    Ev (fun k => spec_ParticleOk.l0 k p (i : Int)) (((List.range' i m).all fun j => okN (at_ p j) && kidsIn p j) && finV p) := by
  intro m
  induction m with
  | zero =>
    intro i hi
    have hw : wrap64 ((p.length : Int) - 1) = ((p.length - 1 : Nat) : Int) := by rw [w64] <;> omega
    have ht := spec_tree hp hs (p.length - 1) (by omega)
    have e : rd_T49 p ((p.length - 1 : Nat) : Int) = at_ p (p.length - 1) := rfl
    rw [List.range'_zero, List.all_nil, Bool.true_and]
    unfold finV
    refine Ev.step (f := fun k => (spec_l8Tree.f k p ((p.length - 1 : Nat) : Int)).bind fun t117 => (if t117 = 0 then (if (at_ p (p.length - 1)).f0 = 1 then some false else if (at_ p (p.length - 1)).f0 = 4 then some false else (spec_l8Deep.f k p ((p.length - 1 : Nat) : Int)).bind fun t120 => some (decide (t120 ≤ 10))) else some false)) (fun k => ?_) (Ev.bind ht ?_)
    · conv => lhs; unfold spec_ParticleOk.l0
      rw [if_neg (by omega), hw, if_pos (by omega), if_pos (by omega), e]
    · cases hf : tf p (p.length - 1) with
      | none =>
        refine Ev.congr (f := fun _ => some false) (fun k => ?_) (Ev.now _)
        rw [if_neg (by decide : ¬ tv none = 0)]
      | some f =>
        have htv : tv (some f) = (f : Int) := rfl
        rw [htv]
        by_cases c : (f : Int) = 0
        · obtain rfl : f = 0 := by omega
          simp only [if_pos c, beq_self_eq_true, Bool.true_and]
          unfold posN
          by_cases c1 : (at_ p (p.length - 1)).f0 = 1
          · simp only [if_pos c1]
            rw [c1]
            exact Ev.now _
          · by_cases c4 : (at_ p (p.length - 1)).f0 = 4
            · simp only [if_neg c1, if_pos c4]
              rw [c4]
              exact Ev.now _
            · simp only [if_neg c1, if_neg c4]
              rw [beq_eq_false_iff_ne.2 c1, beq_eq_false_iff_ne.2 c4]
              refine Ev.bind (spec_deep hp hs _ (by omega) _ hf) ?_
              have hd : decide ((((dp p (p.length - 1) + 1 : Nat) : Int)) ≤ 10) = (!(false || false) && decide (dp p (p.length - 1) ≤ 9)) := by
                simp only [Bool.or_false, Bool.not_false, Bool.true_and]
                exact decide_eq_decide.2 (by omega)
              rw [hd]
              exact Ev.now _
        · have h0 : (some f == some 0) = false := beq_eq_false_iff_ne.2 (fun h => c (by injection h with h; omega))
          rw [h0]
          simp only [if_neg c, Bool.false_and]
          exact Ev.now _
  | succ m ih =>
    intro i hi
    have hil : i < p.length := by omega
    have e : rd_T49 p (i : Int) = at_ p i := rfl
    have hsm := hs p[i] (List.getElem_mem hil)
    rw [← at_lt hil] at hsm
    rw [List.range'_succ, List.all_cons]
    have kloop : ∀ (q j : Nat), j + q = (at_ p i).f2.length → Ev (fun k => spec_ParticleOk.l1 k p (i : Int) (j : Int) (at_ p i).f0 (at_ p i).f1 (at_ p i).f2 (at_ p i).f3) (((at_ p i).f2.drop j).all (fun k => decide (0 ≤ k ∧ k < (i : Int))) && (((List.range' (i + 1) m).all fun j => okN (at_ p j) && kidsIn p j) && finV p)) := by
      intro q
      induction q with
      | zero =>
        intro j hj
        rw [List.drop_of_length_le (by omega), List.all_nil, Bool.true_and]
        refine Ev.step (fun k => ?_) (ih (i + 1) (by omega))
        conv => lhs; unfold spec_ParticleOk.l1
        rw [if_neg (by omega), w1n hil (by omega)]
      | succ q ihq =>
        intro j hj
        have hlt : j < (at_ p i).f2.length := by omega
        have hrd := rdZ (at_ p i).f2 j hlt
        rw [List.drop_eq_getElem_cons hlt, List.all_cons]
        have hl : (decide (0 ≤ (at_ p i).f2[j] ∧ (at_ p i).f2[j] ≤ wrap64 ((i : Int) - 1))) = decide (0 ≤ (at_ p i).f2[j] ∧ (at_ p i).f2[j] < (i : Int)) := by
          rw [w64 (by omega) (by omega)]
          exact decide_eq_decide.2 (by omega)
        by_cases c : 0 ≤ (at_ p i).f2[j] ∧ (at_ p i).f2[j] < (i : Int)
        · rw [decide_eq_true c, Bool.true_and]
          refine Ev.step (fun k => ?_) (ihq (j + 1) (by omega))
          conv => lhs; unfold spec_ParticleOk.l1
          rw [if_pos (by omega), if_pos (by omega), hrd, lin_ok, hl, decide_eq_true c]
          simp only [Option.bind_some, if_true]
          rw [w1n hlt (by omega)]
        · rw [decide_eq_false c, Bool.false_and, Bool.false_and]
          refine Ev.step (f := fun _ => some false) (fun k => ?_) (Ev.now _)
          conv => lhs; unfold spec_ParticleOk.l1
          rw [if_pos (by omega), if_pos (by omega), hrd, lin_ok, hl, decide_eq_false c]
          rfl
    have hgo : Ev (fun k => spec_ParticleOk.j2 k p (i : Int) (at_ p i).f0 (at_ p i).f1 (at_ p i).f2 (at_ p i).f3) (kidsIn p i && (((List.range' (i + 1) m).all fun j => okN (at_ p j) && kidsIn p j) && finV p)) := by
      refine Ev.step (fun k => ?_) (kloop _ 0 (Nat.zero_add _))
      conv => lhs; unfold spec_ParticleOk.j2
      rfl
    have hq : (((okN (at_ p i) && kidsIn p i) && ((List.range' (i + 1) m).all fun j => okN (at_ p j) && kidsIn p j)) && finV p) = (okN (at_ p i) && (kidsIn p i && (((List.range' (i + 1) m).all fun j => okN (at_ p j) && kidsIn p j) && finV p))) := by
      simp only [Bool.and_assoc]
    rw [hq]
    generalize (kidsIn p i && (((List.range' (i + 1) m).all fun j => okN (at_ p j) && kidsIn p j) && finV p)) = R at hgo
    clear kloop hq ih
    have hz : decide ((((at_ p i).f2.length : Nat) : Int) > 0) = !(at_ p i).f2.isEmpty := by
      cases (at_ p i).f2 with
      | nil => rfl
      | cons x l => simp
    unfold okN fitsN
    by_cases c3 : 0 ≤ (at_ p i).f3 ∧ (at_ p i).f3 ≤ 3
    · rw [decide_eq_true c3, Bool.and_true]
      by_cases k1 : (at_ p i).f0 = 1
      · rw [if_pos k1]
        refine Ev.step (f := fun k => (spec_NameOk.f k (at_ p i).f1).bind fun t124 => (if t124 = true then (if (((at_ p i).f2).length : Int) > 0 then (some false) else (spec_ParticleOk.j2 k p (i : Int) (at_ p i).f0 (at_ p i).f1 (at_ p i).f2 (at_ p i).f3)) else (some false))) (fun k => ?_) (Ev.bind (spec_name _) ?_)
        · conv => lhs; unfold spec_ParticleOk.l0
          rw [if_pos (by omega), if_pos (by omega), e, lin_ok, decide_eq_true c3]
          simp only [Option.bind_some, if_true, if_pos k1]
        · cases nameB (at_ p i).f1.data.toList with
          | false => exact Ev.now _
          | true =>
            simp only [if_true, Bool.true_and]
            cases hE : (at_ p i).f2.isEmpty with
            | true =>
              rw [Bool.true_and]
              refine Ev.congr (fun k => ?_) hgo
              rw [if_neg (by rw [hE] at hz; simpa using hz)]
            | false =>
              refine Ev.congr (f := fun _ => some false) (fun k => ?_) (Ev.now _)
              rw [if_pos (by rw [hE] at hz; simpa using hz)]
      · rw [if_neg k1]
        by_cases k4 : (at_ p i).f0 = 4
        · rw [if_pos k4]
          cases hT : (at_ p i).f1.data.toList.isEmpty with
          | false =>
            refine Ev.step (f := fun _ => some false) (fun k => ?_) (Ev.now _)
            conv => lhs; unfold spec_ParticleOk.l0
            rw [if_pos (by omega), if_pos (by omega), e, lin_ok, decide_eq_true c3]
            simp only [Option.bind_some, if_true, if_neg k1, if_pos k4]
            rw [if_neg (fun h => by rw [(emp_iff _).1 h] at hT; cases hT)]
          | true =>
            rw [Bool.true_and]
            cases hE : (at_ p i).f2.isEmpty with
            | true =>
              rw [Bool.true_and]
              refine Ev.step (fun k => ?_) hgo
              conv => lhs; unfold spec_ParticleOk.l0
              rw [if_pos (by omega), if_pos (by omega), e, lin_ok, decide_eq_true c3]
              simp only [Option.bind_some, if_true, if_neg k1, if_pos k4]
              rw [if_pos ((emp_iff _).2 hT), if_neg (by rw [hE] at hz; simpa using hz)]
            | false =>
              refine Ev.step (f := fun _ => some false) (fun k => ?_) (Ev.now _)
              conv => lhs; unfold spec_ParticleOk.l0
              rw [if_pos (by omega), if_pos (by omega), e, lin_ok, decide_eq_true c3]
              simp only [Option.bind_some, if_true, if_neg k1, if_pos k4]
              rw [if_pos ((emp_iff _).2 hT), if_pos (by rw [hE] at hz; simpa using hz)]
        · rw [if_neg k4]
          by_cases k2 : (at_ p i).f0 = 2
          · rw [if_pos k2]
            cases hT : (at_ p i).f1.data.toList.isEmpty with
            | false =>
              refine Ev.step (f := fun _ => some false) (fun k => ?_) (Ev.now _)
              conv => lhs; unfold spec_ParticleOk.l0
              rw [if_pos (by omega), if_pos (by omega), e, lin_ok, decide_eq_true c3]
              simp only [Option.bind_some, if_true, if_neg k1, if_neg k4, if_pos k2]
              rw [if_neg (fun h => by rw [(emp_iff _).1 h] at hT; cases hT)]
            | true =>
              rw [Bool.true_and]
              refine Ev.step (fun k => ?_) hgo
              conv => lhs; unfold spec_ParticleOk.l0
              rw [if_pos (by omega), if_pos (by omega), e, lin_ok, decide_eq_true c3]
              simp only [Option.bind_some, if_true, if_neg k1, if_neg k4, if_pos k2]
              rw [if_pos ((emp_iff _).2 hT)]
          · rw [if_neg k2]
            by_cases k3 : (at_ p i).f0 = 3
            · rw [if_pos k3]
              cases hT : (at_ p i).f1.data.toList.isEmpty with
              | false =>
                refine Ev.step (f := fun _ => some false) (fun k => ?_) (Ev.now _)
                conv => lhs; unfold spec_ParticleOk.l0
                rw [if_pos (by omega), if_pos (by omega), e, lin_ok, decide_eq_true c3]
                simp only [Option.bind_some, if_true, if_neg k1, if_neg k4, if_neg k2, if_pos k3]
                rw [if_neg (fun h => by rw [(emp_iff _).1 h] at hT; cases hT)]
              | true =>
                rw [Bool.true_and]
                by_cases c2 : 2 ≤ (at_ p i).f2.length
                · rw [decide_eq_true c2, Bool.true_and]
                  refine Ev.step (fun k => ?_) hgo
                  conv => lhs; unfold spec_ParticleOk.l0
                  rw [if_pos (by omega), if_pos (by omega), e, lin_ok, decide_eq_true c3]
                  simp only [Option.bind_some, if_true, if_neg k1, if_neg k4, if_neg k2, if_pos k3]
                  rw [if_pos ((emp_iff _).2 hT), if_neg (by omega)]
                · rw [decide_eq_false c2, Bool.false_and]
                  refine Ev.step (f := fun _ => some false) (fun k => ?_) (Ev.now _)
                  conv => lhs; unfold spec_ParticleOk.l0
                  rw [if_pos (by omega), if_pos (by omega), e, lin_ok, decide_eq_true c3]
                  simp only [Option.bind_some, if_true, if_neg k1, if_neg k4, if_neg k2, if_pos k3]
                  rw [if_pos ((emp_iff _).2 hT), if_pos (by omega)]
            · rw [if_neg k3, Bool.false_and]
              refine Ev.step (f := fun _ => some false) (fun k => ?_) (Ev.now _)
              conv => lhs; unfold spec_ParticleOk.l0
              rw [if_pos (by omega), if_pos (by omega), e, lin_ok, decide_eq_true c3]
              simp only [Option.bind_some, if_true, if_neg k1, if_neg k4, if_neg k2, if_neg k3]
    · rw [decide_eq_false c3, Bool.and_false, Bool.false_and]
      refine Ev.step (f := fun _ => some false) (fun k => ?_) (Ev.now _)
      conv => lhs; unfold spec_ParticleOk.l0
      rw [if_pos (by omega), if_pos (by omega), e, lin_ok, decide_eq_false c3]
      rfl
theorem all_both (p : List PM) (h : tf p (p.length - 1) = some 0) : ((List.range p.length).all fun j => okN (at_ p j) && kidsIn p j) = ((List.range p.length).all fun j => okN (at_ p j) && (tf p j).isSome) := by
  apply Bool.eq_iff_iff.2
  rw [List.all_eq_true, List.all_eq_true]
  have hsome : ∀ j ∈ List.range p.length, (tf p j).isSome = true ∧ kidsIn p j = true := by
    intro j hj
    have hj := List.mem_range.1 hj
    have h1 := tf_cover _ _ h j (Nat.zero_le _) (by omega)
    refine ⟨h1, ?_⟩
    obtain ⟨f, hf⟩ := Option.isSome_iff_exists.1 h1
    unfold kidsIn
    rw [List.all_eq_true]
    intro k hk
    have := tf_kids hf k hk
    exact decide_eq_true ⟨this.1, this.2.1⟩
  constructor
  · intro h j hj
    have := h j hj
    rw [(hsome j hj).2] at this
    rw [(hsome j hj).1]
    exact this
  · intro h j hj
    have := h j hj
    rw [(hsome j hj).1] at this
    rw [(hsome j hj).2]
    exact this
theorem spec_ok (p : List PM) (hs : smallM p) : Ev (fun k => spec_ParticleOk.f k p) (okV p) := by
  unfold spec_ParticleOk.f okV
  have hno : Ev (fun k => spec_ParticleOk.j0 k p true) false := by
    refine Ev.step (f := fun _ => some false) (fun k => ?_) (Ev.now _)
    show (if true = true then some false else spec_ParticleOk.l0 k p 0) = some false
    rw [if_pos rfl]
  by_cases c : 1 ≤ p.length ∧ p.length ≤ 40
  · rw [decide_eq_true c, Bool.true_and]
    have hn := spec_nodes c.1 c.2 hs p.length 0 (Nat.zero_add _)
    rw [← List.range_eq_range'] at hn
    have hR : (((List.range p.length).all fun j => okN (at_ p j) && kidsIn p j) && finV p) = (((List.range p.length).all fun i => okN (at_ p i) && (tf p i).isSome) && (tf p (p.length - 1) == some 0) && !posN (at_ p (p.length - 1)) && decide (dp p (p.length - 1) ≤ 9)) := by
      unfold finV
      by_cases ht : tf p (p.length - 1) = some 0
      · rw [all_both p ht]
        simp only [Bool.and_assoc]
      · rw [beq_eq_false_iff_ne.2 ht]
        simp
    rw [hR] at hn
    refine Ev.congr (f := fun k => spec_ParticleOk.j0 k p false) (fun k => ?_) (Ev.step (fun k => ?_) hn)
    · rw [if_neg (by omega), decide_eq_false (by omega)]
    · show (if false = true then some false else spec_ParticleOk.l0 k p 0) = _
      rw [if_neg (by decide)]
      rfl
  · rw [decide_eq_false c]
    simp only [Bool.false_and]
    refine Ev.congr (f := fun k => spec_ParticleOk.j0 k p true) (fun k => ?_) hno
    by_cases h : (p.length : Int) < 1
    · rw [if_pos h]
    · rw [if_neg h, decide_eq_true (by omega)]
end Go.Proofs.Ytejkkdjfiebmfaa.Pure

namespace Go.Proofs.Ytejkkdjfiebmfaa.Pure
open Go.RowKit Go.Proofs.Ytejkkdjfiebmfaa.L Go.Proofs.YtejkkdjfiebmfaaW.PrintWords Go.Proofs.YtejkkdjfiebmfaaW.PrintLast Go.Proofs.YtejkkdjfiebmfaaW.PrintMore
open MT
set_option linter.unusedVariables false
set_option linter.unusedSimpArgs false

def mdN (n : PM) : Nd := ⟨n.f0, n.f1, n.f2.map Int.toNat, n.f3⟩
def md (p : List PM) : Md := p.map mdN
def loT (p : List PM) (j : Nat) : Nat := (tf p j).getD 0
def ints (l : List Nat) : List Int := l.map fun n : Nat => (n : Int)
theorem nd_md {p : List PM} {i : Nat} (h : i < p.length) : nd (md p) i = mdN (at_ p i) := by
  unfold nd md
  rw [at_lt h]
  simp [h]
theorem md_len (p : List PM) : (md p).length = p.length := List.length_map _
theorem chF_chain {g : Nat → Option Nat} : ∀ (ks : List Int) (e f : Nat), chF g e ks.reverse = some f → Chain (fun j => (g j).getD 0) e (ks.map Int.toNat) f
  | [], e, f, h => (Option.some.inj h).symm
  | k :: ks, e, f, h => by
    rw [List.reverse_cons, chF_app] at h
    obtain ⟨m, h1, h2⟩ := Option.bind_eq_some_iff.1 h
    refine ⟨m, chF_chain ks e m h1, ?_⟩
    unfold chF at h2
    by_cases c : 0 < m ∧ k = (m : Int) - 1
    · rw [if_pos c] at h2
      obtain ⟨f1, h3, h4⟩ := Option.bind_eq_some_iff.1 h2
      have h5 : f1 = f := Option.some.inj h4
      refine ⟨by omega, ?_⟩
      show f = (g k.toNat).getD 0
      rw [show k.toNat = m - 1 by omega, h3, h5]
      rfl
    · rw [if_neg c] at h2; cases h2
structure OkP (p : List PM) : Prop where
  one : 1 ≤ p.length
  most : p.length ≤ 40
  ok : ∀ i, i < p.length → okN (at_ p i) = true
  tree : ∀ i, i < p.length → (tf p i).isSome = true
  root : tf p (p.length - 1) = some 0
  deep : dp p (p.length - 1) ≤ 9
  comp : posN (at_ p (p.length - 1)) = false
theorem okP {p : List PM} (h : okV p = true) : OkP p := by
  unfold okV at h
  simp only [Bool.and_eq_true, decide_eq_true_eq, List.all_eq_true, List.mem_range, Bool.not_eq_true', beq_iff_eq] at h
  obtain ⟨⟨⟨⟨⟨a, b⟩, c⟩, d⟩, e⟩, f⟩ := h
  exact ⟨a, b, fun i hi => (c i hi).1, fun i hi => (c i hi).2, d, f, e⟩
section
variable {p : List PM} (K : OkP p)
include K
theorem OkP.kinds {i : Nat} (hi : i < p.length) : (posB (at_ p i) = true ∧ (at_ p i).f2 = []) ∨ ((at_ p i).f0 = 2) ∨ ((at_ p i).f0 = 3 ∧ 2 ≤ (at_ p i).f2.length) := by
  have h := K.ok i hi
  unfold okN fitsN at h
  unfold posB
  by_cases k1 : (at_ p i).f0 = 1
  · rw [if_pos k1] at h
    simp only [Bool.and_eq_true, List.isEmpty_iff] at h
    exact .inl ⟨by rw [k1]; rfl, h.1.2⟩
  · by_cases k4 : (at_ p i).f0 = 4
    · rw [if_neg k1, if_pos k4] at h
      simp only [Bool.and_eq_true, List.isEmpty_iff] at h
      exact .inl ⟨by rw [k4]; rfl, h.1.2⟩
    · by_cases k2 : (at_ p i).f0 = 2
      · exact .inr (.inl k2)
      · by_cases k3 : (at_ p i).f0 = 3
        · rw [if_neg k1, if_neg k4, if_neg k2, if_pos k3] at h
          simp only [Bool.and_eq_true, decide_eq_true_eq] at h
          exact .inr (.inr ⟨k3, h.1.2⟩)
        · rw [if_neg k1, if_neg k4, if_neg k2, if_neg k3] at h
          simp at h
theorem OkP.tr : Tree (md p) (loT p) := by
  constructor
  · intro i hi
    rw [md_len] at hi
    rw [nd_md hi]
    obtain ⟨f, hf⟩ := Option.isSome_iff_exists.1 (K.tree i hi)
    have : loT p i = f := by unfold loT; rw [hf]; rfl
    rw [this]
    rw [tf_eq] at hf
    exact chF_chain _ _ _ hf
  · intro i hi
    rw [md_len] at hi
    rw [nd_md hi]
    rcases K.kinds hi with ⟨a, b⟩ | a | ⟨a, b⟩
    · exact .inl ⟨a, by show (at_ p i).f2.map Int.toNat = []; rw [b]; rfl⟩
    · exact .inr (.inl a)
    · exact .inr (.inr ⟨a, by show 2 ≤ ((at_ p i).f2.map Int.toNat).length; rw [List.length_map]; exact b⟩)
theorem OkP.f2 {i : Nat} (hi : i < p.length) : (at_ p i).f2 = ints (nd (md p) i).kids := by
  rw [nd_md hi]
  obtain ⟨f, hf⟩ := Option.isSome_iff_exists.1 (K.tree i hi)
  have h := tf_kids hf
  show _ = ints ((at_ p i).f2.map Int.toNat)
  unfold ints
  rw [List.map_map]
  generalize (at_ p i).f2 = ks at h
  clear K
  induction ks with
  | nil => rfl
  | cons k ks ih =>
    have := h k (by simp)
    rw [List.map_cons, ← ih (fun k' hk' => h k' (by simp [hk']))]
    congr 1
    show k = ((k.toNat : Nat) : Int)
    omega
end
theorem ints_app (a b : List Nat) : ints (a ++ b) = ints a ++ ints b := List.map_append
theorem ints_len (a : List Nat) : (ints a).length = a.length := List.length_map _
theorem mem_ints {a : List Nat} {x : Int} : x ∈ ints a ↔ ∃ b : Nat, x = (b : Int) ∧ b ∈ a := by
  unfold ints
  rw [List.mem_map]
  constructor
  · rintro ⟨b, h, rfl⟩; exact ⟨b, rfl, h⟩
  · rintro ⟨b, rfl, h⟩; exact ⟨b, h, rfl⟩
theorem nat_ints {a : List Nat} {b : Nat} : (b : Int) ∈ ints a ↔ b ∈ a := by
  rw [mem_ints]
  constructor
  · rintro ⟨c, h, hc⟩
    have : b = c := by omega
    rwa [this]
  · intro h; exact ⟨b, rfl, h⟩
theorem ints_nodup {a : List Nat} (h : a.Nodup) : (ints a).Nodup := by
  unfold ints
  exact List.Pairwise.map _ (fun x y hxy e => hxy (by omega)) h
/-- How many positions a chain of trees has. -/
theorem flat_len {lo : Nat → Nat} {F : Nat → List Nat} : ∀ {ks : List Nat} {e b : Nat}, Chain lo e ks b → (∀ k, k < e → lo k ≤ k) → (∀ k ∈ ks, (F k).length ≤ k + 1 - lo k) → (ks.flatMap F).length + b ≤ e
  | [], e, b, hc, _, _ => by
    have : b = e := hc
    simp [this]
  | k :: ks, e, b, hc, hl, h => by
    obtain ⟨m, h1, h2, h3⟩ := hc
    have a := flat_len h1 hl (fun k' hk' => h k' (by simp [hk']))
    have c := h k (by simp)
    have d := (Chain.facts hl h1).1
    have g := hl k (by omega)
    rw [List.flatMap_cons, List.length_append]
    omega
section
variable {q : Md} {lo : Nat → Nat} (T : Tree q lo)
include T
theorem edge_len (E : Md → Nat → List Nat) (hE : E = fst ∨ E = lst) : ∀ i, i < q.length → (E q i).length ≤ i + 1 - lo i := by
  intro i
  induction i using Nat.strongRecOn with
  | _ i ih =>
  intro hi
  have key := flat_len (F := E q) (T.chain i hi) (fun k hk => T.le k (by omega)) (fun k hk => ih k (T.kid hi hk).2 (by have := (T.kid hi hk).2; omega))
  have hle := T.le i hi
  rcases hE with rfl | rfl
  · rw [fst_eq T.ahead hi]
    split
    · simp; omega
    · split
      · omega
      · have := (pre_sub (N := nul q) (F := fst q) (nd q i).kids).length_le
        omega
  · rw [lst_eq T.ahead hi]
    split
    · simp; omega
    · split
      · omega
      · have := (suf_sub (N := nul q) (L := lst q) (nd q i).kids []).length_le
        simp only [List.nil_append] at this
        omega
theorem kids_len (E : Md → Nat → List Nat) (hE : E = fst ∨ E = lst) {i : Nat} (hi : i < q.length) {us vs : List Nat} (h : (nd q i).kids = us ++ vs) : (us.flatMap (E q)).length ≤ i := by
  have key := flat_len (F := E q) (T.chain i hi) (fun k hk => T.le k (by omega)) (fun k hk => edge_len T E hE k (by have := (T.kid hi hk).2; omega))
  rw [h, List.flatMap_append, List.length_append] at key
  omega
end
theorem pre_snoc {N : Nat → Bool} {F : Nat → List Nat} (k : Nat) : ∀ us : List Nat, pre N F (us ++ [k]) = pre N F us ++ (if us.all N = true then F k else [])
  | [] => by simp [pre]
  | u :: us => by
    rw [List.cons_append, pre, pre, pre_snoc k us, List.all_cons]
    cases N u <;> simp
theorem suf_snoc {N : Nat → Bool} {L : Nat → List Nat} (k : Nat) : ∀ (us acc : List Nat), suf N L acc (us ++ [k]) = (if N k = true then suf N L acc us else []) ++ L k
  | [], acc => rfl
  | u :: us, acc => by
    rw [List.cons_append, suf, suf_snoc k us]
    rfl
theorem snoc_split {us : List Nat} {k : Nat} {Q : List Nat → Nat → Prop} : (∃ u k' v, us ++ [k] = u ++ k' :: v ∧ Q u k') ↔ (∃ u k' v, us = u ++ k' :: v ∧ Q u k') ∨ Q us k := by
  constructor
  · rintro ⟨u, k', v, e, h⟩
    rcases List.eq_nil_or_concat v with rfl | ⟨v', x, rfl⟩
    · right
      have := List.append_inj' e rfl
      obtain ⟨rfl, h2⟩ := this
      simp only [List.cons.injEq, and_true] at h2
      subst h2
      exact h
    · left
      rw [List.concat_eq_append, ← List.cons_append, ← List.append_assoc] at e
      have := List.append_inj' e rfl
      exact ⟨u, k', v', this.1, h⟩
  · rintro (⟨u, k', v, e, h⟩ | h)
    · exact ⟨u, k', v ++ [k], by rw [e]; simp, h⟩
    · exact ⟨us, k, [], rfl, h⟩
/-- A row of sets, told. -/
structure FolP (n : Nat) (P : Nat → Nat → Prop) (fol : List (List Int)) : Prop where
  len : fol.length = n
  mem : ∀ a, a < n → ∀ x : Int, x ∈ rdL fol a ↔ ∃ b : Nat, x = (b : Int) ∧ P a b
theorem FolP.congr {n : Nat} {P P' : Nat → Nat → Prop} {fol : List (List Int)} (h : FolP n P fol) (e : ∀ a, a < n → ∀ b, P a b ↔ P' a b) : FolP n P' fol :=
  ⟨h.len, fun a ha x => by
    rw [h.mem a ha x]
    constructor
    · rintro ⟨b, h1, h2⟩; exact ⟨b, h1, (e a ha b).1 h2⟩
    · rintro ⟨b, h1, h2⟩; exact ⟨b, h1, (e a ha b).2 h2⟩⟩
theorem rd_leadTo {fol : List (List Int)} {a q : Nat} (ha : a < fol.length) (to_ : List Int) : rdL (leadTo fol (a : Int) to_) q = if q = a then rdL fol a ++ to_ else rdL fol q := by
  unfold rdL rdOf leadTo
  simp only [Int.toNat_natCast, List.getD_eq_getElem?_getD]
  by_cases c : q = a
  · subst c
    rw [if_pos rfl, List.getElem?_set_self ha]
    rfl
  · rw [if_neg c, List.getElem?_set_ne (fun e => c e.symm)]
theorem FolP.lead {n : Nat} : ∀ {A B : List Nat} {P : Nat → Nat → Prop} {fol : List (List Int)}, FolP n P fol → (∀ a ∈ A, a < n) → FolP n (fun a b => P a b ∨ (a ∈ A ∧ b ∈ B)) (leadL fol (ints A) (ints B))
  | [], B, P, fol, h, _ => h.congr (fun a ha b => by simp)
  | c :: A, B, P, fol, h, hA => by
    have hc := hA c (by simp)
    have h1 : FolP n (fun a b => P a b ∨ (a = c ∧ b ∈ B)) (leadTo fol (c : Int) (ints B)) := by
      refine ⟨by rw [leadTo_length, h.len], fun a ha x => ?_⟩
      rw [rd_leadTo (by rw [h.len]; exact hc)]
      by_cases e : a = c
      · subst e
        rw [if_pos rfl, List.mem_append, h.mem a ha, mem_ints]
        constructor
        · rintro (⟨b, h1, h2⟩ | ⟨b, h1, h2⟩)
          · exact ⟨b, h1, .inl h2⟩
          · exact ⟨b, h1, .inr ⟨rfl, h2⟩⟩
        · rintro ⟨b, h1, h2 | h2⟩
          · exact .inl ⟨b, h1, h2⟩
          · exact .inr ⟨b, h1, h2.2⟩
      · rw [if_neg e, h.mem a ha]
        constructor
        · rintro ⟨b, h1, h2⟩; exact ⟨b, h1, .inl h2⟩
        · rintro ⟨b, h1, h2 | h2⟩
          · exact ⟨b, h1, h2⟩
          · exact absurd h2.1 e
    have h2 := FolP.lead (A := A) (B := B) h1 (fun a ha => hA a (by simp [ha]))
    refine FolP.congr (fol := leadL fol (ints (c :: A)) (ints B)) h2 (fun a ha b => ?_)
    simp only [List.mem_cons]
    constructor
    · rintro ((h | ⟨h, h'⟩) | ⟨h, h'⟩)
      · exact .inl h
      · exact .inr ⟨.inl h, h'⟩
      · exact .inr ⟨.inr h, h'⟩
    · rintro (h | ⟨h | h, h'⟩)
      · exact .inl (.inl h)
      · exact .inl (.inr ⟨h, h'⟩)
      · exact .inr ⟨h, h'⟩
/-- The net behind i nodes. -/
structure NetI (p : List PM) (i : Nat) (N : NetV) : Prop where
  nul : N.nul = (List.range i).map (nul (md p))
  fst : N.fst = (List.range i).map fun j => ints (fst (md p) j)
  lst : N.lst = (List.range i).map fun j => ints (lst (md p) j)
  fol : FolP i (fun a b => ∃ j, j < i ∧ led (md p) j a b) N.fol
theorem rd_range {α : Type} {F : Nat → α} {d : α} {i k : Nat} (h : k < i) : rdOf d ((List.range i).map F) (k : Int) = F k := by
  unfold rdOf
  simp [h]
section
variable {p : List PM} (K : OkP p) {i : Nat} (hi : i < p.length) {N : NetV} (H : NetI p i N)
include K hi H
theorem NetI.kids3 : ∀ (vs us : List Nat) (s : KS), (nd (md p) i).kids = us ++ vs → s.nu = us.any (MT.nul (md p)) → s.fi = ints (us.flatMap (MT.fst (md p))) → s.la = ints (us.flatMap (MT.lst (md p))) →
    kidsF 3 N (ints vs) s = some ⟨(nd (md p) i).kids.any (MT.nul (md p)), ints ((nd (md p) i).kids.flatMap (MT.fst (md p))), ints ((nd (md p) i).kids.flatMap (MT.lst (md p))), s.fol⟩
  | [], us, s, hk, h1, h2, h3 => by
    rw [List.append_nil] at hk
    rw [hk, ← h1, ← h2, ← h3]
    rfl
  | k :: vs, us, s, hk, h1, h2, h3 => by
    have him : i < (md p).length := by rw [md_len]; exact hi
    have hki : k < i := (K.tr.kid him (by rw [hk]; simp)).2
    have hk' : (nd (md p) i).kids = (us ++ [k]) ++ vs := by rw [hk]; simp
    have l1 := kids_len K.tr MT.fst (.inl rfl) him hk'
    have l2 := kids_len K.tr MT.lst (.inr rfl) him hk'
    rw [List.flatMap_append, List.length_append, List.flatMap_singleton] at l1 l2
    have e1 : rdL N.fst (k : Int) = ints (MT.fst (md p) k) := by rw [H.fst]; exact rd_range hki
    have e2 : rdL N.lst (k : Int) = ints (MT.lst (md p) k) := by rw [H.lst]; exact rd_range hki
    have e3 : rdOf false N.nul (k : Int) = MT.nul (md p) k := by rw [H.nul]; exact rd_range hki
    have hm := K.most
    have key := NetI.kids3 vs (us ++ [k]) ⟨s.nu || MT.nul (md p) k, s.fi ++ ints (MT.fst (md p) k), s.la ++ ints (MT.lst (md p) k), s.fol⟩ hk' (by rw [h1]; simp) (by rw [h2, List.flatMap_append, ints_app, List.flatMap_singleton]) (by rw [h3, List.flatMap_append, ints_app, List.flatMap_singleton])
    rw [← key]
    show (kidF 3 N s (k : Int)).bind (kidsF 3 N (ints vs)) = _
    have hg : (0 ≤ (k : Int) ∧ (k : Int) < N.nul.length ∧ (k : Int) < N.fst.length ∧ (k : Int) < N.lst.length) ∧ s.fi.length + (rdL N.fst (k : Int)).length < LIMK ∧ s.la.length + (rdL N.lst (k : Int)).length < LIMK := by
      rw [e1, e2, h2, h3, ints_len, ints_len, ints_len, ints_len, H.nul, H.fst, H.lst]
      simp only [List.length_map, List.length_range]
      unfold LIMK
      omega
    unfold kidF
    rw [if_pos hg, if_pos rfl, e1, e2, e3]
    rfl
theorem NetI.kids2 (P0 : Nat → Nat → Prop) : ∀ (vs us : List Nat) (s : KS), (nd (md p) i).kids = us ++ vs → s.nu = us.all (MT.nul (md p)) → s.fi = ints (pre (MT.nul (md p)) (MT.fst (md p)) us) → s.la = ints (suf (MT.nul (md p)) (MT.lst (md p)) [] us) →
    FolP (i + 1) (fun a b => P0 a b ∨ ∃ u k v, us = u ++ k :: v ∧ (a ∈ suf (MT.nul (md p)) (MT.lst (md p)) [] u ∧ b ∈ MT.fst (md p) k)) s.fol →
    ∃ fol, kidsF 2 N (ints vs) s = some ⟨(nd (md p) i).kids.all (MT.nul (md p)), ints (pre (MT.nul (md p)) (MT.fst (md p)) (nd (md p) i).kids), ints (suf (MT.nul (md p)) (MT.lst (md p)) [] (nd (md p) i).kids), fol⟩ ∧
      FolP (i + 1) (fun a b => P0 a b ∨ ∃ u k v, (nd (md p) i).kids = u ++ k :: v ∧ (a ∈ suf (MT.nul (md p)) (MT.lst (md p)) [] u ∧ b ∈ MT.fst (md p) k)) fol
  | [], us, s, hk, h1, h2, h3, h4 => by
    rw [List.append_nil] at hk
    rw [hk, ← h1, ← h2, ← h3]
    exact ⟨s.fol, rfl, h4⟩
  | k :: vs, us, s, hk, h1, h2, h3, h4 => by
    have him : i < (md p).length := by rw [md_len]; exact hi
    have hki : k < i := (K.tr.kid him (by rw [hk]; simp)).2
    have hk' : (nd (md p) i).kids = (us ++ [k]) ++ vs := by rw [hk]; simp
    have l1 := kids_len K.tr MT.fst (.inl rfl) him hk'
    have l2 := kids_len K.tr MT.lst (.inr rfl) him hk'
    rw [List.flatMap_append, List.length_append, List.flatMap_singleton] at l1 l2
    have s1 := (pre_sub (N := MT.nul (md p)) (F := MT.fst (md p)) us).length_le
    have s2 := (suf_sub (N := MT.nul (md p)) (L := MT.lst (md p)) us []).length_le
    simp only [List.nil_append] at s2
    have e1 : rdL N.fst (k : Int) = ints (MT.fst (md p) k) := by rw [H.fst]; exact rd_range hki
    have e2 : rdL N.lst (k : Int) = ints (MT.lst (md p) k) := by rw [H.lst]; exact rd_range hki
    have e3 : rdOf false N.nul (k : Int) = MT.nul (md p) k := by rw [H.nul]; exact rd_range hki
    have hm := K.most
    have hin : ∀ a ∈ suf (MT.nul (md p)) (MT.lst (md p)) [] us, a < i + 1 := by
      intro a ha
      rcases mem_suf.1 ha with ⟨h, _⟩ | ⟨x, k', y, e, _, h⟩
      · simp at h
      · have hk2 := (K.tr.kid him (k := k') (by rw [hk, e]; simp)).2
        have := edge_in K.tr MT.lst (.inr rfl) k' (by omega) a h
        omega
    obtain ⟨fol, key, hf⟩ := NetI.kids2 P0 vs (us ++ [k]) ⟨s.nu && MT.nul (md p) k, if s.nu = true then s.fi ++ ints (MT.fst (md p) k) else s.fi, (if MT.nul (md p) k = true then s.la else []) ++ ints (MT.lst (md p) k), leadL s.fol s.la (ints (MT.fst (md p) k))⟩ hk' (by rw [h1]; simp)
      (by
        rw [pre_snoc, ints_app, h1, h2]
        cases us.all (MT.nul (md p)) <;> simp [ints])
      (by
        rw [suf_snoc, ints_app, h3]
        cases MT.nul (md p) k <;> simp [ints])
      (by
        rw [h3]
        refine (h4.lead hin).congr (fun a ha b => ?_)
        rw [snoc_split, or_assoc])
    refine ⟨fol, ?_, hf⟩
    rw [← key]
    show (kidF 2 N s (k : Int)).bind (kidsF 2 N (ints vs)) = _
    have hg : (0 ≤ (k : Int) ∧ (k : Int) < N.nul.length ∧ (k : Int) < N.fst.length ∧ (k : Int) < N.lst.length) ∧ s.fi.length + (rdL N.fst (k : Int)).length < LIMK ∧ s.la.length + (rdL N.lst (k : Int)).length < LIMK := by
      rw [e1, e2, h2, h3, ints_len, ints_len, ints_len, ints_len, H.nul, H.fst, H.lst]
      simp only [List.length_map, List.length_range]
      unfold LIMK
      omega
    have hg2 : (∀ a ∈ s.la, 0 ≤ a ∧ a < (s.fol.length : Int)) ∧ (∀ b ∈ rdL N.fst (k : Int), 0 ≤ b ∧ b < 4096) := by
      rw [h3, e1, h4.len]
      constructor
      · intro x hx
        obtain ⟨a, rfl, ha⟩ := mem_ints.1 hx
        have := hin a ha
        omega
      · intro x hx
        obtain ⟨a, rfl, ha⟩ := mem_ints.1 hx
        have := edge_in K.tr MT.fst (.inl rfl) k (by omega) a ha
        omega
    unfold kidF
    rw [if_pos hg, if_neg (by decide), if_pos hg2, e1, e2, e3]
    rfl
omit hi H in
theorem led_le {a b j : Nat} (hj : j < p.length) (h : led (md p) j a b) : a ≤ j ∧ b ≤ j := by
  have hjm : j < (md p).length := by rw [md_len]; exact hj
  rcases h with ⟨c, us, k, vs, e, h1, h2⟩ | ⟨c, h1, h2⟩
  · have hk := (K.tr.kid hjm (k := k) (by rw [e]; simp)).2
    have hb := edge_in K.tr MT.fst (.inl rfl) k (by omega) b h2
    rcases mem_suf.1 h1 with ⟨h, _⟩ | ⟨x, k', y, e', _, h⟩
    · simp at h
    · have hk2 := (K.tr.kid hjm (k := k') (by rw [e, e']; simp)).2
      have := edge_in K.tr MT.lst (.inr rfl) k' (by omega) a h
      omega
  · have h3 := edge_in K.tr MT.fst (.inl rfl) j hjm b h2
    have h4 := edge_in K.tr MT.lst (.inr rfl) j hjm a h1
    omega
theorem NetI.node : ∃ N', nodeF i (at_ p i) N = some N' ∧ NetI p (i + 1) N' := by
  have him : i < (md p).length := by rw [md_len]; exact hi
  have e0 := nd_md hi
  have hm := K.most
  have hstart : FolP (i + 1) (fun a b => ∃ j, j < i ∧ led (md p) j a b) (N.fol ++ [[]]) := by
    refine ⟨by rw [List.length_append, H.fol.len]; rfl, fun a ha x => ?_⟩
    by_cases c : a < i
    · have : rdL (N.fol ++ [[]]) (a : Int) = rdL N.fol (a : Int) := by
        unfold rdL rdOf
        rw [List.getD_eq_getElem?_getD, List.getD_eq_getElem?_getD, List.getElem?_append_left (by rw [H.fol.len]; simpa using c)]
      rw [this, H.fol.mem a c]
    · obtain rfl : a = i := by omega
      have : rdL (N.fol ++ [[]]) (a : Int) = [] := by
        unfold rdL rdOf
        rw [List.getD_eq_getElem?_getD, List.getElem?_append_right (by rw [H.fol.len]; simp), H.fol.len]
        simp
      rw [this]
      constructor
      · intro h; simp at h
      · rintro ⟨b, _, j, hj, h⟩
        have := (led_le K (by omega) h).1
        omega
  /- behind the kids, the loop and the end are alike -/
  have fin : ∀ (nu : Bool) (fi la : List Nat) (fol : List (List Int)) (P : Nat → Nat → Prop), kidsF (at_ p i).f0 N (at_ p i).f2 (startF i (at_ p i) N) = some ⟨nu, ints fi, ints la, fol⟩ →
      FolP (i + 1) P fol → (nu || optB (at_ p i)) = MT.nul (md p) i → fi = MT.fst (md p) i → la = MT.lst (md p) i → (∀ a b, (P a b ∨ (oftB (at_ p i) = true ∧ a ∈ MT.lst (md p) i ∧ b ∈ MT.fst (md p) i)) ↔ ∃ j, j < i + 1 ∧ led (md p) j a b) →
      ∃ N', nodeF i (at_ p i) N = some N' ∧ NetI p (i + 1) N' := by
    rintro nu fi la fol P hk hf hn rfl rfl hP
    have hend : ∃ fol', loopF (at_ p i) ⟨nu, ints (MT.fst (md p) i), ints (MT.lst (md p) i), fol⟩ = some fol' ∧ FolP (i + 1) (fun a b => ∃ j, j < i + 1 ∧ led (md p) j a b) fol' := by
      unfold loopF
      have hA : ∀ a ∈ MT.lst (md p) i, a < i + 1 := fun a ha => by
        have := edge_in K.tr MT.lst (.inr rfl) i him a ha
        omega
      have hB : ∀ a ∈ MT.fst (md p) i, a < i + 1 := fun a ha => by
        have := edge_in K.tr MT.fst (.inl rfl) i him a ha
        omega
      by_cases ho : oftB (at_ p i) = true
      · rw [if_pos ho, if_pos ⟨fun x hx => by
          obtain ⟨a, rfl, ha⟩ := mem_ints.1 hx
          have := hA a ha
          show 0 ≤ (a : Int) ∧ (a : Int) < (fol.length : Int)
          rw [hf.len]
          omega, fun x hx => by
          obtain ⟨a, rfl, ha⟩ := mem_ints.1 hx
          have := hB a ha
          omega⟩]
        exact ⟨_, rfl, (hf.lead hA).congr (fun a _ b => by rw [← hP a b]; simp [ho])⟩
      · rw [if_neg ho]
        exact ⟨_, rfl, hf.congr (fun a _ b => by rw [← hP a b]; simp [ho])⟩
    obtain ⟨fol', h1, h2⟩ := hend
    refine ⟨⟨N.nul ++ [nu || optB (at_ p i)], N.fst ++ [ints (MT.fst (md p) i)], N.lst ++ [ints (MT.lst (md p) i)], fol'⟩, ?_, ?_⟩
    · unfold nodeF
      rw [hk]
      simp only [Option.bind_some]
      rw [h1]
      rfl
    · refine ⟨?_, ?_, ?_, h2⟩
      · rw [hn, H.nul, List.range_succ, List.map_append]; rfl
      · rw [H.fst, List.range_succ, List.map_append]; rfl
      · rw [H.lst, List.range_succ, List.map_append]; rfl
  have hlast : ∀ a b, (∃ j, j < i + 1 ∧ led (md p) j a b) ↔ (∃ j, j < i ∧ led (md p) j a b) ∨ led (md p) i a b := by
    intro a b
    constructor
    · rintro ⟨j, hj, h⟩
      by_cases c : j < i
      · exact .inl ⟨j, c, h⟩
      · obtain rfl : j = i := by omega
        exact .inr h
    · rintro (⟨j, hj, h⟩ | h)
      · exact ⟨j, by omega, h⟩
      · exact ⟨i, by omega, h⟩
  have hkind : (nd (md p) i).kind = (at_ p i).f0 := by rw [e0]; rfl
  have hpos : (nd (md p) i).pos = posB (at_ p i) := by rw [e0]; rfl
  have hopt : (nd (md p) i).opt = optB (at_ p i) := by rw [e0]; rfl
  have hoft : (nd (md p) i).oft = oftB (at_ p i) := by rw [e0]; rfl
  rcases K.kinds hi with ⟨a, b⟩ | a | ⟨a, b⟩
  · have hne2 : ¬ (at_ p i).f0 = 2 := by
      intro h
      unfold posB at a
      rw [h] at a
      revert a
      decide
    have hne3 : ¬ (at_ p i).f0 = 3 := by
      intro h
      unfold posB at a
      rw [h] at a
      revert a
      decide
    refine fin false [i] [i] (N.fol ++ [[]]) (fun a b => ∃ j, j < i ∧ led (md p) j a b) ?_ hstart ?_ ?_ ?_ ?_
    · rw [b]
      show some (startF i (at_ p i) N) = _
      unfold startF
      rw [if_pos a, beq_eq_false_iff_ne.2 hne2]
      rfl
    · rw [nul_eq K.tr.ahead him, hkind, if_neg hne2, if_neg hne3, hopt]
    · rw [fst_eq K.tr.ahead him, hpos, if_pos a]
    · rw [lst_eq K.tr.ahead him, hpos, if_pos a]
    · intro x y
      rw [hlast]
      unfold led
      rw [hkind, hoft]
      simp only [hne2, false_and, false_or]
  · have hnp : ¬ posB (at_ p i) = true := by
      unfold posB
      rw [a]
      decide
    have hne3 : ¬ (at_ p i).f0 = 3 := by omega
    obtain ⟨fol, hk, hf⟩ := NetI.kids2 K hi H (fun a b => ∃ j, j < i ∧ led (md p) j a b) (nd (md p) i).kids [] (startF i (at_ p i) N) rfl (by unfold startF; rw [a]; rfl) (by unfold startF; rw [if_neg hnp]; rfl) (by unfold startF; rw [if_neg hnp]; rfl)
      (hstart.congr (fun x _ y => by
        constructor
        · exact .inl
        · rintro (h | ⟨u, k, v, e, _⟩)
          · exact h
          · cases u <;> simp at e))
    refine fin _ _ _ fol _ (by rw [K.f2 hi, a]; exact hk) hf ?_ ?_ ?_ ?_
    · rw [nul_eq K.tr.ahead him, hkind, if_pos a, hopt]
    · rw [fst_eq K.tr.ahead him, hpos, if_neg hnp, hkind, if_neg hne3]
    · rw [lst_eq K.tr.ahead him, hpos, if_neg hnp, hkind, if_neg hne3]
    · intro x y
      rw [hlast]
      unfold led
      rw [hkind, hoft]
      simp only [a, true_and, or_assoc]
  · have hnp : ¬ posB (at_ p i) = true := by
      unfold posB
      rw [a]
      decide
    have hne2 : ¬ (at_ p i).f0 = 2 := by omega
    have hk := NetI.kids3 K hi H (nd (md p) i).kids [] (startF i (at_ p i) N) rfl (by unfold startF; rw [a]; rfl) (by unfold startF; rw [if_neg hnp]; rfl) (by unfold startF; rw [if_neg hnp]; rfl)
    refine fin _ _ _ (N.fol ++ [[]]) (fun a b => ∃ j, j < i ∧ led (md p) j a b) (by rw [K.f2 hi, a]; exact hk) hstart ?_ ?_ ?_ ?_
    · rw [nul_eq K.tr.ahead him, hkind, if_neg hne2, if_pos a, hopt]
    · rw [fst_eq K.tr.ahead him, hpos, if_neg hnp, hkind, if_pos a]
    · rw [lst_eq K.tr.ahead him, hpos, if_neg hnp, hkind, if_pos a]
    · intro x y
      rw [hlast]
      unfold led
      rw [hkind, hoft]
      simp only [hne2, false_and, false_or]
end
theorem net_from {p : List PM} (K : OkP p) : ∀ (m i : Nat) (N : NetV), i + m = p.length → NetI p i N → ∃ N', netL (p.drop i) i N = some N' ∧ NetI p p.length N'
  | 0, i, N, h, H => by
    obtain rfl : i = p.length := by omega
    rw [List.drop_length]
    exact ⟨N, rfl, H⟩
  | m + 1, i, N, h, H => by
    have hi : i < p.length := by omega
    have hm := K.most
    rw [List.drop_eq_getElem_cons hi, ← at_lt hi]
    unfold netL
    obtain ⟨N1, h1, h2⟩ := NetI.node K hi H
    rw [if_pos (by rw [H.nul, H.fst, H.lst, H.fol.len]; simp only [List.length_map, List.length_range]; unfold LIMK; omega), h1]
    exact net_from K m (i + 1) N1 (by omega) h2
theorem net_tells {p : List PM} (h : okV p = true) : ∃ N, netOfF p = some N ∧ NetI p p.length N := by
  have := net_from (okP h) p.length 0 ⟨[], [], [], []⟩ (Nat.zero_add _) ⟨rfl, rfl, rfl, rfl, fun a ha => by omega⟩
  exact this
theorem rd_ints {l : List Nat} {j : Nat} (h : j < l.length) : rd (ints l) (j : Int) = (l[j] : Int) := by
  rw [rdZ (ints l) j (by rw [ints_len]; exact h)]
  unfold ints
  simp
section
variable {p : List PM} (K : OkP p)
include K
theorem kids_small {i : Nat} (hi : i < p.length) : (nd (md p) i).kids.length ≤ i := by
  have him : i < (md p).length := by rw [md_len]; exact hi
  have h := flat_len (F := fun _ => [0]) (K.tr.chain i him) (fun k hk => K.tr.le k (by omega)) (fun k hk => by
    have h1 := (K.tr.kid him hk).2
    have := K.tr.le k (by omega)
    show 1 ≤ _
    omega)
  have e : ∀ l : List Nat, (l.flatMap fun _ => [0]).length = l.length := by
    intro l
    induction l with
    | nil => rfl
    | cons x l ih => rw [List.flatMap_cons, List.length_append, ih]; show 1 + l.length = l.length + 1; omega
  rw [e] at h
  omega
end
section
variable {p : List PM} (K : OkP p)
include K
end
end Go.Proofs.Ytejkkdjfiebmfaa.Pure

namespace Go.Proofs.Ytejkkdjfiebmfaa.L
open Go.RowKit Go.Proofs.YtejkkdjfiebmfaaW.PrintWords Go.Proofs.YtejkkdjfiebmfaaW.PrintLast Go.Proofs.YtejkkdjfiebmfaaW.PrintMore
set_option linter.unusedVariables false
set_option linter.unusedSimpArgs false
def last_of.T4 : Bool × List (List Nat × List Nat) := (true, [([], []), ([0], [0]), ([1], [1]), ([2], [2]), ([], []), ([4], [4]), ([3, 5], [3, 5]), ([6], [6]), ([7, 5], [7]), ([8, 8, 0, 1, 2, 3, 4, 5, 6, 7, 8], [8])])
def last_of.B4 : List Nat := [0, 1, 3, 7, 0, 16, 63, 127, 255, 511]
theorem last_of.tab4 : rtab .any (opsOf Try.f19 4) = last_of.T4 := by kernel_rfl
theorem last_of.bits4 : waitsOk last_of.T4.2 last_of.B4 = true := by kernel_rfl

end Go.Proofs.Ytejkkdjfiebmfaa.L
